/- Months, whatever the input, both of them; the chapter's examples. -/
import Derived.Test.YtehkaiildchmfaaCalF
import Derived.Test.YtehkaiildchmfaaCalG
namespace Go.Proofs.Ytehkaiildchmfaa
open Go.RowKit

def moOk (y m d n : Int) : Bool := rightB y m d && (decide (-4800 ≤ n) && (decide (n ≤ 4800) && moB y m d n))
def mrY (y m d n : Int) : Int := if moOk y m d n then moY y m n else 0
def mrM (y m d n : Int) : Int := if moOk y m d n then moM y m n else 0
def mrD (y m d n : Int) : Int := if moOk y m d n then moD y m d n else 0
def mrE (y m d n : Int) : Int := if moOk y m d n then 0 else 31

theorem mo_bad {y m d n : Int} (h : rightB y m d = false ∨ n < -4800 ∨ 4800 < n) : moOk y m d n = false := by
  unfold moOk
  rcases h with h | h | h
  · rw [h]; rfl
  · rw [decide_eq_false (show ¬ -4800 ≤ n by omega)]; simp
  · rw [decide_eq_false (show ¬ n ≤ 4800 by omega)]; simp
theorem mo_mid {y m d n : Int} (h : rightB y m d = true) (h0 : -4800 ≤ n) (h1 : n ≤ 4800) : moOk y m d n = moB y m d n := by
  unfold moOk
  rw [h, decide_eq_true h0, decide_eq_true h1]
  rfl

theorem months_calls (y m d n : Int) (w : World) :
    Calls Try.prog 11 #[.agg #[.int .i64 y, .int .i64 m, .int .i64 d], .int .i64 n] w fun e w' => e = .returned (.tuple #[.agg #[.int .i64 (mrY y m d n), .int .i64 (mrM y m d n), .int .i64 (mrD y m d n)], .int .i64 (mrE y m d n)]) ∧ Below w.heap.size w w' := by
  unfold mrY mrM mrD mrE
  by_cases hb : rightB y m d = false ∨ n < -4800 ∨ 4800 < n
  · rw [mo_bad hb]
    exact months_bad y m d n hb w
  · have hr : rightB y m d = true := by
      cases h : rightB y m d
      · exact absurd (Or.inl h) hb
      · rfl
    have h0 : -4800 ≤ n := by omega
    have h1 : n ≤ 4800 := by omega
    rw [mo_mid hr h0 h1]
    exact months_mid y m d n hr h0 h1 _ _ _ _ (fun h => by rw [h]; exact ⟨rfl, rfl, rfl, rfl⟩) (fun h => by rw [h]; exact ⟨rfl, rfl, rfl, rfl⟩) w

theorem rmonths_calls (y m d n : Int) (w : World) :
    Calls Try.prog 12 #[.agg #[.int .i64 y, .int .i64 m, .int .i64 d], .int .i64 n] w fun e w' => e = .returned (.tuple #[.agg #[.int .i64 (mrY y m d n), .int .i64 (mrM y m d n), .int .i64 (mrD y m d n)], .int .i64 (mrE y m d n)]) ∧ Below w.heap.size w w' := by
  unfold mrY mrM mrD mrE
  by_cases hb : rightB y m d = false ∨ n < -4800 ∨ 4800 < n
  · rw [mo_bad hb]
    exact rmonths_bad y m d n hb w
  · have hr : rightB y m d = true := by
      cases h : rightB y m d
      · exact absurd (Or.inl h) hb
      · rfl
    have h0 : -4800 ≤ n := by omega
    have h1 : n ≤ 4800 := by omega
    rw [mo_mid hr h0 h1]
    exact rmonths_mid y m d n hr h0 h1 _ _ _ _ (fun h => by rw [h]; exact ⟨rfl, rfl, rfl, rfl⟩) (fun h => by rw [h]; exact ⟨rfl, rfl, rfl, rfl⟩) w

/-- A date in a block, and the world since. -/
def SX (w : World) (y m d : Int) (w' : World) : Prop :=
  w'.cell? ⟨w.heap.size, 0, none⟩ = some (.int .i64 y) ∧ w'.cell? ⟨w.heap.size, 1, none⟩ = some (.int .i64 m) ∧ w'.cell? ⟨w.heap.size, 2, none⟩ = some (.int .i64 d) ∧ w.heap.size < w'.heap.size ∧ Below w.heap.size w w'
theorem SX.on {w : World} {y m d : Int} {w1 w2 : World} (h : SX w y m d w1) (hb : Below w1.heap.size w1 w2) : SX w y m d w2 := by
  obtain ⟨h0, h1, h2, h3, h4⟩ := h
  exact ⟨(hb.cell (p := ⟨w.heap.size, 0, none⟩) h3).trans h0, (hb.cell (p := ⟨w.heap.size, 1, none⟩) h3).trans h1, (hb.cell (p := ⟨w.heap.size, 2, none⟩) h3).trans h2, Nat.lt_of_lt_of_le h3 hb.size, h4.trans (hb.mono (Nat.le_of_lt h3))⟩
theorem SX.new (w : World) (y m d : Int) : SX w y m d (w.alloc (.cells #[.int .i64 y, .int .i64 m, .int .i64 d] 23)) := by
  have hb := box3 w 23 y m d
  exact ⟨hb.cell 0, hb.cell 1, hb.cell 2, hb.lt, (Below.refl w.heap.size w).alloc (Nat.le_refl _) _⟩

theorem new_one (b : Nat) (w : World) (hlt : b < w.heap.size) (hc : w.cell? ⟨b, 0, none⟩ = some (.int .i64 0)) :
    Calls Try.prog 16 #[.slice (some ⟨b, 0, none⟩) 1 1] w fun e w' => e = .returned (.tuple #[.pointer (some ⟨w.heap.size + 1, 0, none⟩), .int .i64 0]) ∧ Days w' (w.heap.size + 1) [0] ∧ Below w.heap.size w w' := by
  refine new_calls (some ⟨b, 0, none⟩) 1 1 [0] rfl (by decide) w (fun _ => ⟨_, rfl, hlt, fun k hk => ?_⟩) (fun k hk => ?_)
  · obtain rfl : k = 0 := by omega
    exact hc
  · obtain rfl : k = 0 := by omega
    rfl

set_option maxHeartbeats 4000000 in
theorem alive_calls (w : World) : Calls Try.prog 10 #[] w fun e w' => e = .returned (.bool true) ∧ Below w.heap.size w w' := by
  have ha := fun W => hide (months_calls 2024 1 31 1 W)
  rw [show mrY 2024 1 31 1 = 2024 by decide, show mrM 2024 1 31 1 = 2 by decide, show mrD 2024 1 31 1 = 29 by decide, show mrE 2024 1 31 1 = 0 by decide] at ha
  have hb := fun W => hide (months_calls 2024 2 29 12 W)
  rw [show mrY 2024 2 29 12 = 2025 by decide, show mrM 2024 2 29 12 = 2 by decide, show mrD 2024 2 29 12 = 28 by decide, show mrE 2024 2 29 12 = 0 by decide] at hb
  have hnew := fun (b : Nat) W hlt hc => hide (new_one b W hlt hc)
  have hro := fun g W h => hide (roll_calls g [0] 0 W h)
  rw [show seekV [0] 0 1 = 1 by decide, show seekE [0] 0 1 = 0 by decide] at hro
  have hb0 := fun g W h => hide (business_calls g [0] 0 (by omega) W h)
  rw [show busB [0] 0 = false by decide] at hb0
  have hb1 := fun g W h => hide (business_calls g [0] 1 (by omega) W h)
  rw [show busB [0] 1 = true by decide] at hb1
  go_enter Try.func10, Try.ntmps10
  go_wp2_with fail
  refine (unhide (ha _)).mono ?_
  rintro e w1 ⟨rfl, hx1⟩
  have hA1 := SX.new w1 2024 2 29
  have hB1 := hx1.trans (hA1.2.2.2.2.mono hx1.size)
  clear ha hx1
  go_wp2_with fail
  refine (unhide (hb _)).mono ?_
  rintro e w2 ⟨rfl, hx2⟩
  have hA2 := hA1.on hx2
  have hB2 := hB1.trans (hx2.mono hB1.size)
  have hC2 := SX.new w2 2025 2 28
  have hA3 := hA2.on hC2.2.2.2.2
  have hB3 := hB2.trans (hC2.2.2.2.2.mono hB2.size)
  clear hb hx2 hA1 hA2 hB1 hB2
  go_wp2_with fail
  have hV : Blk ((w2.alloc (.cells #[.int .i64 2025, .int .i64 2, .int .i64 28] 23)).alloc (.cells #[.int .i64 0] 2)) (w2.heap.size + 1) 2 #[.int .i64 0] := Blk.of_size (by simp)
  have hxV := (Below.refl (w2.alloc (.cells #[.int .i64 2025, .int .i64 2, .int .i64 28] 23)).heap.size _).alloc (Nat.le_refl _) (.cells #[.int .i64 0] 2)
  have hA4 := hA3.on hxV
  have hC4 := hC2.on hxV
  have hB4 := hB3.trans (hxV.mono hB3.size)
  clear hA3 hC2 hB3 hxV
  refine (unhide (hnew _ _ hV.lt (hV.cell 0))).mono ?_
  rintro e w3 ⟨rfl, hD, hx3⟩
  have hA5 := hA4.on hx3
  have hC5 := hC4.on hx3
  have hB5 := hB4.trans (hx3.mono hB4.size)
  clear hA4 hC4 hB4 hx3 hnew hV
  generalize ((w2.alloc (.cells #[.int .i64 2025, .int .i64 2, .int .i64 28] 23)).alloc (.cells #[.int .i64 0] 2)).heap.size + 1 = g at *
  go_wp2_with fail
  refine (unhide (hro _ _ hD)).mono ?_
  rintro e w4 ⟨rfl, hx4⟩
  have hA6 := hA5.on hx4
  have hC6 := hC5.on hx4
  have hB6 := hB5.trans (hx4.mono hB5.size)
  have hD6 := hD.on hx4
  clear hA5 hC5 hB5 hx4 hro hD
  have a0 := hA6.1
  have a1 := hA6.2.1
  have a2 := hA6.2.2.1
  have c0 := hC6.1
  have c1 := hC6.2.1
  have c2 := hC6.2.2.1
  go_wp2_with fail
  refine (unhide (hb0 _ _ hD6)).mono ?_
  rintro e w5 ⟨rfl, rfl⟩
  go_wp2_with fail
  refine (unhide (hb1 _ _ hD6)).mono ?_
  rintro e w6 ⟨rfl, rfl⟩
  go_wp2
  go_ret
  exact ⟨rfl, hB6⟩
end Go.Proofs.Ytehkaiildchmfaa
