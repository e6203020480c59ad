/- Of, whatever the number, both of them; the chapter's example. -/
import Derived.Test.YtnjjkehoabghhaaDoorCivX
namespace Go.Proofs.YtnjjkehoabghhaaDoor
open Go.RowKit

def inB (n : Int) : Bool := decide (0 ≤ n) && decide (n ≤ 146096)
def ofY (n : Int) : Int := if inB n then dY n else 0
def ofM (n : Int) : Int := if inB n then dM n else 0
def ofD (n : Int) : Int := if inB n then dD n else 0
def ofE (n : Int) : Int := if inB n then 0 else 31

theorem inB_iff (n : Int) : inB n = true ↔ 0 ≤ n ∧ n ≤ 146096 := by simp [inB]
theorem inB_not (n : Int) : inB n = false ↔ n < 0 ∨ 146096 < n := by
  rw [← Bool.not_eq_true, inB_iff]; omega

theorem of_calls (n : Int) (w : World) : Calls Tryd.prog 10 #[.int .i64 n] w fun e w' => e = .returned (.tuple #[.agg #[.int .i64 (ofY n), .int .i64 (ofM n), .int .i64 (ofD n)], .int .i64 (ofE n)]) ∧ Below w.heap.size w w' := by
  unfold ofY ofM ofD ofE
  cases h : inB n
  · exact of_out n ((inB_not n).1 h) w
  · obtain ⟨h0, h1⟩ := (inB_iff n).1 h
    by_cases hlt : 12 < oM ((n + 693901) % 146097) + 3
    · exact of_in2 n h0 h1 hlt w
    · exact of_in1 n h0 h1 hlt w

theorem rof_calls (n : Int) (w : World) : Calls Tryd.prog 22 #[.int .i64 n] w fun e w' => e = .returned (.tuple #[.agg #[.int .i64 (ofY n), .int .i64 (ofM n), .int .i64 (ofD n)], .int .i64 (ofE n)]) ∧ Below w.heap.size w w' := by
  by_cases ho : n < 0 ∨ 200000 < n
  · have h : inB n = false := (inB_not n).2 (by omega)
    unfold ofY ofM ofD ofE
    rw [h]
    exact rof_out n ho w
  · refine rof_mid n (by omega) (by omega) _ _ _ _ ?_ ?_ w
    · intro h
      have h : inB n = true := (inB_iff n).2 (by omega)
      unfold ofY ofM ofD ofE
      rw [h]
      exact ⟨rfl, rfl, rfl, rfl⟩
    · intro h
      have h : inB n = false := (inB_not n).2 (by omega)
      unfold ofY ofM ofD ofE
      rw [h]
      exact ⟨rfl, rfl, rfl, rfl⟩

set_option maxHeartbeats 2000000 in
theorem alive_calls (w : World) (hT : TabW w) : Calls Tryd.prog 12 #[] w fun e w' => e = .returned (.bool true) ∧ Below w.heap.size w w' := by
  have hnc := fun W => hide (number_calls 2000 2 29 W)
  rw [show numR 2000 2 29 = 36583 by decide, show errR 2000 2 29 = 0 by decide] at hnc
  have hoc := fun W => hide (of_calls 36583 W)
  rw [show ofY 36583 = 2000 by decide, show ofM 36583 = 2 by decide, show ofD 36583 = 29 by decide, show ofE 36583 = 0 by decide] at hoc
  have htc : ∀ W, SX w 2000 2 29 W → Hid _ := fun W hS => hide (text_good 2000 2 29 W (hT.on hS.2.2.2.2) (by decide))
  have hwc := fun W => hide (week_calls 36583 W)
  rw [show textL 2000 2 29 = [50, 48, 48, 48, 45, 48, 50, 45, 50, 57] by decide] at htc
  rw [show (36583 : Int) % 7 = 1 by decide] at hwc
  have hbx : SX w 2000 2 29 (w.alloc (.cells #[.int .i64 2000, .int .i64 2, .int .i64 29] 23)) := by
    have hb := box3 w 23 2000 2 29
    exact ⟨hb.cell 0, hb.cell 1, hb.cell 2, hb.lt, (Below.refl w.heap.size w).alloc (Nat.le_refl _) _⟩
  have c0 := hbx.1
  have c1 := hbx.2.1
  have c2 := hbx.2.2.1
  clear hT
  go_enter Tryd.func12, Tryd.ntmps12
  go_wp2_with fail
  refine (unhide (hnc _)).mono ?_
  rintro e w1 ⟨rfl, hb1⟩
  have hS1 := hbx.on hb1
  clear hbx c0 c1 c2 hb1
  have c0 := hS1.1
  have c1 := hS1.2.1
  have c2 := hS1.2.2.1
  go_wp2_with fail
  refine (unhide (hoc _)).mono ?_
  rintro e w2 ⟨rfl, hb2⟩
  have hS2 := hS1.on hb2
  clear hS1 c0 c1 c2 hb2
  have c0 := hS2.1
  have c1 := hS2.2.1
  have c2 := hS2.2.2.1
  have hlt := hS2.2.2.2.1
  have hb3 := box3 w2 23 2000 2 29
  have hS3 := hS2.on ((Below.refl w2.heap.size w2).alloc (Nat.le_refl _) (.cells #[.int .i64 2000, .int .i64 2, .int .i64 29] 23))
  clear hS2 c0 c1 c2 hlt
  have c0 := hS3.1
  have c1 := hS3.2.1
  have c2 := hS3.2.2.1
  have d0 : (w2.alloc (.cells #[.int .i64 2000, .int .i64 2, .int .i64 29] 23)).cell? ⟨w2.heap.size, 0, none⟩ = some (.int .i64 2000) := hb3.cell 0
  have d1 : (w2.alloc (.cells #[.int .i64 2000, .int .i64 2, .int .i64 29] 23)).cell? ⟨w2.heap.size, 1, none⟩ = some (.int .i64 2) := hb3.cell 1
  have d2 : (w2.alloc (.cells #[.int .i64 2000, .int .i64 2, .int .i64 29] 23)).cell? ⟨w2.heap.size, 2, none⟩ = some (.int .i64 29) := hb3.cell 2
  go_wp2_with fail
  refine (unhide (hwc _)).mono ?_
  rintro e w5 ⟨rfl, rfl⟩
  go_wp2_with fail
  refine (unhide (htc _ hS3)).mono ?_
  rintro e w6 ⟨rfl, hb6⟩
  have hS6 := hS3.on hb6
  go_wp2
  go_ret
  exact ⟨rfl, hS6.2.2.2.2⟩
end Go.Proofs.YtnjjkehoabghhaaDoor
