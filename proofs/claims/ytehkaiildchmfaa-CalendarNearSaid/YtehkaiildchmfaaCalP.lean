/- Modified, both of them. -/
import Derived.Test.YtehkaiildchmfaaCalO
namespace Go.Proofs.Ytehkaiildchmfaa
open Go.RowKit

theorem seekR_some (zs : List Int) (st : Int) : ∀ (f : Nat) (n r : Int), seekR zs st f n = some r → ∃ j : Nat, j < f ∧ r = n + j * st ∧ busB zs r = true ∧ inB r = true ∧ ∀ i : Nat, i < j → (busB zs (n + i * st) && inB (n + i * st)) = false
  | 0, n, r, h => by simp [seekR] at h
  | f + 1, n, r, h => by
    rw [seekR] at h
    split at h
    · rename_i hc
      injection h with h
      subst h
      simp only [Bool.and_eq_true] at hc
      exact ⟨0, by omega, by simp, hc.1, hc.2, fun i hi => by omega⟩
    · rename_i hc
      obtain ⟨j, hj, hr, hb, hi, ha⟩ := seekR_some zs st f (n + st) r h
      refine ⟨j + 1, by omega, by rw [hr, Int.add_assoc, Int.natCast_add, Int.add_mul]; simp [Int.add_comm], hb, hi, fun i hij => ?_⟩
      cases i with
      | zero => simpa using hc
      | succ i =>
        have := ha i (by omega)
        have e : n + ((i + 1 : Nat) : Int) * st = n + st + i * st := by
          have e0 : ((i + 1 : Nat) : Int) * st = (i : Int) * st + st := by rw [Int.natCast_add, Int.add_mul]; simp
          omega
        rw [e]
        exact this
theorem seekR_none (zs : List Int) (st : Int) : ∀ (f : Nat) (n : Int), seekR zs st f n = none → ∀ i : Nat, i < f → (busB zs (n + i * st) && inB (n + i * st)) = false
  | 0, n, h, i, hi => by omega
  | f + 1, n, h, i, hi => by
    rw [seekR] at h
    split at h
    · cases h
    · rename_i hc
      cases i with
      | zero => simpa using hc
      | succ i =>
        have := seekR_none zs st f (n + st) h i (by omega)
        have e : n + ((i + 1 : Nat) : Int) * st = n + st + i * st := by
          have e0 : ((i + 1 : Nat) : Int) * st = (i : Int) * st + st := by rw [Int.natCast_add, Int.add_mul]; simp
          omega
        rw [e]
        exact this

def modB (zs : List Int) (n : Int) : Bool := (seekE zs n 1 == 0) && (ofM (seekV zs n 1) == ofM n)
def modV (zs : List Int) (n : Int) : Int := if inB n then (if modB zs n then seekV zs n 1 else seekV zs n (-1)) else 0
def modE (zs : List Int) (n : Int) : Int := if inB n then (if modB zs n then 0 else seekE zs n (-1)) else 41

theorem seekE_or (zs : List Int) (n st : Int) : seekE zs n st = 0 ∨ seekE zs n st = 41 := by
  unfold seekE
  split
  · split
    · exact Or.inl rfl
    · exact Or.inr rfl
  · exact Or.inr rfl
theorem seek_found {zs : List Int} {n st : Int} (h : seekE zs n st = 0) : inB n = true ∧ ∃ r, seekR zs st 32 n = some r ∧ seekV zs n st = r := by
  unfold seekE at h
  split at h
  · rename_i hi
    cases hr : seekR zs st 32 n with
    | none => rw [hr] at h; exact absurd h (by decide)
    | some r => exact ⟨hi, r, rfl, by unfold seekV; rw [if_pos hi, hr]; rfl⟩
  · exact absurd h (by decide)

theorem same_year {n r : Int} (h0 : 0 ≤ n) (h1 : r ≤ 146096) (h2 : n ≤ r) (h3 : r ≤ n + 31) (hm : dM r = dM n) : dY r = dY n := by
  obtain ⟨a1, a2⟩ := date_right n h0 (by omega)
  obtain ⟨b1, b2⟩ := date_right r (by omega) h1
  obtain ⟨c1, c2, c3, c4, c5, c6⟩ := (right_iff _ _ _).1 a1
  obtain ⟨d1, d2, d3, d4, d5, d6⟩ := (right_iff _ _ _).1 b1
  rw [hm] at b2 b1 d3 d4 d6
  generalize dM n = m at *
  generalize dD n = a at *
  generalize dD r = b at *
  have l1 := (len_bd (dY n) m c3 c4).2
  have l2 := (len_bd (dY r) m d3 d4).2
  have e1 : 0 ≤ cum (dY n) m - cum (dY r) m + 1 ∧ cum (dY n) m - cum (dY r) m ≤ 1 := by
    have := lp_01 (dY n)
    have := lp_01 (dY r)
    unfold cum
    split
    · omega
    · split <;> omega
  unfold numI at a2 b2
  by_cases hlt : dY r < dY n
  · have := dby_mono (dY r + 1) (dY n) (by omega)
    have := dby_succ (dY r)
    have := lp_01 (dY r)
    omega
  · by_cases hgt : dY n < dY r
    · have := dby_mono (dY n + 1) (dY r) (by omega)
      have := dby_succ (dY n)
      have := lp_01 (dY n)
      omega
    · omega
theorem mod_year {zs : List Int} {n : Int} (h : seekE zs n 1 = 0) (hm : ofM (seekV zs n 1) = ofM n) : ofY (seekV zs n 1) = ofY n := by
  obtain ⟨hi, r, hr, hv⟩ := seek_found h
  rw [hv] at hm ⊢
  obtain ⟨j, hj, e, _, hir, _⟩ := seekR_some _ _ _ _ _ hr
  obtain ⟨n0, n1⟩ := (inB_iff n).1 hi
  obtain ⟨r0, r1⟩ := (inB_iff r).1 hir
  unfold ofM at hm
  unfold ofY
  rw [hi, hir] at hm ⊢
  exact same_year n0 r1 (by omega) (by omega) hm

set_option maxHeartbeats 4000000 in
theorem modified_calls (g : Nat) (zs : List Int) (n : Int) (w : World) (hd : Days w g zs) :
    Calls Try.prog 22 #[.pointer (some ⟨g, 0, none⟩), .int .i64 n] w fun e w' => e = .returned (.tuple #[.int .i64 (modV zs n), .int .i64 (modE zs n)]) ∧ Below w.heap.size w w' := by
  have ho := fun W => hide (of_calls n W)
  have hro := fun W h => hide (roll_calls g zs n W h)
  have hba := fun W h => hide (back_calls g zs n W h)
  unfold ofE at ho
  unfold modV modE
  cases hin : inB n
  · rw [hin] at ho
    clear hro hba
    generalize ofY n = y at *
    generalize ofM n = m at *
    generalize ofD n = d at *
    clear hin hd
    go_enter Try.func22, Try.ntmps22
    go_wp2_with fail
    refine (unhide (ho _)).mono ?_
    rintro e w1 ⟨rfl, hb⟩
    have hb2 := hb.alloc hb.size (.cells #[.int .i64 y, .int .i64 m, .int .i64 d] 23)
    go_wp2
    go_ret2
    exact ⟨rfl, hb2⟩
  · rw [hin] at ho
    have hY := mod_year (zs := zs) (n := n)
    have hE := seekE_or zs n 1
    unfold modB
    have ho2 := fun W => hide (of_calls (seekV zs n 1) W)
    unfold ofE at ho2
    obtain ⟨E2, hE2⟩ : ∃ x, (if inB (seekV zs n 1) then (0 : Int) else 31) = x := ⟨_, rfl⟩
    rw [hE2] at ho2
    generalize ofY (seekV zs n 1) = y2 at *
    generalize ofM (seekV zs n 1) = m2 at *
    generalize ofD (seekV zs n 1) = d2 at *
    generalize seekV zs n 1 = a at *
    generalize seekE zs n 1 = ae at *
    generalize seekV zs n (-1) = b at *
    generalize seekE zs n (-1) = be at *
    generalize ofY n = y at *
    generalize ofM n = m at *
    generalize ofD n = d at *
    clear hin hE2
    rcases hE with rfl | rfl
    · by_cases hm : m2 = m
      · have hqy : (y2 == y) = true := beq_iff_eq.2 (hY rfl hm)
        have hqm : (m2 == m) = true := beq_iff_eq.2 hm
        simp only [hqm, beq_self_eq_true, Bool.and_self, if_true]
        clear hba hY hm
        go_enter Try.func22, Try.ntmps22
        go_wp2_with fail
        refine (unhide (ho _)).mono ?_
        rintro e w1 ⟨rfl, hb1⟩
        have hA1 := SX.new w1 y m d
        have hB1 := hb1.trans (hA1.2.2.2.2.mono hb1.size)
        have hd1 := hd.on hB1
        clear ho hb1
        go_wp2_with fail
        refine (unhide (hro _ hd1)).mono ?_
        rintro e w2 ⟨rfl, hb2⟩
        have hA2 := hA1.on hb2
        have hB2 := hB1.trans (hb2.mono hB1.size)
        have hd2 := hd.on hB2
        clear hro hb2 hA1 hB1 hd1
        go_wp2_with fail
        refine (unhide (ho2 _)).mono ?_
        rintro e w3 ⟨rfl, hb3⟩
        have hA3 := hA2.on hb3
        have hB3 := hB2.trans (hb3.mono hB2.size)
        have hC3 := SX.new w3 y2 m2 d2
        have hA4 := hA3.on hC3.2.2.2.2
        have hB4 := hB3.trans (hC3.2.2.2.2.mono hB3.size)
        have hd4 := hd.on hB4
        clear ho2 hb3 hA2 hB2 hd2 hA3 hB3
        have a0 := hA4.1
        have a1 := hA4.2.1
        have c0 := hC3.1
        have c1 := hC3.2.1
        go_wp2
        go_ret2
        exact ⟨rfl, hB4⟩
      · have hq : (m2 == m) = false := beq_eq_false_iff_ne.2 hm
        clear hY
        simp only [hq, Bool.and_false, Bool.false_eq_true, if_false, if_true]
        clear hm
        go_enter Try.func22, Try.ntmps22
        go_wp2_with fail
        refine (unhide (ho _)).mono ?_
        rintro e w1 ⟨rfl, hb1⟩
        have hA1 := SX.new w1 y m d
        have hB1 := hb1.trans (hA1.2.2.2.2.mono hb1.size)
        have hd1 := hd.on hB1
        clear ho hb1
        go_wp2_with fail
        refine (unhide (hro _ hd1)).mono ?_
        rintro e w2 ⟨rfl, hb2⟩
        have hA2 := hA1.on hb2
        have hB2 := hB1.trans (hb2.mono hB1.size)
        have hd2 := hd.on hB2
        clear hro hb2 hA1 hB1 hd1
        go_wp2_with fail
        refine (unhide (ho2 _)).mono ?_
        rintro e w3 ⟨rfl, hb3⟩
        have hA3 := hA2.on hb3
        have hB3 := hB2.trans (hb3.mono hB2.size)
        have hC3 := SX.new w3 y2 m2 d2
        have hA4 := hA3.on hC3.2.2.2.2
        have hB4 := hB3.trans (hC3.2.2.2.2.mono hB3.size)
        have hd4 := hd.on hB4
        clear ho2 hb3 hA2 hB2 hd2 hA3 hB3
        have a0 := hA4.1
        have a1 := hA4.2.1
        have c0 := hC3.1
        have c1 := hC3.2.1
        go_wp2_with fail
        refine (unhide (hba _ hd4)).mono ?_
        rintro e w5 ⟨rfl, hb5⟩
        have hB5 := hB4.trans (hb5.mono hB4.size)
        go_wp2
        go_ret2
        exact ⟨rfl, hB5⟩
    · simp only [show ((41 : Int) == 0) = false from rfl, Bool.false_and, Bool.false_eq_true, if_false, if_true]
      clear hY ho2
      go_enter Try.func22, Try.ntmps22
      go_wp2_with fail
      refine (unhide (ho _)).mono ?_
      rintro e w1 ⟨rfl, hb1⟩
      have hA1 := SX.new w1 y m d
      have hB1 := hb1.trans (hA1.2.2.2.2.mono hb1.size)
      have hd1 := hd.on hB1
      clear ho hb1
      go_wp2_with fail
      refine (unhide (hro _ hd1)).mono ?_
      rintro e w2 ⟨rfl, hb2⟩
      have hA2 := hA1.on hb2
      have hB2 := hB1.trans (hb2.mono hB1.size)
      have hd2 := hd.on hB2
      clear hro hb2 hA1 hB1 hd1
      go_wp2_with fail
      refine (unhide (hba _ hd2)).mono ?_
      rintro e w5 ⟨rfl, hb5⟩
      have hB5 := hB2.trans (hb5.mono hB2.size)
      go_wp2
      go_ret2
      exact ⟨rfl, hB5⟩

set_option maxHeartbeats 4000000 in
theorem rmodified_calls (A : Option Addr) (len cap : Nat) (zs : List Int) (n : Int) (w : World) (hd : Rd w A len zs) (hmax : len ≤ 1000) :
    Calls Try.prog 24 #[.slice A len cap, .int .i64 n] w fun e w' => e = .returned (.tuple #[.int .i64 (modV zs n), .int .i64 (modE zs n)]) ∧ Below w.heap.size w w' := by
  have hth := fun W => hide (rthere_calls n W)
  have ho := fun W => hide (rof_calls n W)
  have hro := fun W h => hide (rseekP A len cap zs n W h hmax)
  have hba := fun W h => hide (rseekM A len cap zs n W h hmax)
  unfold ofE at ho
  unfold modV modE
  cases hin : inB n
  · rw [hin] at hth
    clear hro hba ho
    clear hin hd
    go_enter Try.func24, Try.ntmps24
    go_wp2_with fail
    refine (unhide (hth _)).mono ?_
    rintro e w1 ⟨rfl, hb⟩
    go_wp2
    go_ret2
    exact ⟨rfl, hb⟩
  · rw [hin] at ho hth
    have hE := seekE_or zs n 1
    unfold modB
    have ho2 := fun W => hide (rof_calls (seekV zs n 1) W)
    unfold ofE at ho2
    obtain ⟨E2, hE2⟩ : ∃ x, (if inB (seekV zs n 1) then (0 : Int) else 31) = x := ⟨_, rfl⟩
    rw [hE2] at ho2
    generalize ofY (seekV zs n 1) = y2 at *
    generalize ofM (seekV zs n 1) = m2 at *
    generalize ofD (seekV zs n 1) = d2 at *
    generalize seekV zs n 1 = a at *
    generalize seekE zs n 1 = ae at *
    generalize seekV zs n (-1) = b at *
    generalize seekE zs n (-1) = be at *
    generalize ofY n = y at *
    generalize ofM n = m at *
    generalize ofD n = d at *
    clear hin hE2
    rcases hE with rfl | rfl
    · cases hq : (m2 == m)
      · simp only [Bool.and_false, Bool.false_eq_true, if_false, if_true]
        go_enter Try.func24, Try.ntmps24
        go_wp2_with fail
        refine (unhide (hth _)).mono ?_
        rintro e w0 ⟨rfl, hb0⟩
        go_wp2_with fail
        refine (unhide (ho _)).mono ?_
        rintro e w1 ⟨rfl, hb1⟩
        have hA1 := SX.new w1 y m d
        have hB1 := (hb0.trans (hb1.mono hb0.size)).trans (hA1.2.2.2.2.mono (hb0.trans (hb1.mono hb0.size)).size)
        have hd1 := hd.on hB1
        clear ho hb1 hth hb0
        go_wp2_with fail
        refine (unhide (hro _ hd1)).mono ?_
        rintro e w2 ⟨rfl, hb2⟩
        have hA2 := hA1.on hb2
        have hB2 := hB1.trans (hb2.mono hB1.size)
        have hd2 := hd.on hB2
        clear hro hb2 hA1 hB1 hd1
        go_wp2_with fail
        refine (unhide (ho2 _)).mono ?_
        rintro e w3 ⟨rfl, hb3⟩
        have hA3 := hA2.on hb3
        have hB3 := hB2.trans (hb3.mono hB2.size)
        have hC3 := SX.new w3 y2 m2 d2
        have hA4 := hA3.on hC3.2.2.2.2
        have hB4 := hB3.trans (hC3.2.2.2.2.mono hB3.size)
        have hd4 := hd.on hB4
        clear ho2 hb3 hA2 hB2 hd2 hA3 hB3
        have a0 := hA4.1
        have a1 := hA4.2.1
        have c0 := hC3.1
        have c1 := hC3.2.1
        go_wp2_with fail
        refine (unhide (hba _ hd4)).mono ?_
        rintro e w5 ⟨rfl, hb5⟩
        have hB5 := hB4.trans (hb5.mono hB4.size)
        go_wp2
        go_ret2
        exact ⟨rfl, hB5⟩
      · simp only [beq_self_eq_true, Bool.and_self, if_true]
        clear hba
        go_enter Try.func24, Try.ntmps24
        go_wp2_with fail
        refine (unhide (hth _)).mono ?_
        rintro e w0 ⟨rfl, hb0⟩
        go_wp2_with fail
        refine (unhide (ho _)).mono ?_
        rintro e w1 ⟨rfl, hb1⟩
        have hA1 := SX.new w1 y m d
        have hB1 := (hb0.trans (hb1.mono hb0.size)).trans (hA1.2.2.2.2.mono (hb0.trans (hb1.mono hb0.size)).size)
        have hd1 := hd.on hB1
        clear ho hb1 hth hb0
        go_wp2_with fail
        refine (unhide (hro _ hd1)).mono ?_
        rintro e w2 ⟨rfl, hb2⟩
        have hA2 := hA1.on hb2
        have hB2 := hB1.trans (hb2.mono hB1.size)
        have hd2 := hd.on hB2
        clear hro hb2 hA1 hB1 hd1
        go_wp2_with fail
        refine (unhide (ho2 _)).mono ?_
        rintro e w3 ⟨rfl, hb3⟩
        have hA3 := hA2.on hb3
        have hB3 := hB2.trans (hb3.mono hB2.size)
        have hC3 := SX.new w3 y2 m2 d2
        have hA4 := hA3.on hC3.2.2.2.2
        have hB4 := hB3.trans (hC3.2.2.2.2.mono hB3.size)
        have hd4 := hd.on hB4
        clear ho2 hb3 hA2 hB2 hd2 hA3 hB3
        have a0 := hA4.1
        have a1 := hA4.2.1
        have c0 := hC3.1
        have c1 := hC3.2.1
        go_wp2
        go_ret2
        exact ⟨rfl, hB4⟩
    · simp only [show ((41 : Int) == 0) = false from rfl, Bool.false_and, Bool.false_eq_true, if_false, if_true]
      go_enter Try.func24, Try.ntmps24
      go_wp2_with fail
      refine (unhide (hth _)).mono ?_
      rintro e w0 ⟨rfl, hb0⟩
      go_wp2_with fail
      refine (unhide (ho _)).mono ?_
      rintro e w1 ⟨rfl, hb1⟩
      have hA1 := SX.new w1 y m d
      have hB1 := (hb0.trans (hb1.mono hb0.size)).trans (hA1.2.2.2.2.mono (hb0.trans (hb1.mono hb0.size)).size)
      have hd1 := hd.on hB1
      clear ho hb1 hth hb0
      go_wp2_with fail
      refine (unhide (hro _ hd1)).mono ?_
      rintro e w2 ⟨rfl, hb2⟩
      have hA2 := hA1.on hb2
      have hB2 := hB1.trans (hb2.mono hB1.size)
      have hd2 := hd.on hB2
      clear hro hb2 hA1 hB1 hd1
      go_wp2_with fail
      refine (unhide (ho2 _)).mono ?_
      rintro e w3 ⟨rfl, hb3⟩
      have hA3 := hA2.on hb3
      have hB3 := hB2.trans (hb3.mono hB2.size)
      have hC3 := SX.new w3 y2 m2 d2
      have hA4 := hA3.on hC3.2.2.2.2
      have hB4 := hB3.trans (hC3.2.2.2.2.mono hB3.size)
      have hd4 := hd.on hB4
      clear ho2 hb3 hA2 hB2 hd2 hA3 hB3
      have a0 := hA4.1
      have a1 := hA4.2.1
      have c0 := hC3.1
      have c1 := hC3.2.1
      go_wp2_with fail
      refine (unhide (hba _ hd4)).mono ?_
      rintro e w5 ⟨rfl, hb5⟩
      have hB5 := hB4.trans (hb5.mono hB4.size)
      go_wp2
      go_ret2
      exact ⟨rfl, hB5⟩

end Go.Proofs.Ytehkaiildchmfaa
