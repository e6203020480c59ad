/- The walks of leap years and of a month's length. -/
import Derived.Test.YtnjjkehoabghhaaDoorRows
import Derived.Test.YtnjjkehoabghhaaDoorCalM
import Derived.Test.YtnjjkehoabghhaaDoorWords
import Derived.Test.YtnjjkehoabghhaaDoorArr
import Derived.Deep.QuietTactic
import Derived.BigQuiet
namespace Go.Proofs.YtnjjkehoabghhaaDoor
open Go.RowKit

theorem tmod_zero (y k : Int) : y.tmod k = 0 ↔ y % k = 0 :=
  ⟨fun h => Int.emod_eq_zero_of_dvd (Int.dvd_of_tmod_eq_zero h), fun h => Int.tmod_eq_zero_of_dvd (Int.dvd_of_emod_eq_zero h)⟩
theorem tm_eq (y k : Int) : (y.tmod k == 0) = (y % k == 0) := by
  rw [Bool.eq_iff_iff, beq_iff_eq, beq_iff_eq]; exact tmod_zero y k
theorem tm_ne (y k : Int) : (y.tmod k != 0) = (y % k != 0) := by rw [bne, bne, tm_eq]

set_option maxHeartbeats 400000 in
theorem leap_calls (y : Int) (w : World) : Calls Tryd.prog 16 #[.int .i64 y] w fun e w' => e = .returned (.bool (leapB y)) ∧ w = w' := by
  have h4 := tm_eq y 4
  have h100 := tm_ne y 100
  have h400 := tm_eq y 400
  have hL := hide (show leapB y = ((y % 4 == 0 && y % 100 != 0) || y % 400 == 0) from rfl)
  cases b4 : (y % 4 == 0) <;> cases b100 : (y % 100 != 0) <;> cases b400 : (y % 400 == 0)
  all_goals
    rw [b4, b100, b400] at hL
    rw [b4] at h4
    rw [b100] at h100
    rw [b400] at h400
    clear b4 b100 b400
    rw [hL.out]
    go_enter Tryd.func16, Tryd.ntmps16
    go_wp2
    go_ret
    exact ⟨rfl, rfl⟩

set_option maxHeartbeats 400000 in
theorem rleap_calls (y : Int) (w : World) : Calls Tryd.prog 17 #[.int .i64 y] w fun e w' => e = .returned (.bool (leapB y)) ∧ w = w' := by
  have h4 := tm_eq y 4
  have h100 := tm_ne y 100
  have h400 := tm_eq y 400
  have hL := hide (show leapB y = ((y % 4 == 0 && y % 100 != 0) || y % 400 == 0) from rfl)
  cases b4 : (y % 4 == 0) <;> cases b100 : (y % 100 != 0) <;> cases b400 : (y % 400 == 0)
  all_goals
    rw [b4, b100, b400] at hL
    rw [b4] at h4
    rw [b100] at h100
    rw [b400] at h400
    clear b4 b100 b400
    rw [hL.out]
    go_enter Tryd.func17, Tryd.ntmps17
    go_wp2
    go_ret
    exact ⟨rfl, rfl⟩

set_option maxHeartbeats 1000000 in
theorem length_calls (y m : Int) (w : World) : Calls Tryd.prog 18 #[.int .i64 y, .int .i64 m] w fun e w' => e = .returned (.int .i64 (lenI y m)) ∧ Below w.heap.size w w' := by
  by_cases hm : m < 1 ∨ 12 < m
  · rw [len_out y m hm]
    rcases hm with h | h
    · go_enter Tryd.func18, Tryd.ntmps18
      go_wp2
      go_ret
      exact ⟨rfl, (Below.refl _ _).alloc (Nat.le_refl _) _⟩
    · have h1 : ¬ m < 1 := by omega
      go_enter Tryd.func18, Tryd.ntmps18
      go_wp2
      go_ret
      exact ⟨rfl, (Below.refl _ _).alloc (Nat.le_refl _) _⟩
  · have h1 : 1 ≤ m := by omega
    have h2 : m ≤ 12 := by omega
    clear hm
    by_cases h3 : m = 2
    · subst h3
      have hl : lenI y 2 = if leapB y = true then 29 else 28 := by simp [lenI, lp]; split <;> rfl
      cases hb : leapB y
      · rw [hl, hb]
        have hlc := fun W => hide (leap_calls y W)
        rw [hb] at hlc
        clear hl hb
        go_enter Tryd.func18, Tryd.ntmps18
        go_wp2_with (go_at_call 16; refine (unhide (hlc _)).mono ?_; rintro e wx ⟨rfl, rfl⟩)
        go_ret
        exact ⟨rfl, (Below.refl _ _).alloc (Nat.le_refl _) _⟩
      · rw [hl, hb]
        have hlc := fun W => hide (leap_calls y W)
        rw [hb] at hlc
        clear hl hb
        go_enter Tryd.func18, Tryd.ntmps18
        go_wp2_with (go_at_call 16; refine (unhide (hlc _)).mono ?_; rintro e wx ⟨rfl, rfl⟩)
        go_ret
        exact ⟨rfl, (Below.refl _ _).alloc (Nat.le_refl _) _⟩
    · rcases m12 h1 h2 with rfl | rfl | rfl | rfl | rfl | rfl | rfl | rfl | rfl | rfl | rfl | rfl
      case inr.inl => exact absurd rfl h3
      all_goals
        clear h1 h2 h3
        go_enter Tryd.func18, Tryd.ntmps18
        go_wp2
        go_ret
        exact ⟨rfl, (Below.refl _ _).alloc (Nat.le_refl _) _⟩

set_option maxHeartbeats 1000000 in
theorem rlength_calls (y m : Int) (w : World) : Calls Tryd.prog 19 #[.int .i64 y, .int .i64 m] w fun e w' => e = .returned (.int .i64 (lenI y m)) ∧ w = w' := by
  by_cases hm : m < 1 ∨ 12 < m
  · rw [len_out y m hm]
    have k1 : (m == 1) = false := beq_eq_false_iff_ne.2 (by omega)
    have k2 : (m == 2) = false := beq_eq_false_iff_ne.2 (by omega)
    have k3 : (m == 3) = false := beq_eq_false_iff_ne.2 (by omega)
    have k4 : (m == 4) = false := beq_eq_false_iff_ne.2 (by omega)
    have k5 : (m == 5) = false := beq_eq_false_iff_ne.2 (by omega)
    have k6 : (m == 6) = false := beq_eq_false_iff_ne.2 (by omega)
    have k7 : (m == 7) = false := beq_eq_false_iff_ne.2 (by omega)
    have k8 : (m == 8) = false := beq_eq_false_iff_ne.2 (by omega)
    have k9 : (m == 9) = false := beq_eq_false_iff_ne.2 (by omega)
    have k10 : (m == 10) = false := beq_eq_false_iff_ne.2 (by omega)
    have k11 : (m == 11) = false := beq_eq_false_iff_ne.2 (by omega)
    have k12 : (m == 12) = false := beq_eq_false_iff_ne.2 (by omega)
    clear hm
    go_enter Tryd.func19, Tryd.ntmps19
    go_wp2
    go_ret
    exact ⟨rfl, rfl⟩
  · have h1 : 1 ≤ m := by omega
    have h2 : m ≤ 12 := by omega
    clear hm
    by_cases h3 : m = 2
    · subst h3
      have hl : lenI y 2 = if leapB y = true then 29 else 28 := by simp [lenI, lp]; split <;> rfl
      cases hb : leapB y
      · rw [hl, hb]
        have hlc := fun W => hide (rleap_calls y W)
        rw [hb] at hlc
        clear hl hb
        go_enter Tryd.func19, Tryd.ntmps19
        go_wp2_with (go_at_call 17; refine (unhide (hlc _)).mono ?_; rintro e wx ⟨rfl, rfl⟩)
        go_ret
        exact ⟨rfl, rfl⟩
      · rw [hl, hb]
        have hlc := fun W => hide (rleap_calls y W)
        rw [hb] at hlc
        clear hl hb
        go_enter Tryd.func19, Tryd.ntmps19
        go_wp2_with (go_at_call 17; refine (unhide (hlc _)).mono ?_; rintro e wx ⟨rfl, rfl⟩)
        go_ret
        exact ⟨rfl, rfl⟩
    · rcases m12 h1 h2 with rfl | rfl | rfl | rfl | rfl | rfl | rfl | rfl | rfl | rfl | rfl | rfl
      case inr.inl => exact absurd rfl h3
      all_goals
        clear h1 h2 h3
        go_enter Tryd.func19, Tryd.ntmps19
        go_wp2
        go_ret
        exact ⟨rfl, rfl⟩
end Go.Proofs.YtnjjkehoabghhaaDoor
