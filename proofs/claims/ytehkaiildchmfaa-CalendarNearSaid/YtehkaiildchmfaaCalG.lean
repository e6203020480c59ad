/- Of, whatever the number, both of them; there; seek; Roll; Back. -/
import Derived.Test.YtehkaiildchmfaaCalH
namespace Go.Proofs.Ytehkaiildchmfaa
open Go.RowKit

def inB (n : Int) : Bool := decide (0 ≤ n) && decide (n ≤ 146096)
def ofY (n : Int) : Int := if inB n then dY n else 0
def ofM (n : Int) : Int := if inB n then dM n else 0
def ofD (n : Int) : Int := if inB n then dD n else 0
def ofE (n : Int) : Int := if inB n then 0 else 31

theorem inB_iff (n : Int) : inB n = true ↔ 0 ≤ n ∧ n ≤ 146096 := by simp [inB]
theorem inB_not (n : Int) : inB n = false ↔ n < 0 ∨ 146096 < n := by
  rw [← Bool.not_eq_true, inB_iff]; omega

theorem of_calls (n : Int) (w : World) : Calls Try.prog 34 #[.int .i64 n] w fun e w' => e = .returned (.tuple #[.agg #[.int .i64 (ofY n), .int .i64 (ofM n), .int .i64 (ofD n)], .int .i64 (ofE n)]) ∧ Below w.heap.size w w' := by
  unfold ofY ofM ofD ofE
  cases h : inB n
  · exact of_out n ((inB_not n).1 h) w
  · obtain ⟨h0, h1⟩ := (inB_iff n).1 h
    by_cases hlt : 12 < oM ((n + 693901) % 146097) + 3
    · exact of_in2 n h0 h1 hlt w
    · exact of_in1 n h0 h1 hlt w

theorem rof_calls (n : Int) (w : World) : Calls Try.prog 36 #[.int .i64 n] w fun e w' => e = .returned (.tuple #[.agg #[.int .i64 (ofY n), .int .i64 (ofM n), .int .i64 (ofD n)], .int .i64 (ofE n)]) ∧ Below w.heap.size w w' := by
  by_cases ho : n < 0 ∨ 200000 < n
  · have h : inB n = false := (inB_not n).2 (by omega)
    unfold ofY ofM ofD ofE
    rw [h]
    exact rof_out n ho w
  · refine rof_mid n (by omega) (by omega) _ _ _ _ ?_ ?_ w
    · intro h
      have h : inB n = true := (inB_iff n).2 (by omega)
      unfold ofY ofM ofD ofE
      rw [h]
      exact ⟨rfl, rfl, rfl, rfl⟩
    · intro h
      have h : inB n = false := (inB_not n).2 (by omega)
      unfold ofY ofM ofD ofE
      rw [h]
      exact ⟨rfl, rfl, rfl, rfl⟩


set_option maxHeartbeats 2000000 in
theorem there_calls (n : Int) (w : World) : Calls Try.prog 40 #[.int .i64 n] w fun e w' => e = .returned (.bool (inB n)) ∧ Below w.heap.size w w' := by
  have ho := fun W => hide (of_calls n W)
  unfold ofE at ho
  generalize ofY n = y at *
  generalize ofM n = m at *
  generalize ofD n = d at *
  cases hi : inB n <;> rw [hi] at ho <;> clear hi
  · go_enter Try.func40, Try.ntmps40
    go_wp2_with fail
    refine (unhide (ho _)).mono ?_
    rintro e w1 ⟨rfl, hb⟩
    have hb2 := hb.alloc hb.size (.cells #[.int .i64 y, .int .i64 m, .int .i64 d] 23)
    go_wp2
    go_ret
    exact ⟨rfl, hb2⟩
  · go_enter Try.func40, Try.ntmps40
    go_wp2_with fail
    refine (unhide (ho _)).mono ?_
    rintro e w1 ⟨rfl, hb⟩
    have hb2 := hb.alloc hb.size (.cells #[.int .i64 y, .int .i64 m, .int .i64 d] 23)
    go_wp2
    go_ret
    exact ⟨rfl, hb2⟩

/-- The first business day in so many steps. -/
def seekR (zs : List Int) (step : Int) : Nat → Int → Option Int
  | 0, _ => none
  | f + 1, n => if busB zs n && inB n then some n else seekR zs step f (n + step)
def seekV (zs : List Int) (n step : Int) : Int := if inB n then (seekR zs step 32 n).getD 0 else 0
def seekE (zs : List Int) (n step : Int) : Int := if inB n then (if (seekR zs step 32 n).isSome then 0 else 41) else 41

set_option maxHeartbeats 4000000 in
theorem seek_calls (g : Nat) (zs : List Int) (n step : Int) (hstep : -1 ≤ step ∧ step ≤ 1) (w : World) (hd : Days w g zs) :
    Calls Try.prog 31 #[.pointer (some ⟨g, 0, none⟩), .int .i64 n, .int .i64 step] w fun e w' => e = .returned (.tuple #[.int .i64 (seekV zs n step), .int .i64 (seekE zs n step)]) ∧ Below w.heap.size w w' := by
  have hth := fun m W => hide (there_calls m W)
  unfold seekV seekE
  cases hin : inB n
  · have h1 := fun W => hth n W
    rw [hin] at h1
    clear hth hin hd hstep
    go_enter Try.func31, Try.ntmps31
    go_wp2_with fail
    refine (unhide (h1 _)).mono ?_
    rintro e w1 ⟨rfl, hb⟩
    go_wp2
    go_ret2
    exact ⟨rfl, hb⟩
  · obtain ⟨n0, n1⟩ := (inB_iff n).1 hin
    have h1 := fun W => hth n W
    rw [hin] at h1
    have hbus := fun (m : Int) (hm : -1000 ≤ m ∧ m ≤ 200000) W (h : Days W g zs) => hide (business_calls g zs m (by omega) W h)
    obtain ⟨R, hR0⟩ : ∃ R, seekR zs step 32 n = R := ⟨_, rfl⟩
    rw [hR0]
    obtain ⟨RV, hRV⟩ : ∃ x, R.getD 0 = x := ⟨_, rfl⟩
    obtain ⟨RE, hRE⟩ : ∃ x : Int, (if R.isSome then 0 else 41) = x := ⟨_, rfl⟩
    simp only [if_true, hRV, hRE]
    have hQ : Hid (∀ r, R = r → RV = r.getD 0 ∧ RE = if r.isSome then 0 else 41) := hide (fun r h => by rw [← h]; exact ⟨hRV.symm, hRE.symm⟩)
    have hK0 : Hid (seekR zs step (32 - 0) n = R) := hide hR0
    clear hR0
    clear hRV hRE hin
    go_enter Try.func31, Try.ntmps31
    go_wp2_with fail
    refine (unhide (h1 _)).mono ?_
    rintro e w1 ⟨rfl, hb1⟩
    clear h1
    go_wp2
    go_loopw [1, 11] (fun v i wr => ∃ (k : Nat) (m : Int), v = .int .i64 m ∧ i = .int .i64 k ∧ k ≤ 32 ∧ n - k ≤ m ∧ m ≤ n + k ∧ Hid (seekR zs step (32 - k) m = R) ∧ Below w.heap.size w wr) (fun _ i _ => 32 - (intOf i).toNat)
    case atStart => exact ⟨0, n, rfl, rfl, by omega, by omega, by omega, hK0, hb1⟩
    case round =>
      clear hK0 hb1
      obtain ⟨k, m, rfl, rfl, hk, m0, m1, hR, hb⟩ := hrel
      have hdw := hd.on hb
      by_cases hlt : k < 32
      · have hd1 : decide ((k : Int) < 32) = true := decide_eq_true (by omega)
        obtain ⟨f, hf⟩ : ∃ f, 32 - k = f + 1 := ⟨31 - k, by omega⟩
        have hR1 := hR.out
        rw [hf, seekR] at hR1
        have hf2 : f = 32 - (k + 1) := by omega
        have hbm := hbus m (by omega)
        have htm := hth m
        clear hbus hth hR
        cases hq : busB zs m
        · rw [hq] at hbm hR1
          have hN : Hid (seekR zs step (32 - (k + 1)) (m + step) = R) := hide (by rw [← hf2, ← hR1]; rfl)
          clear hR1 hf hf2 hq htm
          go_wp2_with fail
          refine (unhide (hbm _ hdw)).mono ?_
          rintro e w2 ⟨rfl, rfl⟩
          go_wp2
          go_roundw
          case rel => exact ⟨k + 1, m + step, rfl, by go_num, by omega, by omega, by omega, hN, hb⟩
          case measure => simp [intOf]; omega
        · rw [hq] at hbm hR1
          cases hi : inB m
          · rw [hi] at htm hR1
            have hN : Hid (seekR zs step (32 - (k + 1)) (m + step) = R) := hide (by rw [← hf2, ← hR1]; rfl)
            clear hR1 hf hf2 hq hi
            go_wp2_with fail
            refine (unhide (hbm _ hdw)).mono ?_
            rintro e w2 ⟨rfl, rfl⟩
            go_wp2_with fail
            refine (unhide (htm _)).mono ?_
            rintro e w3 ⟨rfl, hb3⟩
            have hb4 := hb.trans (hb3.mono hb.size)
            go_wp2
            go_roundw
            case rel => exact ⟨k + 1, m + step, rfl, by go_num, by omega, by omega, by omega, hN, hb4⟩
            case measure => simp [intOf]; omega
          · rw [hi] at htm hR1
            obtain ⟨rfl, rfl⟩ := hQ.out _ hR1.symm
            clear hR1 hf hf2 hq hi hQ
            go_wp2_with fail
            refine (unhide (hbm _ hdw)).mono ?_
            rintro e w2 ⟨rfl, rfl⟩
            go_wp2_with fail
            refine (unhide (htm _)).mono ?_
            rintro e w3 ⟨rfl, hb3⟩
            have hb4 := hb.trans (hb3.mono hb.size)
            go_wp2
            go_ret2
            exact ⟨rfl, hb4⟩
      · have hd1 : decide ((k : Int) < 32) = false := decide_eq_false (by omega)
        obtain rfl : k = 32 := by omega
        obtain ⟨rfl, rfl⟩ := hQ.out _ hR.out.symm
        clear hQ hR
        go_wp2
        go_ret2
        exact ⟨rfl, hb⟩

theorem roll_calls (g : Nat) (zs : List Int) (n : Int) (w : World) (hd : Days w g zs) :
    Calls Try.prog 17 #[.pointer (some ⟨g, 0, none⟩), .int .i64 n] w fun e w' => e = .returned (.tuple #[.int .i64 (seekV zs n 1), .int .i64 (seekE zs n 1)]) ∧ Below w.heap.size w w' := by
  have hs := fun W h => hide (seek_calls g zs n 1 (by omega) W h)
  generalize seekV zs n 1 = a at *
  generalize seekE zs n 1 = b at *
  go_enter Try.func17, Try.ntmps17
  go_wp2_with fail
  refine (unhide (hs _ hd)).mono ?_
  rintro e w1 ⟨rfl, hb⟩
  go_wp2
  go_ret2
  exact ⟨rfl, hb⟩

theorem back_calls (g : Nat) (zs : List Int) (n : Int) (w : World) (hd : Days w g zs) :
    Calls Try.prog 21 #[.pointer (some ⟨g, 0, none⟩), .int .i64 n] w fun e w' => e = .returned (.tuple #[.int .i64 (seekV zs n (-1)), .int .i64 (seekE zs n (-1))]) ∧ Below w.heap.size w w' := by
  have hs := fun W h => hide (seek_calls g zs n (-1) (by omega) W h)
  generalize seekV zs n (-1) = a at *
  generalize seekE zs n (-1) = b at *
  go_enter Try.func21, Try.ntmps21
  go_wp2_with fail
  refine (unhide (hs _ hd)).mono ?_
  rintro e w1 ⟨rfl, hb⟩
  go_wp2
  go_ret2
  exact ⟨rfl, hb⟩
end Go.Proofs.Ytehkaiildchmfaa
