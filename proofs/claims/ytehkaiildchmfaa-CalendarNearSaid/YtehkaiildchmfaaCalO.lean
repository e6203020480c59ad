/- The document's There, Seek; Modified, both of them. -/
import Derived.Test.YtehkaiildchmfaaCalN
namespace Go.Proofs.Ytehkaiildchmfaa
open Go.RowKit

set_option maxHeartbeats 2000000 in
theorem rthere_calls (n : Int) (w : World) : Calls Try.prog 35 #[.int .i64 n] w fun e w' => e = .returned (.bool (inB n)) ∧ Below w.heap.size w w' := by
  have ho := fun W => hide (rof_calls n W)
  unfold ofE at ho
  generalize ofY n = y at *
  generalize ofM n = m at *
  generalize ofD n = d at *
  cases hi : inB n <;> rw [hi] at ho <;> clear hi
  · go_enter Try.func35, Try.ntmps35
    go_wp2_with fail
    refine (unhide (ho _)).mono ?_
    rintro e w1 ⟨rfl, hb⟩
    have hb2 := hb.alloc hb.size (.cells #[.int .i64 y, .int .i64 m, .int .i64 d] 23)
    go_wp2
    go_ret
    exact ⟨rfl, hb2⟩
  · go_enter Try.func35, Try.ntmps35
    go_wp2_with fail
    refine (unhide (ho _)).mono ?_
    rintro e w1 ⟨rfl, hb⟩
    have hb2 := hb.alloc hb.size (.cells #[.int .i64 y, .int .i64 m, .int .i64 d] 23)
    go_wp2
    go_ret
    exact ⟨rfl, hb2⟩

set_option maxHeartbeats 4000000 in
theorem rseekP (A : Option Addr) (len cap : Nat) (zs : List Int) (n : Int) (w : World) (hr : Rd w A len zs) (hmax : len ≤ 1000) :
    Calls Try.prog 23 #[.slice A len cap, .int .i64 n, .int .i64 (1)] w fun e w' => e = .returned (.tuple #[.int .i64 (seekV zs n (1)), .int .i64 (seekE zs n (1))]) ∧ Below w.heap.size w w' := by
  have hth := fun m W => hide (rthere_calls m W)
  unfold seekV seekE
  cases hin : inB n
  · have h1 := fun W => hth n W
    rw [hin] at h1
    clear hth hin hr
    go_enter Try.func23, Try.ntmps23
    go_wp2_with fail
    refine (unhide (h1 _)).mono ?_
    rintro e w1 ⟨rfl, hb⟩
    go_wp2
    go_ret2
    exact ⟨rfl, hb⟩
  · obtain ⟨n0, n1⟩ := (inB_iff n).1 hin
    have h1 := fun W => hth n W
    rw [hin] at h1
    have hbus := fun m W h => hide (rbus_calls A len cap zs m W h hmax)
    obtain ⟨R, hR0⟩ : ∃ R, seekR zs (1) 32 n = R := ⟨_, rfl⟩
    rw [hR0]
    obtain ⟨RV, hRV⟩ : ∃ x, R.getD 0 = x := ⟨_, rfl⟩
    obtain ⟨RE, hRE⟩ : ∃ x : Int, (if R.isSome then 0 else 41) = x := ⟨_, rfl⟩
    simp only [if_true, hRV, hRE]
    have hQ : Hid (∀ r, R = r → RV = r.getD 0 ∧ RE = if r.isSome then 0 else 41) := hide (fun r h => by rw [← h]; exact ⟨hRV.symm, hRE.symm⟩)
    have hK0 : Hid (seekR zs (1) (32 - 0) (n + (0 : Nat) * (1)) = R) := hide (by rw [← hR0]; simp)
    clear hR0
    clear hRV hRE hin
    go_enter Try.func23, Try.ntmps23
    go_wp2_with fail
    refine (unhide (h1 _)).mono ?_
    rintro e w1 ⟨rfl, hb1⟩
    clear h1
    go_wp2
    go_loopw [8] (fun i wr => ∃ k : Nat, i = .int .i64 k ∧ k ≤ 32 ∧ Hid (seekR zs (1) (32 - k) (n + (k : Int) * (1)) = R) ∧ Below w.heap.size w wr) (fun i _ => 32 - (intOf i).toNat)
    case atStart => exact ⟨0, rfl, by omega, hK0, hb1⟩
    case round =>
      clear hK0 hb1
      obtain ⟨k, rfl, hk, hR, hb⟩ := hrel
      by_cases hlt : k < 32
      · have hd1 : decide ((k : Int) ≤ 31) = true := decide_eq_true (by omega)
        obtain ⟨f, hf⟩ : ∃ f, 32 - k = f + 1 := ⟨31 - k, by omega⟩
        have hR1 := hR.out
        rw [hf, seekR] at hR1
        have hf2 : f = 32 - (k + 1) := by omega
        have hstep : n + (k : Int) * (1) + (1) = n + ((k + 1 : Nat) : Int) * (1) := by omega
        rw [hstep] at hR1
        have hxx : n + (k : Int) * (1) = n + (k : Int) := by omega
        rw [hxx] at hR1
        have htm := hth (n + (k : Int))
        have hdw := hr.on hb
        have hbm := fun W h => hbus (n + (k : Int)) W h
        clear hbus hth hR hxx hstep
        cases hi : inB (n + (k : Int))
        · rw [hi] at htm hR1
          have hN : Hid (seekR zs (1) (32 - (k + 1)) (n + ((k + 1 : Nat) : Int) * (1)) = R) := hide (by rw [← hf2, ← hR1]; simp)
          clear hR1 hf hf2 hi hbm
          go_wp2_with fail
          refine (unhide (htm _)).mono ?_
          rintro e w3 ⟨rfl, hb3⟩
          have hb4 := hb.trans (hb3.mono hb.size)
          go_wp2
          go_roundw
          case rel => exact ⟨k + 1, by go_num, by omega, hN, hb4⟩
          case measure => simp [intOf]; omega
        · rw [hi] at htm hR1
          cases hq : busB zs (n + (k : Int))
          · rw [hq] at hbm hR1
            have hN : Hid (seekR zs (1) (32 - (k + 1)) (n + ((k + 1 : Nat) : Int) * (1)) = R) := hide (by rw [← hf2, ← hR1]; simp)
            clear hR1 hf hf2 hi hq
            go_wp2_with fail
            refine (unhide (htm _)).mono ?_
            rintro e w3 ⟨rfl, hb3⟩
            have hb4 := hb.trans (hb3.mono hb.size)
            go_wp2_with fail
            refine (unhide (hbm _ (hdw.on hb3))).mono ?_
            rintro e w4 ⟨rfl, rfl⟩
            go_wp2
            go_roundw
            case rel => exact ⟨k + 1, by go_num, by omega, hN, hb4⟩
            case measure => simp [intOf]; omega
          · rw [hq] at hbm hR1
            obtain ⟨rfl, rfl⟩ := hQ.out _ hR1.symm
            clear hR1 hf hf2 hi hq hQ
            go_wp2_with fail
            refine (unhide (htm _)).mono ?_
            rintro e w3 ⟨rfl, hb3⟩
            have hb4 := hb.trans (hb3.mono hb.size)
            go_wp2_with fail
            refine (unhide (hbm _ (hdw.on hb3))).mono ?_
            rintro e w4 ⟨rfl, rfl⟩
            go_wp2
            go_ret2
            exact ⟨rfl, hb4⟩
      · have hd1 : decide ((k : Int) ≤ 31) = false := decide_eq_false (by omega)
        obtain rfl : k = 32 := by omega
        obtain ⟨rfl, rfl⟩ := hQ.out _ hR.out.symm
        clear hQ hR
        go_wp2
        go_ret2
        exact ⟨rfl, hb⟩

set_option maxHeartbeats 4000000 in
theorem rseekM (A : Option Addr) (len cap : Nat) (zs : List Int) (n : Int) (w : World) (hr : Rd w A len zs) (hmax : len ≤ 1000) :
    Calls Try.prog 23 #[.slice A len cap, .int .i64 n, .int .i64 (-1)] w fun e w' => e = .returned (.tuple #[.int .i64 (seekV zs n (-1)), .int .i64 (seekE zs n (-1))]) ∧ Below w.heap.size w w' := by
  have hth := fun m W => hide (rthere_calls m W)
  unfold seekV seekE
  cases hin : inB n
  · have h1 := fun W => hth n W
    rw [hin] at h1
    clear hth hin hr
    go_enter Try.func23, Try.ntmps23
    go_wp2_with fail
    refine (unhide (h1 _)).mono ?_
    rintro e w1 ⟨rfl, hb⟩
    go_wp2
    go_ret2
    exact ⟨rfl, hb⟩
  · obtain ⟨n0, n1⟩ := (inB_iff n).1 hin
    have h1 := fun W => hth n W
    rw [hin] at h1
    have hbus := fun m W h => hide (rbus_calls A len cap zs m W h hmax)
    obtain ⟨R, hR0⟩ : ∃ R, seekR zs (-1) 32 n = R := ⟨_, rfl⟩
    rw [hR0]
    obtain ⟨RV, hRV⟩ : ∃ x, R.getD 0 = x := ⟨_, rfl⟩
    obtain ⟨RE, hRE⟩ : ∃ x : Int, (if R.isSome then 0 else 41) = x := ⟨_, rfl⟩
    simp only [if_true, hRV, hRE]
    have hQ : Hid (∀ r, R = r → RV = r.getD 0 ∧ RE = if r.isSome then 0 else 41) := hide (fun r h => by rw [← h]; exact ⟨hRV.symm, hRE.symm⟩)
    have hK0 : Hid (seekR zs (-1) (32 - 0) (n + (0 : Nat) * (-1)) = R) := hide (by rw [← hR0]; simp)
    clear hR0
    clear hRV hRE hin
    go_enter Try.func23, Try.ntmps23
    go_wp2_with fail
    refine (unhide (h1 _)).mono ?_
    rintro e w1 ⟨rfl, hb1⟩
    clear h1
    go_wp2
    go_loopw [8] (fun i wr => ∃ k : Nat, i = .int .i64 k ∧ k ≤ 32 ∧ Hid (seekR zs (-1) (32 - k) (n + (k : Int) * (-1)) = R) ∧ Below w.heap.size w wr) (fun i _ => 32 - (intOf i).toNat)
    case atStart => exact ⟨0, rfl, by omega, hK0, hb1⟩
    case round =>
      clear hK0 hb1
      obtain ⟨k, rfl, hk, hR, hb⟩ := hrel
      by_cases hlt : k < 32
      · have hd1 : decide ((k : Int) ≤ 31) = true := decide_eq_true (by omega)
        obtain ⟨f, hf⟩ : ∃ f, 32 - k = f + 1 := ⟨31 - k, by omega⟩
        have hR1 := hR.out
        rw [hf, seekR] at hR1
        have hf2 : f = 32 - (k + 1) := by omega
        have hstep : n + (k : Int) * (-1) + (-1) = n + ((k + 1 : Nat) : Int) * (-1) := by omega
        rw [hstep] at hR1
        have hxx : n + (k : Int) * (-1) = n - (k : Int) := by omega
        rw [hxx] at hR1
        have htm := hth (n - (k : Int))
        have hdw := hr.on hb
        have hbm := fun W h => hbus (n - (k : Int)) W h
        clear hbus hth hR hxx hstep
        cases hi : inB (n - (k : Int))
        · rw [hi] at htm hR1
          have hN : Hid (seekR zs (-1) (32 - (k + 1)) (n + ((k + 1 : Nat) : Int) * (-1)) = R) := hide (by rw [← hf2, ← hR1]; simp)
          clear hR1 hf hf2 hi hbm
          go_wp2_with fail
          refine (unhide (htm _)).mono ?_
          rintro e w3 ⟨rfl, hb3⟩
          have hb4 := hb.trans (hb3.mono hb.size)
          go_wp2
          go_roundw
          case rel => exact ⟨k + 1, by go_num, by omega, hN, hb4⟩
          case measure => simp [intOf]; omega
        · rw [hi] at htm hR1
          cases hq : busB zs (n - (k : Int))
          · rw [hq] at hbm hR1
            have hN : Hid (seekR zs (-1) (32 - (k + 1)) (n + ((k + 1 : Nat) : Int) * (-1)) = R) := hide (by rw [← hf2, ← hR1]; simp)
            clear hR1 hf hf2 hi hq
            go_wp2_with fail
            refine (unhide (htm _)).mono ?_
            rintro e w3 ⟨rfl, hb3⟩
            have hb4 := hb.trans (hb3.mono hb.size)
            go_wp2_with fail
            refine (unhide (hbm _ (hdw.on hb3))).mono ?_
            rintro e w4 ⟨rfl, rfl⟩
            go_wp2
            go_roundw
            case rel => exact ⟨k + 1, by go_num, by omega, hN, hb4⟩
            case measure => simp [intOf]; omega
          · rw [hq] at hbm hR1
            obtain ⟨rfl, rfl⟩ := hQ.out _ hR1.symm
            clear hR1 hf hf2 hi hq hQ
            go_wp2_with fail
            refine (unhide (htm _)).mono ?_
            rintro e w3 ⟨rfl, hb3⟩
            have hb4 := hb.trans (hb3.mono hb.size)
            go_wp2_with fail
            refine (unhide (hbm _ (hdw.on hb3))).mono ?_
            rintro e w4 ⟨rfl, rfl⟩
            go_wp2
            go_ret2
            exact ⟨rfl, hb4⟩
      · have hd1 : decide ((k : Int) ≤ 31) = false := decide_eq_false (by omega)
        obtain rfl : k = 32 := by omega
        obtain ⟨rfl, rfl⟩ := hQ.out _ hR.out.symm
        clear hQ hR
        go_wp2
        go_ret2
        exact ⟨rfl, hb⟩
end Go.Proofs.Ytehkaiildchmfaa
