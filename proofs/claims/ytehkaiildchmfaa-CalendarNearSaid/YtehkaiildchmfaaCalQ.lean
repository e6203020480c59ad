/- The walk of Between's law. -/
import Derived.Test.YtehkaiildchmfaaCalN
namespace Go.Proofs.Ytehkaiildchmfaa.calendarBetween
open Go.RowKit
set_option linter.unusedVariables false

theorem i64_of {n : Int} (h : (Lit.int .i64 n).wf = true) : -9223372036854775808 ≤ n ∧ n ≤ 9223372036854775807 := by
  simp [Lit.wf, IntKind.min, IntKind.max, IntKind.signed, IntKind.bits] at h
  omega
theorem wf_get {zs : List Int} (hw : ∀ z ∈ zs, (Lit.int .i64 z).wf = true) (k : Nat) (hk : k < zs.length) : (Lit.int .i64 (zs.getD k 0)).wf = true := by
  rw [List.getD_eq_getElem?_getD, List.getElem?_eq_getElem hk]
  exact hw _ (List.getElem_mem hk)
/-- New, in the words of Rd. -/
theorem new_rd (A : Option Addr) (len cap : Nat) (zs : List Int) (w : World) (hR : Rd w A len zs) (h512 : len ≤ 512) (hw : ∀ z ∈ zs, (Lit.int .i64 z).wf = true) :
    Calls Try.prog 16 #[.slice A len cap] w fun e w' => e = .returned (.tuple #[.pointer (some ⟨w.heap.size + 1, 0, none⟩), .int .i64 0]) ∧ Days w' (w.heap.size + 1) zs ∧ Below w.heap.size w w' :=
  new_calls A len cap zs hR.1 h512 w hR.2 (fun k hk => wf_get hw k (by rw [hR.1]; exact hk))

set_option maxHeartbeats 4000000 in
theorem walk_many (A : Option Addr) (len cap : Nat) (zs : List Int) (f t : Int) (w : World) (hR : Rd w A len zs) (hw : ∀ z ∈ zs, (Lit.int .i64 z).wf = true) (wf : (Lit.int .i64 f).wf = true) (wt : (Lit.int .i64 t).wf = true) (hl : decide (100 < (len : Int)) = true) : Calls Try.prog 6 #[.slice A len cap, .int .i64 f, .int .i64 t] w fun e w' => e = .returned (.bool true) ∧ Below w.heap.size w w' := by
  have hal := fun W => hide (alive_calls W)
  go_enter Try.func6, Try.ntmps6
  go_wp2_with fail
  refine (unhide (hal _)).mono ?_
  rintro e w1 ⟨rfl, hb1⟩
  go_wp2
  go_ret
  exact ⟨rfl, hb1⟩

set_option maxHeartbeats 4000000 in
theorem walk_none (A : Option Addr) (len cap : Nat) (zs : List Int) (f t : Int) (w : World) (hR : Rd w A len zs) (hw : ∀ z ∈ zs, (Lit.int .i64 z).wf = true) (wf : (Lit.int .i64 f).wf = true) (wt : (Lit.int .i64 t).wf = true) (hl : decide (100 < (len : Int)) = false) (h1 : decide (t ≤ f) = true) : Calls Try.prog 6 #[.slice A len cap, .int .i64 f, .int .i64 t] w fun e w' => e = .returned (.bool true) ∧ Below w.heap.size w w' := by
  have hal := fun W => hide (alive_calls W)
  have hnew := fun W h => hide (new_rd A len cap zs W h (by have := of_decide_eq_false hl; omega) hw)
  have hbe := fun g W h => hide (between_calls g zs f t (i64_of wf) (i64_of wt) W h)
  have hf := i64_of wf
  have ht := i64_of wt
  clear wf wt
  have hB : betV zs f t = 0 := by unfold betV; rw [if_pos (Or.inl (of_decide_eq_true h1))]
  rw [hB] at hbe
  clear hB
  go_enter Try.func6, Try.ntmps6
  go_wp2_with fail
  refine (unhide (hal _)).mono ?_
  rintro e w1 ⟨rfl, hb1⟩
  clear hal
  go_wp2_with fail
  refine (unhide (hnew _ (hR.on hb1))).mono ?_
  rintro e w2 ⟨rfl, hD, hb2⟩
  have hb3 := hb1.trans (hb2.mono hb1.size)
  have hR2 := hR.on hb3
  clear hnew hb1 hb2 hR
  generalize w1.heap.size + 1 = g at *
  go_wp2_with fail
  refine (unhide (hbe _ _ hD)).mono ?_
  rintro e w3 ⟨rfl, rfl⟩
  clear hbe hD
  go_wp2
  go_ret
  exact ⟨rfl, hb3⟩

theorem bet_pos (zs : List Int) (f t : Int) : 0 ≤ betV zs f t := by
  unfold betV
  split
  · exact Int.le_refl _
  · exact (bcnt_bd _ _ _).1

set_option maxHeartbeats 4000000 in
theorem walk_far1 (A : Option Addr) (len cap : Nat) (zs : List Int) (f t : Int) (w : World) (hR : Rd w A len zs) (hw : ∀ z ∈ zs, (Lit.int .i64 z).wf = true) (wf : (Lit.int .i64 f).wf = true) (wt : (Lit.int .i64 t).wf = true) (hl : decide (100 < (len : Int)) = false) (h1 : decide (t ≤ f) = false) (h2 : decide (f < 0) = true) (h3 : decide (9223372036854775807 + f < t) = true) : Calls Try.prog 6 #[.slice A len cap, .int .i64 f, .int .i64 t] w fun e w' => e = .returned (.bool true) ∧ Below w.heap.size w w' := by
  have hal := fun W => hide (alive_calls W)
  have hnew := fun W h => hide (new_rd A len cap zs W h (by have := of_decide_eq_false hl; omega) hw)
  have hbe := fun g W h => hide (between_calls g zs f t (i64_of wf) (i64_of wt) W h)
  have hf := i64_of wf
  have ht := i64_of wt
  clear wf wt
  have hB : decide (0 ≤ betV zs f t) = true := decide_eq_true (bet_pos zs f t)
  generalize betV zs f t = B at *
  have q2 := of_decide_eq_true h2
  go_enter Try.func6, Try.ntmps6
  go_wp2_with fail
  refine (unhide (hal _)).mono ?_
  rintro e w1 ⟨rfl, hb1⟩
  clear hal
  go_wp2_with fail
  refine (unhide (hnew _ (hR.on hb1))).mono ?_
  rintro e w2 ⟨rfl, hD, hb2⟩
  have hb3 := hb1.trans (hb2.mono hb1.size)
  have hR2 := hR.on hb3
  clear hnew hb1 hb2 hR
  generalize w1.heap.size + 1 = g at *
  go_wp2_with fail
  refine (unhide (hbe _ _ hD)).mono ?_
  rintro e w3 ⟨rfl, rfl⟩
  clear hbe hD
  go_wp2
  go_ret
  exact ⟨rfl, hb3⟩

set_option maxHeartbeats 4000000 in
theorem walk_far2 (A : Option Addr) (len cap : Nat) (zs : List Int) (f t : Int) (w : World) (hR : Rd w A len zs) (hw : ∀ z ∈ zs, (Lit.int .i64 z).wf = true) (wf : (Lit.int .i64 f).wf = true) (wt : (Lit.int .i64 t).wf = true) (hl : decide (100 < (len : Int)) = false) (h1 : decide (t ≤ f) = false) (h2 : decide (f < 0) = true) (h3 : decide (9223372036854775807 + f < t) = false) (h4 : decide (2000 < t - f) = true) : Calls Try.prog 6 #[.slice A len cap, .int .i64 f, .int .i64 t] w fun e w' => e = .returned (.bool true) ∧ Below w.heap.size w w' := by
  have hal := fun W => hide (alive_calls W)
  have hnew := fun W h => hide (new_rd A len cap zs W h (by have := of_decide_eq_false hl; omega) hw)
  have hbe := fun g W h => hide (between_calls g zs f t (i64_of wf) (i64_of wt) W h)
  have hf := i64_of wf
  have ht := i64_of wt
  clear wf wt
  have hB : decide (0 ≤ betV zs f t) = true := decide_eq_true (bet_pos zs f t)
  generalize betV zs f t = B at *
  have q2 := of_decide_eq_true h2
  have q3 := of_decide_eq_false h3
  have q1 := of_decide_eq_false h1
  go_enter Try.func6, Try.ntmps6
  go_wp2_with fail
  refine (unhide (hal _)).mono ?_
  rintro e w1 ⟨rfl, hb1⟩
  clear hal
  go_wp2_with fail
  refine (unhide (hnew _ (hR.on hb1))).mono ?_
  rintro e w2 ⟨rfl, hD, hb2⟩
  have hb3 := hb1.trans (hb2.mono hb1.size)
  have hR2 := hR.on hb3
  clear hnew hb1 hb2 hR
  generalize w1.heap.size + 1 = g at *
  go_wp2_with fail
  refine (unhide (hbe _ _ hD)).mono ?_
  rintro e w3 ⟨rfl, rfl⟩
  clear hbe hD
  go_wp2
  go_ret
  exact ⟨rfl, hb3⟩

set_option maxHeartbeats 4000000 in
theorem walk_far3 (A : Option Addr) (len cap : Nat) (zs : List Int) (f t : Int) (w : World) (hR : Rd w A len zs) (hw : ∀ z ∈ zs, (Lit.int .i64 z).wf = true) (wf : (Lit.int .i64 f).wf = true) (wt : (Lit.int .i64 t).wf = true) (hl : decide (100 < (len : Int)) = false) (h1 : decide (t ≤ f) = false) (h2 : decide (f < 0) = false) (h4 : decide (2000 < t - f) = true) : Calls Try.prog 6 #[.slice A len cap, .int .i64 f, .int .i64 t] w fun e w' => e = .returned (.bool true) ∧ Below w.heap.size w w' := by
  have hal := fun W => hide (alive_calls W)
  have hnew := fun W h => hide (new_rd A len cap zs W h (by have := of_decide_eq_false hl; omega) hw)
  have hbe := fun g W h => hide (between_calls g zs f t (i64_of wf) (i64_of wt) W h)
  have hf := i64_of wf
  have ht := i64_of wt
  clear wf wt
  have hB : decide (0 ≤ betV zs f t) = true := decide_eq_true (bet_pos zs f t)
  generalize betV zs f t = B at *
  have q2 := of_decide_eq_false h2
  have q1 := of_decide_eq_false h1
  go_enter Try.func6, Try.ntmps6
  go_wp2_with fail
  refine (unhide (hal _)).mono ?_
  rintro e w1 ⟨rfl, hb1⟩
  clear hal
  go_wp2_with fail
  refine (unhide (hnew _ (hR.on hb1))).mono ?_
  rintro e w2 ⟨rfl, hD, hb2⟩
  have hb3 := hb1.trans (hb2.mono hb1.size)
  have hR2 := hR.on hb3
  clear hnew hb1 hb2 hR
  generalize w1.heap.size + 1 = g at *
  go_wp2_with fail
  refine (unhide (hbe _ _ hD)).mono ?_
  rintro e w3 ⟨rfl, rfl⟩
  clear hbe hD
  go_wp2
  go_ret
  exact ⟨rfl, hb3⟩

set_option maxHeartbeats 4000000 in
theorem walk_near1 (A : Option Addr) (len cap : Nat) (zs : List Int) (f t : Int) (w : World) (hR : Rd w A len zs) (hw : ∀ z ∈ zs, (Lit.int .i64 z).wf = true) (wf : (Lit.int .i64 f).wf = true) (wt : (Lit.int .i64 t).wf = true) (hl : decide (100 < (len : Int)) = false) (h1 : decide (t ≤ f) = false) (h2 : decide (f < 0) = true) (h3 : decide (9223372036854775807 + f < t) = false) (h4 : decide (2000 < t - f) = false) : Calls Try.prog 6 #[.slice A len cap, .int .i64 f, .int .i64 t] w fun e w' => e = .returned (.bool true) ∧ Below w.heap.size w w' := by
  have hal := fun W => hide (alive_calls W)
  have hnew := fun W h => hide (new_rd A len cap zs W h (by have := of_decide_eq_false hl; omega) hw)
  have hbe := fun g W h => hide (between_calls g zs f t (i64_of wf) (i64_of wt) W h)
  have hf := i64_of wf
  have ht := i64_of wt
  clear wf wt
  have q2 := of_decide_eq_true h2
  have q3 := of_decide_eq_false h3
  have q1 := of_decide_eq_false h1
  have q4 := of_decide_eq_false h4
  have hB : betV zs f t = bcnt zs f (t - f).toNat := by unfold betV; rw [if_neg (by omega)]
  rw [hB] at hbe
  clear hB
  obtain ⟨R, hRR⟩ : ∃ R, bcnt zs f (t - f).toNat = R := ⟨_, rfl⟩
  rw [hRR] at hbe
  have hQ := hide hRR
  clear hRR
  have hbus := fun m W h => hide (rbus_calls A len cap zs m W h (by have := of_decide_eq_false hl; omega))
  go_enter Try.func6, Try.ntmps6
  go_wp2_with fail
  refine (unhide (hal _)).mono ?_
  rintro e w1 ⟨rfl, hb1⟩
  clear hal
  go_wp2_with fail
  refine (unhide (hnew _ (hR.on hb1))).mono ?_
  rintro e w2 ⟨rfl, hD, hb2⟩
  have hb3 := hb1.trans (hb2.mono hb1.size)
  have hR2 := hR.on hb3
  clear hnew hb1 hb2 hR
  generalize w1.heap.size + 1 = g at *
  go_wp2_with fail
  refine (unhide (hbe _ _ hD)).mono ?_
  rintro e w3 ⟨rfl, rfl⟩
  clear hbe hD
  go_wp2
  go_loopw [10, 11] (fun v i wr => ∃ k : Nat, v = .int .i64 (bcnt zs f k) ∧ i = .int .i64 (f + k) ∧ (k : Int) ≤ t - f ∧ w2 = wr) (fun _ i _ => (t - intOf i).toNat)
  case atStart => exact ⟨0, rfl, by simp, by omega, rfl⟩
  case round =>
    obtain ⟨k, rfl, rfl, hk, rfl⟩ := hrel
    have hbd := bcnt_bd zs f k
    by_cases hlt : f + k < t
    · have hd3 : decide (f + (k : Int) < t) = true := decide_eq_true hlt
      have hbm := hbus (f + k)
      have hst := hide (show bcnt zs f (k + 1) = bcnt zs f k + (if busB zs (f + k) then 1 else 0) from rfl)
      have hm1 : -9223372036854775808 ≤ f + (k : Int) := by omega
      have hm2 : f + (k : Int) < 9223372036854775807 := by omega
      have hme := hide (show (f + (k : Int)) + 1 = f + ((k + 1 : Nat) : Int) by omega)
      have hk2 : ((k + 1 : Nat) : Int) ≤ t - f := by omega
      have hti := hide hlt
      have hk3 : (k : Int) ≤ 2000 := by omega
      clear hbus hQ hlt q1 q4
      obtain ⟨c, hc⟩ : ∃ c, bcnt zs f k = c := ⟨_, rfl⟩
      rw [hc] at hbd hst ⊢
      clear hc
      generalize hmm : f + (k : Int) = m at *
      clear hmm
      have hc0 : 0 ≤ c := hbd.1
      have hc1 : c ≤ 100000 := by omega
      cases hq : busB zs m
      · rw [hq] at hbm hst
        have hst2 := hide (show bcnt zs f (k + 1) = c by rw [hst.out]; simp)
        clear hst hq
        go_wp2_with fail
        refine (unhide (hbm _ hR2)).mono ?_
        rintro e w4 ⟨rfl, rfl⟩
        go_wp2
        go_roundw
        case rel => exact ⟨k + 1, by rw [hst2.out], by rw [hme.out], hk2, trivial⟩
        case measure => have := hti.out; simp [intOf]; omega
      · rw [hq] at hbm hst
        have hst2 := hide (show bcnt zs f (k + 1) = c + 1 by rw [hst.out]; simp)
        clear hst hq
        go_wp2_with fail
        refine (unhide (hbm _ hR2)).mono ?_
        rintro e w4 ⟨rfl, rfl⟩
        go_wp2
        go_roundw
        case rel => exact ⟨k + 1, by rw [hst2.out], by rw [hme.out], hk2, trivial⟩
        case measure => have := hti.out; simp [intOf]; omega
    · have hd3 : decide (f + (k : Int) < t) = false := decide_eq_false hlt
      have hkn : (t - f).toNat = k := by omega
      have hRc : bcnt zs f k = R := by rw [← hQ.out, hkn]
      rw [hRc]
      clear hQ hbus hkn hRc
      generalize f + (k : Int) = m at *
      go_wp2
      go_ret
      exact ⟨rfl, hb3⟩

set_option maxHeartbeats 4000000 in
theorem walk_near2 (A : Option Addr) (len cap : Nat) (zs : List Int) (f t : Int) (w : World) (hR : Rd w A len zs) (hw : ∀ z ∈ zs, (Lit.int .i64 z).wf = true) (wf : (Lit.int .i64 f).wf = true) (wt : (Lit.int .i64 t).wf = true) (hl : decide (100 < (len : Int)) = false) (h1 : decide (t ≤ f) = false) (h2 : decide (f < 0) = false) (h4 : decide (2000 < t - f) = false) : Calls Try.prog 6 #[.slice A len cap, .int .i64 f, .int .i64 t] w fun e w' => e = .returned (.bool true) ∧ Below w.heap.size w w' := by
  have hal := fun W => hide (alive_calls W)
  have hnew := fun W h => hide (new_rd A len cap zs W h (by have := of_decide_eq_false hl; omega) hw)
  have hbe := fun g W h => hide (between_calls g zs f t (i64_of wf) (i64_of wt) W h)
  have hf := i64_of wf
  have ht := i64_of wt
  clear wf wt
  have q2 := of_decide_eq_false h2
  have q1 := of_decide_eq_false h1
  have q4 := of_decide_eq_false h4
  have hB : betV zs f t = bcnt zs f (t - f).toNat := by unfold betV; rw [if_neg (by omega)]
  rw [hB] at hbe
  clear hB
  obtain ⟨R, hRR⟩ : ∃ R, bcnt zs f (t - f).toNat = R := ⟨_, rfl⟩
  rw [hRR] at hbe
  have hQ := hide hRR
  clear hRR
  have hbus := fun m W h => hide (rbus_calls A len cap zs m W h (by have := of_decide_eq_false hl; omega))
  go_enter Try.func6, Try.ntmps6
  go_wp2_with fail
  refine (unhide (hal _)).mono ?_
  rintro e w1 ⟨rfl, hb1⟩
  clear hal
  go_wp2_with fail
  refine (unhide (hnew _ (hR.on hb1))).mono ?_
  rintro e w2 ⟨rfl, hD, hb2⟩
  have hb3 := hb1.trans (hb2.mono hb1.size)
  have hR2 := hR.on hb3
  clear hnew hb1 hb2 hR
  generalize w1.heap.size + 1 = g at *
  go_wp2_with fail
  refine (unhide (hbe _ _ hD)).mono ?_
  rintro e w3 ⟨rfl, rfl⟩
  clear hbe hD
  go_wp2
  go_loopw [10, 11] (fun v i wr => ∃ k : Nat, v = .int .i64 (bcnt zs f k) ∧ i = .int .i64 (f + k) ∧ (k : Int) ≤ t - f ∧ w2 = wr) (fun _ i _ => (t - intOf i).toNat)
  case atStart => exact ⟨0, rfl, by simp, by omega, rfl⟩
  case round =>
    obtain ⟨k, rfl, rfl, hk, rfl⟩ := hrel
    have hbd := bcnt_bd zs f k
    by_cases hlt : f + k < t
    · have hd3 : decide (f + (k : Int) < t) = true := decide_eq_true hlt
      have hbm := hbus (f + k)
      have hst := hide (show bcnt zs f (k + 1) = bcnt zs f k + (if busB zs (f + k) then 1 else 0) from rfl)
      have hm1 : -9223372036854775808 ≤ f + (k : Int) := by omega
      have hm2 : f + (k : Int) < 9223372036854775807 := by omega
      have hme := hide (show (f + (k : Int)) + 1 = f + ((k + 1 : Nat) : Int) by omega)
      have hk2 : ((k + 1 : Nat) : Int) ≤ t - f := by omega
      have hti := hide hlt
      have hk3 : (k : Int) ≤ 2000 := by omega
      clear hbus hQ hlt q1 q4
      obtain ⟨c, hc⟩ : ∃ c, bcnt zs f k = c := ⟨_, rfl⟩
      rw [hc] at hbd hst ⊢
      clear hc
      generalize hmm : f + (k : Int) = m at *
      clear hmm
      have hc0 : 0 ≤ c := hbd.1
      have hc1 : c ≤ 100000 := by omega
      cases hq : busB zs m
      · rw [hq] at hbm hst
        have hst2 := hide (show bcnt zs f (k + 1) = c by rw [hst.out]; simp)
        clear hst hq
        go_wp2_with fail
        refine (unhide (hbm _ hR2)).mono ?_
        rintro e w4 ⟨rfl, rfl⟩
        go_wp2
        go_roundw
        case rel => exact ⟨k + 1, by rw [hst2.out], by rw [hme.out], hk2, trivial⟩
        case measure => have := hti.out; simp [intOf]; omega
      · rw [hq] at hbm hst
        have hst2 := hide (show bcnt zs f (k + 1) = c + 1 by rw [hst.out]; simp)
        clear hst hq
        go_wp2_with fail
        refine (unhide (hbm _ hR2)).mono ?_
        rintro e w4 ⟨rfl, rfl⟩
        go_wp2
        go_roundw
        case rel => exact ⟨k + 1, by rw [hst2.out], by rw [hme.out], hk2, trivial⟩
        case measure => have := hti.out; simp [intOf]; omega
    · have hd3 : decide (f + (k : Int) < t) = false := decide_eq_false hlt
      have hkn : (t - f).toNat = k := by omega
      have hRc : bcnt zs f k = R := by rw [← hQ.out, hkn]
      rw [hRc]
      clear hQ hbus hkn hRc
      generalize f + (k : Int) = m at *
      go_wp2
      go_ret
      exact ⟨rfl, hb3⟩

theorem walk (A : Option Addr) (len cap : Nat) (zs : List Int) (f t : Int) (w : World) (hR : Rd w A len zs) (hw : ∀ z ∈ zs, (Lit.int .i64 z).wf = true) (wf : (Lit.int .i64 f).wf = true) (wt : (Lit.int .i64 t).wf = true) : Calls Try.prog 6 #[.slice A len cap, .int .i64 f, .int .i64 t] w fun e w' => e = .returned (.bool true) ∧ Below w.heap.size w w' := by
  cases hl : decide (100 < (len : Int))
  case true => exact walk_many A len cap zs f t w hR hw wf wt hl
  cases h1 : decide (t ≤ f)
  case true => exact walk_none A len cap zs f t w hR hw wf wt hl h1
  cases h2 : decide (f < 0)
  · cases h4 : decide (2000 < t - f)
    · exact walk_near2 A len cap zs f t w hR hw wf wt hl h1 h2 h4
    · exact walk_far3 A len cap zs f t w hR hw wf wt hl h1 h2 h4
  · cases h3 : decide (9223372036854775807 + f < t)
    · cases h4 : decide (2000 < t - f)
      · exact walk_near1 A len cap zs f t w hR hw wf wt hl h1 h2 h3 h4
      · exact walk_far2 A len cap zs f t w hR hw wf wt hl h1 h2 h3 h4
    · exact walk_far1 A len cap zs f t w hR hw wf wt hl h1 h2 h3
end Go.Proofs.Ytehkaiildchmfaa.calendarBetween
