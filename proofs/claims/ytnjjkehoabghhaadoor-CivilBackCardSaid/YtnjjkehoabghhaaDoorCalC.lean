/- The walks of a date's number, and of a number's date. -/
import Derived.Test.YtnjjkehoabghhaaDoorCalB
namespace Go.Proofs.YtnjjkehoabghhaaDoor
open Go.RowKit

set_option maxHeartbeats 1000000 in
theorem march_calls (y m d : Int) (hr : rightB y m d = true) (w : World) : Calls Tryd.prog 27 #[.agg #[.int .i64 y, .int .i64 m, .int .i64 d]] w fun e w' => e = .returned (.int .i64 (numI y m d + 693901)) ∧ Below w.heap.size w w' := by
  obtain ⟨h1, h2, h3, h4, h5, h6⟩ := (right_iff y m d).1 hr
  have h7 := len_bd y m h3 h4
  have h8 : d ≤ 31 := by omega
  have hn := march_num y m d h3 h4
  clear hr h6 h7
  by_cases hm : m < 3
  · rw [if_pos hm] at hn
    have hN := hide hn
    have k1 : decide (m - 3 < 0) = true := by simp; omega
    clear hn
    go_enter Tryd.func27, Tryd.ntmps27
    go_wp2_with fail
    go_quiet (fail)
    go_wp2
    go_ret
    exact ⟨ret_int (by have := hN.out; omega), below_draws ((Below.refl _ _).alloc (Nat.le_refl _) _) _⟩
  · rw [if_neg hm] at hn
    have hN := hide hn
    have k1 : decide (m - 3 < 0) = false := by simp; omega
    clear hn
    go_enter Tryd.func27, Tryd.ntmps27
    go_wp2_with fail
    go_quiet (fail)
    go_wp2
    go_ret
    exact ⟨ret_int (by have := hN.out; omega), below_draws ((Below.refl _ _).alloc (Nat.le_refl _) _) _⟩

def numR (y m d : Int) : Int := if rightB y m d = true then numI y m d else 0
def errR (y m d : Int) : Int := if rightB y m d = true then 0 else 31

set_option maxHeartbeats 1000000 in
theorem number_calls (y m d : Int) (w : World) : Calls Tryd.prog 11 #[.agg #[.int .i64 y, .int .i64 m, .int .i64 d]] w fun e w' => e = .returned (.tuple #[.int .i64 (numR y m d), .int .i64 (errR y m d)]) ∧ Below w.heap.size w w' := by
  unfold numR errR
  have hrc := fun W => hide (right_calls y m d W)
  have hb0 := box3 w 23 y m d
  cases hr : rightB y m d
  · rw [hr] at hrc
    rw [if_neg Bool.false_ne_true, if_neg Bool.false_ne_true]
    clear hr
    go_enter Tryd.func11, Tryd.ntmps11
    go_wp2_with fail
    refine (unhide (hrc _)).mono ?_
    rintro e w1 ⟨rfl, hb1⟩
    go_wp2
    go_ret2
    exact ⟨rfl, ((Below.refl _ _).alloc (Nat.le_refl _) _).trans (hb1.mono (by simp))⟩
  · rw [hr] at hrc
    have hmc := fun W => hide (march_calls y m d hr W)
    have hnr := num_range hr
    rw [if_pos rfl, if_pos rfl]
    generalize numI y m d = N at *
    clear hr
    go_enter Tryd.func11, Tryd.ntmps11
    go_wp2_with fail
    refine (unhide (hrc _)).mono ?_
    rintro e w1 ⟨rfl, hb1⟩
    have b1 := hb0.below hb1 (by simp)
    have c0 := b1.cell 0
    have c1 := b1.cell 1
    have c2 := b1.cell 2
    have hb2 := ((Below.refl w.heap.size w).alloc (Nat.le_refl _) (.cells #[.int .i64 y, .int .i64 m, .int .i64 d] 23)).trans (hb1.mono (by simp))
    have hs2 := hb2.size
    clear hb0 hb1 b1
    go_wp2_with fail
    refine (unhide (hmc _)).mono ?_
    rintro e w2 ⟨rfl, hb3⟩
    go_wp2
    go_ret2
    exact ⟨ret_i2 (by omega) rfl, hb2.trans (hb3.mono hs2)⟩

set_option maxHeartbeats 4000000 in
theorem of_out (n : Int) (h : n < 0 ∨ 146096 < n) (w : World) : Calls Tryd.prog 10 #[.int .i64 n] w fun e w' => e = .returned (.tuple #[.agg #[.int .i64 0, .int .i64 0, .int .i64 0], .int .i64 31]) ∧ Below w.heap.size w w' := by
  have hnc := fun W => hide (number_calls 2299 12 31 W)
  rw [show numR 2299 12 31 = 146096 by decide, show errR 2299 12 31 = 0 by decide] at hnc
  rcases h with h | h
  · go_enter Tryd.func10, Tryd.ntmps10
    go_wp2_with fail
    refine (unhide (hnc _)).mono ?_
    rintro e w1 ⟨rfl, hb1⟩
    have hb2 := ((Below.refl w.heap.size w).alloc (Nat.le_refl _) (.cells #[.int .i64 0, .int .i64 0, .int .i64 0] 23)).trans (hb1.mono (by simp))
    have b1 := (box3 w 23 0 0 0).below hb1 (by simp)
    have c0 := b1.cell 0
    have c1 := b1.cell 1
    have c2 := b1.cell 2
    have f0 := b1.frozen 0
    have f1 := b1.frozen 1
    have f2 := b1.frozen 2
    go_wp2
    exact bodyPost_ret (results_row_tmp rfl _ _ w.heap.size 23 #[.int .i64 0, .int .i64 0, .int .i64 0] (0, 0) _ rfl (((b1.set_ 0 (.int .i64 0)).set_ 1 (.int .i64 0)).set_ 2 (.int .i64 0)) Tryd.underlying23 rfl (by kernel_rfl)) rfl
      ⟨rfl, ((hb2.setCell (by simp) _).setCell (by simp) _).setCell (by simp) _⟩
  · have h0 : ¬ n < 0 := by omega
    go_enter Tryd.func10, Tryd.ntmps10
    go_wp2_with fail
    refine (unhide (hnc _)).mono ?_
    rintro e w1 ⟨rfl, hb1⟩
    have hb2 := ((Below.refl w.heap.size w).alloc (Nat.le_refl _) (.cells #[.int .i64 0, .int .i64 0, .int .i64 0] 23)).trans (hb1.mono (by simp))
    have b1 := (box3 w 23 0 0 0).below hb1 (by simp)
    have c0 := b1.cell 0
    have c1 := b1.cell 1
    have c2 := b1.cell 2
    have f0 := b1.frozen 0
    have f1 := b1.frozen 1
    have f2 := b1.frozen 2
    go_wp2
    exact bodyPost_ret (results_row_tmp rfl _ _ w.heap.size 23 #[.int .i64 0, .int .i64 0, .int .i64 0] (0, 0) _ rfl (((b1.set_ 0 (.int .i64 0)).set_ 1 (.int .i64 0)).set_ 2 (.int .i64 0)) Tryd.underlying23 rfl (by kernel_rfl)) rfl
      ⟨rfl, ((hb2.setCell (by simp) _).setCell (by simp) _).setCell (by simp) _⟩

set_option maxHeartbeats 4000000 in
theorem of_in1 (n : Int) (h0 : 0 ≤ n) (h1 : n ≤ 146096) (hlt : ¬ 12 < oM ((n + 693901) % 146097) + 3) (w : World) : Calls Tryd.prog 10 #[.int .i64 n] w fun e w' => e = .returned (.tuple #[.agg #[.int .i64 (dY n), .int .i64 (dM n), .int .i64 (dD n)], .int .i64 0]) ∧ Below w.heap.size w w' := by
  have hnc := fun W => hide (number_calls 2299 12 31 W)
  rw [show numR 2299 12 31 = 146096 by decide, show errR 2299 12 31 = 0 by decide] at hnc
  have hob := o_bd ((n + 693901) % 146097) (by omega) (by omega)
  have hA : 4 ≤ (n + 693901) / 146097 ∧ (n + 693901) / 146097 ≤ 5 := by omega
  have eY : dY n = 400 * ((n + 693901) / 146097) + oY ((n + 693901) % 146097) := if_neg hlt
  have eM : dM n = oM ((n + 693901) % 146097) + 3 := if_neg hlt
  rw [eY, eM]
  clear eY eM
  have hk : decide (12 < oM ((n + 693901) % 146097) + 3) = false := by simp; omega
  clear hlt
  unfold dD oD
  unfold oD at hob
  unfold oM at hob hk ⊢
  unfold oT at hob hk ⊢
  unfold oY at hob hk ⊢
  obtain ⟨o1, o2, o3, o4, o5, o6, o7, o8⟩ := hob
  obtain ⟨a1, a2⟩ := hA
  go_enter Tryd.func10, Tryd.ntmps10
  go_wp2_with fail
  refine (unhide (hnc _)).mono ?_
  rintro e w1 ⟨rfl, hb1⟩
  have hb2 := ((Below.refl w.heap.size w).alloc (Nat.le_refl _) (.cells #[.int .i64 0, .int .i64 0, .int .i64 0] 23)).trans (hb1.mono (by simp))
  have b1 := (box3 w 23 0 0 0).below hb1 (by simp)
  have c0 : w1.cell? ⟨w.heap.size, 0, none⟩ = some (.int .i64 0) := b1.cell 0
  have c1 : w1.cell? ⟨w.heap.size, 1, none⟩ = some (.int .i64 0) := b1.cell 1
  have c2 : w1.cell? ⟨w.heap.size, 2, none⟩ = some (.int .i64 0) := b1.cell 2
  have f0 := b1.frozen 0
  have f1 := b1.frozen 1
  have f2 := b1.frozen 2
  have hs1 : w.heap.size < w1.heap.size := b1.lt
  go_wp2_with fail
  refine bodyPost_ret (results_row_tmp rfl _ _ w.heap.size 23 #[_, _, _] (0, 0) _ rfl (Blk.eq_ ((((b1.set_ 0 _).set_ 1 _).set_ 2 _).alloc _) rfl) Tryd.underlying23 rfl (by kernel_rfl)) rfl ⟨rfl, ?_⟩
  exact (((hb2.setCell (by simp) _).setCell (by simp) _).setCell (by simp) _).alloc (by simp; omega) _

set_option maxHeartbeats 4000000 in
theorem of_in2 (n : Int) (h0 : 0 ≤ n) (h1 : n ≤ 146096) (hlt : 12 < oM ((n + 693901) % 146097) + 3) (w : World) : Calls Tryd.prog 10 #[.int .i64 n] w fun e w' => e = .returned (.tuple #[.agg #[.int .i64 (dY n), .int .i64 (dM n), .int .i64 (dD n)], .int .i64 0]) ∧ Below w.heap.size w w' := by
  have hnc := fun W => hide (number_calls 2299 12 31 W)
  rw [show numR 2299 12 31 = 146096 by decide, show errR 2299 12 31 = 0 by decide] at hnc
  have hob := o_bd ((n + 693901) % 146097) (by omega) (by omega)
  have hA : 4 ≤ (n + 693901) / 146097 ∧ (n + 693901) / 146097 ≤ 5 := by omega
  have eY : dY n = 400 * ((n + 693901) / 146097) + oY ((n + 693901) % 146097) + 1 := if_pos hlt
  have eM : dM n = oM ((n + 693901) % 146097) + 3 - 12 := if_pos hlt
  rw [eY, eM]
  clear eY eM
  have hk : decide (12 < oM ((n + 693901) % 146097) + 3) = true := by simp; omega
  clear hlt
  unfold dD oD
  unfold oD at hob
  unfold oM at hob hk ⊢
  unfold oT at hob hk ⊢
  unfold oY at hob hk ⊢
  obtain ⟨o1, o2, o3, o4, o5, o6, o7, o8⟩ := hob
  obtain ⟨a1, a2⟩ := hA
  go_enter Tryd.func10, Tryd.ntmps10
  go_wp2_with fail
  refine (unhide (hnc _)).mono ?_
  rintro e w1 ⟨rfl, hb1⟩
  have hb2 := ((Below.refl w.heap.size w).alloc (Nat.le_refl _) (.cells #[.int .i64 0, .int .i64 0, .int .i64 0] 23)).trans (hb1.mono (by simp))
  have b1 := (box3 w 23 0 0 0).below hb1 (by simp)
  have c0 : w1.cell? ⟨w.heap.size, 0, none⟩ = some (.int .i64 0) := b1.cell 0
  have c1 : w1.cell? ⟨w.heap.size, 1, none⟩ = some (.int .i64 0) := b1.cell 1
  have c2 : w1.cell? ⟨w.heap.size, 2, none⟩ = some (.int .i64 0) := b1.cell 2
  have f0 := b1.frozen 0
  have f1 := b1.frozen 1
  have f2 := b1.frozen 2
  have hs1 : w.heap.size < w1.heap.size := b1.lt
  go_wp2_with fail
  refine bodyPost_ret (results_row_tmp rfl _ _ w.heap.size 23 #[_, _, _] (0, 0) _ rfl (Blk.eq_ ((((b1.set_ 0 _).set_ 1 _).set_ 2 _).alloc _) rfl) Tryd.underlying23 rfl (by kernel_rfl)) rfl ⟨rfl, ?_⟩
  exact (((hb2.setCell (by simp) _).setCell (by simp) _).setCell (by simp) _).alloc (by simp; omega) _

end Go.Proofs.YtnjjkehoabghhaaDoor
