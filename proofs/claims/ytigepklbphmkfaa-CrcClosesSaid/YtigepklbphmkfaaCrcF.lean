/- The walk of the statements' own test that the package is alive. -/
import Derived.Test.YtigepklbphmkfaaMath
import Derived.Lib.SlBytesConst
namespace Go.Proofs.Ytigepklbphmkfaa
open Go.RowKit

theorem Reads.lit (w : World) (l : List Nat) (fr : Nat × Nat) : Reads (w.alloc (.cells (enc8 l).toArray 5 fr)) (w.heap.size + 1) 1 (some ⟨w.heap.size, 0, none⟩) l.length (enc8 l) := by
  refine ⟨by simp [enc8], fun _ => ⟨_, rfl, by simp, fun j u hu => ?_⟩⟩
  have : (⟨w.heap.size, 0, none⟩ : Addr).add j = ⟨w.heap.size, j, none⟩ := by unfold Addr.add; split <;> simp_all
  rw [this, cell_of_row _ w.heap.size j (enc8 l).toArray 5 fr (heap_alloc_new w _)]
  simpa using hu

set_option maxHeartbeats 1000000 in
theorem alive_calls (w : World) : Calls Try.prog 7 #[] w fun e w' => e = .returned (.bool true) ∧ Below w.heap.size w w' := by
  have kc := fun (w : World) (C : Array Value) (n c : Nat) => Lib.run_convert_bytes_const (P := Try.prog) w 23 5 C n c Try.underlying23 Try.underlying5
  go_enter Try.func7, Try.ntmps7
  go_wp2_with (go_at_call 12; refine (start_calls _).mono ?_; rintro e wx ⟨rfl, rfl⟩)
  refine (add_calls 4294967295 (by omega) [49, 50, 51, 52] (by decide) _ _ _ _ _ (Reads.lit w _ _) (by decide)).mono ?_
  rintro e w1 ⟨rfl, rfl⟩
  have hb1 : Below w.heap.size w (w.alloc (.cells (enc8 [49, 50, 51, 52]).toArray 5 (4, 5))) := (Below.refl _ _).alloc (Nat.le_refl _) _
  have hs1 : w.heap.size ≤ (w.alloc (.cells (enc8 [49, 50, 51, 52]).toArray 5 (4, 5))).heap.size := by simp
  generalize hW1 : w.alloc (.cells (enc8 [49, 50, 51, 52]).toArray 5 (4, 5)) = W1 at *
  clear hW1
  go_wp2_with (go_at_call 12; refine (start_calls _).mono ?_; rintro e wx ⟨rfl, rfl⟩)
  refine (add_calls 4294967295 (by omega) [53, 54, 55, 56, 57] (by decide) _ _ _ _ _ (Reads.lit W1 _ _) (by decide)).mono ?_
  rintro e w1 ⟨rfl, rfl⟩
  have hb2 := hb1.alloc hs1 (.cells (enc8 [53, 54, 55, 56, 57]).toArray 5 (5, 6))
  have hs2 : w.heap.size ≤ (W1.alloc (.cells (enc8 [53, 54, 55, 56, 57]).toArray 5 (5, 6))).heap.size := by simp; omega
  generalize hW2 : W1.alloc (.cells (enc8 [53, 54, 55, 56, 57]).toArray 5 (5, 6)) = W2 at *
  clear hW2 hb1 hs1
  have hl : addL 4294967295 [49, 50, 51, 52] < 4294967296 := addL_lt (by omega) (by decide)
  have hl2 : addL 4294967295 [53, 54, 55, 56, 57] < 4294967296 := addL_lt (by omega) (by decide)
  have hs3 := hide (show 4294967295 - addL (addL 4294967295 [49, 50, 51, 52]) [53, 54, 55, 56, 57] = 3421780262 by decide +kernel)
  have hj := hide (show jl 5 zeroM (4294967295 - addL 4294967295 [49, 50, 51, 52]) ^^^ (4294967295 - addL 4294967295 [53, 54, 55, 56, 57]) = 3421780262 from (join_law [49, 50, 51, 52] [53, 54, 55, 56, 57] (by decide) (by decide)).trans alive_sum)
  generalize hx : addL 4294967295 [49, 50, 51, 52] = x at *
  generalize hy : addL 4294967295 [53, 54, 55, 56, 57] = y at *
  clear hx hy
  go_wp2_with fail
  refine (add_calls x hl [53, 54, 55, 56, 57] (by decide) _ _ _ _ _ (Reads.lit W2 _ _) (by decide)).mono ?_
  rintro e w1 ⟨rfl, rfl⟩
  have hb3 := hb2.alloc hs2 (.cells (enc8 [53, 54, 55, 56, 57]).toArray 5 (5, 6))
  have hs4 : w.heap.size ≤ (W2.alloc (.cells (enc8 [53, 54, 55, 56, 57]).toArray 5 (5, 6))).heap.size := by simp; omega
  generalize hW3 : W2.alloc (.cells (enc8 [53, 54, 55, 56, 57]).toArray 5 (5, 6)) = W3 at *
  clear hW3 hb2 hs2
  have hl3 : addL x [53, 54, 55, 56, 57] < 4294967296 := addL_lt hl (by decide)
  generalize hz : addL x [53, 54, 55, 56, 57] = z at *
  clear hz
  go_wp2_with fail
  refine (sum_calls z hl3 _).mono ?_
  rintro e w1 ⟨rfl, rfl⟩
  rw [hs3.out]
  go_wp2_with fail
  refine (sum_calls x hl _).mono ?_
  rintro e w1 ⟨rfl, rfl⟩
  go_wp2_with fail
  refine (sum_calls y hl2 _).mono ?_
  rintro e w1 ⟨rfl, rfl⟩
  have hlx : 4294967295 - x < 4294967296 := by omega
  have hly : 4294967295 - y < 4294967296 := by omega
  generalize hxx : 4294967295 - x = X at *
  generalize hyy : 4294967295 - y = Y at *
  clear hxx hyy
  go_wp2_with fail
  refine (join_calls X Y hlx hly 5 _ (by omega)).mono ?_
  rintro e w1 ⟨rfl, hb5⟩
  rw [show (5 : Int).toNat = 5 from rfl, hj.out]
  have hb6 := hb3.trans (hb5.mono hs4)
  clear hb5 hb3
  go_wp2
  go_ret
  exact ⟨rfl, hb6⟩
end Go.Proofs.Ytigepklbphmkfaa
