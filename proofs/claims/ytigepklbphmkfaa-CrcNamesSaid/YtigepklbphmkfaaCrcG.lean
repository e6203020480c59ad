/- The walk of CrcNames. -/
import Derived.Test.YtigepklbphmkfaaCrcE
import Derived.Test.YtigepklbphmkfaaCrcF
namespace Go.Proofs.Ytigepklbphmkfaa
open Go.RowKit

theorem Below.drewN' {B : Nat} {a w : World} (h : Below B a w) (n : Nat) : Below B a (w.drewN n) := ⟨h.os, h.tape, h.output, h.size, h.block⟩
theorem open_short' (A : Option Addr) (n c : Nat) (w : World) (hn : n < 4) :
    Calls Try.prog 14 #[.slice A n c] w fun e w' => e = .returned (.tuple #[.slice none 0 0, .bool false]) ∧ Below w.heap.size w w' :=
  (open_short A n c w hn).mono fun _ _ ⟨he, k, hk⟩ => ⟨he, by rw [hk]; exact Below.drewN' (Below.refl _ _) k⟩
theorem tl_nil : tl (sumOf []) = [0, 0, 0, 0] := by decide

set_option maxHeartbeats 1000000 in
theorem names_calls (w : World) : Calls Try.prog 5 #[] w fun e w' => e = .returned (.bool true) ∧ Below w.heap.size w w' := by
  go_enter Try.func5, Try.ntmps5
  go_wp2_with fail
  refine (open_short' _ 3 3 _ (by omega)).mono ?_
  rintro e w1 ⟨rfl, hb⟩
  have hb1 := ((Below.refl w.heap.size w).alloc (Nat.le_refl _) (.cells #[.int .u8 0, .int .u8 0, .int .u8 0] 5)).trans (hb.mono (by simp))
  have hs1 := hb1.size
  clear hb
  go_wp2_with fail
  have hc : ∀ j, j < 4 → (w1.alloc (.cells #[.int .u8 0, .int .u8 0, .int .u8 0, .int .u8 0] 5)).cell? ⟨w1.heap.size, j, none⟩ = some (.int .u8 0) := fun j hj => by
    rw [(Blk.new w1 5 _).cell j]
    match j, hj with
    | 0, _ => rfl
    | 1, _ => rfl
    | 2, _ => rfl
    | 3, _ => rfl
  refine (open_good [] (by simp) ⟨w1.heap.size, 0, none⟩ 0 4 _ (by omega) (by omega) ⟨rfl, fun h => absurd h (by omega)⟩ 0 0 0 0 (by simp) (hc 0 (by omega)) (hc 1 (by omega)) (hc 2 (by omega)) (hc 3 (by omega)) 0 0 0 0 tl_nil rfl).mono ?_
  rintro e w2 ⟨v, rfl, hown, hb2⟩
  have hb3 := (hb1.alloc hs1 (.cells #[.int .u8 0, .int .u8 0, .int .u8 0, .int .u8 0] 5)).trans (hb2.mono (by simp; omega))
  have hs3 := hb3.size
  clear hb1 hb2 hs1 hc
  obtain ⟨a, c, rfl⟩ : ∃ a c, v = .slice a 0 c := by
    rcases hown.2 with ⟨rfl, _⟩ | ⟨g, cap, cur, rfl, _⟩
    · exact ⟨_, _, rfl⟩
    · exact ⟨_, _, rfl⟩
  clear hown
  go_wp2_with fail
  refine (alive_calls _).mono ?_
  rintro e w4 ⟨rfl, hb4⟩
  have hb5 := hb3.trans (hb4.mono hs3)
  clear hb3 hb4 hs3
  go_wp2_with (first | (go_at_call 12; refine (start_calls _).mono ?_; rintro e wx ⟨rfl, rfl⟩) | (go_at_call 11; refine (sum_calls 4294967295 (by omega) _).mono ?_; rintro e wx ⟨rfl, rfl⟩))
  go_ret
  exact ⟨rfl, hb5⟩
end Go.Proofs.Ytigepklbphmkfaa
