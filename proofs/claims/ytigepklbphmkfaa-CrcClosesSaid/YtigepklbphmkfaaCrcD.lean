/- The walks of package crc: tail, Close, Open. -/
import Derived.Test.YtigepklbphmkfaaCrcA
import Derived.Test.YtigepklbphmkfaaArr
import Derived.OwnWalk
namespace Go.Proofs.Ytigepklbphmkfaa
open Go.RowKit

def tl (s : Nat) : List Nat := [s % 256, s / 256 % 256, s / 65536 % 256, s / 16777216]
def sumOf (l : List Nat) : Nat := 4294967295 - addL 4294967295 l
theorem sumOf_lt (l : List Nat) : sumOf l < 4294967296 := by unfold sumOf; omega
theorem tl_lt (s : Nat) (hs : s < 4294967296) : ∀ x ∈ tl s, x < 256 := by
  intro x hx
  simp [tl] at hx
  omega
theorem enc8_append (a b : List Nat) : enc8 (a ++ b) = enc8 a ++ enc8 b := by simp [enc8]
theorem enc8_length (a : List Nat) : (enc8 a).length = a.length := by simp [enc8]
theorem enc8_one (a : List Nat) : ∀ u ∈ enc8 a, u.oneCell' = true := by
  intro u hu
  simp [enc8] at hu
  obtain ⟨x, _, rfl⟩ := hu
  rfl
theorem info5 : (Try.prog.info? 5).map (fun i => (i.zero, i.size, i.bytes)) = some (some (.int .u8 0), 1, 1) := by kernel_rfl

set_option maxHeartbeats 400000 in
theorem tail_calls (s : Nat) (hs : s < 4294967296) (w : World) : Calls Try.prog 23 #[.int .u32 s] w fun e w' => e = .returned (.slice (some ⟨w.heap.size, 0, none⟩) 4 4) ∧ w.alloc (.cells (enc8 (tl s)).toArray 5) = w' := by
  go_enter Try.func23, Try.ntmps23
  go_wp2
  go_ret
  exact ⟨rfl, by simp [enc8, tl]⟩

theorem Reads.alloc4 (w : World) (s : Nat) : Reads (w.alloc (.cells (enc8 (tl s)).toArray 5)) (w.heap.size + 1) 1 (some ⟨w.heap.size, 0, none⟩) 4 (enc8 (tl s)) := by
  refine ⟨by simp [enc8, tl], fun _ => ⟨_, rfl, by simp, fun j u hu => ?_⟩⟩
  have : (⟨w.heap.size, 0, none⟩ : Addr).add j = ⟨w.heap.size, j, none⟩ := by unfold Addr.add; split <;> simp_all
  rw [this, (Blk.new w 5 (enc8 (tl s)).toArray).cell j]
  simpa using hu

set_option maxHeartbeats 400000 in
theorem close_calls (bs : List Nat) (hbs : ∀ x ∈ bs, x < 256) (A : Option Addr) (n c : Nat) (w : World) (hR : Reads w w.heap.size 1 A n (enc8 bs)) (hn : n ≤ 100000) :
    Calls Try.prog 16 #[.slice A n c] w fun e w' => ∃ v, e = .returned v ∧ w'.ownsRow w.heap.size 5 1 v (n + 4) (enc8 (bs ++ tl (sumOf bs))) ∧ Below w.heap.size w w' := by
  have hm : n + 4 ≤ maxLen := by unfold maxLen; omega
  obtain ⟨i0, hi, hz0, hz1, hz2⟩ := info_parts info5
  go_enter Try.func16, Try.ntmps16
  go_wp2_with (first
    | (at_make; refine wpList_make_own _ rfl _ _ 23 rfl w.heap.size 5 i0 (.int .u8 0) 1 Try.underlying23 hi hz0 hz1 .i64 .i64 _ (n + 4) rfl rfl (by omega) (by rw [hz2]; omega) hm (by simp) ?_; intro w1 hown1 hg1)
    | (at_builtin; refine wpList_append_any _ rfl (.tmp 8) (.tmp 9) 23 rfl w.heap.size 5 i0 (.int .u8 0) 1 1 Try.underlying23 hi hz0 hz1 hz2 rfl (by omega) _ 0 [] rfl hown1 w.heap.size A n c (enc8 bs) rfl (hR.below ((Below.refl _ _).grown hg1 (Nat.le_refl _) (fun _ h => by cases h))) (enc8_one bs) (by omega) (by omega) (by have := hg1.size; omega) ?_; intro v2 w2 hown2 hg2 _)
    | (go_at_call 12; refine (start_calls _).mono ?_; rintro e wx ⟨rfl, rfl⟩))
  have hg2' : w1.grownBy w2 (some w.heap.size) := hg2
  clear hg2
  have hb2 : Below w.heap.size w w2 := ((Below.refl _ _).grown hg1 (Nat.le_refl _) (fun _ h => by cases h)).grown hg2' (by have := hg1.size; omega) (fun k h => by injection h; omega)
  have hsz2 := hb2.size
  have ha := addL_lt (r := 4294967295) (l := bs) (by omega) hbs
  refine (add_calls 4294967295 (by omega) bs hbs w.heap.size A n c w2 (hR.below hb2) (by omega)).mono ?_
  rintro e w3 ⟨rfl, rfl⟩
  go_wp2_with fail
  refine (sum_calls _ ha _).mono ?_
  rintro e w3 ⟨rfl, rfl⟩
  go_wp2_with fail
  refine (tail_calls (sumOf bs) (sumOf_lt bs) _).mono ?_
  rintro e w3 ⟨rfl, rfl⟩
  go_wp2_with (at_builtin; refine wpList_append_any _ rfl (.tmp 10) (.tmp 15) 23 rfl w.heap.size 5 i0 (.int .u8 0) 1 1 Try.underlying23 hi hz0 hz1 hz2 rfl (by omega) _ (0 + n) ([] ++ enc8 bs) rfl (hown2.alloc _) (w2.heap.size + 1) _ 4 4 (enc8 (tl (sumOf bs))) rfl (Reads.alloc4 w2 _) (enc8_one _) (by omega) (by omega) (by simp; omega) ?_; intro v4 w4 hown4 hg4 _)
  go_ret
  refine ⟨v4, rfl, ?_, ?_⟩
  · rw [enc8_append]
    simpa using hown4
  · refine (hb2.alloc hsz2 _).grown hg4 (by simp; omega) (fun k hk => ?_)
    rcases hown2.2 with ⟨rfl, _⟩ | ⟨g, cap, cur, rfl, hg, _⟩
    · cases hk
    · injection hk with hk
      subst hk
      exact hg
end Go.Proofs.Ytigepklbphmkfaa
