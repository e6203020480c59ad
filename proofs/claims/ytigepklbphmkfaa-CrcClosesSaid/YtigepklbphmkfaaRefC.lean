/- The walks of the document's register: Start, Of, Close. -/
import Derived.Test.YtigepklbphmkfaaMath2
namespace Go.Proofs.Ytigepklbphmkfaa
open Go.RowKit

theorem ones_bits (i : Nat) (h : i < 32) : bitsOf 4294967295 i = 1 := by
  unfold bitsOf
  have : ∀ j, j < 32 → 4294967295 / 2 ^ j % 2 = 1 := by decide
  exact this i h

set_option maxHeartbeats 1000000 in
theorem rstart_calls (w : World) : Calls Try.prog 25 #[] w fun e w' => e = .returned (.agg (encB (bitsOf 4294967295))) ∧ Below w.heap.size w w' := by
  have hz0 := hide (info25 (fun _ => 0))
  have hz1 : encB (fun _ => 0) = (List.replicate 32 (Value.int .i64 0)).toArray := rfl
  have hz2 := hide (encB_one (fun _ => 0))
  rw [hz1] at hz0 hz2
  clear hz1
  go_enter Try.func25, Try.ntmps25
  go_wp2_with (refine wpList_store_row rfl rfl 25 _ _ rfl (w.heap.size + 1) (List.replicate 32 (Value.int .i64 0)).toArray rfl rfl 25 (List.replicate 32 (Value.int .i64 0)).toArray (Blk.of_size (by simp)) hz0.out rfl hz2.out ?_)
  go_loopw [4] (fun i wr => ∃ k : Nat, k ≤ 32 ∧ i = .int .i64 k ∧ (∃ z, Blk wr w.heap.size 25 z ∧ z.size = 32) ∧ Blk wr (w.heap.size + 1) 25 (encB (fun j => if j < k then 1 else 0)) ∧ Below w.heap.size w wr) (fun i _ => 32 - (intOf i).toNat)
  case atStart =>
    refine ⟨0, by omega, rfl, ⟨_, ((Blk.of_size rfl).alloc _).setRow_other _ _ (by omega), rfl⟩, ((Blk.of_size (by simp)).setRow _).eq_ (encB_nil (fun i _ => if_neg (by omega))).symm, ?_⟩
    exact (((Below.refl _ _).alloc (Nat.le_refl _) _).alloc (by simp) _).trans (below_setRow (Below.refl _ _) (by omega) _)
  case round =>
    obtain ⟨k, hk, rfl, ⟨z, b1, hz⟩, b0, hbel⟩ := hrel
    by_cases hlt : k < 32
    · have hd : decide ((k : Int) < 32) = true := by simp; omega
      have hc2 := (b0.cell k).trans (encB_get _ k hlt)
      have hf2 := b0.frozen k
      go_wp2
      refine ⟨⟨k + 1, by omega, by go_num, ⟨z, b1.far (by simp) _, hz⟩, (b0.set_ k _).eq_ ?_, hbel.setCell (by simp) _⟩, by simp [intOf]; omega⟩
      rw [show (Value.int IntKind.i64 1) = Value.int IntKind.i64 ((1 : Nat) : Int) from rfl, encB_set]
      apply encB_congr
      intro i _
      unfold at_
      by_cases h : i = k
      · subst h; simp
      · by_cases h2 : i < k
        · rw [if_neg h]; show (if i < k then 1 else 0) = _; rw [if_pos h2, if_pos (by omega)]
        · rw [if_neg h]; show (if i < k then 1 else 0) = _; rw [if_neg h2, if_neg (by omega)]
    · obtain rfl : k = 32 := by omega
      have b2 := b0.eq_ (encB_congr (g := bitsOf 4294967295) fun i hi => (if_pos hi).trans (ones_bits i hi).symm)
      clear b0
      have hs2 := hide (info25 (bitsOf 4294967295))
      have hbel' := (hbel.trans (below_setRow (Below.refl _ _) (g := w.heap.size) (Nat.le_refl _) (encB (bitsOf 4294967295))))
      have b1' := b1.setRow (encB (bitsOf 4294967295))
      clear hlt
      go_wp2_with (first | (refine wpList_load_row rfl 25 _ rfl (w.heap.size + 1) rfl 25 (encB (bitsOf 4294967295)) (0, 0) (.array 32 3) b2 Try.underlying25 rfl hs2.out ?_) | (refine wpList_store_row rfl rfl 25 _ _ rfl w.heap.size (encB (bitsOf 4294967295)) rfl rfl 25 z b1 hs2.out (hz.trans (encB_size _).symm) (encB_one _) ?_))
      refine bodyPost_ret (results_cell_row rfl _ _ w.heap.size 25 (encB (bitsOf 4294967295)) (0, 0) (.array 32 3) rfl b1' Try.underlying25 rfl hs2.out) rfl ⟨rfl, hbel'⟩

theorem radd_bits (r : Nat) (hr : r < 4294967296) (bs : List Nat) (hbs : ∀ x ∈ bs, x < 256) (A : Option Addr) (n c : Nat) (w : World) (hR : Reads w w.heap.size 1 A n (enc8 bs)) (hn : n ≤ 100000) :
    Calls Try.prog 10 #[.agg (encB (bitsOf r)), .slice A n c] w fun e w' => e = .returned (.agg (encB (bitsOf (addL r bs)))) ∧ Below w.heap.size w w' := by
  have h := radd_calls (bitsOf r) (bitsOf_bits r) bs hbs A n c w hR hn
  rw [encB_congr (inL_bitsOf bs r hr hbs)] at h
  exact h

set_option maxHeartbeats 1000000 in
theorem of_calls (bs : List Nat) (hbs : ∀ x ∈ bs, x < 256) (A : Option Addr) (n c : Nat) (w : World) (hR : Reads w w.heap.size 1 A n (enc8 bs)) (hn : n ≤ 100000) :
    Calls Try.prog 24 #[.slice A n c] w fun e w' => e = .returned (.int .u32 (sumOf bs : Nat)) ∧ Below w.heap.size w w' := by
  have ha := addL_lt (r := 4294967295) (by omega) hbs
  have hE : Hid ((4294967295 : Int) - (addL 4294967295 bs : Nat) = (sumOf bs : Nat)) := by unfold sumOf Hid; omega
  go_enter Try.func24, Try.ntmps24
  go_wp2_with fail
  refine (rstart_calls _).mono ?_
  rintro e w1 ⟨rfl, hb1⟩
  have hR1 := (hR.below hb1).more hb1.size
  go_wp2_with fail
  refine (radd_bits 4294967295 (by omega) bs hbs A n c _ hR1 hn).mono ?_
  rintro e w2 ⟨rfl, hb2⟩
  have hb2' := hb1.trans (hb2.mono hb1.size)
  generalize addL 4294967295 bs = X at *
  go_wp2_with fail
  refine (number_calls X ha _).mono ?_
  rintro e w3 ⟨rfl, hb3⟩
  have hb3' := hb2'.trans (hb3.mono hb2'.size)
  clear hR1 hb1 hb2 hb3 hb2'
  go_wp2
  go_ret
  exact ⟨ret_int hE.out, hb3'⟩

theorem Reads.row (w : World) (l : List Value) (n : Nat) (hn : l.length = n) : Reads (w.alloc (.cells l.toArray 5)) (w.heap.size + 1) 1 (some ⟨w.heap.size, 0, none⟩) n l := by
  refine ⟨by omega, fun _ => ⟨_, rfl, by simp, fun j u hu => ?_⟩⟩
  have : (⟨w.heap.size, 0, none⟩ : Addr).add j = ⟨w.heap.size, j, none⟩ := by unfold Addr.add; split <;> simp_all
  rw [this, (Blk.new w 5 l.toArray).cell j]
  simpa using hu

set_option maxHeartbeats 1000000 in
theorem rclose_calls (bs : List Nat) (hbs : ∀ x ∈ bs, x < 256) (A : Option Addr) (n c : Nat) (w : World) (hR : Reads w w.heap.size 1 A n (enc8 bs)) (hn : n ≤ 100000) :
    Calls Try.prog 17 #[.slice A n c] w fun e w' => ∃ v, e = .returned v ∧ w'.ownsRow w.heap.size 5 1 v (n + 4) (enc8 (bs ++ tl (sumOf bs))) ∧ Below w.heap.size w w' := by
  have hm : n + 4 ≤ maxLen := by unfold maxLen; omega
  obtain ⟨i0, hi, hz0, hz1, hz2⟩ := info_parts info5
  have hs := sumOf_lt bs
  have hT : Hid (enc8 (tl (sumOf bs)) = [.int .u8 ((sumOf bs : Int) % 256), .int .u8 ((sumOf bs : Int) / 256 % 256), .int .u8 ((sumOf bs : Int) / 65536 % 256), .int .u8 ((sumOf bs : Int) / 16777216)]) := by
    unfold Hid; simp [enc8, tl]
  go_enter Try.func17, Try.ntmps17
  go_wp2_with fail
  refine (of_calls bs hbs A n c w hR hn).mono ?_
  rintro e w1 ⟨rfl, hb1⟩
  have hs1 := hb1.size
  have hR1 := hR.below hb1
  have hown : ∀ W : World, w.heap.size ≤ W.heap.size → (W.alloc (.cells #[] 5)).ownsRow w.heap.size 5 1 (.slice (some ⟨W.heap.size, 0, none⟩) 0 0) 0 [] := fun W h =>
    ⟨rfl, Or.inr ⟨W.heap.size, 0, #[], rfl, h, Blk.new W 5 #[], Nat.le_refl _, by omega, rfl, rfl⟩⟩
  have hown1 := hown w1 hs1
  clear hown
  have hh : ∀ k, (some w1.heap.size : Option Nat) = some k → w.heap.size ≤ k := fun k h => by injection h; omega
  go_wp2_with (first
    | (at_builtin; refine wpList_append_any _ rfl (.tmp 6) (.tmp 7) 23 rfl w.heap.size 5 i0 (.int .u8 0) 1 1 Try.underlying23 hi hz0 hz1 hz2 rfl (by omega) _ 0 [] rfl hown1 w.heap.size A n c (enc8 bs) rfl (hR1.alloc hs1 _) (enc8_one _) (by omega) (by omega) (by simp; omega) ?_; intro v4 w4 hown4 hg4 _)
    | (at_builtin; refine wpList_append_any _ rfl (.tmp 8) (.tmp 23) 23 rfl w.heap.size 5 i0 (.int .u8 0) 1 1 Try.underlying23 hi hz0 hz1 hz2 rfl (by omega) _ (0 + n) ([] ++ enc8 bs) rfl (hown4.alloc _) (w4.heap.size + 1) _ 4 4 _ rfl (Reads.row w4 [_, _, _, _] 4 rfl) (by simp [Value.oneCell']) (by omega) (by omega) (by have := hg4.size; simp at this ⊢; omega) ?_; intro v5 w5 hown5 hg5 _))
  go_ret
  have hb4 : Below w.heap.size w w4 := (hb1.alloc hs1 (.cells #[] 5)).grown hg4 (by simp; omega) hh
  refine ⟨v5, rfl, ?_, ?_⟩
  · rw [enc8_append, hT.out]
    simpa using hown5
  · refine (hb4.alloc hb4.size _).grown hg5 (by have := hb4.size; simp; omega) (fun k hk => ?_)
    rcases hown4.2 with ⟨rfl, _⟩ | ⟨g, cap, cur, rfl, hg, _⟩
    · cases hk
    · have hk' : some g = some k := hk
      injection hk' with hk'
      omega
end Go.Proofs.Ytigepklbphmkfaa
