/- The walk of CrcAdds. -/
import Derived.Test.YtigepklbphmkfaaMath2
import Derived.Test.YtigepklbphmkfaaCrcF
namespace Go.Proofs.Ytigepklbphmkfaa
open Go.RowKit

theorem radd_bits (r : Nat) (hr : r < 4294967296) (bs : List Nat) (hbs : ∀ x ∈ bs, x < 256) (A : Option Addr) (n c : Nat) (w : World) (hR : Reads w w.heap.size 1 A n (enc8 bs)) (hn : n ≤ 100000) :
    Calls Try.prog 10 #[.agg (encB (bitsOf r)), .slice A n c] w fun e w' => e = .returned (.agg (encB (bitsOf (addL r bs)))) ∧ Below w.heap.size w w' := by
  have h := radd_calls (bitsOf r) (bitsOf_bits r) bs hbs A n c w hR hn
  rw [encB_congr (inL_bitsOf bs r hr hbs)] at h
  exact h

theorem reg_bit (r k : Nat) (h : r < 4294967296) : (wrap64 ((r : Int) / 2 ^ k)).tmod 2 = ((bitsOf r k : Nat) : Int) := by
  have e : (r : Int) / 2 ^ k = ((r / 2 ^ k : Nat) : Int) := by simp
  have hl : r / 2 ^ k ≤ r := Nat.div_le_self _ _
  unfold bitsOf
  rw [e]
  generalize r / 2 ^ k = y at *
  rw [show wrap64 (y : Int) = (y : Int) by unfold wrap64; omega, Int.tmod_eq_emod_of_nonneg (Int.natCast_nonneg _)]
  rfl

set_option maxHeartbeats 1000000 in
theorem adds_calls (r : Nat) (hr : r < 4294967296) (bs : List Nat) (hbs : ∀ x ∈ bs, x < 256) (A : Option Addr) (n c : Nat) (w : World) (hR : Reads w w.heap.size 1 A n (enc8 bs)) :
    Calls Try.prog 3 #[.int .u32 r, .slice A n c] w fun e w' => e = .returned (.bool true) ∧ Below w.heap.size w w' := by
  by_cases hn : 300 < n
  · go_enter Try.func3, Try.ntmps3
    go_wp2_with fail
    refine (alive_calls _).mono ?_
    rintro e w1 ⟨rfl, hb1⟩
    go_wp2
    go_ret
    exact ⟨rfl, hb1⟩
  · have hz0 := hide (info25 (fun _ => 0))
    have hz1 : encB (fun _ => 0) = (List.replicate 32 (Value.int .i64 0)).toArray := rfl
    have hz2 := hide (encB_one (fun _ => 0))
    rw [hz1] at hz0 hz2
    clear hz1
    have hd : decide (300 < (n : Int)) = false := by simp; omega
    go_enter Try.func3, Try.ntmps3
    go_wp2_with fail
    refine (alive_calls _).mono ?_
    rintro e w1 ⟨rfl, hb1⟩
    have hs1 := hb1.size
    go_wp2_with (refine wpList_store_row rfl rfl 25 _ _ rfl w1.heap.size (List.replicate 32 (Value.int .i64 0)).toArray rfl rfl 25 (List.replicate 32 (Value.int .i64 0)).toArray (Blk.of_size (by simp)) hz0.out rfl hz2.out ?_)
    go_loopw [15] (fun i wr => ∃ k : Nat, k ≤ 32 ∧ i = .int .i64 k ∧ Blk wr w1.heap.size 25 (encB (fun j => if j < k then bitsOf r j else 0)) ∧ Below w.heap.size w wr) (fun i _ => 32 - (intOf i).toNat)
    case atStart =>
      exact ⟨0, by omega, rfl, ((Blk.of_size rfl).setRow _).eq_ (encB_nil (fun i _ => if_neg (by omega))).symm, (hb1.alloc hs1 _).trans (below_setRow (Below.refl _ _) hs1 _)⟩
    case round =>
      obtain ⟨k, hk, rfl, b0, hbel⟩ := hrel
      by_cases hlt : k < 32
      · have hd : decide ((k : Int) < 32) = true := by simp; omega
        have hc2 := (b0.cell k).trans (encB_get _ k hlt)
        have hf2 := b0.frozen k
        go_wp2
        refine ⟨⟨k + 1, by omega, by go_num, (b0.set_ k _).eq_ ?_, hbel.setCell (by simp; omega) _⟩, by simp [intOf]; omega⟩
        rw [reg_bit r k hr, encB_set]
        apply encB_congr
        intro i _
        unfold at_
        by_cases h : i = k
        · subst h; simp
        · by_cases h2 : i < k
          · rw [if_neg h]; show (if i < k then bitsOf r i else 0) = _; rw [if_pos h2, if_pos (by omega)]
          · rw [if_neg h]; show (if i < k then bitsOf r i else 0) = _; rw [if_neg h2, if_neg (by omega)]
      · obtain rfl : k = 32 := by omega
        have b1 := b0.eq_ (encB_congr (g := bitsOf r) fun i hi => if_pos hi)
        have hsz := hbel.size
        have hi2 := hide (info25 (bitsOf r))
        have ha := addL_lt hr hbs
        have hadd := hide (add_calls r hr bs hbs w.heap.size A n c wr (hR.below hbel) (by omega))
        have hradd := hide (radd_bits r hr bs hbs A n c wr ((hR.below hbel).more hsz) (by omega))
        have hnum := fun W => hide (number_calls _ ha W)
        have hsum := fun W => hide (sum_calls _ ha W)
        generalize addL r bs = X at *
        clear b0 hlt hz0 hz2 hR
        go_wp2_with fail
        refine (unhide hadd).mono ?_
        rintro e w2 ⟨rfl, rfl⟩
        go_wp2_with (refine wpList_load_row rfl 25 _ rfl w1.heap.size rfl 25 (encB (bitsOf r)) (0, 0) (.array 32 3) b1 Try.underlying25 rfl hi2.out ?_)
        refine (unhide hradd).mono ?_
        rintro e w3 ⟨rfl, hb3⟩
        have hb3' := hbel.trans (hb3.mono hsz)
        clear hb3 hbel b1 hadd hradd
        go_wp2_with fail
        refine (unhide (hnum _)).mono ?_
        rintro e w4 ⟨rfl, hb4⟩
        have hb4' := hb3'.trans (hb4.mono hb3'.size)
        clear hb4 hb3'
        go_wp2_with fail
        refine (unhide (hsum _)).mono ?_
        rintro e w5 ⟨rfl, rfl⟩
        have he : ((4294967295 - X : Nat) : Int) = 4294967295 - (X : Int) := by omega
        rw [he]
        go_wp2
        go_ret
        exact ⟨rfl, hb4'⟩
end Go.Proofs.Ytigepklbphmkfaa
