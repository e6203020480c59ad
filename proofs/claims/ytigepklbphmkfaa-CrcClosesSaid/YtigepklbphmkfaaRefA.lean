/- The walks of the document's register: in. -/
import Derived.Test.YtigepklbphmkfaaMath
namespace Go.Proofs.Ytigepklbphmkfaa
open Go.RowKit

def encB (f : Nat → Nat) : Array Value := ((List.range 32).map fun i => Value.int .i64 (Int.ofNat (f i))).toArray
theorem encB_size (f : Nat → Nat) : (encB f).size = 32 := by simp [encB]
theorem encB_get (f : Nat → Nat) (i : Nat) (h : i < 32) : (encB f)[i]? = some (Value.int .i64 (f i : Int)) := by simp [encB, h]
theorem encB_congr {f g : Nat → Nat} (h : ∀ i, i < 32 → f i = g i) : encB f = encB g := by
  unfold encB
  congr 1
  apply List.map_congr_left
  intro i hi
  rw [h i (by simpa using hi)]
theorem encB_set (f : Nat → Nat) (k x : Nat) : (encB f).setIfInBounds k (.int .i64 (x : Int)) = encB (at_ f k x) := by
  apply Array.ext_getElem?
  intro i
  unfold encB at_
  simp only [List.setIfInBounds_toArray, List.getElem?_toArray, List.getElem?_set, List.length_map, List.length_range]
  by_cases h : k = i
  · subst h
    by_cases hk : k < 32 <;> simp [hk]
  · rw [if_neg h]
    by_cases hi : i < 32
    · simp [hi, Ne.symm h]
    · simp [hi]
theorem encB_one (f : Nat → Nat) : (encB f).all (·.oneCell') = true := by
  rw [Array.all_eq_true_iff_forall_mem]
  intro v hv
  simp [encB] at hv
  obtain ⟨i, _, rfl⟩ := hv
  rfl
theorem encB_nil {f : Nat → Nat} (h : ∀ i, i < 32 → f i = 0) : encB f = (List.replicate 32 (Value.int .i64 0)).toArray := by
  rw [encB_congr (g := fun _ => 0) h]; rfl
theorem info25 (f : Nat → Nat) : (Try.prog.info? 25).map (·.size) = some (encB f).size := by rw [encB_size]; kernel_rfl

def told (f : Nat → Nat) (bit : Nat) : Nat := (f 0 + bit) % 2
def low (f : Nat → Nat) (k : Nat) : Nat → Nat := fun i => if i < k then f (i + 1) else 0
def flip (t : Nat) (g : Nat → Nat) (k : Nat) : Nat → Nat := fun i => if i < k ∧ t = 1 ∧ 3988292384 / 2 ^ i % 2 = 1 then 1 - g i else g i
def inF (f : Nat → Nat) (bit : Nat) : Nat → Nat := flip (told f bit) (low f 31) 32

theorem tap_int (k : Nat) : ((3988292384 : Int) / 2 ^ k).tmod 2 = ((3988292384 / 2 ^ k % 2 : Nat) : Int) := by
  have h : (3988292384 : Int) / 2 ^ k = ((3988292384 / 2 ^ k : Nat) : Int) := by simp
  rw [h, Int.tmod_eq_emod_of_nonneg (Int.natCast_nonneg _)]
  rfl

set_option maxHeartbeats 1000000 in
theorem in_calls (f : Nat → Nat) (hf : ∀ i, i < 32 → f i ≤ 1) (bit : Nat) (hb : bit ≤ 1) (w : World) :
    Calls Try.prog 19 #[.agg (encB f), .int .i64 bit] w fun e w' => e = .returned (.agg (encB (inF f bit))) ∧ Below w.heap.size w w' := by
  have hf0 := hf 0 (by omega)
  have he0 := encB_get f 0 (by omega)
  have ht : (((f 0 : Nat) : Int) + (bit : Int)) % 2 = ((told f bit : Nat) : Int) := by unfold told; omega
  have hz0 := hide (info25 (fun _ => 0))
  have hz1 : encB (fun _ => 0) = (List.replicate 32 (Value.int .i64 0)).toArray := rfl
  have hz2 := hide (encB_one (fun _ => 0))
  rw [hz1] at hz0 hz2
  clear hz1
  go_enter Try.func19, Try.ntmps19
  go_wp2_with (refine wpList_store_row rfl rfl 25 _ _ rfl (w.heap.size + 1 + 1) (List.replicate 32 (Value.int .i64 0)).toArray rfl rfl 25 (List.replicate 32 (Value.int .i64 0)).toArray (Blk.of_size (by simp)) hz0.out rfl hz2.out ?_)
  rw [ht]
  have htl : told f bit < 2 := Nat.mod_lt _ (by omega)
  generalize hTT : told f bit = t at ht htl ⊢
  have hT := hide hTT
  clear hTT
  go_loopw [7] (fun i wr => ∃ k : Nat, k ≤ 31 ∧ i = .int .i64 k ∧ Blk wr w.heap.size 25 (encB f) ∧ (∃ z, Blk wr (w.heap.size + 1) 25 z ∧ z.size = 32) ∧ Blk wr (w.heap.size + 1 + 1) 25 (encB (low f k)) ∧ Below w.heap.size w wr) (fun i _ => 31 - (intOf i).toNat)
  case atStart =>
    refine ⟨0, by omega, rfl, (((Blk.new w 25 _).alloc _).alloc _).setRow_other _ _ (by omega), ⟨_, ((Blk.of_size (by simp)).alloc _).setRow_other _ _ (by omega), rfl⟩, ((Blk.of_size (by simp)).setRow _).eq_ (encB_nil (fun i _ => if_neg (by omega))).symm, ?_⟩
    exact ((((Below.refl _ _).alloc (Nat.le_refl _) _).alloc (by simp) _).alloc (by simp; omega) _).trans (below_setRow (Below.refl _ _) (by omega) _)
  case round =>
    obtain ⟨k, hk, rfl, b0, ⟨z, b1, hz⟩, b2, hbel⟩ := hrel
    have hlt3 := b2.lt
    by_cases hlt : k < 31
    · have hd : decide ((k : Int) < 31) = true := by simp; omega
      have hc0 := (b0.cell (k + 1)).trans (encB_get f (k + 1) (by omega))
      have hc2 := (b2.cell k).trans (encB_get _ k (by omega))
      have hf2 := b2.frozen k
      have hk1 : ((k : Int) + 1).toNat = k + 1 := by omega
      go_wp2
      go_roundw
      case rel =>
        refine ⟨k + 1, by omega, by go_num, b0.far (by simp; omega) _, ⟨z, b1.far (by simp) _, hz⟩, (b2.set_ k _).eq_ ?_, hbel.setCell (by simp; omega) _⟩
        rw [encB_set]
        apply encB_congr
        intro i _
        unfold at_ low
        by_cases h : i = k
        · subst h; simp
        · by_cases h2 : i < k
          · rw [if_neg h, if_pos h2, if_pos (by omega)]
          · rw [if_neg h, if_neg h2, if_neg (by omega)]
      case measure => simp [intOf]; omega
    · obtain rfl : k = 31 := by omega
      have hg : ∀ i, i < 32 → low f 31 i ≤ 1 := fun i hi => by
        unfold low
        split
        · exact hf _ (by omega)
        · omega
      have hIn : Hid (inF f bit = flip t (low f 31) 32) := by rw [← hT.out]; rfl
      generalize low f 31 = g at *
      go_wp2
      go_loopw [25] (fun i wr => ∃ k : Nat, k ≤ 32 ∧ i = .int .i64 k ∧ Blk wr w.heap.size 25 (encB f) ∧ (∃ z, Blk wr (w.heap.size + 1) 25 z ∧ z.size = 32) ∧ Blk wr (w.heap.size + 1 + 1) 25 (encB (flip t g k)) ∧ Below w.heap.size w wr) (fun i _ => 32 - (intOf i).toNat)
      case atStart =>
        exact ⟨0, by omega, rfl, b0, ⟨z, b1, hz⟩, b2.eq_ (encB_congr fun i _ => (if_neg (by omega)).symm), hbel⟩
      case round =>
        clear hlt hlt3 b0 b1 b2 hbel hz z
        obtain ⟨k, hk, rfl, b0, ⟨z, b1, hz⟩, b2, hbel⟩ := hrel
        have hlt3 := b2.lt
        by_cases hlt : k < 32
        · have hd : decide ((k : Int) < 32) = true := by simp; omega
          have hq := tap_int k
          by_cases ht1 : t = 1
          · have hb1 : ((t : Int) == 1) = true := beq_iff_eq.2 (by omega)
            by_cases htp : 3988292384 / 2 ^ k % 2 = 1
            · have hb2 : (((3988292384 : Int) / 2 ^ k).tmod 2 == 1) = true := beq_iff_eq.2 (by omega)
              have hgk := hg k hlt
              have hc2 := (b2.cell k).trans (encB_get _ k (by omega))
              have hfk : flip t g k k = g k := if_neg (by omega)
              rw [hfk] at hc2
              have hf2 := b2.frozen k
              clear hfk hq
              have HT1 := hide ht1
              have HTP := hide htp
              clear ht1 htp
              go_wp2
              go_roundw
              case rel =>
                refine ⟨k + 1, by omega, by go_num, b0.far (by simp; omega) _, ⟨z, b1.far (by simp) _, hz⟩, (b2.set_ k _).eq_ ?_, hbel.setCell (by simp; omega) _⟩
                rw [show (1 : Int) - (g k : Int) = ((1 - g k : Nat) : Int) by omega, encB_set]
                apply encB_congr
                intro i _
                unfold at_ flip
                have h1 := HT1.out
                have h3 := HTP.out
                by_cases h : i = k
                · subst h
                  rw [if_pos rfl, if_pos ⟨by omega, h1, h3⟩]
                · by_cases h2 : i < k
                  · simp only [if_neg h, h2, show i < k + 1 by omega]
                  · rw [if_neg h, if_neg (by omega), if_neg (by omega)]
              case measure => simp [intOf]; omega
            · have hb2 : (((3988292384 : Int) / 2 ^ k).tmod 2 == 1) = false := beq_eq_false_iff_ne.2 (by omega)
              clear hq
              go_wp2
              go_roundw
              case rel =>
                refine ⟨k + 1, by omega, by go_num, b0, ⟨z, b1, hz⟩, b2.eq_ (encB_congr fun i _ => ?_), hbel⟩
                unfold flip
                by_cases h : i = k
                · subst h
                  rw [if_neg (by omega), if_neg (by omega)]
                · by_cases h2 : i < k
                  · simp only [h2, show i < k + 1 by omega]
                  · rw [if_neg (by omega), if_neg (by omega)]
              case measure => simp [intOf]; omega

          · have hb1 : ((t : Int) == 1) = false := beq_eq_false_iff_ne.2 (by omega)
            clear hq
            go_wp2
            go_roundw
            case rel =>
              refine ⟨k + 1, by omega, by go_num, b0, ⟨z, b1, hz⟩, b2.eq_ (encB_congr fun i _ => ?_), hbel⟩
              unfold flip
              by_cases h : i = k
              · subst h
                rw [if_neg (by omega), if_neg (by omega)]
              · by_cases h2 : i < k
                · simp only [h2, show i < k + 1 by omega]
                · rw [if_neg (by omega), if_neg (by omega)]
            case measure => simp [intOf]; omega

        · obtain rfl : k = 32 := by omega
          have e32 : flip t g 32 = inF f bit := hIn.out.symm
          rw [e32] at b2
          have hs2 := hide (info25 (inF f bit))
          have hbel' := (hbel.trans (below_setRow (Below.refl _ _) (g := w.heap.size + 1) (by omega) (encB (inF f bit))))
          have b1' := b1.setRow (encB (inF f bit))
          clear hlt e32
          go_wp2_with (first | (refine wpList_load_row rfl 25 _ rfl (w.heap.size + 1 + 1) rfl 25 (encB (inF f bit)) (0, 0) (.array 32 3) b2 Try.underlying25 rfl hs2.out ?_) | (refine wpList_store_row rfl rfl 25 _ _ rfl (w.heap.size + 1) (encB (inF f bit)) rfl rfl 25 z b1 hs2.out (hz.trans (encB_size _).symm) (encB_one _) ?_))
          refine bodyPost_ret (results_cell_row rfl _ _ (w.heap.size + 1) 25 (encB (inF f bit)) (0, 0) (.array 32 3) rfl b1' Try.underlying25 rfl hs2.out) rfl ⟨rfl, hbel'⟩
end Go.Proofs.Ytigepklbphmkfaa
