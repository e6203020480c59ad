/- The walks of package crc: matrices. -/
import Derived.Test.YtigepklbphmkfaaCrcA
import Derived.Test.YtigepklbphmkfaaArr
namespace Go.Proofs.Ytigepklbphmkfaa
open Go.RowKit

def encM (M : Nat → Nat) : Array Value := ((List.range 32).map fun i => Value.int .u32 (Int.ofNat (M i))).toArray
theorem encM_size (M : Nat → Nat) : (encM M).size = 32 := by simp [encM]
theorem encM_get (M : Nat → Nat) (i : Nat) (h : i < 32) : (encM M)[i]? = some (Value.int .u32 (M i : Int)) := by simp [encM, h]

def pick (M : Nat → Nat) (r i : Nat) : Nat := if r / 2 ^ i % 2 = 1 then M i else 0
def app (M : Nat → Nat) (r : Nat) : Nat → Nat
  | 0 => 0
  | k + 1 => app M r k ^^^ pick M r k

theorem pick_lt (M : Nat → Nat) (r i : Nat) (h : M i < 4294967296) : pick M r i < 4294967296 := by
  unfold pick; split <;> omega
theorem app_lt (M : Nat → Nat) (r k : Nat) (h : ∀ i, i < k → M i < 4294967296) : app M r k < 4294967296 := by
  induction k with
  | zero => simp [app]
  | succ k ih => exact Nat.xor_lt_two_pow (n := 32) (ih fun i hi => h i (by omega)) (pick_lt M r k (h k (by omega)))

theorem pick_step (M : Nat → Nat) (r k : Nat) (hr : r < 4294967296) (hM : M k < 4294967296) (ha : app M r k < 4294967296) :
    bits BinOp.xor IntKind.u32 (↑(app M r k)) (bits BinOp.and IntKind.u32 (↑(M k)) (-bits BinOp.and IntKind.u32 ((r : Int) / 2 ^ k) 1 % 4294967296)) = ((app M r (k + 1) : Nat) : Int) := by
  have hq : r / 2 ^ k < 4294967296 := Nat.lt_of_le_of_lt (Nat.div_le_self _ _) hr
  have e1 : bits BinOp.and IntKind.u32 ((r : Int) / 2 ^ k) 1 = ((r / 2 ^ k % 2 : Nat) : Int) := by
    have := u32_and_nat (r / 2 ^ k) 1 hq (by omega)
    rw [Nat.and_one_is_mod] at this
    rw [← this]
    congr 1
  rw [e1]
  have e2 : bits BinOp.and IntKind.u32 (↑(M k)) (-((r / 2 ^ k % 2 : Nat) : Int) % 4294967296) = ((pick M r k : Nat) : Int) := by
    unfold pick
    by_cases h : r / 2 ^ k % 2 = 1
    · rw [if_pos h, h]
      have := u32_and_nat (M k) 4294967295 hM (by omega)
      rw [show (4294967295 : Nat) = 2 ^ 32 - 1 from rfl, Nat.and_two_pow_sub_one_of_lt_two_pow hM] at this
      exact this
    · rw [if_neg h, show r / 2 ^ k % 2 = 0 by omega]
      have := u32_and_nat (M k) 0 hM (by omega)
      rw [Nat.and_zero] at this
      exact this
  rw [e2, u32_xor_nat _ _ ha (pick_lt M r k hM)]
  rfl

set_option maxHeartbeats 400000 in
theorem apply_calls (M : Nat → Nat) (hM : ∀ i, i < 32 → M i < 4294967296) (r : Nat) (hr : r < 4294967296) (w : World) :
    Calls Try.prog 22 #[.agg (encM M), .int .u32 r] w fun e w' => e = .returned (.int .u32 (app M r 32 : Nat)) ∧ Below w.heap.size w w' := by
  go_enter Try.func22, Try.ntmps22
  have hsz : (Try.prog.info? 41).map (·.size) = some (encM M).size := by rw [encM_size]; kernel_rfl
  go_wp2_with (refine wpList_load_row rfl 41 _ rfl w.heap.size rfl 41 (encM M) (0, 0) (.array 32 26) (heap_alloc_new w _) Try.underlying41 rfl hsz ?_)
  go_loop [9, 5] (fun i o => ∃ k : Nat, k ≤ 32 ∧ i = .int .i64 k ∧ o = .int .u32 (app M r k : Nat)) (fun i _ => 32 - (intOf i).toNat)
  case atStart => exact ⟨0, by omega, rfl, rfl⟩
  case round =>
    obtain ⟨k, hk, rfl, rfl⟩ := hrel
    by_cases hlt : k < 32
    · have hix := fun W => run_index_arr (P := Try.prog) 41 26 32 (encM M) k _ (.int .u32) Try.underlying41 (by kernel_rfl) Try.underlying26 rfl hlt (encM_get M k hlt) W
      have hst := hide (pick_step M r k hr (hM k hlt) (app_lt M r k (fun i hi => hM i (by omega))))
      go_wp2
      refine ⟨⟨k + 1, by omega, by go_num, by rw [hst.out]⟩, by simp [intOf]; omega⟩
    · go_wp2
      go_ret
      have : k = 32 := by omega
      subst this
      exact ⟨rfl, (Below.refl _ _).alloc (Nat.le_refl _) _⟩

def two (M : Nat → Nat) : Nat → Nat := fun i => app M (M i) 32
theorem two_lt {M : Nat → Nat} (hM : ∀ i, i < 32 → M i < 4294967296) : ∀ i, i < 32 → two M i < 4294967296 := fun _ _ => app_lt _ _ _ hM
/-- The first k columns done, the others nought. -/
def part (M : Nat → Nat) (k : Nat) : Nat → Nat := fun i => if i < k then M i else 0
theorem encM_congr {M N : Nat → Nat} (h : ∀ i, i < 32 → M i = N i) : encM M = encM N := by
  unfold encM
  congr 1
  apply List.map_congr_left
  intro i hi
  rw [h i (by simpa using hi)]
theorem encM_set (M : Nat → Nat) (k : Nat) (x : Nat) : (encM M).setIfInBounds k (.int .u32 (x : Int)) = encM (fun i => if i = k then x else M i) := by
  apply Array.ext_getElem?
  intro i
  unfold encM
  simp only [List.setIfInBounds_toArray, List.getElem?_toArray, List.getElem?_set, List.length_map, List.length_range]
  by_cases h : k = i
  · subst h
    by_cases hk : k < 32 <;> simp [hk]
  · rw [if_neg h]
    by_cases hi : i < 32
    · simp [hi, Ne.symm h]
    · simp [hi]

theorem encM_nil {M : Nat → Nat} (h : ∀ i, i < 32 → M i = 0) : encM M = (List.replicate 32 (Value.int .u32 0)).toArray := by
  rw [encM_congr (N := fun _ => 0) h]; rfl
theorem part_set (M : Nat → Nat) (k : Nat) : encM (fun i => if i = k then M k else part M k i) = encM (part M (k + 1)) := by
  apply encM_congr
  intro i _
  unfold part
  by_cases h : i = k
  · subst h; simp
  · by_cases h2 : i < k
    · rw [if_neg h, if_pos h2, if_pos (by omega)]
    · rw [if_neg h, if_neg h2, if_neg (by omega)]
theorem encM_one (M : Nat → Nat) : (encM M).all (·.oneCell') = true := by
  rw [Array.all_eq_true_iff_forall_mem]
  intro v hv
  simp [encM] at hv
  obtain ⟨i, _, rfl⟩ := hv
  rfl

theorem info41 (M : Nat → Nat) : (Try.prog.info? 41).map (·.size) = some (encM M).size := by rw [encM_size]; kernel_rfl

set_option maxHeartbeats 400000 in
theorem twice_calls (M : Nat → Nat) (hM : ∀ i, i < 32 → M i < 4294967296) (w : World) :
    Calls Try.prog 21 #[.agg (encM M)] w fun e w' => e = .returned (.agg (encM (two M))) ∧ Below w.heap.size w w' := by
  have hsz := hide (info41 M)
  go_enter Try.func21, Try.ntmps21
  go_wp2_with (refine wpList_load_row rfl 41 _ rfl w.heap.size rfl 41 (encM M) (0, 0) (.array 32 26) (((Blk.new w 41 _).alloc _).alloc _) Try.underlying41 rfl hsz.out ?_)
  go_loopw [7] (fun i wr => ∃ k : Nat, k ≤ 32 ∧ i = .int .i64 k ∧ Blk wr w.heap.size 41 (encM M) ∧ (∃ z, Blk wr (w.heap.size + 1) 41 z ∧ z.size = 32) ∧ Blk wr (w.heap.size + 1 + 1) 41 (encM (part (two M) k)) ∧ Below w.heap.size w wr) (fun i _ => 32 - (intOf i).toNat)
  case atStart =>
    refine ⟨0, by omega, rfl, ((Blk.new w 41 _).alloc _).alloc _, ⟨_, (Blk.of_size (by simp)).alloc _, rfl⟩, (Blk.of_size (by simp)).eq_ (encM_nil (fun i _ => if_neg (by omega))).symm, ?_⟩
    exact (((Below.refl _ _).alloc (Nat.le_refl _) _).alloc (by simp) _).alloc (by simp; omega) _
  case round =>
    obtain ⟨k, hk, rfl, b0, ⟨z, b1, hz⟩, b2, hbel⟩ := hrel
    by_cases hlt : k < 32
    · have hix := fun W => run_index_arr (P := Try.prog) 41 26 32 (encM M) k _ (.int .u32) Try.underlying41 (by kernel_rfl) Try.underlying26 rfl hlt (encM_get M k hlt) W
      have hMk := hM k hlt
      go_wp2_with (first | (refine wpList_load_row rfl 41 _ rfl w.heap.size rfl 41 (encM M) (0, 0) (.array 32 26) b0 Try.underlying41 rfl hsz.out ?_))
      clear hix
      refine (apply_calls M hM (M k) hMk _).mono ?_
      rintro e w1 ⟨rfl, hb⟩
      have b0' := b0.below hb b0.lt
      have b1' := b1.below hb b1.lt
      have b2' := b2.below hb b2.lt
      have hc := (b2'.cell k).trans (encM_get _ k hlt)
      have hf := b2'.frozen k
      have hlt2 := b2.lt
      have hbel' := hbel.trans (hb.mono (by omega))
      clear b0 b1 b2 hb hbel
      go_wp2
      go_roundw
      case rel =>
        refine ⟨k + 1, by omega, by go_num, b0'.far (by simp; omega) _, ⟨z, b1'.far (by simp) _, hz⟩, (b2'.set_ k _).eq_ ?_, hbel'.setCell (by simp; omega) _⟩
        rw [encM_set]; exact part_set (two M) k
      case measure => simp [intOf]; omega
    · obtain rfl : k = 32 := by omega
      have e32 : encM (part (two M) 32) = encM (two M) := encM_congr fun i hi => if_pos hi
      rw [e32] at b2
      have hs2 := hide (info41 (two M))
      have hbel' := (hbel.trans (below_setRow (Below.refl _ _) (g := w.heap.size + 1) (by omega) (encM (two M))))
      have b1' := b1.setRow (encM (two M))
      clear hlt
      go_wp2_with (first | (refine wpList_load_row rfl 41 _ rfl (w.heap.size + 1 + 1) rfl 41 (encM (two M)) (0, 0) (.array 32 26) b2 Try.underlying41 rfl hs2.out ?_) | (refine wpList_store_row rfl rfl 41 _ _ rfl (w.heap.size + 1) (encM (two M)) rfl rfl 41 z b1 hs2.out (hz.trans (encM_size _).symm) (encM_one _) ?_))
      refine bodyPost_ret (results_cell_row rfl _ _ (w.heap.size + 1) 41 (encM (two M)) (0, 0) (.array 32 26) rfl b1' Try.underlying41 rfl hs2.out) rfl ⟨rfl, hbel'⟩

def zeroM (i : Nat) : Nat := shN 8 (2 ^ i)
def at_ (M : Nat → Nat) (k x : Nat) : Nat → Nat := fun i => if i = k then x else M i
theorem shN_succ (k r : Nat) : shN (k + 1) r = sh (shN k r) := by
  induction k generalizing r with
  | zero => rfl
  | succ k ih => exact ih (sh r)
theorem encM_at (M : Nat → Nat) (k x : Nat) : (encM M).setIfInBounds k (.int .u32 (x : Int)) = encM (at_ M k x) := encM_set M k x
theorem at_at (M : Nat → Nat) (k x y : Nat) : at_ (at_ M k x) k y = at_ M k y := by
  funext i; unfold at_; split <;> rfl

theorem pow_lt (k : Nat) (h : k < 32) : 2 ^ k < 4294967296 := Nat.pow_lt_pow_right (a := 2) (n := 32) (by omega) h
theorem pow_u32 (k : Nat) (h : k < 32) : (2 : Int) ^ k % 4294967296 = ((2 ^ k : Nat) : Int) := by
  have := pow_lt k h
  rw [show (2 : Int) ^ k = ((2 ^ k : Nat) : Int) by simp]
  generalize 2 ^ k = x at *
  omega

set_option maxHeartbeats 400000 in
theorem zero_calls (w : World) : Calls Try.prog 20 #[] w fun e w' => e = .returned (.agg (encM zeroM)) ∧ Below w.heap.size w w' := by
  go_enter Try.func20, Try.ntmps20
  go_wp2
  go_loopw [3] (fun i wr => ∃ k : Nat, k ≤ 32 ∧ i = .int .i64 k ∧ (∃ z, Blk wr w.heap.size 41 z ∧ z.size = 32) ∧ Blk wr (w.heap.size + 1) 41 (encM (part zeroM k)) ∧ Below w.heap.size w wr) (fun i _ => 32 - (intOf i).toNat)
  case atStart =>
    refine ⟨0, by omega, rfl, ⟨_, (Blk.of_size rfl).alloc _, rfl⟩, (Blk.of_size (by simp)).eq_ (encM_nil (fun i _ => if_neg (by omega))).symm, ?_⟩
    exact ((Below.refl _ _).alloc (Nat.le_refl _) _).alloc (by simp) _
  case round =>
    obtain ⟨k, hk, rfl, ⟨z, b1, hz⟩, b2, hbel⟩ := hrel
    obtain ⟨wo, rfl⟩ : ∃ wo : World, wo = wr := ⟨_, rfl⟩
    by_cases hlt : k < 32
    · have hc := (b2.cell k).trans (encM_get _ k hlt)
      have hf := b2.frozen k
      have hlt2 := b2.lt
      have hd : decide ((k : Int) < 32) = true := by simp; omega
      go_wp2
      go_loopw [10] (fun j wr => ∃ n : Nat, n ≤ 8 ∧ j = .int .i64 n ∧ Blk wr w.heap.size 41 z ∧ Blk wr (w.heap.size + 1) 41 (encM (at_ (part zeroM k) k (shN n (2 ^ k)))) ∧ Below w.heap.size w wr) (fun j _ => 8 - (intOf j).toNat)
      case atStart =>
        refine ⟨0, by omega, rfl, b1.far (by simp) _, (b2.set_ k _).eq_ ?_, hbel.setCell (by simp) _⟩
        rw [← encM_at, pow_u32 k hlt]; rfl
      case round =>
        obtain ⟨n, hn, rfl, c1, c2, hbel2⟩ := hrel
        have hlt3 := c2.lt
        by_cases hn8 : n < 8
        · have hc2 := (c2.cell k).trans (encM_get _ k hlt)
          rw [show at_ (part zeroM k) k (shN n (2 ^ k)) k = shN n (2 ^ k) from if_pos rfl] at hc2
          have hf2 := c2.frozen k
          have hx : shN n (2 ^ k) < 4294967296 := shN_lt (pow_lt k hlt)
          clear hc hf
          go_wp2_with (go_at_call 18; go_must (refine (shift_calls _ hx _).mono ?_); rintro e w1 ⟨rfl, rfl⟩)
          go_roundw
          case rel =>
            refine ⟨n + 1, by omega, by go_num, c1.far (by simp) _, (c2.set_ k _).eq_ ?_, hbel2.setCell (by simp) _⟩
            rw [encM_at, at_at, shN_succ]
          case measure => simp [intOf]; omega
        · obtain rfl : n = 8 := by omega
          clear hc hf hlt2
          go_wp2
          go_roundw
          case rel =>
            refine ⟨k + 1, by omega, by go_num, ⟨z, c1, hz⟩, c2.eq_ ?_, hbel2⟩
            exact part_set zeroM k
          case measure => simp [intOf]; omega
    · obtain rfl : k = 32 := by omega
      have e32 : encM (part zeroM 32) = encM zeroM := encM_congr fun i hi => if_pos hi
      rw [e32] at b2
      have hs2 := hide (info41 zeroM)
      have hbel' := (hbel.trans (below_setRow (Below.refl _ _) (g := w.heap.size) (by omega) (encM zeroM)))
      have b1' := b1.setRow (encM zeroM)
      clear hlt
      go_wp2_with (first | (refine wpList_load_row rfl 41 _ rfl (w.heap.size + 1) rfl 41 (encM zeroM) (0, 0) (.array 32 26) b2 Try.underlying41 rfl hs2.out ?_) | (refine wpList_store_row rfl rfl 41 _ _ rfl w.heap.size (encM zeroM) rfl rfl 41 z b1 hs2.out (hz.trans (encM_size _).symm) (encM_one _) ?_))
      refine bodyPost_ret (results_cell_row rfl _ _ w.heap.size 41 (encM zeroM) (0, 0) (.array 32 26) rfl b1' Try.underlying41 rfl hs2.out) rfl ⟨rfl, hbel'⟩
end Go.Proofs.Ytigepklbphmkfaa
