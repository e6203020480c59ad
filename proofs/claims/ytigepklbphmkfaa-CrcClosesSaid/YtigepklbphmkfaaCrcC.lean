/- The walks of package crc: Join. -/
import Derived.Test.YtigepklbphmkfaaCrcB
namespace Go.Proofs.Ytigepklbphmkfaa
open Go.RowKit

def jl (n : Nat) (M : Nat → Nat) (r : Nat) : Nat :=
  if h : n = 0 then r else jl (n / 2) (two M) (if n % 2 = 1 then app M r 32 else r)
termination_by n
decreasing_by omega

theorem jl_zero (M : Nat → Nat) (r : Nat) : jl 0 M r = r := by rw [jl]; simp
theorem jl_odd {n : Nat} (M : Nat → Nat) (r : Nat) (h : n % 2 = 1) : jl n M r = jl (n / 2) (two M) (app M r 32) := by
  rw [jl, dif_neg (by omega), if_pos h]
theorem jl_even {n : Nat} (M : Nat → Nat) (r : Nat) (h0 : n ≠ 0) (h : n % 2 ≠ 1) : jl n M r = jl (n / 2) (two M) r := by
  rw [jl, dif_neg (by omega), if_neg h]
theorem jl_lt (n : Nat) : ∀ (M : Nat → Nat) (r : Nat), (∀ i, i < 32 → M i < 4294967296) → r < 4294967296 → jl n M r < 4294967296 := by
  induction n using Nat.strongRecOn with
  | _ n ih =>
    intro M r hM hr
    by_cases h0 : n = 0
    · subst h0; rw [jl_zero]; exact hr
    · by_cases h : n % 2 = 1
      · rw [jl_odd M r h]; exact ih _ (by omega) _ _ (two_lt hM) (app_lt _ _ _ hM)
      · rw [jl_even M r h0 h]; exact ih _ (by omega) _ _ (two_lt hM) hr
theorem zeroM_lt (i : Nat) (h : i < 32) : zeroM i < 4294967296 := shN_lt (pow_lt i h)

set_option maxHeartbeats 400000 in
theorem join_calls (a b : Nat) (ha : a < 4294967296) (hb : b < 4294967296) (n : Int) (w : World) (hn : n ≤ 9223372036854775807) :
    Calls Try.prog 13 #[.int .u32 a, .int .u32 b, .int .i64 n] w fun e w' => e = .returned (.int .u32 (jl n.toNat zeroM a ^^^ b : Nat)) ∧ Below w.heap.size w w' := by
  go_enter Try.func13, Try.ntmps13
  go_wp2_with fail
  refine (zero_calls w).mono ?_
  rintro e w1 ⟨rfl, hb1⟩
  have hz0 := hide (info41 zeroM)
  go_wp2_with (refine wpList_store_row rfl rfl 41 _ _ rfl w1.heap.size (encM zeroM) rfl rfl 41 _ (Blk.new w1 41 _) hz0.out (encM_size _).symm (encM_one _) ?_)
  rw [World.setRow_alloc_new]
  have hsz1 := hb1.size
  go_loopw [2, 7, 8] (fun x s p wr => ∃ (m : Int) (M : Nat → Nat) (r g : Nat), m ≤ 9223372036854775807 ∧ r < 4294967296 ∧ (∀ i, i < 32 → M i < 4294967296) ∧ x = .int .i64 m ∧ s = .int .u32 r ∧ p = .pointer (some ⟨g, 0, none⟩) ∧ w.heap.size ≤ g ∧ Blk wr g 41 (encM M) ∧ Below w.heap.size w wr ∧ Hid (jl m.toNat M r = jl n.toNat zeroM a)) (fun x _ _ _ => (intOf x).toNat)
  case atStart =>
    exact ⟨n, zeroM, a, w1.heap.size, hn, ha, zeroM_lt, rfl, rfl, rfl, hsz1, Blk.new _ _ _, hb1.alloc hsz1 _, rfl⟩
  case round =>
    obtain ⟨m, M, r, g, hm, hr, hM, rfl, rfl, rfl, hg, hB, hbel, hj⟩ := hrel
    have hsz := hide (info41 M)
    have hsz2 := hide (info41 (two M))
    by_cases hpos : 0 < m
    · by_cases hodd : m % 2 = 1
      · have hb2 : (m % 2 == 1) = true := beq_iff_eq.2 hodd
        have hj2 : Hid (jl (m / 2).toNat (two M) (app M r 32) = jl n.toNat zeroM a) := by
          have h1 := hj.out
          rw [jl_odd M r (by omega)] at h1
          rw [show (m / 2).toNat = m.toNat / 2 by omega]
          exact h1
        clear hodd hj
        go_wp2_with (first | (refine wpList_load_row rfl 41 _ rfl g rfl 41 (encM M) (0, 0) (.array 32 26) hB Try.underlying41 rfl hsz.out ?_))
        refine (apply_calls M hM r hr _).mono ?_
        rintro e w2 ⟨rfl, hb2'⟩
        have hB2 := hB.below hb2' hB.lt
        have hbel2 := hbel.trans (hb2'.mono hbel.size)
        clear hB hbel hb2'
        have hlt2 := hB2.lt
        have hszw := hbel2.size
        go_wp2_with (first | (refine wpList_load_row rfl 41 _ rfl g rfl 41 (encM M) (0, 0) (.array 32 26) hB2 Try.underlying41 rfl hsz.out ?_) | (refine wpList_store_row rfl rfl 41 _ _ rfl w2.heap.size (encM M) rfl rfl 41 _ (Blk.new w2 41 _) hsz.out (encM_size _).symm (encM_one _) ?_; rw [World.setRow_alloc_new]) | (refine wpList_load_row rfl 41 _ rfl w2.heap.size rfl 41 (encM M) (0, 0) (.array 32 26) (Blk.new w2 41 _) Try.underlying41 rfl hsz.out ?_))
        refine (twice_calls M hM _).mono ?_
        rintro e w3 ⟨rfl, hb3⟩
        have hB3 := (Blk.new w2 41 (encM M)).below hb3 (by simp)
        have hbel3 := (hbel2.alloc hszw (.cells (encM M) 41)).trans (hb3.mono (by simp; omega))
        clear hb3
        go_wp2_with (refine wpList_store_row rfl rfl 41 _ _ rfl w2.heap.size (encM (two M)) rfl rfl 41 _ hB3 hsz2.out ((encM_size _).trans (encM_size _).symm) (encM_one _) ?_)
        go_roundw
        case rel =>
          exact ⟨m / 2, two M, _, w2.heap.size, by omega, app_lt _ _ _ hM, two_lt hM, rfl, rfl, rfl, hszw, hB3.setRow _, hbel3.trans (below_setRow (Below.refl _ _) hszw _), hj2⟩
        case measure => simp [intOf]; omega
      · have hb2 : (m % 2 == 1) = false := beq_eq_false_iff_ne.2 hodd
        have hj2 : Hid (jl (m / 2).toNat (two M) r = jl n.toNat zeroM a) := by
          have h1 := hj.out
          rw [jl_even M r (by omega) (by omega)] at h1
          rw [show (m / 2).toNat = m.toNat / 2 by omega]
          exact h1
        clear hodd hj
        obtain ⟨w2, rfl⟩ : ∃ w2 : World, w2 = wr := ⟨_, rfl⟩
        have hB2 := hB
        have hbel2 := hbel
        clear hB hbel
        have hlt2 := hB2.lt
        have hszw := hbel2.size
        go_wp2_with (first | (refine wpList_load_row rfl 41 _ rfl g rfl 41 (encM M) (0, 0) (.array 32 26) hB2 Try.underlying41 rfl hsz.out ?_) | (refine wpList_store_row rfl rfl 41 _ _ rfl w2.heap.size (encM M) rfl rfl 41 _ (Blk.new w2 41 _) hsz.out (encM_size _).symm (encM_one _) ?_; rw [World.setRow_alloc_new]) | (refine wpList_load_row rfl 41 _ rfl w2.heap.size rfl 41 (encM M) (0, 0) (.array 32 26) (Blk.new w2 41 _) Try.underlying41 rfl hsz.out ?_))
        refine (twice_calls M hM _).mono ?_
        rintro e w3 ⟨rfl, hb3⟩
        have hB3 := (Blk.new w2 41 (encM M)).below hb3 (by simp)
        have hbel3 := (hbel2.alloc hszw (.cells (encM M) 41)).trans (hb3.mono (by simp; omega))
        clear hb3
        go_wp2_with (refine wpList_store_row rfl rfl 41 _ _ rfl w2.heap.size (encM (two M)) rfl rfl 41 _ hB3 hsz2.out ((encM_size _).trans (encM_size _).symm) (encM_one _) ?_)
        go_roundw
        case rel =>
          exact ⟨m / 2, two M, _, w2.heap.size, by omega, hr, two_lt hM, rfl, rfl, rfl, hszw, hB3.setRow _, hbel3.trans (below_setRow (Below.refl _ _) hszw _), hj2⟩
        case measure => simp [intOf]; omega
    · have hx := hide (u32_xor_nat r b hr hb)
      have hj2 := hj.out
      rw [show m.toNat = 0 by omega, jl_zero] at hj2
      have hj3 := hide hj2
      clear hj2 hj
      go_wp2
      go_ret
      refine ⟨ret_int ?_, hbel⟩
      rw [← hj3.out]
      exact hx.out
end Go.Proofs.Ytigepklbphmkfaa
