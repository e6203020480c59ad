/- The walks of the document's register: Add, Number. -/
import Derived.Test.YtigepklbphmkfaaRefA
import Derived.StillTailTactics
import Derived.IntWalk
namespace Go.Proofs.Ytigepklbphmkfaa
open Go.RowKit

theorem wpStill_load_row {P : Program} {ops : Array Oper} {w : World} {Q : Act → Prop} {a : Act} {o : Oper} {rest : List Oper} (hgd : o.guard = none) (ty : TypeId) (x : Operand) (ho : o.op = .load ty x)
    (g : Nat) (hx : a.eval x = .pointer (some ⟨g, 0, none⟩)) (t : TypeId) (cs : Array Value) (fr : Nat × Nat) (d : TypeDesc) (hg : w.heap[g]? = some (.cells cs t fr))
    (hu : P.underlying ty = some d) (hd : (match d with | .struct _ | .array _ _ => true | _ => false) = true) (hi : (P.info? ty).map (·.size) = some cs.size)
    (h : wpStill P ops w Q rest (a.put o.dst (.agg cs))) : wpStill P ops w Q (o :: rest) a := by
  refine wpStill_step fun K hK => ?_
  rw [if_pos (by simp [Region.wanted, hgd])]
  unfold Oper.still execOp
  simp only [ho, hx, Instr.loadAt, Instr.sureAddr, Sem.run_bind, Sem.run_pure, Result.andThen_ok, run_loadVar_row w g t ty cs fr d hg hu hd hi]
  exact ⟨rfl, hK _ h⟩

theorem bit_int (x m : Nat) (h : x < 256) : (IntKind.i64.wrap ((x : Int) / 2 ^ m)).tmod 2 = ((x / 2 ^ m % 2 : Nat) : Int) := by
  have e : (x : Int) / 2 ^ m = ((x / 2 ^ m : Nat) : Int) := by simp
  have hl : x / 2 ^ m ≤ x := Nat.div_le_self _ _
  rw [e]
  generalize x / 2 ^ m = y at *
  rw [IntWalk.i64_in _ (by omega)]
  rw [Int.tmod_eq_emod_of_nonneg (Int.natCast_nonneg _)]
  rfl

def inN (f : Nat → Nat) (c : Nat) : Nat → (Nat → Nat)
  | 0 => f
  | k + 1 => inF (inN f c k) (c / 2 ^ k % 2)
def inL (f : Nat → Nat) (l : List Nat) : Nat → Nat := l.foldl (fun g c => inN g c 8) f
def Bits (f : Nat → Nat) : Prop := ∀ i, i < 32 → f i ≤ 1
theorem inF_bits (f : Nat → Nat) (b : Nat) (h : Bits f) : Bits (inF f b) := by
  intro i hi
  have hl : low f 31 i ≤ 1 := by
    unfold low
    split
    · exact h _ (by omega)
    · omega
  unfold inF flip
  split <;> omega
theorem inN_bits (f : Nat → Nat) (c k : Nat) (h : Bits f) : Bits (inN f c k) := by
  induction k with
  | zero => exact h
  | succ k ih => exact inF_bits _ _ ih
theorem inL_bits (l : List Nat) (f : Nat → Nat) (h : Bits f) : Bits (inL f l) := by
  induction l generalizing f with
  | nil => exact h
  | cons c l ih => exact ih _ (inN_bits f c 8 h)
theorem inL_snoc (f : Nat → Nat) (l : List Nat) (c : Nat) : inL f (l ++ [c]) = inN (inL f l) c 8 := by simp [inL]

set_option maxHeartbeats 1000000 in
theorem radd_calls (f : Nat → Nat) (hf : Bits f) (bs : List Nat) (hbs : ∀ x ∈ bs, x < 256) (A : Option Addr) (n c : Nat) (w : World) (hR : Reads w w.heap.size 1 A n (enc8 bs)) (hn : n ≤ 100000) :
    Calls Try.prog 10 #[.agg (encB f), .slice A n c] w fun e w' => e = .returned (.agg (encB (inL f bs))) ∧ Below w.heap.size w w' := by
  have hLen := hide (show bs.length = n by have := hR.1; simpa [enc8] using this)
  go_enter Try.func10, Try.ntmps10
  go_wp2
  go_loopw [10] (fun i wr => ∃ k : Nat, k ≤ n ∧ i = .int .i64 k ∧ Blk wr w.heap.size 25 (encB (inL f (bs.take k))) ∧ (∃ z, Blk wr (w.heap.size + 1) 25 z ∧ z.size = 32) ∧ Below w.heap.size w wr) (fun i _ => n - (intOf i).toNat)
  case atStart =>
    exact ⟨0, by omega, rfl, (Blk.new w 25 _).alloc _, ⟨_, Blk.of_size (by simp), rfl⟩, ((Below.refl _ _).alloc (Nat.le_refl _) _).alloc (by simp) _⟩
  case round =>
    obtain ⟨k, hk, rfl, b0, ⟨z, b1, hz⟩, hbel⟩ := hrel
    obtain ⟨wo, rfl⟩ : ∃ wo : World, wo = wr := ⟨_, rfl⟩
    by_cases hlt : k < n
    · have hd : decide ((k : Int) < (n : Int)) = true := by simp; omega
      obtain ⟨ad, u, rfl, hab, hx, hc⟩ := (hR.below hbel).at_ (k := k) hlt
      have hl := hLen.out
      have hu : u = .int .u8 (bs[k]'(by omega) : Nat) := by
        simp [enc8, List.getElem?_eq_getElem (show k < bs.length by omega)] at hx
        exact hx.symm
      subst hu
      have hck := hbs _ (List.getElem_mem (show k < bs.length by omega))
      have hS9 := hide (show inL f (bs.take (k + 1)) = inN (inL f (bs.take k)) (bs[k]'(by omega)) 8 by
        rw [List.take_succ_eq_append_getElem (by omega), inL_snoc])
      have hg := inL_bits (bs.take k) f hf
      generalize inL f (bs.take k) = g at *
      generalize bs[k]'(by omega) = x at *
      clear hx hl
      go_wp2
      go_loopw [7] (fun j wr => ∃ m : Nat, m ≤ 8 ∧ j = .int .i64 m ∧ Blk wr w.heap.size 25 (encB (inN g x m)) ∧ (∃ z, Blk wr (w.heap.size + 1) 25 z ∧ z.size = 32) ∧ Below w.heap.size w wr) (fun j _ => 8 - (intOf j).toNat)
      case atStart => exact ⟨0, by omega, rfl, b0, ⟨z, b1, hz⟩, hbel⟩
      case round =>
        clear b0 b1 hbel hz z hc
        obtain ⟨m, hm, rfl, b0, ⟨z, b1, hz⟩, hbel⟩ := hrel
        by_cases hlt8 : m < 8
        · go_wp2
          have hs1 := hide (info25 (inN g x m))
          have hz' : Blk wr.drew w.heap.size 25 (encB (inN g x m)) := b0
          go_still_tail 6, (by kernel_rfl)
          refine wpStill_load_row rfl 25 _ rfl w.heap.size rfl 25 (encB (inN g x m)) (0, 0) (.array 32 3) hz' Try.underlying25 rfl hs1.out ?_
          repeat still_step
          refine wpStill_nil ?_
          rw [show (IntKind.i64.wrap ((x : Int) / 2 ^ m)).tmod 2 = ((x / 2 ^ m % 2 : Nat) : Int) from bit_int x m hck]
          change wpList _ _ _ _ _ wr.drew
          have hb2 : x / 2 ^ m % 2 ≤ 1 := by omega
          go_wp2_with fail
          refine (in_calls (inN g x m) (inN_bits g x m hg) _ hb2 _).mono ?_
          rintro e w2 ⟨rfl, hbw⟩
          have c0 := b0.drew.below hbw b0.lt
          have c1 := b1.drew.below hbw b1.lt
          have hbel2 := hbel.drew.trans (hbw.mono hbel.size)
          have hs2 := hide (info25 (inN g x (m + 1)))
          rw [show inF (inN g x m) (x / 2 ^ m % 2) = inN g x (m + 1) from rfl]
          clear hbw b0 b1 hbel hz' hs1
          go_wp2_with (refine wpList_store_row rfl rfl 25 _ _ rfl w.heap.size (encB (inN g x (m + 1))) rfl rfl 25 (encB (inN g x m)) c0 hs2.out ((encB_size _).trans (encB_size _).symm) (encB_one _) ?_)
          go_roundw
          case rel => exact ⟨m + 1, by omega, by go_num, c0.setRow _, ⟨z, c1.setRow_other _ _ (by omega), hz⟩, hbel2.trans (below_setRow (Below.refl _ _) (Nat.le_refl _) _)⟩
          case measure => simp [intOf]; omega
        · obtain rfl : m = 8 := by omega
          clear hlt8
          go_wp2
          go_roundw
          case rel => exact ⟨k + 1, by omega, by go_num, by rw [hS9.out]; exact b0, ⟨z, b1, hz⟩, hbel⟩
          case measure => simp [intOf]; omega
    · obtain rfl : k = n := by omega
      have hl := hLen.out
      rw [List.take_of_length_le (by omega)] at b0
      clear hl
      have hs2 := hide (info25 (inL f bs))
      have hbel' := (hbel.trans (below_setRow (Below.refl _ _) (g := w.heap.size + 1) (by omega) (encB (inL f bs))))
      have b1' := b1.setRow (encB (inL f bs))
      clear hlt
      go_wp2_with (first | (refine wpList_load_row rfl 25 _ rfl w.heap.size rfl 25 (encB (inL f bs)) (0, 0) (.array 32 3) b0 Try.underlying25 rfl hs2.out ?_) | (refine wpList_store_row rfl rfl 25 _ _ rfl (w.heap.size + 1) (encB (inL f bs)) rfl rfl 25 z b1 hs2.out (hz.trans (encB_size _).symm) (encB_one _) ?_))
      refine bodyPost_ret (results_cell_row rfl _ _ (w.heap.size + 1) 25 (encB (inL f bs)) (0, 0) (.array 32 3) rfl b1' Try.underlying25 rfl hs2.out) rfl ⟨rfl, hbel'⟩

/-- The bits of a number. -/
def bitsOf (r : Nat) : Nat → Nat := fun i => r / 2 ^ i % 2
theorem bitsOf_bits (r : Nat) : Bits (bitsOf r) := fun i _ => by unfold bitsOf; omega

theorem num_step (r j : Nat) : 2 * (r / 2 ^ ((j : Int) + 1).toNat) + bitsOf r j = r / 2 ^ j := by
  rw [show ((j : Int) + 1).toNat = j + 1 by omega, Nat.pow_succ, ← Nat.div_div_eq_div_mul]
  unfold bitsOf
  omega

set_option maxHeartbeats 1000000 in
theorem number_calls (r : Nat) (hr : r < 4294967296) (w : World) :
    Calls Try.prog 9 #[.agg (encB (bitsOf r))] w fun e w' => e = .returned (.int .u32 r) ∧ Below w.heap.size w w' := by
  go_enter Try.func9, Try.ntmps9
  go_wp2
  go_loop [4, 3] (fun i o => ∃ k : Int, -1 ≤ k ∧ k ≤ 31 ∧ i = .int .i64 k ∧ o = .int .u32 (r / 2 ^ (k + 1).toNat : Nat)) (fun i _ => (intOf i + 1).toNat)
  case atStart => exact ⟨31, by omega, by omega, rfl, by rw [show ((31 : Int) + 1).toNat = 32 from rfl, Nat.div_eq_of_lt hr]; rfl⟩
  case round =>
    obtain ⟨k, hk0, hk1, rfl, rfl⟩ := hrel
    by_cases hlt : 0 ≤ k
    · obtain ⟨j, rfl⟩ := Int.eq_ofNat_of_zero_le hlt
      have hc := ((Blk.new w 25 (encB (bitsOf r))).cell j).trans (encB_get _ j (by omega))
      have hq : r / 2 ^ ((j : Int) + 1).toNat < 2147483648 := by
        rw [show ((j : Int) + 1).toNat = j + 1 by omega, Nat.pow_succ, Nat.mul_comm, ← Nat.div_div_eq_div_mul]
        have := Nat.div_le_self (r / 2) (2 ^ j)
        omega
      have hb := bitsOf_bits r j (by omega)
      have hS := hide (num_step r j)
      generalize r / 2 ^ ((j : Int) + 1).toNat = q at *
      generalize bitsOf r j = b at *
      go_wp2
      refine ⟨⟨(j : Int) - 1, by omega, by omega, rfl, ?_⟩, by simp [intOf]⟩
      rw [show ((j : Int) - 1 + 1).toNat = j by omega, ← hS.out]
      congr 1
    · obtain rfl : k = -1 := by omega
      go_wp2
      go_ret
      exact ⟨ret_int (by simp), (Below.refl _ _).alloc (Nat.le_refl _) _⟩
end Go.Proofs.Ytigepklbphmkfaa
