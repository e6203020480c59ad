/- The walks of package crc: register. -/
import Derived.Test.YtigepklbphmkfaaRows
import Derived.Test.YtigepklbphmkfaaWords
import Derived.WalkMore
import Derived.ScopeJumps
import Derived.Deep.DeepMust
namespace Go.Proofs.Ytigepklbphmkfaa
open Go.RowKit

def sh (r : Nat) : Nat := if r % 2 = 1 then (r / 2) ^^^ 3988292384 else r / 2

theorem sh_lt {r : Nat} (h : r < 4294967296) : sh r < 4294967296 := by
  unfold sh
  split
  · exact Nat.xor_lt_two_pow (n := 32) (by omega) (by omega)
  · omega

def shN : Nat → Nat → Nat
  | 0, r => r
  | k + 1, r => shN k (sh r)
def addB (r c : Nat) : Nat := shN 8 (r ^^^ c)
def addL (r : Nat) (l : List Nat) : Nat := l.foldl addB r
def enc8 (l : List Nat) : List Value := l.map fun x => .int .u8 (Int.ofNat x)

theorem shN_lt {k r : Nat} (h : r < 4294967296) : shN k r < 4294967296 := by
  induction k generalizing r with
  | zero => exact h
  | succ k ih => exact ih (sh_lt h)
theorem addB_lt {r c : Nat} (h : r < 4294967296) (hc : c < 256) : addB r c < 4294967296 :=
  shN_lt (Nat.xor_lt_two_pow (n := 32) (by omega) (by omega))
theorem addL_lt {l : List Nat} {r : Nat} (h : r < 4294967296) (hl : ∀ x ∈ l, x < 256) : addL r l < 4294967296 := by
  induction l generalizing r with
  | nil => exact h
  | cons c l ih => exact ih (addB_lt h (hl c (by simp))) (fun x hx => hl x (by simp [hx]))

set_option maxHeartbeats 400000 in
theorem start_calls (w : World) : Calls Try.prog 12 #[] w fun e w' => e = .returned (.int .u32 4294967295) ∧ w = w' := by
  go_enter Try.func12, Try.ntmps12
  go_wp2
  go_ret
  exact ⟨rfl, rfl⟩

set_option maxHeartbeats 400000 in
theorem shift_calls (r : Nat) (hr : r < 4294967296) (w : World) : Calls Try.prog 18 #[.int .u32 r] w fun e w' => e = .returned (.int .u32 (sh r : Nat)) ∧ w = w' := by
  by_cases h : r % 2 = 1
  · have hb : ((r : Int) % 2 == 1) = true := beq_iff_eq.2 (by omega)
    have e : sh r = (r / 2) ^^^ 3988292384 := if_pos h
    rw [e]
    clear e
    clear h
    go_enter Try.func18, Try.ntmps18
    go_wp2
    go_ret
    refine ⟨ret_int ?_, rfl⟩
    have := u32_xor_nat (r / 2) 3988292384 (by omega) (by omega)
    simpa using this
  · have hb : ((r : Int) % 2 == 1) = false := beq_eq_false_iff_ne.2 (by omega)
    have e : sh r = r / 2 := if_neg h
    rw [e]
    clear e
    clear h
    go_enter Try.func18, Try.ntmps18
    go_wp2
    go_ret
    exact ⟨ret_int (by simp), rfl⟩

theorem xor_ones {r : Nat} (h : r < 4294967296) : 4294967295 ^^^ r = 4294967295 - r := by
  have h1 := congrArg BitVec.toNat (BitVec.allOnes_xor (x := BitVec.ofNat 32 r))
  rw [BitVec.toNat_xor, BitVec.toNat_not, BitVec.toNat_allOnes, BitVec.toNat_ofNat, Nat.mod_eq_of_lt (by omega)] at h1
  exact h1

set_option maxHeartbeats 400000 in
theorem sum_calls (r : Nat) (hr : r < 4294967296) (w : World) : Calls Try.prog 11 #[.int .u32 r] w fun e w' => e = .returned (.int .u32 (4294967295 - r : Nat)) ∧ w = w' := by
  have hsg : IntKind.u32.signed = false := rfl
  go_enter Try.func11, Try.ntmps11
  go_wp2
  go_ret
  refine ⟨ret_int ?_, rfl⟩
  have := u32_xor_nat 4294967295 r (by omega) (by omega)
  rw [xor_ones hr] at this
  exact this

theorem wp_scope_first {P : Program} {a : Act} {w : World} {Q : Exit → Act → World → Prop} {c y : Code} (l : Nat) (J : Act → World → Prop) (μ : Act → World → Nat) (hf : findLabel c l = some (Code.seq .skip y))
    (first : (∀ a w, J a w → y.wp P (Exit.jump l J Q) a w) → c.wp P (Exit.jump l J Q) a w)
    (pass : ∀ a w, J a w → y.wp P (Exit.jump l (fun a' w' => J a' w' ∧ μ a' w' < μ a w) Q) a w) : (Code.scope c).wp P Q a w :=
  wp_scope_jumps l J μ hf (first fun a w h => wp_mono (pass a w h) fun e _ _ hq => by
    cases e with
    | goto l' => exact ⟨hq.1, hq.2.1⟩
    | _ => exact hq) (fun a w h => wp_seq (wp_skip (pass a w h)))

theorem addL_snoc (r : Nat) (l : List Nat) (c : Nat) : addL r (l ++ [c]) = addB (addL r l) c := by simp [addL]

set_option maxHeartbeats 400000 in
theorem add_calls (r : Nat) (hr : r < 4294967296) (bs : List Nat) (hbs : ∀ x ∈ bs, x < 256) (B : Nat) (A : Option Addr) (n c : Nat) (w : World) (hR : Reads w B 1 A n (enc8 bs)) (hn : n ≤ 140737488351232) :
    Calls Try.prog 8 #[.int .u32 r, .slice A n c] w fun e w' => e = .returned (.int .u32 (addL r bs : Nat)) ∧ w = w' := by
  have hlen : bs.length = n := by have := hR.1; simpa [enc8] using this
  have hLen := hide hlen
  clear hlen
  go_enter Try.func8, Try.ntmps8
  go_wp2
  refine wp_scope_first 0 (fun a' w' => w' = w ∧ ∃ (k left s : Nat), k ≤ n ∧ left ≤ 8 ∧ s < 4294967296 ∧ shN left s = addL r (bs.take k) ∧ ∃ (u7 u8 u9 u10 u11 u12 u13 u14 u15 u16 u17 u18 u19 u20 u21 u22 u23 u24 u25 u26 : Value), a' = { tmps := #[.int .u32 s, .slice A n c, undef, undef, .int .u32 0, .int .i64 k, .int .i64 left, u7, u8, u9, u10, u11, u12, u13, u14, u15, u16, u17, u18, u19, u20, u21, u22, u23, u24, u25, u26], defers := [] })
    (fun a' _ => (n - (intOf (a'.tmps.getD 5 undef)).toNat) * 9 + (intOf (a'.tmps.getD 6 undef)).toNat) rfl ?_ ?_
  · intro hrest
    go_wp2
    go_step3
    refine ‹∀ a w, Code.wp _ _ _ a w → _› _ _ (hrest _ _ ?_)
    exact ⟨rfl, 0, 0, r, by omega, by omega, hr, by simp [shN, addL], _, _, _, _, _, _, _, _, _, _, _, _, _, _, _, _, _, _, _, _, rfl⟩
  · rintro a' w' ⟨rfl, k, left, s, hk, hl, hs, hsh, u7, u8, u9, u10, u11, u12, u13, u14, u15, u16, u17, u18, u19, u20, u21, u22, u23, u24, u25, u26, rfl⟩
    have hSh := hide hsh
    clear hsh
    by_cases hl0 : left = 0
    · subst hl0
      by_cases hkn : k = n
      · have hb1 : ((k : Int) == (n : Int)) = true := beq_iff_eq.2 (by omega)
        go_wp2
        simp only [Exit.jump]
        go_ret
        refine ⟨ret_int ?_, rfl⟩
        have h1 := hSh.out
        rw [List.take_of_length_le (by have := hLen.out; omega)] at h1
        rw [← h1]
        rfl
      · have hb1 : ((k : Int) == (n : Int)) = false := beq_eq_false_iff_ne.2 (by omega)
        obtain ⟨ad, u, rfl, _, hx, hc⟩ := hR.at_ (k := k) (by omega)
        have hlt : k < bs.length := by have := hLen.out; omega
        have hu : u = .int .u8 (bs[k] : Nat) := by
          simp [enc8, List.getElem?_eq_getElem hlt] at hx
          exact hx.symm
        subst hu
        have hck := hbs bs[k] (List.getElem_mem hlt)
        have hx8 := addB_lt hs hck
        have hxs : s ^^^ bs[k] < 4294967296 := Nat.xor_lt_two_pow (n := 32) (by omega) (by omega)
        have hxx := hide (u32_xor_nat s bs[k] hs (by omega))
        have hlk : k < n := by omega
        have hS9 := hide (show addB s bs[k] = addL r (bs.take (k + 1)) by
          rw [List.take_succ_eq_append_getElem hlt, addL_snoc, ← hSh.out]; rfl)
        generalize bs[k] = b at *
        clear hx hlt
        go_wp2_with (go_at_call 18; go_must (rw [hxx.out]); refine (shift_calls _ hxs _).mono ?_; rintro e w1 ⟨rfl, rfl⟩)
        go_step3
        refine ⟨rfl, ⟨rfl, k + 1, 7, sh (s ^^^ b), by omega, by omega, sh_lt hxs, hS9.out, ?_⟩, ?_⟩
        · rw [show ((k + 1 : Nat) : Int) = (k : Int) + 1 by omega]; exact ⟨_, _, _, _, _, _, _, _, _, _, _, _, _, _, _, _, _, _, _, _, rfl⟩
        · simp [intOf]; omega
    · have hb1 : ((left : Int) == 0) = false := beq_eq_false_iff_ne.2 (by omega)
      go_wp2_with fail
      refine (shift_calls s hs _).mono ?_
      rintro e w1 ⟨rfl, rfl⟩
      go_wp2
      go_step3
      refine ⟨rfl, ⟨rfl, k, left - 1, sh s, hk, by omega, sh_lt hs, ?_, ?_⟩, ?_⟩
      · rw [← hSh.out]; obtain ⟨l, rfl⟩ : ∃ l, left = l + 1 := ⟨left - 1, by omega⟩; rfl
      · rw [show ((left - 1 : Nat) : Int) = (left : Int) - 1 by omega]; exact ⟨_, _, _, _, _, _, _, _, _, _, _, _, _, _, _, _, _, _, _, _, rfl⟩
      · simp [intOf]; omega
end Go.Proofs.Ytigepklbphmkfaa
