/- Words for a region that draws its order: what is held may be said anew behind a call; bytes as a text. -/
import Derived.Test.YtigepklbphmkfaaCrcD
import Derived.Deep.RegionHeld3
import Derived.Laws.BytesString
namespace Go.Proofs.Ytigepklbphmkfaa
open Go.RowKit

theorem wpAnyH_rebase {P : Program} {ops : Array Oper} {Q : Exit → Act → World → Prop} {md : Region.Mode} {S S' : World → Prop} (h : ∀ w, S' w → S w) :
    ∀ (fuel : Nat) (listed : Array Bool) (a : Act) (w : World), wpAnyH P md ops Q S' fuel listed a w → wpAnyH P md ops Q S fuel listed a w
  | 0, _, _, _, hh => hh
  | fuel + 1, _, _, _, hh => ⟨hh.1, fun i hi => wpOp_mono (fun a' w' h' => ⟨h _ h'.1, wpAnyH_rebase h fuel _ a' w' h'.2⟩) (hh.2 i hi)⟩

theorem Reads.take {w : World} {B n m : Nat} {A : Option Addr} {bs : List Nat} (h : Reads w B 1 A n (enc8 bs)) (hm : m ≤ n) : Reads w B 1 A m (enc8 (bs.take m)) := by
  have hl : bs.length = n := by have := h.1; simpa [enc8] using this
  refine ⟨by simp [enc8]; omega, fun h0 => ?_⟩
  obtain ⟨ad, e, hb, hc⟩ := h.2 (by omega)
  refine ⟨ad, e, hb, fun j u hu => hc j u ?_⟩
  simp only [enc8, List.map_take] at hu ⊢
  rw [List.getElem?_take] at hu
  split at hu
  · exact hu
  · cases hu

/-- The bytes as a text. -/
def ba (bs : List Nat) : ByteArray := bs.foldl (fun r n => r.push (UInt8.ofNat n)) ByteArray.empty

theorem conv_reads {P : Program} {src dst e : TypeId} (hs : P.underlying src = some (.slice e)) (he : P.underlying e = some (.int .u8)) (hd : P.underlying dst = some .string)
    {w : World} {B n : Nat} {A : Option Addr} {bs : List Nat} (c : Nat) (hR : Reads w B 1 A n (enc8 bs)) : (convert src dst (.slice A n c)).run P w = .ok (.string (ba bs)) w := by
  rw [run_convert_bytes_string w src dst e A n c hs he hd]
  have hl : bs.length = n := by have := hR.1; simpa [enc8] using this
  rcases A with _ | a
  · have h0 : n = 0 := by
      rcases Nat.eq_zero_or_pos n with h | h
      · exact h
      · obtain ⟨_, h, _⟩ := hR.2 h
        cases h
    subst h0
    obtain rfl : bs = [] := List.eq_nil_of_length_eq_zero hl
    rfl
  · have hcells : ∀ j v, (enc8 bs)[j]? = some v → w.cell? (a.add j) = some v := fun j v hv => by
      have hj : 0 < n := by
        rcases Nat.eq_zero_or_pos n with h | h
        · subst h
          obtain rfl : bs = [] := List.eq_nil_of_length_eq_zero hl
          simp [enc8] at hv
        · exact h
      obtain ⟨ad, h, _, hc⟩ := hR.2 hj
      injection h with h
      subst h
      exact hc j v hv
    have hload := run_loadCells_list (P := P) w a (enc8 bs) hcells
    have e1 : (enc8 bs) = (bs.map Int.ofNat).map (Value.int .u8) := by simp [enc8]
    rw [enc8_length, hl] at hload
    rw [e1] at hload
    rw [run_bytesToString w a n c (bs.map Int.ofNat) hload]
    congr 2
    rw [List.foldl_map]
    rfl

theorem own_reads {w : World} {base e n : Nat} {v : Value} {xs : List Value} (h : w.ownsRow base e 1 v n xs) : ∃ A c, v = .slice A n c ∧ n ≤ c ∧ (∀ ad, A = some ad → base ≤ ad.block) ∧ Reads w w.heap.size 1 A n xs := by
  have h' := h
  rcases h.2 with ⟨rfl, rfl⟩ | ⟨g, cap, cur, rfl, hg, hh, hnc, _⟩
  · exact ⟨none, 0, rfl, Nat.le_refl _, (fun ad h => by cases h), .of_own h'⟩
  · exact ⟨some ⟨g, 0, none⟩, cap, rfl, hnc, (fun ad h => by injection h with h; subst h; exact hg), .of_own h'⟩

theorem ba_inj {a b : List Nat} (ha : ∀ x ∈ a, x < 256) (hb : ∀ x ∈ b, x < 256) (h : ba a = ba b) : a = b := by
  have key : ∀ (l : List Nat) (s : ByteArray), (l.foldl (fun r n => r.push (UInt8.ofNat n)) s).data.toList = s.data.toList ++ l.map UInt8.ofNat := by
    intro l
    induction l with
    | nil => intro s; simp
    | cons x l ih => intro s; rw [List.foldl_cons, ih]; simp
  have h1 := key a ByteArray.empty
  have h2 := key b ByteArray.empty
  have h3 : a.map UInt8.ofNat = b.map UInt8.ofNat := by
    have e1 : (ba a).data.toList = a.map UInt8.ofNat := by simpa [ba] using h1
    have e2 : (ba b).data.toList = b.map UInt8.ofNat := by simpa [ba] using h2
    rw [← e1, ← e2, h]
  have h4 := congrArg (List.map UInt8.toNat) h3
  rw [List.map_map, List.map_map] at h4
  have e : ∀ l : List Nat, (∀ x ∈ l, x < 256) → l.map (UInt8.toNat ∘ UInt8.ofNat) = l := fun l hl => by
    conv => rhs; rw [← List.map_id l]
    apply List.map_congr_left
    intro x hx
    show (UInt8.ofNat x).toNat = x
    rw [UInt8.toNat_ofNat']
    exact Nat.mod_eq_of_lt (hl x hx)
  rw [e a ha, e b hb] at h4
  exact h4

theorem Below.draws {B : Nat} {a w : World} (h : Below B a w) (n : Nat) : Below B a (w.drewN n) := ⟨h.os, h.tape, h.output, h.size, h.block⟩
theorem ba_beq {a b : List Nat} (ha : ∀ x ∈ a, x < 256) (hb : ∀ x ∈ b, x < 256) : ((ba a).toList == (ba b).toList) = decide (a = b) := by
  rw [Bool.eq_iff_iff, beq_iff_eq, decide_eq_true_iff]
  constructor
  · intro h
    refine ba_inj ha hb ?_
    rw [ByteArray.toList_eq, ByteArray.toList_eq] at h
    generalize ba a = x at *
    generalize ba b = y at *
    obtain ⟨⟨x⟩⟩ := x
    obtain ⟨⟨y⟩⟩ := y
    simpa using h
  · rintro rfl
    rfl

theorem eql_string (P : Program) (t : TypeId) (a b : ByteArray) (w : World) : (binOp .eql t (.string a) (.string b)).run P w = .ok (.bool (a == b)) w := by
  rw [beq_toListBytes]
  simp [binOp, Op.stringOp]
end Go.Proofs.Ytigepklbphmkfaa
