/- Open and Close of the package, in one form for every slice. -/
import Derived.Test.YtigepklbphmkfaaCrcE
import Derived.Test.YtigepklbphmkfaaHeld
namespace Go.Proofs.Ytigepklbphmkfaa
open Go.RowKit

def opn (bs : List Nat) : Bool := decide (4 ≤ bs.length ∧ bs.take (bs.length - 4) ++ tl (sumOf (bs.take (bs.length - 4))) = bs)
def opl (bs : List Nat) : List Nat := if opn bs then bs.take (bs.length - 4) else []

theorem closeR (bs : List Nat) (hbs : ∀ x ∈ bs, x < 256) (A : Option Addr) (n c : Nat) (w : World) (hR : Reads w w.heap.size 1 A n (enc8 bs)) (hn : n ≤ 100000) :
    Calls Try.prog 16 #[.slice A n c] w fun e w' => ∃ A' c', e = .returned (.slice A' (n + 4) c') ∧ n + 4 ≤ c' ∧ Reads w' w'.heap.size 1 A' (n + 4) (enc8 (bs ++ tl (sumOf bs))) ∧ Below w.heap.size w w' :=
  (close_calls bs hbs A n c w hR hn).mono fun e w' ⟨v, he, hown, hb⟩ => by
    obtain ⟨A', c', rfl, hc, _, hr⟩ := own_reads hown
    exact ⟨A', c', he, hc, hr, hb⟩

theorem addr_at (A : Addr) (m j : Nat) (hj : 0 < j) : (A.add m).add j = ⟨(A.add m).block, (A.add m).off + j, none⟩ := by
  generalize A.add m = D
  unfold Addr.add
  rw [if_neg (by omega)]

theorem openR (bs : List Nat) (hbs : ∀ x ∈ bs, x < 256) (A : Option Addr) (n c : Nat) (w : World) (hR : Reads w w.heap.size 1 A n (enc8 bs)) (hn : n ≤ 100000) (hc : n ≤ c) :
    Calls Try.prog 14 #[.slice A n c] w fun e w' => ∃ A' n' c', e = .returned (.tuple #[.slice A' n' c', .bool (opn bs)]) ∧ Reads w' w'.heap.size 1 A' n' (enc8 (opl bs)) ∧ Below w.heap.size w w' := by
  have hl : bs.length = n := by have := hR.1; simpa [enc8] using this
  by_cases h4 : n < 4
  · have ho : opn bs = false := by unfold opn; rw [decide_eq_false_iff_not]; omega
    refine (open_short A n c w h4).mono fun e w' ⟨he, k, hk⟩ => ⟨none, 0, 0, by rw [ho]; exact he, ?_, by rw [hk]; exact Below.draws (Below.refl _ _) k⟩
    rw [show opl bs = [] by unfold opl; rw [ho]; rfl]
    exact Reads.none_
  · obtain ⟨m, rfl⟩ : ∃ m, n = m + 4 := ⟨n - 4, by omega⟩
    obtain ⟨ad, rfl, hab, hcell⟩ := hR.2 (by omega)
    have hget : ∀ j, j < 4 → ∃ x, bs[m + j]? = some x ∧ w.cell? ((ad.add m).add j) = some (.int .u8 (x : Nat)) := fun j hj => by
      have hlt : m + j < bs.length := by omega
      refine ⟨bs[m + j], List.getElem?_eq_getElem hlt, ?_⟩
      rw [add_of_add]
      refine hcell (m + j) _ ?_
      simp [enc8, List.getElem?_eq_getElem hlt]
    obtain ⟨x0, g0, e0⟩ := hget 0 (by omega)
    obtain ⟨x1, g1, e1⟩ := hget 1 (by omega)
    obtain ⟨x2, g2, e2⟩ := hget 2 (by omega)
    obtain ⟨x3, g3, e3⟩ := hget 3 (by omega)
    rw [addr_zero] at e0
    rw [addr_at _ _ _ (by omega)] at e1 e2 e3
    have hdrop : bs.drop m = [x0, x1, x2, x3] := by
      apply List.ext_getElem?
      intro j
      rw [List.getElem?_drop]
      match j with
      | 0 => rw [g0]; rfl
      | 1 => rw [g1]; rfl
      | 2 => rw [g2]; rfl
      | 3 => rw [g3]; rfl
      | j + 4 => rw [List.getElem?_eq_none (by omega)]; rfl
    have hm4 : bs.length - 4 = m := by omega
    have htk : ∀ x ∈ bs.take m, x < 256 := fun x hx => hbs x (List.mem_of_mem_take hx)
    have hRt := hR.take (m := m) (by omega)
    obtain ⟨y0, y1, y2, y3, hy⟩ : ∃ y0 y1 y2 y3, tl (sumOf (bs.take m)) = [y0, y1, y2, y3] := ⟨_, _, _, _, rfl⟩
    have hiff : (bs.take m ++ tl (sumOf (bs.take m)) = bs) ↔ [y0, y1, y2, y3] = [x0, x1, x2, x3] := by
      rw [hy, ← hdrop]
      conv => lhs; rhs; rw [← List.take_append_drop m bs]
      exact List.append_right_inj _
    by_cases he : [y0, y1, y2, y3] = [x0, x1, x2, x3]
    · have ho : opn bs = true := by unfold opn; rw [hm4]; exact decide_eq_true ⟨by omega, hiff.2 he⟩
      refine (open_good (bs.take m) htk ad m c w (by omega) (by omega) hRt x0 x1 x2 x3 hab e0 e1 e2 e3 y0 y1 y2 y3 hy he).mono fun e w' ⟨v, hv, hown, hb⟩ => ?_
      obtain ⟨A', c', rfl, _, _, hr⟩ := own_reads hown
      refine ⟨A', m, c', by rw [ho]; exact hv, ?_, hb⟩
      rw [show opl bs = bs.take m by unfold opl; rw [ho, hm4]; rfl]
      exact hr
    · have ho : opn bs = false := by unfold opn; rw [hm4]; exact decide_eq_false fun h => he (hiff.1 h.2)
      refine (open_bad (bs.take m) htk ad m c w (by omega) (by omega) hRt x0 x1 x2 x3 hab e0 e1 e2 e3 y0 y1 y2 y3 hy he).mono fun e w' ⟨hv, hb⟩ => ?_
      refine ⟨none, 0, 0, by rw [ho]; exact hv, ?_, hb⟩
      rw [show opl bs = [] by unfold opl; rw [ho]; rfl]
      exact Reads.none_
end Go.Proofs.Ytigepklbphmkfaa
