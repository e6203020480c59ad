/- The holidays: what a Days is in memory; New; Business. -/
import Derived.Test.YtehkaiildchmfaaCalE
import Derived.Maps.OwnOps
import Derived.Maps.Views
import Derived.Maps.OwnSet
namespace Go.Proofs.Ytehkaiildchmfaa
open Go.RowKit Go.Maps

theorem law64 : Keyed Try.prog 2 := int_keyed Try.underlying2
theorem zeroInt (w : World) : (zeroValue 3).run Try.prog w = .ok (.int .i64 0) w := by kernel_rfl

/-- How many times a number stands among the first ones. -/
def cnt : List Int → Int → Int
  | [], _ => 0
  | z :: zs, n => (if z = n then 1 else 0) + cnt zs n

theorem cnt_bd (zs : List Int) (n : Int) : 0 ≤ cnt zs n ∧ cnt zs n ≤ zs.length := by
  induction zs with
  | nil => simp [cnt]
  | cons z zs ih => simp only [cnt, List.length_cons]; split <;> omega
theorem cnt_zero (zs : List Int) (n : Int) : cnt zs n = 0 ↔ n ∉ zs := by
  induction zs with
  | nil => simp [cnt]
  | cons z zs ih =>
    have := cnt_bd zs n
    simp only [cnt, List.mem_cons, not_or]
    split
    · rename_i h; subst h; constructor
      · intro h; omega
      · intro h; exact absurd rfl h.1
    · rename_i h
      rw [← ih]
      constructor
      · intro h2; exact ⟨fun e => h e.symm, by omega⟩
      · intro h2; omega
theorem cnt_snoc (zs : List Int) (z n : Int) : cnt (zs ++ [z]) n = cnt zs n + (if z = n then 1 else 0) := by
  induction zs with
  | nil => simp [cnt]
  | cons a zs ih => simp only [List.cons_append, cnt, ih]; omega

/-- D counts the numbers of zs. -/
def Hol (D : DataW Unit) (zs : List Int) : Prop := ∀ n, D.atKey (.int .i64 n) (.lit (.int .i64 0)) = .lit (.int .i64 (cnt zs n))

def Days (w : World) (g : Nat) (zs : List Int) : Prop :=
  ∃ b D, Blk w g 54 #[.map (some b)] ∧ w.ownsMap Try.prog 2 (plainElem (H := Unit) Try.prog 3) b 512 D ∧ Hol D zs ∧ zs.length ≤ 512

theorem ownsMap_below {B : Nat} {w w' : World} {b n : Nat} {D : DataW Unit} (h : w.ownsMap Try.prog 2 (plainElem (H := Unit) Try.prog 3) b n D) (hb : Below B w w') (hB : b < B) :
    w'.ownsMap Try.prog 2 (plainElem (H := Unit) Try.prog 3) b n D := by
  obtain ⟨es, clock, hk, F, hs, hD⟩ := h
  exact ⟨es, clock, (hb.block b hB).trans hk, F, hs, hD⟩

theorem Days.on {w w' : World} {g : Nat} {zs : List Int} (h : Days w g zs) (hb : Below w.heap.size w w') : Days w' g zs := by
  obtain ⟨b, D, h1, h2, h3, h4⟩ := h
  exact ⟨b, D, h1.below hb h1.lt, ownsMap_below h2 hb h2.lt, h3, h4⟩
theorem Days.lt {w : World} {g : Nat} {zs : List Int} (h : Days w g zs) : g < w.heap.size := by
  obtain ⟨b, D, h1, h2, h3, h4⟩ := h
  exact h1.lt

/-- Is n a business day? -/
def busB (zs : List Int) (n : Int) : Bool := decide (n % 7 < 5) && decide (n ∉ zs)

set_option maxHeartbeats 2000000 in
theorem business_calls (g : Nat) (zs : List Int) (n : Int) (hn : -9223372036854775808 ≤ n ∧ n ≤ 9223372036854775807) (w : World) (hd : Days w g zs) :
    Calls Try.prog 25 #[.pointer (some ⟨g, 0, none⟩), .int .i64 n] w fun e w' => e = .returned (.bool (busB zs n)) ∧ w = w' := by
  have hwk := fun W => hide (week_calls n W)
  obtain ⟨b, D, h1, h2, h3, h4⟩ := hd
  have hkey : keyOf Try.prog 2 (.int .i64 n) = some (.int .i64 n) := keyOf_int_mk Try.underlying2 (WalkArith.wf_i64 hn)
  obtain ⟨c, hrun, hat, _⟩ := h2.lookup_int law64 Try.underlying52 Try.underlying3 (zeroInt _) hkey
  have hc : c = cnt zs n := by
    have := (h3 n).symm.trans hat
    injection this with this
    injection this with _ this
    exact this.symm
  have c0 : w.cell? ⟨g, 0, none⟩ = some (.map (some b)) := h1.cell 0
  have hz : decide (n ∉ zs) = (c == 0) := by
    rw [Bool.eq_iff_iff, decide_eq_true_iff, beq_iff_eq, hc]
    exact (cnt_zero zs n).symm
  unfold busB
  rw [hz]
  clear hz hc hat h1 h2 h3 h4 hkey hn
  generalize n % 7 = k at *
  by_cases hk : k < 5
  · have hd : decide (k < 5) = true := decide_eq_true hk
    rw [hd]
    clear hk
    go_enter Try.func25, Try.ntmps25
    go_wp2_with fail
    refine (unhide (hwk _)).mono ?_
    rintro e w1 ⟨rfl, rfl⟩
    go_wp2
    go_ret
    exact ⟨rfl, rfl⟩
  · have hd : decide (k < 5) = false := decide_eq_false hk
    rw [hd]
    clear hk
    go_enter Try.func25, Try.ntmps25
    go_wp2_with fail
    refine (unhide (hwk _)).mono ?_
    rintro e w1 ⟨rfl, rfl⟩
    go_wp2
    go_ret
    exact ⟨rfl, rfl⟩

theorem Hol_nil : Hol (.map []) [] := fun _ => rfl
theorem Hol_step {D : DataW Unit} {zs : List Int} {z : Int} (hm : IsMap D) (h : Hol D zs) : Hol (D.put (.int .i64 z) (.lit (.int .i64 (cnt zs z + 1)))) (zs ++ [z]) := fun n => by
  rw [cnt_snoc]
  by_cases hn : n = z
  · subst hn
    rw [atKey_put_same hm (show WideAt.IsKeyLit (.int .i64 n) from trivial), if_pos rfl]
  · rw [atKey_put_other (by intro e; injection e with _ e; exact hn e), h n, if_neg (fun e => hn e.symm), Int.add_zero]

theorem hol_val {D : DataW Unit} {zs : List Int} {z c : Int} (h : Hol D zs) (hat : D.atKey (.int .i64 z) (.lit (.int .i64 0)) = .lit (.int .i64 c)) : c = cnt zs z := by
  have := (h z).symm.trans hat
  injection this with this
  injection this with _ this
  exact this.symm

set_option maxHeartbeats 4000000 in
theorem new_calls (A : Option Addr) (len cap : Nat) (zs : List Int) (hlen : zs.length = len) (h512 : len ≤ 512) (w : World)
    (hr : 0 < len → ∃ ad, A = some ad ∧ ad.block < w.heap.size ∧ ∀ k, k < len → w.cell? (ad.add k) = some (.int .i64 (zs.getD k 0))) (hwf : ∀ k, k < len → (Lit.int .i64 (zs.getD k 0)).wf = true) :
    Calls Try.prog 16 #[.slice A len cap] w fun e w' => e = .returned (.tuple #[.pointer (some ⟨w.heap.size + 1, 0, none⟩), .int .i64 0]) ∧ Days w' (w.heap.size + 1) zs ∧ Below w.heap.size w w' := by
  have hmm := @run_makeMap Try.prog
  have hgt : decide (512 < (len : Int)) = false := decide_eq_false (by omega)
  by_cases h0 : len = 0
  · subst h0
    obtain rfl : zs = [] := List.length_eq_zero_iff.1 hlen
    clear hr hwf h512
    go_enter Try.func16, Try.ntmps16
    go_wp2
    refine wp_loop_rounds 1 ?_
    rw [rounds_succ]
    go_wp2
    go_ret2
    exact ⟨rfl, ⟨w.heap.size, .map [], Blk.of_size (by simp), ((World.ownsMap_made _ _ _ _).alloc _).mono (by decide), Hol_nil, by decide⟩, ((Below.refl _ _).alloc (Nat.le_refl _) _).alloc (by simp) _⟩
  · obtain ⟨ad, rfl, hab, hcells⟩ := hr (by omega)
    clear hr h0
    go_enter Try.func16, Try.ntmps16
    go_wp2
    go_loopw [15] (fun i wr => ∃ k : Nat, k ≤ len ∧ i = .int .i64 k ∧ (∃ D, wr.ownsMap Try.prog 2 (plainElem (H := Unit) Try.prog 3) w.heap.size k D ∧ Hol D (zs.take k)) ∧ Blk wr (w.heap.size + 1) 54 #[.map (some w.heap.size)] ∧ Below w.heap.size w wr)
      (fun i _ => len - (intOf i).toNat)
    case atStart => exact ⟨0, Nat.zero_le _, rfl, ⟨.map [], (World.ownsMap_made _ _ _ _).alloc _, Hol_nil⟩, Blk.of_size (by simp), ((Below.refl _ _).alloc (Nat.le_refl _) _).alloc (by simp) _⟩
    case round =>
      obtain ⟨k, hk, rfl, ⟨D, hown, hol⟩, hbk, hnx⟩ := hrel
      have c0 : wr.cell? ⟨w.heap.size + 1, 0, none⟩ = some (.map (some w.heap.size)) := hbk.cell 0
      by_cases hlt : k < len
      · have hd : decide ((k : Int) < (len : Int)) = true := decide_eq_true (by omega)
        have hcx : wr.cell? (ad.add k) = some (.int .i64 (zs.getD k 0)) := (hnx.cell (p := ad.add k) (by simp only [Addr.add]; split <;> exact hab)).trans (hcells k hlt)
        have hkey : keyOf Try.prog 2 (.int .i64 (zs.getD k 0)) = some (.int .i64 (zs.getD k 0)) := keyOf_int_mk Try.underlying2 (hwf k hlt)
        have htk : zs.take (k + 1) = zs.take k ++ [zs.getD k 0] := by
          rw [List.take_add_one, List.getD_eq_getElem?_getD, List.getElem?_eq_getElem (by omega)]
          rfl
        have hcb := cnt_bd (zs.take k) (zs.getD k 0)
        have hcl : (zs.take k).length ≤ 512 := by simp; omega
        have hH := hide htk
        clear htk
        generalize zs.getD k 0 = z at *
        go_wp2_with (first
          | (at_lookup; refine wpList_lookup_own_int _ rfl _ _ 52 rfl 2 3 .i64 law64 Try.underlying52 Try.underlying3 (zeroInt _) w.heap.size k _ rfl hown _ _ rfl hkey ?_; intro c hat hwc; obtain rfl : c = cnt (zs.take k) z := hol_val hol hat)
          | (at_mapUpdate; refine wpList_mapUpdate_own _ rfl _ _ _ 52 rfl 2 3 law64 Try.underlying52 _ w.heap.size k _ rfl hown (by unfold maxLen; omega) _ _ _ rfl rfl hkey _ [] (plainElem_int Try.underlying3 (WalkArith.wf_i64 (by omega))) ?_; intro w1 hown1 hgrow1)
          | go_in)
        go_roundw
        case rel => exact ⟨k + 1, by omega, by go_num, ⟨_, hown1, by rw [hH.out]; exact Hol_step hown.isMap hol⟩, hbk.grown hgrow1 (by simp), hnx.grown hgrow1 hnx.size (fun j hj => by cases hj; exact Nat.le_refl _)⟩
        case measure => simp [intOf]; omega
      · have hd : decide ((k : Int) < (len : Int)) = false := decide_eq_false (by omega)
        obtain rfl : k = len := by omega
        have htk : zs.take k = zs := List.take_of_length_le (by omega)
        rw [htk] at hol
        go_wp2
        go_ret2
        exact ⟨rfl, ⟨w.heap.size, D, hbk, hown.mono h512, hol, by omega⟩, hnx⟩
end Go.Proofs.Ytehkaiildchmfaa
