/- The walk of Rolls' law. -/
import Derived.Test.YtehkaiildchmfaaCalP
import Derived.Test.YtehkaiildchmfaaCalQ
import Derived.Test.YtehkaiildchmfaaCalK
namespace Go.Proofs.Ytehkaiildchmfaa.calendarRolls
open Go.RowKit
open calendarBetween (i64_of new_rd wf_get)
set_option linter.unusedVariables false

def enc64 (l : List Int) : List Value := l.map fun x => .int .i64 x
theorem enc64_one (a : List Int) : ∀ u ∈ enc64 a, u.oneCell' = true := by
  intro u hu
  obtain ⟨x, _, rfl⟩ := List.mem_map.1 hu
  rfl
theorem rd_reads {w : World} {A : Option Addr} {len : Nat} {zs : List Int} (h : Rd w A len zs) : Reads w w.heap.size 1 A len (enc64 zs) := by
  refine ⟨by simp [enc64, h.1], fun h0 => ?_⟩
  obtain ⟨ad, e, hl, hc⟩ := h.2 h0
  refine ⟨ad, e, hl, fun j u hu => ?_⟩
  unfold enc64 at hu
  rw [List.getElem?_map, Option.map_eq_some_iff] at hu
  obtain ⟨z, hz, rfl⟩ := hu
  have hj : j < len := by rw [← h.1]; exact (List.getElem?_eq_some_iff.1 hz).1
  rw [hc j hj, List.getD_eq_getElem?_getD, hz]
  rfl
theorem reads_rd {w : World} {A : Option Addr} {len : Nat} {zs : List Int} (h : Reads w w.heap.size 1 A len (enc64 zs)) : Rd w A len zs := by
  have hl : zs.length = len := by simpa [enc64] using h.1
  refine ⟨hl, fun h0 => ?_⟩
  obtain ⟨ad, e, hb, hc⟩ := h.2 h0
  refine ⟨ad, e, hb, fun k hk => hc k _ ?_⟩
  unfold enc64
  rw [List.getElem?_map, List.getElem?_eq_getElem (by omega), List.getD_eq_getElem?_getD, List.getElem?_eq_getElem (by omega)]
  rfl

/-- A block of ours whose first cells hold numbers. -/
def OwnI (w : World) (b n : Nat) : Prop := ∃ cur, Blk w b 2 cur ∧ ∀ k, k < n → ∃ z, cur[k]? = some (Value.int .i64 z)
theorem OwnI.set {w : World} {b n : Nat} (h : OwnI w b n) (k : Nat) (z : Int) : OwnI (w.setCell ⟨b, k, none⟩ (.int .i64 z)) b n := by
  obtain ⟨cur, hb, hc⟩ := h
  refine ⟨_, hb.set_ k _, fun j hj => ?_⟩
  rw [Array.getElem?_setIfInBounds]
  split
  · rename_i e
    subst e
    obtain ⟨x, hx⟩ := hc k hj
    have := (Array.getElem?_eq_some_iff.1 hx).1
    rw [if_pos this]
    exact ⟨z, rfl⟩
  · exact hc j hj
theorem OwnI.below {w w' : World} {b n : Nat} (h : OwnI w b n) (hb : Below w.heap.size w w') : OwnI w' b n := by
  obtain ⟨cur, h1, h2⟩ := h
  exact ⟨cur, h1.below hb h1.lt, h2⟩
theorem days_set {w : World} {g b : Nat} {zs : List Int} {cur : Array Value} (h : Days w g zs) (hk : Blk w b 2 cur) (i : Nat) (u : Value) : Days (w.setCell ⟨b, i, none⟩ u) g zs := by
  obtain ⟨m, D, h1, h2, h3, h4⟩ := h
  have hg : g ≠ b := Blk.ne_ h1 hk (by decide)
  obtain ⟨es, clock, hm, hF, hs, hD⟩ := h2
  have hmb : m ≠ b := by
    rintro rfl
    unfold Blk at hk
    rw [hk] at hm
    cases hm
  exact ⟨m, D, h1.far hg u, ⟨es, clock, (Below.heap_setCell w ⟨b, i, none⟩ u m hmb).trans hm, hF, hs, hD⟩, h3, h4⟩
theorem add_row (b k : Nat) : (⟨b, 0, none⟩ : Addr).add k = ⟨b, k, none⟩ := by unfold Addr.add; split <;> simp_all
/-- What append has made of the holidays. -/
theorem own_parts {w : World} {base len : Nat} {v : Value} {zs : List Int} (h : w.ownsRow base 2 1 v len (enc64 zs)) :
    ∃ A c, v = .slice A len c ∧ Rd w A len zs ∧ ∀ ad, A = some ad → ∃ b, ad = ⟨b, 0, none⟩ ∧ base ≤ b ∧ OwnI w b len := by
  have h' := h
  rcases h.2 with ⟨rfl, rfl⟩ | ⟨g, cap, cur, rfl, hg, hh, hnc, _, _, ht⟩
  · exact ⟨none, 0, rfl, reads_rd (.of_own h'), fun ad e => by cases e⟩
  · refine ⟨some ⟨g, 0, none⟩, cap, rfl, reads_rd (.of_own h'), fun ad e => ⟨g, ?_, hg, cur, hh, fun k hk => ?_⟩⟩
    · injection e with e
      exact e.symm
    · have hzl : zs.length = len := by simpa [enc64] using h.1
      have e1 : (cur.toList.take (len * 1))[k]? = (enc64 zs)[k]? := by rw [ht]
      rw [List.getElem?_take_of_lt (by omega)] at e1
      unfold enc64 at e1
      rw [List.getElem?_map, show zs[k]? = some (zs[k]'(by omega)) from List.getElem?_eq_getElem (by omega)] at e1
      exact ⟨_, by simpa using e1⟩
theorem info64 : (Try.prog.info? 2).map (fun i => (i.zero, i.size, i.bytes)) = some (some (.int .i64 0), 1, 8) := by kernel_rfl

set_option maxHeartbeats 4000000 in
theorem walk_far (A : Option Addr) (len cap : Nat) (zs : List Int) (n : Int) (w : World) (hR : Rd w A len zs) (hw : ∀ z ∈ zs, (Lit.int .i64 z).wf = true) (wn : (Lit.int .i64 n).wf = true) (hl : decide (600 < (len : Int)) = true) : Calls Try.prog 7 #[.slice A len cap, .int .i64 n] w fun e w' => e = .returned (.bool true) ∧ Below w.heap.size w w' := by
  have hal := fun W => hide (alive_calls W)
  go_enter Try.func7, Try.ntmps7
  go_wp2_with fail
  refine (unhide (hal _)).mono ?_
  rintro e w1 ⟨rfl, hb1⟩
  go_wp2
  go_ret
  exact ⟨rfl, hb1⟩

set_option maxHeartbeats 4000000 in
theorem walk_many (A : Option Addr) (len cap : Nat) (zs : List Int) (n : Int) (w : World) (hR : Rd w A len zs) (hw : ∀ z ∈ zs, (Lit.int .i64 z).wf = true) (wn : (Lit.int .i64 n).wf = true) (hl : decide (600 < (len : Int)) = false) (h5 : decide (512 < (len : Int)) = true) : Calls Try.prog 7 #[.slice A len cap, .int .i64 n] w fun e w' => e = .returned (.bool true) ∧ Below w.heap.size w w' := by
  have hnew := fun A2 c2 W => hide (new_many A2 len c2 (by have := of_decide_eq_true h5; omega) W)
  have hal := fun W => hide (alive_calls W)
  obtain ⟨i0, hi, hz0, hz1, hz2⟩ := info_parts info64
  have hlen : len ≤ 600 := by have := of_decide_eq_false hl; omega
  have hm : len ≤ maxLen := by unfold maxLen; omega
  have hR0 := fun w' (hb : Below w.heap.size w w') => rd_reads (hR.on hb)
  go_enter Try.func7, Try.ntmps7
  go_wp2_with fail
  refine (unhide (hal _)).mono ?_
  rintro e w1 ⟨rfl, hb1⟩
  have hs1 := hb1.size
  have hR1 := hR0 w1 hb1
  clear hal hR0
  have hown : (w1.alloc (.cells #[] 2)).ownsRow w.heap.size 2 1 (.slice (some ⟨w1.heap.size, 0, none⟩) 0 0) 0 [] :=
    World.ownsRow_made w1 #[] 0 hs1 (by unfold maxLen; omega) rfl
  go_wp2_with (at_builtin; refine wpList_append_any _ rfl (.tmp 26) (.tmp 27) 39 rfl w.heap.size 2 i0 (.int .i64 0) 1 8 Try.underlying39 hi hz0 hz1 hz2 rfl (by omega) _ 0 [] rfl hown w1.heap.size A len cap (enc64 zs) rfl (hR1.alloc (Nat.le_refl _) _) (enc64_one _) (by omega) (by omega) (by simp; omega) ?_; intro v2 w2 hown2 hg2 hv2)
  have hg2' : (w1.alloc (.cells #[] 2)).grownBy w2 (some w1.heap.size) := hg2
  have hb2 : Below w.heap.size w w2 := (hb1.alloc hs1 _).grown hg2' (by simp; omega) (fun k h => by injection h; omega)
  rw [Nat.zero_add, List.nil_append] at hown2
  clear hg2 hg2' hv2 hown hR1 hi hz0 hz1 hz2
  obtain ⟨A2, c2, rfl, hRo, hO⟩ := own_parts hown2
  clear hown2 hb1
  go_wp2_with fail
  refine (unhide (hnew _ _ _)).mono ?_
  rintro e w3 ⟨rfl, rfl⟩
  go_wp2
  go_ret
  exact ⟨rfl, hb2⟩

set_option maxHeartbeats 8000000 in
theorem walk_good (A : Option Addr) (len cap : Nat) (zs : List Int) (n : Int) (w : World) (hR : Rd w A len zs) (hw : ∀ z ∈ zs, (Lit.int .i64 z).wf = true) (wn : (Lit.int .i64 n).wf = true) (hl : decide (600 < (len : Int)) = false) (h5 : decide (512 < (len : Int)) = false) : Calls Try.prog 7 #[.slice A len cap, .int .i64 n] w fun e w' => e = .returned (.bool true) ∧ Below w.heap.size w w' := by
  have hnew := fun A2 c2 W h => hide (new_rd A2 len c2 zs W h (by have := of_decide_eq_false h5; omega) hw)
  have c1 := fun g W h => hide (roll_calls g zs n W h)
  have c2' := fun g W h => hide (back_calls g zs n W h)
  have c3 := fun g W h => hide (modified_calls g zs n W h)
  have c4 := fun W h => hide (rseekP A len cap zs n W h (by have := of_decide_eq_false h5; omega))
  have c5 := fun W h => hide (rseekM A len cap zs n W h (by have := of_decide_eq_false h5; omega))
  have c6 := fun W h => hide (rmodified_calls A len cap zs n W h (by have := of_decide_eq_false h5; omega))
  have c7 := fun g W h => hide (business_calls g zs n (i64_of wn) W h)
  have c8 := fun W h => hide (rbus_calls A len cap zs n W h (by have := of_decide_eq_false h5; omega))
  generalize seekV zs n 1 = r1 at *
  generalize seekE zs n 1 = r2 at *
  generalize seekV zs n (-1) = r3 at *
  generalize seekE zs n (-1) = r4 at *
  generalize modV zs n = r5 at *
  generalize modE zs n = r6 at *
  generalize busB zs n = r7 at *
  have hal := fun W => hide (alive_calls W)
  obtain ⟨i0, hi, hz0, hz1, hz2⟩ := info_parts info64
  have hlen : len ≤ 600 := by have := of_decide_eq_false hl; omega
  have hm : len ≤ maxLen := by unfold maxLen; omega
  have hR0 := fun w' (hb : Below w.heap.size w w') => rd_reads (hR.on hb)
  go_enter Try.func7, Try.ntmps7
  go_wp2_with fail
  refine (unhide (hal _)).mono ?_
  rintro e w1 ⟨rfl, hb1⟩
  have hs1 := hb1.size
  have hR1 := hR0 w1 hb1
  clear hal hR0
  have hown : (w1.alloc (.cells #[] 2)).ownsRow w.heap.size 2 1 (.slice (some ⟨w1.heap.size, 0, none⟩) 0 0) 0 [] :=
    World.ownsRow_made w1 #[] 0 hs1 (by unfold maxLen; omega) rfl
  go_wp2_with (at_builtin; refine wpList_append_any _ rfl (.tmp 26) (.tmp 27) 39 rfl w.heap.size 2 i0 (.int .i64 0) 1 8 Try.underlying39 hi hz0 hz1 hz2 rfl (by omega) _ 0 [] rfl hown w1.heap.size A len cap (enc64 zs) rfl (hR1.alloc (Nat.le_refl _) _) (enc64_one _) (by omega) (by omega) (by simp; omega) ?_; intro v2 w2 hown2 hg2 hv2)
  have hg2' : (w1.alloc (.cells #[] 2)).grownBy w2 (some w1.heap.size) := hg2
  have hb2 : Below w.heap.size w w2 := (hb1.alloc hs1 _).grown hg2' (by simp; omega) (fun k h => by injection h; omega)
  rw [Nat.zero_add, List.nil_append] at hown2
  clear hg2 hg2' hv2 hown hR1 hi hz0 hz1 hz2
  obtain ⟨A2, c2, rfl, hRo, hO⟩ := own_parts hown2
  clear hown2 hb1
  go_wp2_with fail
  refine (unhide (hnew _ _ _ hRo)).mono ?_
  rintro e w3 ⟨rfl, hD, hb3⟩
  have hO3 : ∀ ad, A2 = some ad → ∃ b, ad = ⟨b, 0, none⟩ ∧ w.heap.size ≤ b ∧ OwnI w3 b len := fun ad e => by
    obtain ⟨b, h1, h2, h3⟩ := hO ad e
    exact ⟨b, h1, h2, h3.below hb3⟩
  have hb4 := hb2.trans (hb3.mono hb2.size)
  have hA2 : 0 < len → ∃ ad, A2 = some ad := fun h => by
    obtain ⟨ad, e, _⟩ := hRo.2 h
    exact ⟨ad, e⟩
  clear hO hb2 hb3 hnew hRo
  generalize w2.heap.size + 1 = g at *
  go_wp2
  go_loopw [51] (fun i wr => ∃ k : Nat, k ≤ len ∧ i = .int .i64 k ∧ (∀ ad, A2 = some ad → ∃ b, ad = ⟨b, 0, none⟩ ∧ w.heap.size ≤ b ∧ OwnI wr b len) ∧ Days wr g zs ∧ Below w.heap.size w wr) (fun i _ => len - (intOf i).toNat)
  case atStart => exact ⟨0, Nat.zero_le _, rfl, hO3, hD, hb4⟩
  case round =>
    clear hO3 hD hb4
    obtain ⟨k, hk, rfl, hO, hD, hb⟩ := hrel
    by_cases hlt : k < len
    · have hd : decide ((k : Int) < (len : Int)) = true := decide_eq_true (by omega)
      obtain ⟨ad, rfl⟩ := hA2 (by omega)
      obtain ⟨b, hadb, hwb, hI⟩ := hO ad rfl
      obtain ⟨cur, hblk, hcur⟩ := hI
      obtain ⟨z, hz⟩ := hcur k hlt
      have hadd : ad.add k = ⟨b, k, none⟩ := by rw [hadb]; exact add_row b k
      have hc : wr.cell? (ad.add k) = some (.int .i64 z) := by rw [hadd, hblk.cell k, hz]
      have hfz : wr.frozen? (ad.add k) = false := by rw [hadd]; exact hblk.frozen k
      have hadd' := hide hadd
      have hN : ∀ u : Int, (∀ ad', some ad = some ad' → ∃ b, ad' = ⟨b, 0, none⟩ ∧ w.heap.size ≤ b ∧ OwnI (wr.setCell (ad.add k) (.int .i64 u)) b len) ∧ Days (wr.setCell (ad.add k) (.int .i64 u)) g zs ∧ Below w.heap.size w (wr.setCell (ad.add k) (.int .i64 u)) := fun u => by
        rw [hadd]
        refine ⟨fun ad' e => ⟨b, ?_, hwb, OwnI.set ⟨cur, hblk, hcur⟩ k u⟩, days_set hD hblk k _, hb.setCell (by exact hwb) _⟩
        injection e with e
        rw [← e, hadb]
      have hN' := hide hN
      clear hN hO hD hadd hblk hcur hz hA2 hadb hwb c1 c2' c3 c4 c5 c6 c7 c8
      go_wp2
      go_roundw
      case rel => exact ⟨k + 1, by omega, by go_num, hN'.out _⟩
      case measure => simp [intOf]; omega
    · have hd : decide ((k : Int) < (len : Int)) = false := decide_eq_false (by omega)
      have hRw := hR.on hb
      clear hO hA2 hR
      go_wp2_with fail
      refine (unhide (c1 _ _ hD)).mono ?_
      rintro e w5 ⟨rfl, x1⟩
      have hD1 := hD.on x1
      have hR1 := hRw.on x1
      have b1 := hb.trans (x1.mono hb.size)
      clear hD hRw hb x1 c1
      go_wp2_with fail
      refine (unhide (c2' _ _ hD1)).mono ?_
      rintro e w6 ⟨rfl, x2⟩
      have hD2 := hD1.on x2
      have hR2 := hR1.on x2
      have b2 := b1.trans (x2.mono b1.size)
      clear hD1 hR1 b1 x2 c2'
      go_wp2_with fail
      refine (unhide (c3 _ _ hD2)).mono ?_
      rintro e w7 ⟨rfl, x3⟩
      have hD3 := hD2.on x3
      have hR3 := hR2.on x3
      have b3 := b2.trans (x3.mono b2.size)
      clear hD2 hR2 b2 x3 c3
      go_wp2_with fail
      refine (unhide (c4 _ hR3)).mono ?_
      rintro e w8 ⟨rfl, x4⟩
      have hD4 := hD3.on x4
      have hR4 := hR3.on x4
      have b4 := b3.trans (x4.mono b3.size)
      clear hD3 hR3 b3 x4 c4
      go_wp2_with fail
      refine (unhide (c5 _ hR4)).mono ?_
      rintro e w9 ⟨rfl, x5⟩
      have hD5 := hD4.on x5
      have hR5 := hR4.on x5
      have b5 := b4.trans (x5.mono b4.size)
      clear hD4 hR4 b4 x5 c5
      go_wp2_with fail
      refine (unhide (c6 _ hR5)).mono ?_
      rintro e w10 ⟨rfl, x6⟩
      have hD6 := hD5.on x6
      have hR6 := hR5.on x6
      have b6 := b5.trans (x6.mono b5.size)
      clear hD5 hR5 b5 x6 c6
      go_wp2_with fail
      refine (unhide (c7 _ _ hD6)).mono ?_
      rintro e w11 ⟨rfl, rfl⟩
      go_wp2_with fail
      refine (unhide (c8 _ hR6)).mono ?_
      rintro e w12 ⟨rfl, rfl⟩
      go_wp2
      go_ret
      exact ⟨rfl, b6⟩

theorem walk (A : Option Addr) (len cap : Nat) (zs : List Int) (n : Int) (w : World) (hR : Rd w A len zs) (hw : ∀ z ∈ zs, (Lit.int .i64 z).wf = true) (wn : (Lit.int .i64 n).wf = true) : Calls Try.prog 7 #[.slice A len cap, .int .i64 n] w fun e w' => e = .returned (.bool true) ∧ Below w.heap.size w w' := by
  cases hl : decide (600 < (len : Int))
  case true => exact walk_far A len cap zs n w hR hw wn hl
  cases h5 : decide (512 < (len : Int))
  · exact walk_good A len cap zs n w hR hw wn hl h5
  · exact walk_many A len cap zs n w hR hw wn hl h5
end Go.Proofs.Ytehkaiildchmfaa.calendarRolls
