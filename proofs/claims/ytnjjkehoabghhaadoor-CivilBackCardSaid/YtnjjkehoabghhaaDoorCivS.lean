/- The walks of civil.Parse and the document's digit. -/
import Derived.Test.YtnjjkehoabghhaaDoorCivT
import Derived.Test.YtnjjkehoabghhaaDoorCivQ
namespace Go.Proofs.YtnjjkehoabghhaaDoor
open Go.RowKit

def digV (c : Int) : Int := if c < 48 then 100 else if 57 < c then 100 else c - 48

theorem digit_calls (c : Int) (h0 : 0 ≤ c) (h1 : c < 256) (w : World) :
    Calls Tryd.prog 31 #[.int .u8 c] w fun e w' => e = .returned (.int .i64 (digV c)) ∧ w = w' := by
  unfold digV
  by_cases a : c < 48
  · have k1 : decide (c < 48) = true := decide_eq_true a
    rw [if_pos a]
    clear a
    go_enter Tryd.func31, Tryd.ntmps31
    go_wp2
    go_ret
    exact ⟨rfl, rfl⟩
  · have k1 : decide (c < 48) = false := decide_eq_false a
    rw [if_neg a]
    by_cases b : 57 < c
    · have k2 : decide (57 < c) = true := decide_eq_true b
      rw [if_pos b]
      clear a b
      go_enter Tryd.func31, Tryd.ntmps31
      go_wp2
      go_ret
      exact ⟨rfl, rfl⟩
    · have k2 : decide (57 < c) = false := decide_eq_false b
      rw [if_neg b]
      go_enter Tryd.func31, Tryd.ntmps31
      go_wp2
      go_ret
      exact ⟨rfl, rfl⟩

/-- What Text gives. -/
def txV (y m d : Int) : ByteArray := if rightB y m d then ⟨(textL y m d).toArray⟩ else ⟨#[]⟩

theorem text_any (y m d : Int) (W : World) (hT : TabW W) :
    Calls Tryd.prog 20 #[.agg #[.int .i64 y, .int .i64 m, .int .i64 d]] W fun e w' => e = .returned (.string (txV y m d)) ∧ Below W.heap.size W w' := by
  unfold txV
  cases h : rightB y m d
  · exact text_bad y m d W h
  · exact text_good y m d W hT h

theorem parse_short (s : ByteArray) (hs : s.size ≠ 10) (w : World) :
    Calls Tryd.prog 25 #[.string s] w fun e w' => e = .returned (.tuple #[.agg #[.int .i64 0, .int .i64 0, .int .i64 0], .int .i64 31]) ∧ Below w.heap.size w w' := by
  have k1 : ((s.size : Int) == 10) = false := beq_eq_false_iff_ne.2 (by omega)
  have bz : Blk (w.alloc (.cells #[.int .i64 0, .int .i64 0, .int .i64 0] 23)) w.heap.size 23 #[.int .i64 0, .int .i64 0, .int .i64 0] := box3 w _ 0 0 0
  have hb0 := (Below.refl w.heap.size w).alloc (Nat.le_refl _) (.cells #[.int .i64 0, .int .i64 0, .int .i64 0] 23)
  go_enter Tryd.func25, Tryd.ntmps25
  go_wp2
  refine bodyPost_ret (results_row_tmp rfl _ _ w.heap.size 23 #[_, _, _] (0, 0) _ rfl bz Tryd.underlying23 rfl (by kernel_rfl)) rfl ⟨rfl, hb0⟩

def pY (s : ByteArray) : Int := atoiV (s.extract 0 4).data.toList
def pM (s : ByteArray) : Int := atoiV (s.extract 5 7).data.toList
def pD (s : ByteArray) : Int := atoiV (s.extract 8 10).data.toList

theorem list_inj {a b : ByteArray} (h : a.toList = b.toList) : a = b := by
  rw [ByteArray.toList_eq, ByteArray.toList_eq] at h
  exact ByteArray.ext (Array.ext' h)

theorem cell_lt {w : World} {g : Nat} {v : Value} (h : w.cell? ⟨g, 0, none⟩ = some v) : g < w.heap.size := by
  rcases Nat.lt_or_ge g w.heap.size with hlt | hge
  · exact hlt
  · unfold World.cell? at h
    simp [Array.getElem?_eq_none hge] at h

set_option maxHeartbeats 4000000 in
theorem parse_ok (s : ByteArray) (hs : s.size = 10) (hq : txV (pY s) (pM s) (pD s) = s) (w : World) (hT : TabW w) (hE : ErrW w) :
    Calls Tryd.prog 25 #[.string s] w fun e w' => e = .returned (.tuple #[.agg #[.int .i64 (pY s), .int .i64 (pM s), .int .i64 (pD s)], .int .i64 0]) ∧ Below w.heap.size w w' := by
  have k1 : ((s.size : Int) == 10) = true := beq_iff_eq.2 (by omega)
  have bz : Blk (w.alloc (.cells #[.int .i64 0, .int .i64 0, .int .i64 0] 23)) w.heap.size 23 #[.int .i64 0, .int .i64 0, .int .i64 0] := box3 w _ 0 0 0
  have hb0 := (Below.refl w.heap.size w).alloc (Nat.le_refl _) (.cells #[.int .i64 0, .int .i64 0, .int .i64 0] 23)
  have hpos : 0 < w.heap.size := by
    obtain ⟨ev, h1, h2⟩ := hE
    exact cell_lt h1
  have hz1 : (s.extract 0 4).size ≤ 18 := by simp; omega
  have hz2 : (s.extract 5 7).size ≤ 18 := by simp; omega
  have hz3 : (s.extract 8 10).size ≤ 18 := by simp; omega
  have h1 := fun W hE => hide (atoi_calls (s.extract 0 4) hz1 W hE)
  have h2 := fun W hE => hide (atoi_calls (s.extract 5 7) hz2 W hE)
  have h3 := fun W hE => hide (atoi_calls (s.extract 8 10) hz3 W hE)
  have hx := fun W hT => hide (text_any (pY s) (pM s) (pD s) W hT)
  have hE0 := hE.on hb0 hpos
  unfold pY pM pD at *
  generalize atoiV (s.extract 0 4).data.toList = y at *
  generalize atoiV (s.extract 5 7).data.toList = m at *
  generalize atoiV (s.extract 8 10).data.toList = d at *
  rw [hq] at hx
  clear hq
  clear hz1 hz2 hz3
  go_enter Tryd.func25, Tryd.ntmps25
  go_wp2_with fail
  refine (unhide (h1 _ hE0)).mono ?_
  rintro e w1 ⟨⟨er1, rfl⟩, hx1⟩
  have bz1 := bz.below hx1 bz.lt
  have hb1 := hb0.trans (hx1.mono hb0.size)
  have hE1 := hE.on hb1 hpos
  clear bz hb0 hx1 hE0 h1
  go_wp2_with fail
  refine (unhide (h2 _ hE1)).mono ?_
  rintro e w2 ⟨⟨er2, rfl⟩, hx2⟩
  have bz2 := bz1.below hx2 bz1.lt
  have hb2 := hb1.trans (hx2.mono hb1.size)
  have hE2 := hE.on hb2 hpos
  clear bz1 hb1 hx2 hE1 h2
  go_wp2_with fail
  refine (unhide (h3 _ hE2)).mono ?_
  rintro e w3 ⟨⟨er3, rfl⟩, hx3⟩
  have bz3 := bz2.below hx3 bz2.lt
  have hb3 := hb2.trans (hx3.mono hb2.size)
  clear bz2 hb2 hx3 hE2 h3
  have bo4 := box3 w3 23 y m d
  have bz4 := bz3.alloc (.cells #[.int .i64 y, .int .i64 m, .int .i64 d] 23)
  have hb4 := hb3.alloc hb3.size (.cells #[.int .i64 y, .int .i64 m, .int .i64 d] 23)
  have hT4 := hT.on hb4
  clear bz3 hb3
  go_wp2_with fail
  refine (unhide (hx _ hT4)).mono ?_
  rintro e w5 ⟨rfl, hx5⟩
  have bo5 := bo4.below hx5 bo4.lt
  have bz5 := bz4.below hx5 bz4.lt
  have hb5 := hb4.trans (hx5.mono hb4.size)
  clear bo4 bz4 hb4 hx5 hT4 hx
  have c0 : w5.cell? ⟨w3.heap.size, 0, none⟩ = some (.int .i64 y) := bo5.cell 0
  have c1 : w5.cell? ⟨w3.heap.size, 1, none⟩ = some (.int .i64 m) := bo5.cell 1
  have c2 : w5.cell? ⟨w3.heap.size, 2, none⟩ = some (.int .i64 d) := bo5.cell 2
  have a0 : w5.cell? ⟨w.heap.size, 0, none⟩ = some (.int .i64 0) := bz5.cell 0
  have a1 : w5.cell? ⟨w.heap.size, 1, none⟩ = some (.int .i64 0) := bz5.cell 1
  have a2 : w5.cell? ⟨w.heap.size, 2, none⟩ = some (.int .i64 0) := bz5.cell 2
  have f0 := bz5.frozen 0
  have f1 := bz5.frozen 1
  have f2 := bz5.frozen 2
  go_wp2
  refine bodyPost_ret (results_row_tmp rfl _ _ w.heap.size 23 #[_, _, _] (0, 0) _ rfl (Blk.eq_ (((bz5.set_ 0 _).set_ 1 _).set_ 2 _) rfl) Tryd.underlying23 rfl (by kernel_rfl)) rfl ⟨rfl, ?_⟩
  exact ((hb5.setCell (by simp) _).setCell (by simp) _).setCell (by simp) _

set_option maxHeartbeats 4000000 in
theorem parse_no (s : ByteArray) (hs : s.size = 10) (hq : txV (pY s) (pM s) (pD s) ≠ s) (w : World) (hT : TabW w) (hE : ErrW w) :
    Calls Tryd.prog 25 #[.string s] w fun e w' => e = .returned (.tuple #[.agg #[.int .i64 0, .int .i64 0, .int .i64 0], .int .i64 31]) ∧ Below w.heap.size w w' := by
  have k1 : ((s.size : Int) == 10) = true := beq_iff_eq.2 (by omega)
  have bz : Blk (w.alloc (.cells #[.int .i64 0, .int .i64 0, .int .i64 0] 23)) w.heap.size 23 #[.int .i64 0, .int .i64 0, .int .i64 0] := box3 w _ 0 0 0
  have hb0 := (Below.refl w.heap.size w).alloc (Nat.le_refl _) (.cells #[.int .i64 0, .int .i64 0, .int .i64 0] 23)
  have hpos : 0 < w.heap.size := by
    obtain ⟨ev, h1, h2⟩ := hE
    exact cell_lt h1
  have hz1 : (s.extract 0 4).size ≤ 18 := by simp; omega
  have hz2 : (s.extract 5 7).size ≤ 18 := by simp; omega
  have hz3 : (s.extract 8 10).size ≤ 18 := by simp; omega
  have h1 := fun W hE => hide (atoi_calls (s.extract 0 4) hz1 W hE)
  have h2 := fun W hE => hide (atoi_calls (s.extract 5 7) hz2 W hE)
  have h3 := fun W hE => hide (atoi_calls (s.extract 8 10) hz3 W hE)
  have hx := fun W hT => hide (text_any (pY s) (pM s) (pD s) W hT)
  have hE0 := hE.on hb0 hpos
  unfold pY pM pD at *
  generalize atoiV (s.extract 0 4).data.toList = y at *
  generalize atoiV (s.extract 5 7).data.toList = m at *
  generalize atoiV (s.extract 8 10).data.toList = d at *
  generalize txV y m d = TX at *
  have k2 : (TX.toList == s.toList) = false := beq_eq_false_iff_ne.2 (fun h => hq (list_inj h))
  clear hz1 hz2 hz3
  go_enter Tryd.func25, Tryd.ntmps25
  go_wp2_with fail
  refine (unhide (h1 _ hE0)).mono ?_
  rintro e w1 ⟨⟨er1, rfl⟩, hx1⟩
  have bz1 := bz.below hx1 bz.lt
  have hb1 := hb0.trans (hx1.mono hb0.size)
  have hE1 := hE.on hb1 hpos
  clear bz hb0 hx1 hE0 h1
  go_wp2_with fail
  refine (unhide (h2 _ hE1)).mono ?_
  rintro e w2 ⟨⟨er2, rfl⟩, hx2⟩
  have bz2 := bz1.below hx2 bz1.lt
  have hb2 := hb1.trans (hx2.mono hb1.size)
  have hE2 := hE.on hb2 hpos
  clear bz1 hb1 hx2 hE1 h2
  go_wp2_with fail
  refine (unhide (h3 _ hE2)).mono ?_
  rintro e w3 ⟨⟨er3, rfl⟩, hx3⟩
  have bz3 := bz2.below hx3 bz2.lt
  have hb3 := hb2.trans (hx3.mono hb2.size)
  clear bz2 hb2 hx3 hE2 h3
  have bo4 := box3 w3 23 y m d
  have bz4 := bz3.alloc (.cells #[.int .i64 y, .int .i64 m, .int .i64 d] 23)
  have hb4 := hb3.alloc hb3.size (.cells #[.int .i64 y, .int .i64 m, .int .i64 d] 23)
  have hT4 := hT.on hb4
  clear bz3 hb3
  go_wp2_with fail
  refine (unhide (hx _ hT4)).mono ?_
  rintro e w5 ⟨rfl, hx5⟩
  have bo5 := bo4.below hx5 bo4.lt
  have bz5 := bz4.below hx5 bz4.lt
  have hb5 := hb4.trans (hx5.mono hb4.size)
  clear bo4 bz4 hb4 hx5 hT4 hx
  have c0 : w5.cell? ⟨w3.heap.size, 0, none⟩ = some (.int .i64 y) := bo5.cell 0
  have c1 : w5.cell? ⟨w3.heap.size, 1, none⟩ = some (.int .i64 m) := bo5.cell 1
  have c2 : w5.cell? ⟨w3.heap.size, 2, none⟩ = some (.int .i64 d) := bo5.cell 2
  have a0 : w5.cell? ⟨w.heap.size, 0, none⟩ = some (.int .i64 0) := bz5.cell 0
  have a1 : w5.cell? ⟨w.heap.size, 1, none⟩ = some (.int .i64 0) := bz5.cell 1
  have a2 : w5.cell? ⟨w.heap.size, 2, none⟩ = some (.int .i64 0) := bz5.cell 2
  have f0 := bz5.frozen 0
  have f1 := bz5.frozen 1
  have f2 := bz5.frozen 2
  go_wp2
  refine bodyPost_ret (results_row_tmp rfl _ _ w.heap.size 23 #[_, _, _] (0, 0) _ rfl (Blk.eq_ (((bz5.set_ 0 _).set_ 1 _).set_ 2 _) rfl) Tryd.underlying23 rfl (by kernel_rfl)) rfl ⟨rfl, ?_⟩
  exact ((hb5.setCell (by simp) _).setCell (by simp) _).setCell (by simp) _

end Go.Proofs.YtnjjkehoabghhaaDoor
