/- The walks of months, and of how many days count. -/
import Derived.Test.YtehkaiildchmfaaCalD
namespace Go.Proofs.Ytehkaiildchmfaa
open Go.RowKit

def moY (y m n : Int) : Int := (y * 12 + m - 1 + n) / 12
def moM (y m n : Int) : Int := (y * 12 + m - 1 + n) % 12 + 1
def moL (y m n : Int) : Int := lenI (moY y m n) (moM y m n)
def moD (y m d n : Int) : Int := if d = lenI y m then moL y m n else if d ≤ moL y m n then d else moL y m n
def moB (y m d n : Int) : Bool := rightB (moY y m n) (moM y m n) (moD y m d n)

set_option maxHeartbeats 2000000 in
theorem months_bad (y m d n : Int) (h : rightB y m d = false ∨ n < -4800 ∨ 4800 < n) (w : World) :
    Calls Try.prog 11 #[.agg #[.int .i64 y, .int .i64 m, .int .i64 d], .int .i64 n] w fun e w' => e = .returned (.tuple #[.agg #[.int .i64 0, .int .i64 0, .int .i64 0], .int .i64 31]) ∧ Below w.heap.size w w' := by
  have hrc := fun W => hide (right_calls y m d W)
  have hbz : Blk ((w.alloc (.cells #[.int .i64 y, .int .i64 m, .int .i64 d] 23)).alloc (.cells #[.int .i64 0, .int .i64 0, .int .i64 0] 23)) (w.heap.size + 1) 23 #[.int .i64 0, .int .i64 0, .int .i64 0] := Blk.of_size (by simp)
  have hb0 := ((Below.refl w.heap.size w).alloc (Nat.le_refl _) (.cells #[.int .i64 y, .int .i64 m, .int .i64 d] 23)).alloc (by simp) (.cells #[.int .i64 0, .int .i64 0, .int .i64 0] 23)
  cases hr : rightB y m d
  · rw [hr] at hrc
    clear h hr
    go_enter Try.func11, Try.ntmps11
    go_wp2_with fail
    refine (unhide (hrc _)).mono ?_
    rintro e w1 ⟨rfl, hb1⟩
    have bz := hbz.below hb1 (by simp)
    have hb2 := hb0.trans (hb1.mono (by simp; omega))
    have c0 : w1.cell? ⟨w.heap.size + 1, 0, none⟩ = some (.int .i64 0) := bz.cell 0
    have c1 : w1.cell? ⟨w.heap.size + 1, 1, none⟩ = some (.int .i64 0) := bz.cell 1
    have c2 : w1.cell? ⟨w.heap.size + 1, 2, none⟩ = some (.int .i64 0) := bz.cell 2
    have f0 := bz.frozen 0
    have f1 := bz.frozen 1
    have f2 := bz.frozen 2
    go_wp2
    refine bodyPost_ret (results_row_tmp rfl _ _ (w.heap.size + 1) 23 #[_, _, _] (0, 0) _ rfl (Blk.eq_ (((bz.set_ 0 _).set_ 1 _).set_ 2 _) rfl) Try.underlying23 rfl (by kernel_rfl)) rfl ⟨rfl, ?_⟩
    exact ((hb2.setCell (by simp) _).setCell (by simp) _).setCell (by simp) _
  · rw [hr] at hrc h
    have h' : n < -4800 ∨ 4800 < n := h.resolve_left (by simp)
    clear h hr
    rcases h' with h | h
    · go_enter Try.func11, Try.ntmps11
      go_wp2_with fail
      refine (unhide (hrc _)).mono ?_
      rintro e w1 ⟨rfl, hb1⟩
      have bz := hbz.below hb1 (by simp)
      have hb2 := hb0.trans (hb1.mono (by simp; omega))
      have c0 : w1.cell? ⟨w.heap.size + 1, 0, none⟩ = some (.int .i64 0) := bz.cell 0
      have c1 : w1.cell? ⟨w.heap.size + 1, 1, none⟩ = some (.int .i64 0) := bz.cell 1
      have c2 : w1.cell? ⟨w.heap.size + 1, 2, none⟩ = some (.int .i64 0) := bz.cell 2
      have f0 := bz.frozen 0
      have f1 := bz.frozen 1
      have f2 := bz.frozen 2
      go_wp2
      refine bodyPost_ret (results_row_tmp rfl _ _ (w.heap.size + 1) 23 #[_, _, _] (0, 0) _ rfl (Blk.eq_ (((bz.set_ 0 _).set_ 1 _).set_ 2 _) rfl) Try.underlying23 rfl (by kernel_rfl)) rfl ⟨rfl, ?_⟩
      exact ((hb2.setCell (by simp) _).setCell (by simp) _).setCell (by simp) _
    · have h0 : ¬ n < -4800 := by omega
      go_enter Try.func11, Try.ntmps11
      go_wp2_with fail
      refine (unhide (hrc _)).mono ?_
      rintro e w1 ⟨rfl, hb1⟩
      have bz := hbz.below hb1 (by simp)
      have hb2 := hb0.trans (hb1.mono (by simp; omega))
      have c0 : w1.cell? ⟨w.heap.size + 1, 0, none⟩ = some (.int .i64 0) := bz.cell 0
      have c1 : w1.cell? ⟨w.heap.size + 1, 1, none⟩ = some (.int .i64 0) := bz.cell 1
      have c2 : w1.cell? ⟨w.heap.size + 1, 2, none⟩ = some (.int .i64 0) := bz.cell 2
      have f0 := bz.frozen 0
      have f1 := bz.frozen 1
      have f2 := bz.frozen 2
      go_wp2
      refine bodyPost_ret (results_row_tmp rfl _ _ (w.heap.size + 1) 23 #[_, _, _] (0, 0) _ rfl (Blk.eq_ (((bz.set_ 0 _).set_ 1 _).set_ 2 _) rfl) Try.underlying23 rfl (by kernel_rfl)) rfl ⟨rfl, ?_⟩
      exact ((hb2.setCell (by simp) _).setCell (by simp) _).setCell (by simp) _

set_option maxHeartbeats 4000000 in
theorem months_mid (y m d n : Int) (hr : rightB y m d = true) (hn0 : -4800 ≤ n) (hn1 : n ≤ 4800) (RY RM RD RE : Int) (hpos : moB y m d n = true → RY = moY y m n ∧ RM = moM y m n ∧ RD = moD y m d n ∧ RE = 0) (hneg : moB y m d n = false → RY = 0 ∧ RM = 0 ∧ RD = 0 ∧ RE = 31) (w : World) :
    Calls Try.prog 11 #[.agg #[.int .i64 y, .int .i64 m, .int .i64 d], .int .i64 n] w fun e w' => e = .returned (.tuple #[.agg #[.int .i64 RY, .int .i64 RM, .int .i64 RD], .int .i64 RE]) ∧ Below w.heap.size w w' := by
  have hPos := hide hpos
  have hNeg := hide hneg
  have hrc := fun W => hide (right_calls y m d W)
  rw [hr] at hrc
  obtain ⟨h1, h2, h3, h4, h5, h6⟩ := (right_iff y m d).1 hr
  have hbx : Blk ((w.alloc (.cells #[.int .i64 y, .int .i64 m, .int .i64 d] 23)).alloc (.cells #[.int .i64 0, .int .i64 0, .int .i64 0] 23)) w.heap.size 23 #[.int .i64 y, .int .i64 m, .int .i64 d] := (box3 w _ y m d).alloc _
  have hbz : Blk ((w.alloc (.cells #[.int .i64 y, .int .i64 m, .int .i64 d] 23)).alloc (.cells #[.int .i64 0, .int .i64 0, .int .i64 0] 23)) (w.heap.size + 1) 23 #[.int .i64 0, .int .i64 0, .int .i64 0] := Blk.of_size (by simp)
  have hb0 := ((Below.refl w.heap.size w).alloc (Nat.le_refl _) (.cells #[.int .i64 y, .int .i64 m, .int .i64 d] 23)).alloc (by simp) (.cells #[.int .i64 0, .int .i64 0, .int .i64 0] 23)
  have hl1 := fun W => hide (length_calls y m W)
  have hl2 := fun W => hide (length_calls ((y * 12 + m - 1 + n) / 12) ((y * 12 + m - 1 + n) % 12 + 1) W)
  change ∀ W, Hid (Calls _ _ _ _ fun e w' => e = .returned (.int .i64 (moL y m n)) ∧ _) at hl2
  have hbk := hide (show ∀ D, (rightB ((y * 12 + m - 1 + n) / 12) ((y * 12 + m - 1 + n) % 12 + 1) D = rightB (moY y m n) (moM y m n) D) from fun _ => rfl)
  have hYM := hide (show moY y m n = (y * 12 + m - 1 + n) / 12 ∧ moM y m n = (y * 12 + m - 1 + n) % 12 + 1 from ⟨rfl, rfl⟩)
  have hmD := hide (show moD y m d n = if d = lenI y m then moL y m n else if d ≤ moL y m n then d else moL y m n from rfl)
  have hmB := hide (show moB y m d n = rightB (moY y m n) (moM y m n) (moD y m d n) from rfl)
  clear hr hpos hneg h6
  go_enter Try.func11, Try.ntmps11
  go_wp2_with fail
  refine (unhide (hrc _)).mono ?_
  rintro e w1 ⟨rfl, hb1⟩
  have bx := hbx.below hb1 (by simp; omega)
  have bz := hbz.below hb1 (by simp)
  have hb2 := hb0.trans (hb1.mono (by simp; omega))
  have a0 : w1.cell? ⟨w.heap.size, 0, none⟩ = some (.int .i64 y) := bx.cell 0
  have a1 : w1.cell? ⟨w.heap.size, 1, none⟩ = some (.int .i64 m) := bx.cell 1
  have a2 : w1.cell? ⟨w.heap.size, 2, none⟩ = some (.int .i64 d) := bx.cell 2
  clear hbx hbz hb0 hb1
  go_wp2_with fail
  generalize (y * 12 + m - 1 + n) / 12 = Y at *
  generalize (y * 12 + m - 1 + n) % 12 + 1 = M at *
  refine (unhide (hl2 _)).mono ?_
  rintro e w2 ⟨rfl, hb3⟩
  have by7 := (Blk.new w1 23 #[.int .i64 Y, .int .i64 M, .int .i64 0]).below hb3 (by simp)
  have bx2 := (bx.alloc (.cells #[.int .i64 Y, .int .i64 M, .int .i64 0] 23)).below hb3 (by have := bx.lt; simp; omega)
  have bz2 := (bz.alloc (.cells #[.int .i64 Y, .int .i64 M, .int .i64 0] 23)).below hb3 (by have := bz.lt; simp; omega)
  have hs1 := hb2.size
  have hlt := bz.lt
  have hb4 := (hb2.alloc hs1 (.cells #[.int .i64 Y, .int .i64 M, .int .i64 0] 23)).trans (hb3.mono (by simp; omega))
  clear bx bz hb2 hb3 a0 a1 a2 hs1
  have a0 : w2.cell? ⟨w.heap.size, 0, none⟩ = some (.int .i64 y) := bx2.cell 0
  have a1 : w2.cell? ⟨w.heap.size, 1, none⟩ = some (.int .i64 m) := bx2.cell 1
  have a2 : w2.cell? ⟨w.heap.size, 2, none⟩ = some (.int .i64 d) := bx2.cell 2
  have e0 : w2.cell? ⟨w1.heap.size, 0, none⟩ = some (.int .i64 Y) := by7.cell 0
  have e1 : w2.cell? ⟨w1.heap.size, 1, none⟩ = some (.int .i64 M) := by7.cell 1
  have e2 : w2.cell? ⟨w1.heap.size, 2, none⟩ = some (.int .i64 0) := by7.cell 2
  have f2 := by7.frozen 2
  generalize moL y m n = L at *
  generalize hlm : lenI y m = Lm at *
  clear hlm
  have k1 : decide (n < -4800) = false := by simp; omega
  have k2 : decide (4800 < n) = false := by simp; omega
  by_cases hdl : d ≤ L
  · go_wp2_with fail
    have bW := by7.set_ 2 (.int .i64 d)
    have bxW := bx2.far (p := ⟨w1.heap.size, 2, none⟩) (by simp; omega) (.int .i64 d)
    have bzW := bz2.far (p := ⟨w1.heap.size, 2, none⟩) (by simp; omega) (.int .i64 d)
    have hbW := hb4.setCell (p := ⟨w1.heap.size, 2, none⟩) (by simp; omega) (.int .i64 d)
    clear by7 bx2 bz2 hb4 a0 a1 a2 e0 e1 e2 f2
    have bW' : Blk (w2.setCell ⟨w1.heap.size, 2, none⟩ (.int .i64 d)) w1.heap.size 23 #[.int .i64 Y, .int .i64 M, .int .i64 d] := bW
    clear bW
    have hsW := hbW.size
    generalize w2.setCell ⟨w1.heap.size, 2, none⟩ (.int .i64 d) = W at *
    have a0 : W.cell? ⟨w.heap.size, 0, none⟩ = some (.int .i64 y) := bxW.cell 0
    have a1 : W.cell? ⟨w.heap.size, 1, none⟩ = some (.int .i64 m) := bxW.cell 1
    have a2 : W.cell? ⟨w.heap.size, 2, none⟩ = some (.int .i64 d) := bxW.cell 2
    have hltx := bxW.lt
    have hS0 : Below W.heap.size W W.drew := (Below.refl _ _).drew
    go_region_held3 (fun w' => w'.cell? ⟨w.heap.size, 0, none⟩ = some (.int .i64 y) ∧ w'.cell? ⟨w.heap.size, 1, none⟩ = some (.int .i64 m) ∧ w'.cell? ⟨w.heap.size, 2, none⟩ = some (.int .i64 d) ∧ Below W.heap.size W w') (first | exact ⟨a0, a1, a2, hS0⟩ | exact ⟨(hb.cell (p := ⟨w.heap.size, 0, none⟩) hltx).trans a0, (hb.cell (p := ⟨w.heap.size, 1, none⟩) hltx).trans a1, (hb.cell (p := ⟨w.heap.size, 2, none⟩) hltx).trans a2, hS0.trans hb⟩)
      (first | (go_at_call 29; go_must (refine (unhide (hl1 _)).mono ?_); rintro e w5 ⟨rfl, hb⟩))
    have hb' := hS0.trans hb
    have by5 := bW'.below hb' bW'.lt
    have bz5 := bzW.below hb' bzW.lt
    have hb5 := hbW.trans (hb'.mono hsW)
    have lty := bW'.lt
    clear bW' bxW bzW hbW a0 a1 a2 hltx hS0 hb hb' hsW hl1
    by_cases hq : d = Lm
    · have hqb : (d == Lm) = true := beq_iff_eq.2 hq
      have hMD : Hid (moD y m d n = L) := by
        have h1 := hmD.out
        rw [h1]
        exact if_pos hq
      have hrf := fun W => hide (right_calls Y M L W)
      have hB : Hid (moB y m d n = rightB Y M L) := by
        have h1 := hmB.out
        rw [h1, hYM.out.1, hYM.out.2, hMD.out]
        rfl
      clear hq hmD hmB hbk
      have e2 : w5.cell? ⟨w1.heap.size, 2, none⟩ = some (.int .i64 d) := by5.cell 2
      have f2 := by5.frozen 2
      have by6 := by5.set_ 2 (.int .i64 L)
      have bz6 := bz5.far (p := ⟨w1.heap.size, 2, none⟩) (by simp; omega) (.int .i64 L)
      have hb6 := hb5.setCell (p := ⟨w1.heap.size, 2, none⟩) (by simp; omega) (.int .i64 L)
      have by6' : Blk (w5.setCell ⟨w1.heap.size, 2, none⟩ (.int .i64 L)) w1.heap.size 23 #[.int .i64 Y, .int .i64 M, .int .i64 L] := by6
      clear by6
      have e0 : (w5.setCell ⟨w1.heap.size, 2, none⟩ (.int .i64 L)).cell? ⟨w1.heap.size, 0, none⟩ = some (.int .i64 Y) := by6'.cell 0
      have e1 : (w5.setCell ⟨w1.heap.size, 2, none⟩ (.int .i64 L)).cell? ⟨w1.heap.size, 1, none⟩ = some (.int .i64 M) := by6'.cell 1
      have e3 : (w5.setCell ⟨w1.heap.size, 2, none⟩ (.int .i64 L)).cell? ⟨w1.heap.size, 2, none⟩ = some (.int .i64 L) := by6'.cell 2
      have hz6 := bz6.lt
      clear by5 bz5 hb5
      go_wp2_with fail
      refine (unhide (hrf _)).mono ?_
      rintro e w6 ⟨rfl, hb9⟩
      have by9 := by6'.below hb9 by6'.lt
      have bz9 := bz6.below hb9 bz6.lt
      have hb10 := hb6.trans (hb9.mono hb6.size)
      clear by6' bz6 hb6 hb9 e0 e1 e2 e3 f2
      have c0 : w6.cell? ⟨w.heap.size + 1, 0, none⟩ = some (.int .i64 0) := bz9.cell 0
      have c1 : w6.cell? ⟨w.heap.size + 1, 1, none⟩ = some (.int .i64 0) := bz9.cell 1
      have c2 : w6.cell? ⟨w.heap.size + 1, 2, none⟩ = some (.int .i64 0) := bz9.cell 2
      have g0 := bz9.frozen 0
      have g1 := bz9.frozen 1
      have g2 := bz9.frozen 2
      have e0 : w6.cell? ⟨w1.heap.size, 0, none⟩ = some (.int .i64 Y) := by9.cell 0
      have e1 : w6.cell? ⟨w1.heap.size, 1, none⟩ = some (.int .i64 M) := by9.cell 1
      have e2 : w6.cell? ⟨w1.heap.size, 2, none⟩ = some (.int .i64 L) := by9.cell 2
      cases hrr : rightB Y M L
      · have hB' := hB.out
        rw [hrr] at hB'
        obtain ⟨rfl, rfl, rfl, rfl⟩ := hNeg.out hB'
        clear hB' hrr hB hMD hYM hPos hNeg
        go_wp2
        refine bodyPost_ret (results_row_tmp rfl _ _ (w.heap.size + 1) 23 #[_, _, _] (0, 0) _ rfl (Blk.eq_ (((bz9.set_ 0 _).set_ 1 _).set_ 2 _) rfl) Try.underlying23 rfl (by kernel_rfl)) rfl ⟨rfl, ?_⟩
        exact ((hb10.setCell (by simp) _).setCell (by simp) _).setCell (by simp) _
      · have hB' := hB.out
        rw [hrr] at hB'
        obtain ⟨p1, p2, p3, p4⟩ := hPos.out hB'
        obtain rfl : RY = Y := p1.trans hYM.out.1
        obtain rfl : RM = M := p2.trans hYM.out.2
        obtain rfl : RD = L := p3.trans hMD.out
        subst p4
        clear p1 p2 p3 hB' hrr hB hMD hYM hPos hNeg
        go_wp2
        refine bodyPost_ret (results_row_tmp rfl _ _ (w.heap.size + 1) 23 #[_, _, _] (0, 0) _ rfl (Blk.eq_ (((bz9.set_ 0 _).set_ 1 _).set_ 2 _) rfl) Try.underlying23 rfl (by kernel_rfl)) rfl ⟨rfl, ?_⟩
        exact ((hb10.setCell (by simp) _).setCell (by simp) _).setCell (by simp) _
    · have hqb : (d == Lm) = false := beq_eq_false_iff_ne.2 hq
      have hMD : Hid (moD y m d n = d) := by
        have h1 := hmD.out
        rw [h1]
        rw [if_neg hq]
        exact if_pos (by omega)
      have hrf := fun W => hide (right_calls Y M d W)
      have hB : Hid (moB y m d n = rightB Y M d) := by
        have h1 := hmB.out
        rw [h1, hYM.out.1, hYM.out.2, hMD.out]
        rfl
      clear hq hmD hmB hbk
      have e2 : w5.cell? ⟨w1.heap.size, 2, none⟩ = some (.int .i64 d) := by5.cell 2
      have f2 := by5.frozen 2
      have by6' := by5
      have bz6 := bz5
      have hb6 := hb5
      have e0 : (w5).cell? ⟨w1.heap.size, 0, none⟩ = some (.int .i64 Y) := by6'.cell 0
      have e1 : (w5).cell? ⟨w1.heap.size, 1, none⟩ = some (.int .i64 M) := by6'.cell 1
      have e3 : (w5).cell? ⟨w1.heap.size, 2, none⟩ = some (.int .i64 d) := by6'.cell 2
      have hz6 := bz6.lt
      clear by5 bz5 hb5
      go_wp2_with fail
      refine (unhide (hrf _)).mono ?_
      rintro e w6 ⟨rfl, hb9⟩
      have by9 := by6'.below hb9 by6'.lt
      have bz9 := bz6.below hb9 bz6.lt
      have hb10 := hb6.trans (hb9.mono hb6.size)
      clear by6' bz6 hb6 hb9 e0 e1 e2 e3 f2
      have c0 : w6.cell? ⟨w.heap.size + 1, 0, none⟩ = some (.int .i64 0) := bz9.cell 0
      have c1 : w6.cell? ⟨w.heap.size + 1, 1, none⟩ = some (.int .i64 0) := bz9.cell 1
      have c2 : w6.cell? ⟨w.heap.size + 1, 2, none⟩ = some (.int .i64 0) := bz9.cell 2
      have g0 := bz9.frozen 0
      have g1 := bz9.frozen 1
      have g2 := bz9.frozen 2
      have e0 : w6.cell? ⟨w1.heap.size, 0, none⟩ = some (.int .i64 Y) := by9.cell 0
      have e1 : w6.cell? ⟨w1.heap.size, 1, none⟩ = some (.int .i64 M) := by9.cell 1
      have e2 : w6.cell? ⟨w1.heap.size, 2, none⟩ = some (.int .i64 d) := by9.cell 2
      cases hrr : rightB Y M d
      · have hB' := hB.out
        rw [hrr] at hB'
        obtain ⟨rfl, rfl, rfl, rfl⟩ := hNeg.out hB'
        clear hB' hrr hB hMD hYM hPos hNeg
        go_wp2
        refine bodyPost_ret (results_row_tmp rfl _ _ (w.heap.size + 1) 23 #[_, _, _] (0, 0) _ rfl (Blk.eq_ (((bz9.set_ 0 _).set_ 1 _).set_ 2 _) rfl) Try.underlying23 rfl (by kernel_rfl)) rfl ⟨rfl, ?_⟩
        exact ((hb10.setCell (by simp) _).setCell (by simp) _).setCell (by simp) _
      · have hB' := hB.out
        rw [hrr] at hB'
        obtain ⟨p1, p2, p3, p4⟩ := hPos.out hB'
        obtain rfl : RY = Y := p1.trans hYM.out.1
        obtain rfl : RM = M := p2.trans hYM.out.2
        obtain rfl : RD = d := p3.trans hMD.out
        subst p4
        clear p1 p2 p3 hB' hrr hB hMD hYM hPos hNeg
        go_wp2
        refine bodyPost_ret (results_row_tmp rfl _ _ (w.heap.size + 1) 23 #[_, _, _] (0, 0) _ rfl (Blk.eq_ (((bz9.set_ 0 _).set_ 1 _).set_ 2 _) rfl) Try.underlying23 rfl (by kernel_rfl)) rfl ⟨rfl, ?_⟩
        exact ((hb10.setCell (by simp) _).setCell (by simp) _).setCell (by simp) _
  · go_wp2_with fail
    have bW := by7.set_ 2 (.int .i64 L)
    have bxW := bx2.far (p := ⟨w1.heap.size, 2, none⟩) (by simp; omega) (.int .i64 L)
    have bzW := bz2.far (p := ⟨w1.heap.size, 2, none⟩) (by simp; omega) (.int .i64 L)
    have hbW := hb4.setCell (p := ⟨w1.heap.size, 2, none⟩) (by simp; omega) (.int .i64 L)
    clear by7 bx2 bz2 hb4 a0 a1 a2 e0 e1 e2 f2
    have bW' : Blk (w2.setCell ⟨w1.heap.size, 2, none⟩ (.int .i64 L)) w1.heap.size 23 #[.int .i64 Y, .int .i64 M, .int .i64 L] := bW
    clear bW
    have hsW := hbW.size
    generalize w2.setCell ⟨w1.heap.size, 2, none⟩ (.int .i64 L) = W at *
    have a0 : W.cell? ⟨w.heap.size, 0, none⟩ = some (.int .i64 y) := bxW.cell 0
    have a1 : W.cell? ⟨w.heap.size, 1, none⟩ = some (.int .i64 m) := bxW.cell 1
    have a2 : W.cell? ⟨w.heap.size, 2, none⟩ = some (.int .i64 d) := bxW.cell 2
    have hltx := bxW.lt
    have hS0 : Below W.heap.size W W.drew := (Below.refl _ _).drew
    go_region_held3 (fun w' => w'.cell? ⟨w.heap.size, 0, none⟩ = some (.int .i64 y) ∧ w'.cell? ⟨w.heap.size, 1, none⟩ = some (.int .i64 m) ∧ w'.cell? ⟨w.heap.size, 2, none⟩ = some (.int .i64 d) ∧ Below W.heap.size W w') (first | exact ⟨a0, a1, a2, hS0⟩ | exact ⟨(hb.cell (p := ⟨w.heap.size, 0, none⟩) hltx).trans a0, (hb.cell (p := ⟨w.heap.size, 1, none⟩) hltx).trans a1, (hb.cell (p := ⟨w.heap.size, 2, none⟩) hltx).trans a2, hS0.trans hb⟩)
      (first | (go_at_call 29; go_must (refine (unhide (hl1 _)).mono ?_); rintro e w5 ⟨rfl, hb⟩))
    have hb' := hS0.trans hb
    have by5 := bW'.below hb' bW'.lt
    have bz5 := bzW.below hb' bzW.lt
    have hb5 := hbW.trans (hb'.mono hsW)
    have lty := bW'.lt
    clear bW' bxW bzW hbW a0 a1 a2 hltx hS0 hb hb' hsW hl1
    by_cases hq : d = Lm
    · have hqb : (d == Lm) = true := beq_iff_eq.2 hq
      have hMD : Hid (moD y m d n = L) := by
        have h1 := hmD.out
        rw [h1]
        exact if_pos hq
      have hrf := fun W => hide (right_calls Y M L W)
      have hB : Hid (moB y m d n = rightB Y M L) := by
        have h1 := hmB.out
        rw [h1, hYM.out.1, hYM.out.2, hMD.out]
        rfl
      clear hq hmD hmB hbk
      have e2 : w5.cell? ⟨w1.heap.size, 2, none⟩ = some (.int .i64 L) := by5.cell 2
      have f2 := by5.frozen 2
      have by6 := by5.set_ 2 (.int .i64 L)
      have bz6 := bz5.far (p := ⟨w1.heap.size, 2, none⟩) (by simp; omega) (.int .i64 L)
      have hb6 := hb5.setCell (p := ⟨w1.heap.size, 2, none⟩) (by simp; omega) (.int .i64 L)
      have by6' : Blk (w5.setCell ⟨w1.heap.size, 2, none⟩ (.int .i64 L)) w1.heap.size 23 #[.int .i64 Y, .int .i64 M, .int .i64 L] := by6
      clear by6
      have e0 : (w5.setCell ⟨w1.heap.size, 2, none⟩ (.int .i64 L)).cell? ⟨w1.heap.size, 0, none⟩ = some (.int .i64 Y) := by6'.cell 0
      have e1 : (w5.setCell ⟨w1.heap.size, 2, none⟩ (.int .i64 L)).cell? ⟨w1.heap.size, 1, none⟩ = some (.int .i64 M) := by6'.cell 1
      have e3 : (w5.setCell ⟨w1.heap.size, 2, none⟩ (.int .i64 L)).cell? ⟨w1.heap.size, 2, none⟩ = some (.int .i64 L) := by6'.cell 2
      have hz6 := bz6.lt
      clear by5 bz5 hb5
      go_wp2_with fail
      refine (unhide (hrf _)).mono ?_
      rintro e w6 ⟨rfl, hb9⟩
      have by9 := by6'.below hb9 by6'.lt
      have bz9 := bz6.below hb9 bz6.lt
      have hb10 := hb6.trans (hb9.mono hb6.size)
      clear by6' bz6 hb6 hb9 e0 e1 e2 e3 f2
      have c0 : w6.cell? ⟨w.heap.size + 1, 0, none⟩ = some (.int .i64 0) := bz9.cell 0
      have c1 : w6.cell? ⟨w.heap.size + 1, 1, none⟩ = some (.int .i64 0) := bz9.cell 1
      have c2 : w6.cell? ⟨w.heap.size + 1, 2, none⟩ = some (.int .i64 0) := bz9.cell 2
      have g0 := bz9.frozen 0
      have g1 := bz9.frozen 1
      have g2 := bz9.frozen 2
      have e0 : w6.cell? ⟨w1.heap.size, 0, none⟩ = some (.int .i64 Y) := by9.cell 0
      have e1 : w6.cell? ⟨w1.heap.size, 1, none⟩ = some (.int .i64 M) := by9.cell 1
      have e2 : w6.cell? ⟨w1.heap.size, 2, none⟩ = some (.int .i64 L) := by9.cell 2
      cases hrr : rightB Y M L
      · have hB' := hB.out
        rw [hrr] at hB'
        obtain ⟨rfl, rfl, rfl, rfl⟩ := hNeg.out hB'
        clear hB' hrr hB hMD hYM hPos hNeg
        go_wp2
        refine bodyPost_ret (results_row_tmp rfl _ _ (w.heap.size + 1) 23 #[_, _, _] (0, 0) _ rfl (Blk.eq_ (((bz9.set_ 0 _).set_ 1 _).set_ 2 _) rfl) Try.underlying23 rfl (by kernel_rfl)) rfl ⟨rfl, ?_⟩
        exact ((hb10.setCell (by simp) _).setCell (by simp) _).setCell (by simp) _
      · have hB' := hB.out
        rw [hrr] at hB'
        obtain ⟨p1, p2, p3, p4⟩ := hPos.out hB'
        obtain rfl : RY = Y := p1.trans hYM.out.1
        obtain rfl : RM = M := p2.trans hYM.out.2
        obtain rfl : RD = L := p3.trans hMD.out
        subst p4
        clear p1 p2 p3 hB' hrr hB hMD hYM hPos hNeg
        go_wp2
        refine bodyPost_ret (results_row_tmp rfl _ _ (w.heap.size + 1) 23 #[_, _, _] (0, 0) _ rfl (Blk.eq_ (((bz9.set_ 0 _).set_ 1 _).set_ 2 _) rfl) Try.underlying23 rfl (by kernel_rfl)) rfl ⟨rfl, ?_⟩
        exact ((hb10.setCell (by simp) _).setCell (by simp) _).setCell (by simp) _
    · have hqb : (d == Lm) = false := beq_eq_false_iff_ne.2 hq
      have hMD : Hid (moD y m d n = L) := by
        have h1 := hmD.out
        rw [h1]
        rw [if_neg hq]
        exact if_neg (by omega)
      have hrf := fun W => hide (right_calls Y M L W)
      have hB : Hid (moB y m d n = rightB Y M L) := by
        have h1 := hmB.out
        rw [h1, hYM.out.1, hYM.out.2, hMD.out]
        rfl
      clear hq hmD hmB hbk
      have e2 : w5.cell? ⟨w1.heap.size, 2, none⟩ = some (.int .i64 L) := by5.cell 2
      have f2 := by5.frozen 2
      have by6' := by5
      have bz6 := bz5
      have hb6 := hb5
      have e0 : (w5).cell? ⟨w1.heap.size, 0, none⟩ = some (.int .i64 Y) := by6'.cell 0
      have e1 : (w5).cell? ⟨w1.heap.size, 1, none⟩ = some (.int .i64 M) := by6'.cell 1
      have e3 : (w5).cell? ⟨w1.heap.size, 2, none⟩ = some (.int .i64 L) := by6'.cell 2
      have hz6 := bz6.lt
      clear by5 bz5 hb5
      go_wp2_with fail
      refine (unhide (hrf _)).mono ?_
      rintro e w6 ⟨rfl, hb9⟩
      have by9 := by6'.below hb9 by6'.lt
      have bz9 := bz6.below hb9 bz6.lt
      have hb10 := hb6.trans (hb9.mono hb6.size)
      clear by6' bz6 hb6 hb9 e0 e1 e2 e3 f2
      have c0 : w6.cell? ⟨w.heap.size + 1, 0, none⟩ = some (.int .i64 0) := bz9.cell 0
      have c1 : w6.cell? ⟨w.heap.size + 1, 1, none⟩ = some (.int .i64 0) := bz9.cell 1
      have c2 : w6.cell? ⟨w.heap.size + 1, 2, none⟩ = some (.int .i64 0) := bz9.cell 2
      have g0 := bz9.frozen 0
      have g1 := bz9.frozen 1
      have g2 := bz9.frozen 2
      have e0 : w6.cell? ⟨w1.heap.size, 0, none⟩ = some (.int .i64 Y) := by9.cell 0
      have e1 : w6.cell? ⟨w1.heap.size, 1, none⟩ = some (.int .i64 M) := by9.cell 1
      have e2 : w6.cell? ⟨w1.heap.size, 2, none⟩ = some (.int .i64 L) := by9.cell 2
      cases hrr : rightB Y M L
      · have hB' := hB.out
        rw [hrr] at hB'
        obtain ⟨rfl, rfl, rfl, rfl⟩ := hNeg.out hB'
        clear hB' hrr hB hMD hYM hPos hNeg
        go_wp2
        refine bodyPost_ret (results_row_tmp rfl _ _ (w.heap.size + 1) 23 #[_, _, _] (0, 0) _ rfl (Blk.eq_ (((bz9.set_ 0 _).set_ 1 _).set_ 2 _) rfl) Try.underlying23 rfl (by kernel_rfl)) rfl ⟨rfl, ?_⟩
        exact ((hb10.setCell (by simp) _).setCell (by simp) _).setCell (by simp) _
      · have hB' := hB.out
        rw [hrr] at hB'
        obtain ⟨p1, p2, p3, p4⟩ := hPos.out hB'
        obtain rfl : RY = Y := p1.trans hYM.out.1
        obtain rfl : RM = M := p2.trans hYM.out.2
        obtain rfl : RD = L := p3.trans hMD.out
        subst p4
        clear p1 p2 p3 hB' hrr hB hMD hYM hPos hNeg
        go_wp2
        refine bodyPost_ret (results_row_tmp rfl _ _ (w.heap.size + 1) 23 #[_, _, _] (0, 0) _ rfl (Blk.eq_ (((bz9.set_ 0 _).set_ 1 _).set_ 2 _) rfl) Try.underlying23 rfl (by kernel_rfl)) rfl ⟨rfl, ?_⟩
        exact ((hb10.setCell (by simp) _).setCell (by simp) _).setCell (by simp) _
end Go.Proofs.Ytehkaiildchmfaa
