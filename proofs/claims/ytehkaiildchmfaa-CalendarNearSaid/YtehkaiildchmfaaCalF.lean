/- The walk of the document's Months. -/
import Derived.Test.YtehkaiildchmfaaCalE
namespace Go.Proofs.Ytehkaiildchmfaa
open Go.RowKit

set_option maxHeartbeats 2000000 in
theorem rmonths_bad (y m d n : Int) (h : rightB y m d = false ∨ n < -4800 ∨ 4800 < n) (w : World) :
    Calls Try.prog 12 #[.agg #[.int .i64 y, .int .i64 m, .int .i64 d], .int .i64 n] w fun e w' => e = .returned (.tuple #[.agg #[.int .i64 0, .int .i64 0, .int .i64 0], .int .i64 31]) ∧ Below w.heap.size w w' := by
  have hrc := fun W => hide (rright_calls y m d W)
  have hbz : Blk ((w.alloc (.cells #[.int .i64 y, .int .i64 m, .int .i64 d] 23)).alloc (.cells #[.int .i64 0, .int .i64 0, .int .i64 0] 23)) (w.heap.size + 1) 23 #[.int .i64 0, .int .i64 0, .int .i64 0] := Blk.of_size (by simp)
  have hb0 := ((Below.refl w.heap.size w).alloc (Nat.le_refl _) (.cells #[.int .i64 y, .int .i64 m, .int .i64 d] 23)).alloc (by simp) (.cells #[.int .i64 0, .int .i64 0, .int .i64 0] 23)
  cases hr : rightB y m d
  · rw [hr] at hrc
    clear h hr
    go_enter Try.func12, Try.ntmps12
    go_wp2_with fail
    refine (unhide (hrc _)).mono ?_
    rintro e w1 ⟨rfl, hb1⟩
    have bz := hbz.below hb1 (by simp)
    have hb2 := hb0.trans (hb1.mono (by simp; omega))
    have c0 : w1.cell? ⟨w.heap.size + 1, 0, none⟩ = some (.int .i64 0) := bz.cell 0
    have c1 : w1.cell? ⟨w.heap.size + 1, 1, none⟩ = some (.int .i64 0) := bz.cell 1
    have c2 : w1.cell? ⟨w.heap.size + 1, 2, none⟩ = some (.int .i64 0) := bz.cell 2
    have f0 := bz.frozen 0
    have f1 := bz.frozen 1
    have f2 := bz.frozen 2
    go_wp2
    refine bodyPost_ret (results_row_tmp rfl _ _ (w.heap.size + 1) 23 #[_, _, _] (0, 0) _ rfl (Blk.eq_ (((bz.set_ 0 _).set_ 1 _).set_ 2 _) rfl) Try.underlying23 rfl (by kernel_rfl)) rfl ⟨rfl, ?_⟩
    exact ((hb2.setCell (by simp) _).setCell (by simp) _).setCell (by simp) _
  · rw [hr] at hrc h
    have h' : n < -4800 ∨ 4800 < n := h.resolve_left (by simp)
    clear h hr
    rcases h' with h | h
    · go_enter Try.func12, Try.ntmps12
      go_wp2_with fail
      refine (unhide (hrc _)).mono ?_
      rintro e w1 ⟨rfl, hb1⟩
      have bz := hbz.below hb1 (by simp)
      have hb2 := hb0.trans (hb1.mono (by simp; omega))
      have c0 : w1.cell? ⟨w.heap.size + 1, 0, none⟩ = some (.int .i64 0) := bz.cell 0
      have c1 : w1.cell? ⟨w.heap.size + 1, 1, none⟩ = some (.int .i64 0) := bz.cell 1
      have c2 : w1.cell? ⟨w.heap.size + 1, 2, none⟩ = some (.int .i64 0) := bz.cell 2
      have f0 := bz.frozen 0
      have f1 := bz.frozen 1
      have f2 := bz.frozen 2
      go_wp2
      refine bodyPost_ret (results_row_tmp rfl _ _ (w.heap.size + 1) 23 #[_, _, _] (0, 0) _ rfl (Blk.eq_ (((bz.set_ 0 _).set_ 1 _).set_ 2 _) rfl) Try.underlying23 rfl (by kernel_rfl)) rfl ⟨rfl, ?_⟩
      exact ((hb2.setCell (by simp) _).setCell (by simp) _).setCell (by simp) _
    · have h0 : ¬ n < -4800 := by omega
      go_enter Try.func12, Try.ntmps12
      go_wp2_with fail
      refine (unhide (hrc _)).mono ?_
      rintro e w1 ⟨rfl, hb1⟩
      have bz := hbz.below hb1 (by simp)
      have hb2 := hb0.trans (hb1.mono (by simp; omega))
      have c0 : w1.cell? ⟨w.heap.size + 1, 0, none⟩ = some (.int .i64 0) := bz.cell 0
      have c1 : w1.cell? ⟨w.heap.size + 1, 1, none⟩ = some (.int .i64 0) := bz.cell 1
      have c2 : w1.cell? ⟨w.heap.size + 1, 2, none⟩ = some (.int .i64 0) := bz.cell 2
      have f0 := bz.frozen 0
      have f1 := bz.frozen 1
      have f2 := bz.frozen 2
      go_wp2
      refine bodyPost_ret (results_row_tmp rfl _ _ (w.heap.size + 1) 23 #[_, _, _] (0, 0) _ rfl (Blk.eq_ (((bz.set_ 0 _).set_ 1 _).set_ 2 _) rfl) Try.underlying23 rfl (by kernel_rfl)) rfl ⟨rfl, ?_⟩
      exact ((hb2.setCell (by simp) _).setCell (by simp) _).setCell (by simp) _

set_option maxHeartbeats 4000000 in
theorem rmonths_mid (y m d n : Int) (hr : rightB y m d = true) (hn0 : -4800 ≤ n) (hn1 : n ≤ 4800) (RY RM RD RE : Int) (hpos : moB y m d n = true → RY = moY y m n ∧ RM = moM y m n ∧ RD = moD y m d n ∧ RE = 0) (hneg : moB y m d n = false → RY = 0 ∧ RM = 0 ∧ RD = 0 ∧ RE = 31) (w : World) :
    Calls Try.prog 12 #[.agg #[.int .i64 y, .int .i64 m, .int .i64 d], .int .i64 n] w fun e w' => e = .returned (.tuple #[.agg #[.int .i64 RY, .int .i64 RM, .int .i64 RD], .int .i64 RE]) ∧ Below w.heap.size w w' := by
  have hPos := hide hpos
  have hNeg := hide hneg
  have hrc := fun W => hide (rright_calls y m d W)
  rw [hr] at hrc
  obtain ⟨h1, h2, h3, h4, h5, h6⟩ := (right_iff y m d).1 hr
  have hbx : Blk ((w.alloc (.cells #[.int .i64 y, .int .i64 m, .int .i64 d] 23)).alloc (.cells #[.int .i64 0, .int .i64 0, .int .i64 0] 23)) w.heap.size 23 #[.int .i64 y, .int .i64 m, .int .i64 d] := (box3 w _ y m d).alloc _
  have hbz : Blk ((w.alloc (.cells #[.int .i64 y, .int .i64 m, .int .i64 d] 23)).alloc (.cells #[.int .i64 0, .int .i64 0, .int .i64 0] 23)) (w.heap.size + 1) 23 #[.int .i64 0, .int .i64 0, .int .i64 0] := Blk.of_size (by simp)
  have hb0 := ((Below.refl w.heap.size w).alloc (Nat.le_refl _) (.cells #[.int .i64 y, .int .i64 m, .int .i64 d] 23)).alloc (by simp) (.cells #[.int .i64 0, .int .i64 0, .int .i64 0] 23)
  have hl1 := fun W => hide (rlength_calls y m W)
  have hmD := hide (show moD y m d n = if d = lenI y m then moL y m n else if d ≤ moL y m n then d else moL y m n from rfl)
  have hmB := hide (show moB y m d n = rightB (moY y m n) (moM y m n) (moD y m d n) from rfl)
  have hLe := hide (show moL y m n = lenI (moY y m n) (moM y m n) from rfl)
  have hYe := hide (show moY y m n = (y * 12 + m - 1 + n) / 12 from rfl)
  have hMe := hide (show moM y m n = (y * 12 + m - 1 + n) % 12 + 1 from rfl)
  have k1 : decide (n < -4800) = false := by simp; omega
  have k2 : decide (4800 < n) = false := by simp; omega
  clear hr hpos hneg h6
  generalize hlm : lenI y m = Lm at *
  clear hlm
  go_enter Try.func12, Try.ntmps12
  go_wp2_with fail
  refine (unhide (hrc _)).mono ?_
  rintro e w1 ⟨rfl, hb1⟩
  have bx := hbx.below hb1 (by simp; omega)
  have bz := hbz.below hb1 (by simp)
  have hb2 := hb0.trans (hb1.mono (by simp; omega))
  have a0 : w1.cell? ⟨w.heap.size, 0, none⟩ = some (.int .i64 y) := bx.cell 0
  have a1 : w1.cell? ⟨w.heap.size, 1, none⟩ = some (.int .i64 m) := bx.cell 1
  have a2 : w1.cell? ⟨w.heap.size, 2, none⟩ = some (.int .i64 d) := bx.cell 2
  clear hbx hbz hb0 hb1 hrc
  go_wp2_with fail
  go_region_held3 (fun w' => w'.cell? ⟨w.heap.size, 0, none⟩ = some (.int .i64 y) ∧ w'.cell? ⟨w.heap.size, 1, none⟩ = some (.int .i64 m) ∧ w'.cell? ⟨w.heap.size, 2, none⟩ = some (.int .i64 d)) (first | exact ⟨a0, a1, a2⟩)
    (first | (go_at_call 14; go_must (refine (unhide (hl1 _)).mono ?_); rintro e w5 ⟨rfl, rfl⟩))
  have bx1 := bx.drew
  have bz1 := bz.drew
  have hb3 := hb2.drew
  clear bx bz hb2 a0 a1 a2 hl1
  generalize w1.drew = W at *
  have a0 : W.cell? ⟨w.heap.size, 0, none⟩ = some (.int .i64 y) := bx1.cell 0
  have a1 : W.cell? ⟨w.heap.size, 1, none⟩ = some (.int .i64 m) := bx1.cell 1
  have a2 : W.cell? ⟨w.heap.size, 2, none⟩ = some (.int .i64 d) := bx1.cell 2
  have hzl := bz1.lt
  go_wp2
  generalize hq : (d == Lm) = q
  have hQ := hide (show (q = true → d = Lm) ∧ (q = false → d ≠ Lm) from ⟨fun h => by rw [h] at hq; exact beq_iff_eq.1 hq, fun h => by rw [h] at hq; exact beq_eq_false_iff_ne.1 hq⟩)
  clear hq
  go_loopw [1] (fun nv wr => ∃ k Y M : Int, nv = .int .i64 k ∧ (0 ≤ k ∨ k = n) ∧ k ≤ 4800 ∧ -4800 ≤ k ∧ 1 ≤ M ∧ M ≤ 12 ∧ 1000 ≤ Y ∧ Y ≤ 3000 ∧ Y * 12 + M + k = y * 12 + m + n ∧ Blk wr W.heap.size 23 #[.int .i64 Y, .int .i64 M, .int .i64 d] ∧ Blk wr (w.heap.size + 1) 23 #[.int .i64 0, .int .i64 0, .int .i64 0] ∧ Below w.heap.size w wr) (fun nv _ => (intOf nv).toNat)
  case atStart => exact ⟨n, y, m, rfl, by omega, hn1, hn0, h3, h4, by omega, by omega, rfl, box3 W 23 y m d, bz1.alloc _, hb3.alloc hb3.size _⟩
  case round =>
    clear bz1 hb3 bx1 a0 a1 a2
    obtain ⟨k, Y, M, rfl, hk0, hk1, hk2, m1, m2, y1, y2, hsum, by7, bz1, hb3⟩ := hrel
    have g0 : wr.cell? ⟨W.heap.size, 0, none⟩ = some (.int .i64 Y) := by7.cell 0
    have g1 : wr.cell? ⟨W.heap.size, 1, none⟩ = some (.int .i64 M) := by7.cell 1
    have f0 := by7.frozen 0
    have f1 := by7.frozen 1
    have hs1 : Y * 12 + M + k ≤ y * 12 + m + n := by omega
    have hs2 : y * 12 + m + n ≤ Y * 12 + M + k := by omega
    clear hsum
    by_cases hpos : 0 < k
    · by_cases h12 : M = 12
      · have hM : (M + 1 == 13) = true := beq_iff_eq.2 (by omega)
        have h12' : 12 ≤ M := by omega
        clear h12
        go_wp2
        go_roundw
        case rel =>
          refine ⟨k - 1, Y + 1, 1, rfl, by omega, by omega, by omega, by omega, by omega, by omega, by omega, by omega, (((by7.set_ 1 _).set_ 1 _).set_ 0 _).eq_ rfl, ?_, ?_⟩
          · exact ((bz1.far (by simp; omega) _).far (by simp; omega) _).far (by simp; omega) _
          · exact ((hb3.setCell (by simp; omega) _).setCell (by simp; omega) _).setCell (by simp; omega) _
        case measure => simp [intOf]; omega
      · have hM : (M + 1 == 13) = false := beq_eq_false_iff_ne.2 (by omega)
        go_wp2
        go_roundw
        case rel =>
          exact ⟨k - 1, Y, M + 1, rfl, by omega, by omega, by omega, by omega, by omega, by omega, by omega, by omega, (by7.set_ 1 _).eq_ rfl, bz1.far (by simp; omega) _, hb3.setCell (by simp; omega) _⟩
        case measure => simp [intOf]; omega
    · have hdk : decide (0 < k) = false := by simp; omega
      clear f0 f1 g0 g1
      go_wp2
      go_loopw [1] (fun nv wr => ∃ k Y M : Int, nv = .int .i64 k ∧ k ≤ 0 ∧ -4800 ≤ k ∧ 1 ≤ M ∧ M ≤ 12 ∧ 1000 ≤ Y ∧ Y ≤ 3000 ∧ Y * 12 + M + k = y * 12 + m + n ∧ Blk wr W.heap.size 23 #[.int .i64 Y, .int .i64 M, .int .i64 d] ∧ Blk wr (w.heap.size + 1) 23 #[.int .i64 0, .int .i64 0, .int .i64 0] ∧ Below w.heap.size w wr) (fun nv _ => (- intOf nv).toNat)
      case atStart => exact ⟨k, Y, M, rfl, by omega, hk2, m1, m2, y1, y2, by omega, by7, bz1, hb3⟩
      case round =>
        clear bz1 hb3 by7 hs1 hs2 m1 m2 y1 y2 hk0 hk1 hk2 hdk hpos
        obtain ⟨k, Y, M, rfl, hk0, hk2, m1, m2, y1, y2, hsum, by7, bz1, hb3⟩ := hrel
        have g0 : wr.cell? ⟨W.heap.size, 0, none⟩ = some (.int .i64 Y) := by7.cell 0
        have g1 : wr.cell? ⟨W.heap.size, 1, none⟩ = some (.int .i64 M) := by7.cell 1
        have g2 : wr.cell? ⟨W.heap.size, 2, none⟩ = some (.int .i64 d) := by7.cell 2
        have f0 := by7.frozen 0
        have f1 := by7.frozen 1
        have f2 := by7.frozen 2
        have hs1 : Y * 12 + M + k ≤ y * 12 + m + n := by omega
        have hs2 : y * 12 + m + n ≤ Y * 12 + M + k := by omega
        clear hsum
        by_cases hneg : k < 0
        · by_cases h12 : M = 1
          · have hM : (M - 1 == 0) = true := beq_iff_eq.2 (by omega)
            have h12' : M ≤ 1 := by omega
            clear h12
            go_wp2
            go_roundw
            case rel =>
              refine ⟨k + 1, Y - 1, 12, rfl, by omega, by omega, by omega, by omega, by omega, by omega, by omega, (((by7.set_ 1 _).set_ 1 _).set_ 0 _).eq_ rfl, ?_, ?_⟩
              · exact ((bz1.far (by simp; omega) _).far (by simp; omega) _).far (by simp; omega) _
              · exact ((hb3.setCell (by simp; omega) _).setCell (by simp; omega) _).setCell (by simp; omega) _
            case measure => simp [intOf]; omega
          · have hM : (M - 1 == 0) = false := beq_eq_false_iff_ne.2 (by omega)
            go_wp2
            go_roundw
            case rel =>
              exact ⟨k + 1, Y, M - 1, rfl, by omega, by omega, by omega, by omega, by omega, by omega, by omega, (by7.set_ 1 _).eq_ rfl, bz1.far (by simp; omega) _, hb3.setCell (by simp; omega) _⟩
            case measure => simp [intOf]; omega
        · have hdk : decide (k < 0) = false := by simp; omega
          have hY1 : moY y m n = Y := by rw [hYe.out]; omega
          have hM1 : moM y m n = M := by rw [hMe.out]; omega
          have hl2 := fun W => hide (rlength_calls Y M W)
          have hL1 : lenI Y M = moL y m n := by rw [hLe.out, hY1, hM1]
          rw [hL1] at hl2
          have hYM := hide (And.intro hY1 hM1)
          clear hY1 hM1 hL1 hLe hYe hMe hneg
          generalize moL y m n = L at *
          go_wp2_with fail
          refine (unhide (hl2 _)).mono ?_
          rintro e w3 ⟨rfl, rfl⟩
          have hz6 := bz1.lt
          cases q
          · have hQ' := hQ.out.2 rfl
            by_cases hdl : L < d
            · have hkd : decide (L < d) = true := decide_eq_true hdl
              have hMD : Hid (moD y m d n = L) := hide (hmD.out.trans ((if_neg hQ').trans (if_neg (by omega))))
              have hrf := fun W => hide (rright_calls Y M L W)
              have hB : Hid (moB y m d n = rightB Y M L) := by
                have h1 := hmB.out
                rw [h1, hYM.out.1, hYM.out.2, hMD.out]
                rfl
              clear hmD hmB hQ'
              have by6' : Blk (wr.setCell ⟨W.heap.size, 2, none⟩ (.int .i64 L)) W.heap.size 23 #[.int .i64 Y, .int .i64 M, .int .i64 L] := by7.set_ 2 (.int .i64 L)
              have bz6 := bz1.far (p := ⟨W.heap.size, 2, none⟩) (by simp; omega) (.int .i64 L)
              have hb6 := hb3.setCell (p := ⟨W.heap.size, 2, none⟩) (by simp; omega) (.int .i64 L)
              have e0 : (wr.setCell ⟨W.heap.size, 2, none⟩ (.int .i64 L)).cell? ⟨W.heap.size, 0, none⟩ = some (.int .i64 Y) := by6'.cell 0
              have e1 : (wr.setCell ⟨W.heap.size, 2, none⟩ (.int .i64 L)).cell? ⟨W.heap.size, 1, none⟩ = some (.int .i64 M) := by6'.cell 1
              have e3 : (wr.setCell ⟨W.heap.size, 2, none⟩ (.int .i64 L)).cell? ⟨W.heap.size, 2, none⟩ = some (.int .i64 L) := by6'.cell 2
              clear by7 bz1 hb3
              go_wp2_with fail
              refine (unhide (hrf _)).mono ?_
              rintro e w6 ⟨rfl, hb9⟩
              have by9 := by6'.below hb9 by6'.lt
              have bz9 := bz6.below hb9 bz6.lt
              have hb10 := hb6.trans (hb9.mono hb6.size)
              clear by6' bz6 hb6 hb9 e0 e1 e3 f2 g0 g1 g2 f0 f1
              have c0 : w6.cell? ⟨w.heap.size + 1, 0, none⟩ = some (.int .i64 0) := bz9.cell 0
              have c1 : w6.cell? ⟨w.heap.size + 1, 1, none⟩ = some (.int .i64 0) := bz9.cell 1
              have c2 : w6.cell? ⟨w.heap.size + 1, 2, none⟩ = some (.int .i64 0) := bz9.cell 2
              have g0 := bz9.frozen 0
              have g1 := bz9.frozen 1
              have g2 := bz9.frozen 2
              have e0 : w6.cell? ⟨W.heap.size, 0, none⟩ = some (.int .i64 Y) := by9.cell 0
              have e1 : w6.cell? ⟨W.heap.size, 1, none⟩ = some (.int .i64 M) := by9.cell 1
              have e2 : w6.cell? ⟨W.heap.size, 2, none⟩ = some (.int .i64 L) := by9.cell 2
              cases hrr : rightB Y M L
              · have hB' := hB.out
                rw [hrr] at hB'
                obtain ⟨rfl, rfl, rfl, rfl⟩ := hNeg.out hB'
                clear hB' hrr hB hMD hYM hPos hNeg
                go_wp2
                refine bodyPost_ret (results_row_tmp rfl _ _ (w.heap.size + 1) 23 #[_, _, _] (0, 0) _ rfl (Blk.eq_ (((bz9.set_ 0 _).set_ 1 _).set_ 2 _) rfl) Try.underlying23 rfl (by kernel_rfl)) rfl ⟨rfl, ?_⟩
                exact ((hb10.setCell (by simp) _).setCell (by simp) _).setCell (by simp) _
              · have hB' := hB.out
                rw [hrr] at hB'
                obtain ⟨p1, p2, p3, p4⟩ := hPos.out hB'
                obtain rfl : RY = Y := p1.trans hYM.out.1
                obtain rfl : RM = M := p2.trans hYM.out.2
                obtain rfl : RD = L := p3.trans hMD.out
                subst p4
                clear p1 p2 p3 hB' hrr hB hMD hYM hPos hNeg
                go_wp2
                refine bodyPost_ret (results_row_tmp rfl _ _ (w.heap.size + 1) 23 #[_, _, _] (0, 0) _ rfl (Blk.eq_ (((bz9.set_ 0 _).set_ 1 _).set_ 2 _) rfl) Try.underlying23 rfl (by kernel_rfl)) rfl ⟨rfl, ?_⟩
                exact ((hb10.setCell (by simp) _).setCell (by simp) _).setCell (by simp) _
            · have hkd : decide (L < d) = false := decide_eq_false hdl
              have hMD : Hid (moD y m d n = d) := hide (hmD.out.trans ((if_neg hQ').trans (if_pos (by omega))))
              have hrf := fun W => hide (rright_calls Y M d W)
              have hB : Hid (moB y m d n = rightB Y M d) := by
                have h1 := hmB.out
                rw [h1, hYM.out.1, hYM.out.2, hMD.out]
                rfl
              clear hmD hmB hQ'
              have by6' := by7
              have bz6 := bz1
              have hb6 := hb3
              have e0 : (wr).cell? ⟨W.heap.size, 0, none⟩ = some (.int .i64 Y) := by6'.cell 0
              have e1 : (wr).cell? ⟨W.heap.size, 1, none⟩ = some (.int .i64 M) := by6'.cell 1
              have e3 : (wr).cell? ⟨W.heap.size, 2, none⟩ = some (.int .i64 d) := by6'.cell 2
              clear by7 bz1 hb3
              go_wp2_with fail
              refine (unhide (hrf _)).mono ?_
              rintro e w6 ⟨rfl, hb9⟩
              have by9 := by6'.below hb9 by6'.lt
              have bz9 := bz6.below hb9 bz6.lt
              have hb10 := hb6.trans (hb9.mono hb6.size)
              clear by6' bz6 hb6 hb9 e0 e1 e3 f2 g0 g1 g2 f0 f1
              have c0 : w6.cell? ⟨w.heap.size + 1, 0, none⟩ = some (.int .i64 0) := bz9.cell 0
              have c1 : w6.cell? ⟨w.heap.size + 1, 1, none⟩ = some (.int .i64 0) := bz9.cell 1
              have c2 : w6.cell? ⟨w.heap.size + 1, 2, none⟩ = some (.int .i64 0) := bz9.cell 2
              have g0 := bz9.frozen 0
              have g1 := bz9.frozen 1
              have g2 := bz9.frozen 2
              have e0 : w6.cell? ⟨W.heap.size, 0, none⟩ = some (.int .i64 Y) := by9.cell 0
              have e1 : w6.cell? ⟨W.heap.size, 1, none⟩ = some (.int .i64 M) := by9.cell 1
              have e2 : w6.cell? ⟨W.heap.size, 2, none⟩ = some (.int .i64 d) := by9.cell 2
              cases hrr : rightB Y M d
              · have hB' := hB.out
                rw [hrr] at hB'
                obtain ⟨rfl, rfl, rfl, rfl⟩ := hNeg.out hB'
                clear hB' hrr hB hMD hYM hPos hNeg
                go_wp2
                refine bodyPost_ret (results_row_tmp rfl _ _ (w.heap.size + 1) 23 #[_, _, _] (0, 0) _ rfl (Blk.eq_ (((bz9.set_ 0 _).set_ 1 _).set_ 2 _) rfl) Try.underlying23 rfl (by kernel_rfl)) rfl ⟨rfl, ?_⟩
                exact ((hb10.setCell (by simp) _).setCell (by simp) _).setCell (by simp) _
              · have hB' := hB.out
                rw [hrr] at hB'
                obtain ⟨p1, p2, p3, p4⟩ := hPos.out hB'
                obtain rfl : RY = Y := p1.trans hYM.out.1
                obtain rfl : RM = M := p2.trans hYM.out.2
                obtain rfl : RD = d := p3.trans hMD.out
                subst p4
                clear p1 p2 p3 hB' hrr hB hMD hYM hPos hNeg
                go_wp2
                refine bodyPost_ret (results_row_tmp rfl _ _ (w.heap.size + 1) 23 #[_, _, _] (0, 0) _ rfl (Blk.eq_ (((bz9.set_ 0 _).set_ 1 _).set_ 2 _) rfl) Try.underlying23 rfl (by kernel_rfl)) rfl ⟨rfl, ?_⟩
                exact ((hb10.setCell (by simp) _).setCell (by simp) _).setCell (by simp) _
          · have hQ' := hQ.out.1 rfl
            have hMD : Hid (moD y m d n = L) := hide (hmD.out.trans (if_pos hQ'))
            have hrf := fun W => hide (rright_calls Y M L W)
            have hB : Hid (moB y m d n = rightB Y M L) := by
              have h1 := hmB.out
              rw [h1, hYM.out.1, hYM.out.2, hMD.out]
              rfl
            clear hmD hmB hQ'
            have by6' : Blk (wr.setCell ⟨W.heap.size, 2, none⟩ (.int .i64 L)) W.heap.size 23 #[.int .i64 Y, .int .i64 M, .int .i64 L] := by7.set_ 2 (.int .i64 L)
            have bz6 := bz1.far (p := ⟨W.heap.size, 2, none⟩) (by simp; omega) (.int .i64 L)
            have hb6 := hb3.setCell (p := ⟨W.heap.size, 2, none⟩) (by simp; omega) (.int .i64 L)
            have e0 : (wr.setCell ⟨W.heap.size, 2, none⟩ (.int .i64 L)).cell? ⟨W.heap.size, 0, none⟩ = some (.int .i64 Y) := by6'.cell 0
            have e1 : (wr.setCell ⟨W.heap.size, 2, none⟩ (.int .i64 L)).cell? ⟨W.heap.size, 1, none⟩ = some (.int .i64 M) := by6'.cell 1
            have e3 : (wr.setCell ⟨W.heap.size, 2, none⟩ (.int .i64 L)).cell? ⟨W.heap.size, 2, none⟩ = some (.int .i64 L) := by6'.cell 2
            clear by7 bz1 hb3
            go_wp2_with fail
            refine (unhide (hrf _)).mono ?_
            rintro e w6 ⟨rfl, hb9⟩
            have by9 := by6'.below hb9 by6'.lt
            have bz9 := bz6.below hb9 bz6.lt
            have hb10 := hb6.trans (hb9.mono hb6.size)
            clear by6' bz6 hb6 hb9 e0 e1 e3 f2 g0 g1 g2 f0 f1
            have c0 : w6.cell? ⟨w.heap.size + 1, 0, none⟩ = some (.int .i64 0) := bz9.cell 0
            have c1 : w6.cell? ⟨w.heap.size + 1, 1, none⟩ = some (.int .i64 0) := bz9.cell 1
            have c2 : w6.cell? ⟨w.heap.size + 1, 2, none⟩ = some (.int .i64 0) := bz9.cell 2
            have g0 := bz9.frozen 0
            have g1 := bz9.frozen 1
            have g2 := bz9.frozen 2
            have e0 : w6.cell? ⟨W.heap.size, 0, none⟩ = some (.int .i64 Y) := by9.cell 0
            have e1 : w6.cell? ⟨W.heap.size, 1, none⟩ = some (.int .i64 M) := by9.cell 1
            have e2 : w6.cell? ⟨W.heap.size, 2, none⟩ = some (.int .i64 L) := by9.cell 2
            cases hrr : rightB Y M L
            · have hB' := hB.out
              rw [hrr] at hB'
              obtain ⟨rfl, rfl, rfl, rfl⟩ := hNeg.out hB'
              clear hB' hrr hB hMD hYM hPos hNeg
              go_wp2
              refine bodyPost_ret (results_row_tmp rfl _ _ (w.heap.size + 1) 23 #[_, _, _] (0, 0) _ rfl (Blk.eq_ (((bz9.set_ 0 _).set_ 1 _).set_ 2 _) rfl) Try.underlying23 rfl (by kernel_rfl)) rfl ⟨rfl, ?_⟩
              exact ((hb10.setCell (by simp) _).setCell (by simp) _).setCell (by simp) _
            · have hB' := hB.out
              rw [hrr] at hB'
              obtain ⟨p1, p2, p3, p4⟩ := hPos.out hB'
              obtain rfl : RY = Y := p1.trans hYM.out.1
              obtain rfl : RM = M := p2.trans hYM.out.2
              obtain rfl : RD = L := p3.trans hMD.out
              subst p4
              clear p1 p2 p3 hB' hrr hB hMD hYM hPos hNeg
              go_wp2
              refine bodyPost_ret (results_row_tmp rfl _ _ (w.heap.size + 1) 23 #[_, _, _] (0, 0) _ rfl (Blk.eq_ (((bz9.set_ 0 _).set_ 1 _).set_ 2 _) rfl) Try.underlying23 rfl (by kernel_rfl)) rfl ⟨rfl, ?_⟩
              exact ((hb10.setCell (by simp) _).setCell (by simp) _).setCell (by simp) _
end Go.Proofs.Ytehkaiildchmfaa
