/- The walks of the day of the week, and of the document's year, number and date. -/
import Derived.Test.YtnjjkehoabghhaaDoorCalC
namespace Go.Proofs.YtnjjkehoabghhaaDoor
open Go.RowKit

theorem tmod7 (n : Int) : -6 ≤ n.tmod 7 ∧ n.tmod 7 ≤ 6 ∧ ((n.tmod 7 + 7) % 7 = n % 7) ∧ (n.tmod 7 < 0 → n.tmod 7 + 7 = n % 7) ∧ (0 ≤ n.tmod 7 → n.tmod 7 = n % 7) := by
  have h := Int.tmod_def n 7
  have h2 : n.tdiv 7 = if 0 ≤ n then n / 7 else -((-n) / 7) := by
    split
    · rename_i h0; exact Int.tdiv_eq_ediv_of_nonneg h0
    · rename_i h0
      have : n.tdiv 7 = -((-n).tdiv 7) := by rw [Int.neg_tdiv, Int.neg_neg]
      rw [this, Int.tdiv_eq_ediv_of_nonneg (by omega)]
  rw [h, h2]
  split <;> omega

set_option maxHeartbeats 400000 in
theorem week_calls (n : Int) (w : World) : Calls Tryd.prog 23 #[.int .i64 n] w fun e w' => e = .returned (.int .i64 (n % 7)) ∧ w = w' := by
  obtain ⟨h1, h2, h3, _, _⟩ := tmod7 n
  have H3 := hide h3
  clear h3
  go_enter Tryd.func23, Tryd.ntmps23
  go_wp2
  go_ret
  exact ⟨ret_int H3.out, rfl⟩

set_option maxHeartbeats 400000 in
theorem rweek_calls (n : Int) (w : World) : Calls Tryd.prog 24 #[.int .i64 n] w fun e w' => e = .returned (.int .i64 (n % 7)) ∧ w = w' := by
  obtain ⟨h1, h2, _, h4, h5⟩ := tmod7 n
  by_cases h : n.tmod 7 < 0
  · have H := hide (h4 h)
    clear h4 h5
    go_enter Tryd.func24, Tryd.ntmps24
    go_wp2
    go_ret
    exact ⟨ret_int H.out, rfl⟩
  · have H := hide (h5 (by omega))
    clear h4 h5
    go_enter Tryd.func24, Tryd.ntmps24
    go_wp2
    go_ret
    exact ⟨ret_int H.out, rfl⟩

set_option maxHeartbeats 400000 in
theorem year_calls (y : Int) (w : World) : Calls Tryd.prog 28 #[.int .i64 y] w fun e w' => e = .returned (.int .i64 (365 + lp y)) ∧ w = w' := by
  have hlc := fun W => hide (rleap_calls y W)
  cases hb : leapB y
  · rw [hb] at hlc
    rw [show lp y = 0 by unfold lp; rw [hb]; rfl]
    clear hb
    go_enter Tryd.func28, Tryd.ntmps28
    go_wp2_with (go_at_call 17; refine (unhide (hlc _)).mono ?_; rintro e wx ⟨rfl, rfl⟩)
    go_ret
    exact ⟨rfl, rfl⟩
  · rw [hb] at hlc
    rw [show lp y = 1 by unfold lp; rw [hb]; rfl]
    clear hb
    go_enter Tryd.func28, Tryd.ntmps28
    go_wp2_with (go_at_call 17; refine (unhide (hlc _)).mono ?_; rintro e wx ⟨rfl, rfl⟩)
    go_ret
    exact ⟨rfl, rfl⟩

set_option maxHeartbeats 2000000 in
theorem rnumber_calls (y m d : Int) (w : World) : Calls Tryd.prog 13 #[.agg #[.int .i64 y, .int .i64 m, .int .i64 d]] w fun e w' => e = .returned (.tuple #[.int .i64 (numR y m d), .int .i64 (errR y m d)]) ∧ Below w.heap.size w w' := by
  unfold numR errR
  have hrc := fun W => hide (rright_calls y m d W)
  have hb0 := box3 w 23 y m d
  cases hr : rightB y m d
  · rw [hr] at hrc
    rw [if_neg Bool.false_ne_true, if_neg Bool.false_ne_true]
    clear hr
    go_enter Tryd.func13, Tryd.ntmps13
    go_wp2_with fail
    refine (unhide (hrc _)).mono ?_
    rintro e w1 ⟨rfl, hb1⟩
    go_wp2
    go_ret2
    exact ⟨rfl, ((Below.refl _ _).alloc (Nat.le_refl _) _).trans (hb1.mono (by simp))⟩
  · rw [hr] at hrc
    obtain ⟨h1, h2, h3, h4, h5, h6⟩ := (right_iff y m d).1 hr
    have h7 := len_bd y m h3 h4
    have h8 : d ≤ 31 := by omega
    have hN := hide (show numI y m d = dby y + cum y m + d - 1 from rfl)
    rw [if_pos rfl, if_pos rfl]
    have hD0 := hide (show dby 1900 = 0 by decide)
    clear hr h6 h7
    go_enter Tryd.func13, Tryd.ntmps13
    go_wp2_with fail
    refine (unhide (hrc _)).mono ?_
    rintro e w1 ⟨rfl, hb1⟩
    have b1 := hb0.below hb1 (by simp)
    have c0 : w1.cell? ⟨w.heap.size, 0, none⟩ = some (.int .i64 y) := b1.cell 0
    have c1 : w1.cell? ⟨w.heap.size, 1, none⟩ = some (.int .i64 m) := b1.cell 1
    have c2 : w1.cell? ⟨w.heap.size, 2, none⟩ = some (.int .i64 d) := b1.cell 2
    have hb2 := ((Below.refl w.heap.size w).alloc (Nat.le_refl _) (.cells #[.int .i64 y, .int .i64 m, .int .i64 d] 23)).trans (hb1.mono (by simp))
    clear hb0 hb1 b1 hrc
    go_wp2
    go_loop [5, 4] (fun i n => ∃ k : Int, 1900 ≤ k ∧ k ≤ y ∧ i = .int .i64 k ∧ n = .int .i64 (dby k)) (fun i _ => (y - intOf i).toNat)
    case atStart => exact ⟨1900, by omega, by omega, rfl, by rw [hD0.out]⟩
    case round =>
      obtain ⟨k, k1, k2, rfl, rfl⟩ := hrel
      have hdb := dby_mono 1900 k k1
      have hdb2 := dby_mono k 2299 (by omega)
      have hdb3 : dby 2299 = 145732 := by decide
      rw [hD0.out] at hdb
      rw [hdb3] at hdb2
      have hlp := lp_01 k
      by_cases hlt : k < y
      · have hyc := fun W => hide (year_calls k W)
        have hs := hide (dby_succ k)
        generalize dby k = D at *
        generalize hlq : lp k = q at *
        clear hlq hdb3
        go_wp2_with (go_at_call 28; refine (unhide (hyc _)).mono ?_; rintro e wx ⟨rfl, rfl⟩)
        go_round
        case rel => exact ⟨k + 1, by omega, by omega, rfl, by rw [hs.out]; congr 1; omega⟩
        case measure => simp [intOf]; omega
      · obtain rfl : k = y := by omega
        have hd : decide (k < k) = false := by simp
        clear hdb3
        have hcy1 := hide (cum_1 k)
        go_wp2
        go_loop [6, 4] (fun i n => ∃ j : Int, 1 ≤ j ∧ j ≤ m ∧ i = .int .i64 j ∧ n = .int .i64 (dby k + cum k j)) (fun i _ => (m - intOf i).toNat)
        case atStart => exact ⟨1, by omega, h3, rfl, by rw [hcy1.out, Int.add_zero]⟩
        case round =>
          obtain ⟨j, j1, j2, rfl, rfl⟩ := hrel
          have hcb : 0 ≤ cum k j ∧ cum k j ≤ 366 := by unfold cum; (repeat' split) <;> omega
          by_cases hltj : j < m
          · have hyc := fun W => hide (rlength_calls k j W)
            have hs := hide (cum_succ k j j1 (by omega))
            have hlb := len_bd k j j1 (by omega)
            generalize dby k = D at *
            generalize cum k j = C at *
            generalize lenI k j = L at *
            go_wp2_with (go_at_call 19; refine (unhide (hyc _)).mono ?_; rintro e wx ⟨rfl, rfl⟩)
            go_round
            case rel => exact ⟨j + 1, by omega, by omega, rfl, by rw [hs.out]; congr 1; omega⟩
            case measure => simp [intOf]; omega
          · obtain rfl : j = m := by omega
            generalize dby k = D at *
            generalize cum k j = C at *
            go_wp2
            go_ret2
            exact ⟨ret_i2 (by rw [hN.out]) rfl, hb2⟩

set_option maxHeartbeats 4000000 in
theorem rof_out (n : Int) (h : n < 0 ∨ 200000 < n) (w : World) : Calls Tryd.prog 22 #[.int .i64 n] w fun e w' => e = .returned (.tuple #[.agg #[.int .i64 0, .int .i64 0, .int .i64 0], .int .i64 31]) ∧ Below w.heap.size w w' := by
  have b1 := box3 w 23 0 0 0
  rcases h with h | h
  · go_enter Tryd.func22, Tryd.ntmps22
    go_wp2
    exact bodyPost_ret (results_row_tmp rfl _ _ w.heap.size 23 #[.int .i64 0, .int .i64 0, .int .i64 0] (0, 0) _ rfl b1 Tryd.underlying23 rfl (by kernel_rfl)) rfl ⟨rfl, (Below.refl _ _).alloc (Nat.le_refl _) _⟩
  · have h0 : ¬ n < 0 := by omega
    go_enter Tryd.func22, Tryd.ntmps22
    go_wp2
    exact bodyPost_ret (results_row_tmp rfl _ _ w.heap.size 23 #[.int .i64 0, .int .i64 0, .int .i64 0] (0, 0) _ rfl b1 Tryd.underlying23 rfl (by kernel_rfl)) rfl ⟨rfl, (Below.refl _ _).alloc (Nat.le_refl _) _⟩

set_option maxHeartbeats 4000000 in
theorem rof_mid (n : Int) (h0 : 0 ≤ n) (h1 : n ≤ 200000) (RY RM RD RE : Int) (hpos : n ≤ 146096 → RY = dY n ∧ RM = dM n ∧ RD = dD n ∧ RE = 0) (hneg : 146096 < n → RY = 0 ∧ RM = 0 ∧ RD = 0 ∧ RE = 31) (w : World) :
    Calls Tryd.prog 22 #[.int .i64 n] w fun e w' => e = .returned (.tuple #[.agg #[.int .i64 RY, .int .i64 RM, .int .i64 RD], .int .i64 RE]) ∧ Below w.heap.size w w' := by
  have hPos := hide hpos
  have hNeg := hide hneg
  clear hpos hneg
  have hD0 := hide (show dby 1900 = 0 by decide)
  have b1 := box3 w 23 0 0 0
  go_enter Tryd.func22, Tryd.ntmps22
  go_wp2
  go_loop [5, 4] (fun i l => ∃ k : Int, 1900 ≤ k ∧ k ≤ 2500 ∧ i = .int .i64 k ∧ l = .int .i64 (n - dby k) ∧ dby k ≤ n) (fun i _ => (2600 - intOf i).toNat)
  case atStart => exact ⟨1900, by omega, by omega, rfl, by rw [hD0.out]; congr 1; omega, by rw [hD0.out]; exact h0⟩
  case round =>
    obtain ⟨k, k1, k2, rfl, rfl, k3⟩ := hrel
    have hdb := dby_mono 1900 k k1
    rw [hD0.out] at hdb
    have hlp := lp_01 k
    have hs := dby_succ k
    have h25 : dby 2499 = 218781 := by decide
    have hk25 : k ≤ 2498 := by
      rcases Int.lt_or_le 2498 k with hh | hh
      · have := dby_mono 2499 k (by omega); omega
      · exact hh
    have hyc := fun W => hide (year_calls k W)
    have hnum : Hid (dby k = dby k) := rfl
    by_cases hlt : 365 + lp k ≤ n - dby k
    · have hS := hide hs
      clear hs h25
      generalize dby k = D at *
      generalize hlq : lp k = q at *
      clear hlq
      go_wp2_with (go_at_call 28; refine (unhide (hyc _)).mono ?_; rintro e wx ⟨rfl, rfl⟩)
      go_round
      case rel => exact ⟨k + 1, by omega, by omega, rfl, by rw [hS.out]; congr 1; omega, by rw [hS.out]; omega⟩
      case measure => simp [intOf]; omega
    · have h23 : dby 2300 = 146097 := by decide
      by_cases hbig : 2299 < k
      · have hk23 := dby_mono 2300 k (by omega)
        obtain ⟨rfl, rfl, rfl, rfl⟩ := hNeg.out (by omega)
        clear hs h25 hnum h23 hk23 hPos hNeg
        generalize dby k = D at *
        generalize hlq : lp k = q at *
        clear hlq
        go_wp2_with (go_at_call 28; refine (unhide (hyc _)).mono ?_; rintro e wx ⟨rfl, rfl⟩)
        exact bodyPost_ret (results_row_tmp rfl _ _ w.heap.size 23 #[.int .i64 0, .int .i64 0, .int .i64 0] (0, 0) _ rfl b1 Tryd.underlying23 rfl (by kernel_rfl)) rfl ⟨rfl, (Below.refl _ _).alloc (Nat.le_refl _) _⟩
      · have hk23 := dby_mono (k + 1) 2300 (by omega)
        have hn : n ≤ 146096 := by omega
        have hfit := hide (show n < dby k + 365 + lp k by omega)
        have hdo := hide (fun m d (h : rightB k m d = true) (e : numI k m d = n) => date_of h e)
        clear hs h25 hnum h23 hk23
        have hnn := hide (fun m d => show numI k m d = dby k + cum k m + d - 1 from rfl)
        have hc1 := hide (cum_1 k)
        have hkk : k ≤ 2299 := by omega
        have hd : decide (365 + lp k ≤ n - dby k) = false := by simp; omega
        generalize hDD : dby k = D at *
        generalize hlq : lp k = q at *
        have hlq2 := hide hlq
        clear hlq hDD
        go_wp2_with (go_at_call 28; refine (unhide (hyc _)).mono ?_; rintro e wx ⟨rfl, rfl⟩)
        go_loop [6, 4] (fun i l => ∃ m : Int, 1 ≤ m ∧ m ≤ 12 ∧ i = .int .i64 m ∧ l = .int .i64 (n - D - cum k m) ∧ 0 ≤ n - D - cum k m) (fun i _ => (13 - intOf i).toNat)
        case atStart => exact ⟨1, by omega, by omega, rfl, by rw [hc1.out]; congr 1; omega, by rw [hc1.out]; omega⟩
        case round =>
          obtain ⟨m, m1, m2, rfl, rfl, m3⟩ := hrel
          have hyl := fun W => hide (rlength_calls k m W)
          have hsc := cum_succ k m m1 m2
          have hlb := len_bd k m m1 m2
          have hcm : 0 ≤ cum k m := by have := lp_01 k; unfold cum; (repeat' split) <;> omega
          by_cases hll : lenI k m ≤ n - D - cum k m
          · have hm12 : m ≠ 12 := by
              rintro rfl
              have h13 := cum_13 k
              have := hfit.out
              have := hlq2.out
              rw [show (12 : Int) + 1 = 13 from rfl] at hsc
              omega
            have hS := hide hsc
            clear hsc hyc
            generalize cum k m = C at *
            generalize lenI k m = L at *
            go_wp2_with (go_at_call 19; refine (unhide (hyl _)).mono ?_; rintro e wx ⟨rfl, rfl⟩)
            go_round
            case rel => exact ⟨m + 1, by omega, by omega, rfl, by rw [hS.out]; congr 1; omega, by rw [hS.out]; omega⟩
            case measure => simp [intOf]; omega
          · have hr : rightB k m (n - D - cum k m + 1) = true := (right_iff _ _ _).2 ⟨k1, hkk, m1, m2, by omega, by omega⟩
            obtain ⟨e1, e2, e3⟩ := (unhide hdo) m (n - D - cum k m + 1) hr (by rw [hnn.out]; omega)
            obtain ⟨p1, p2, p3, p4⟩ := hPos.out hn
            obtain rfl : RY = k := p1.trans e1.symm
            obtain rfl : RM = m := p2.trans e2.symm
            have hRD := hide (p3.trans e3.symm)
            subst p4
            clear p1 p2 p3 hPos hNeg e1 e2 e3 hr hsc hyc
            generalize cum RY RM = C at *
            generalize lenI RY RM = L at *
            obtain rfl := hRD.out
            clear hRD
            go_wp2_with (go_at_call 19; refine (unhide (hyl _)).mono ?_; rintro e wx ⟨rfl, rfl⟩)
            exact bodyPost_ret (results_row_tmp rfl _ _ w.heap.size 23 #[.int .i64 RY, .int .i64 RM, .int .i64 (n - D - C + 1)] (0, 0) _ rfl (box3 w 23 RY RM (n - D - C + 1)) Tryd.underlying23 rfl (by kernel_rfl)) rfl ⟨rfl, (Below.refl _ _).alloc (Nat.le_refl _) _⟩
end Go.Proofs.YtnjjkehoabghhaaDoor
