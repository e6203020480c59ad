/- The plain law of dates: leap years, lengths, numbers; no program in sight. -/
import Derived.RowKit
namespace Go.Proofs.YtnjjkehoabghhaaDoor

def leapB (y : Int) : Bool := (y % 4 == 0 && y % 100 != 0) || y % 400 == 0
def lp (y : Int) : Int := if leapB y = true then 1 else 0
def lenI (y m : Int) : Int := if m < 1 ∨ 12 < m then 0 else if m = 2 then 28 + lp y else if m = 4 ∨ m = 6 ∨ m = 9 ∨ m = 11 then 30 else 31
def rightB (y m d : Int) : Bool := decide (1900 ≤ y ∧ y ≤ 2299 ∧ 1 ≤ d ∧ d ≤ lenI y m)
def dby (y : Int) : Int := 365 * (y - 1900) + (y - 1) / 4 - (y - 1) / 100 + (y - 1) / 400 - 460
def cum (y m : Int) : Int := if m ≤ 1 then 0 else if m = 2 then 31 else (153 * (m - 3) + 2) / 5 + 59 + lp y
def numI (y m d : Int) : Int := dby y + cum y m + d - 1

theorem leap_iff (y : Int) : leapB y = true ↔ (y % 4 = 0 ∧ y % 100 ≠ 0) ∨ y % 400 = 0 := by
  unfold leapB
  simp
theorem lp_or (y : Int) : (((y % 4 = 0 ∧ y % 100 ≠ 0) ∨ y % 400 = 0) ∧ lp y = 1) ∨ (¬ ((y % 4 = 0 ∧ y % 100 ≠ 0) ∨ y % 400 = 0) ∧ lp y = 0) := by
  unfold lp
  by_cases h : leapB y = true
  · exact .inl ⟨(leap_iff y).1 h, if_pos h⟩
  · exact .inr ⟨fun h' => h ((leap_iff y).2 h'), if_neg h⟩
theorem lp_01 (y : Int) : 0 ≤ lp y ∧ lp y ≤ 1 := by have := lp_or y; omega
theorem dby_succ (y : Int) : dby (y + 1) = dby y + 365 + lp y := by
  have := lp_or y
  unfold dby
  omega
theorem dby_mono (a b : Int) (h : a ≤ b) : dby a ≤ dby b := by unfold dby; omega
theorem m12 {m : Int} (h1 : 1 ≤ m) (h2 : m ≤ 12) : m = 1 ∨ m = 2 ∨ m = 3 ∨ m = 4 ∨ m = 5 ∨ m = 6 ∨ m = 7 ∨ m = 8 ∨ m = 9 ∨ m = 10 ∨ m = 11 ∨ m = 12 := by omega
theorem cum_succ (y m : Int) (h1 : 1 ≤ m) (h2 : m ≤ 12) : cum y (m + 1) = cum y m + lenI y m := by
  rcases m12 h1 h2 with rfl | rfl | rfl | rfl | rfl | rfl | rfl | rfl | rfl | rfl | rfl | rfl <;> simp [cum, lenI] <;> omega
theorem cum_13 (y : Int) : cum y 13 = 365 + lp y := by simp [cum]
theorem cum_1 (y : Int) : cum y 1 = 0 := rfl
theorem len_bd (y m : Int) (h1 : 1 ≤ m) (h2 : m ≤ 12) : 28 ≤ lenI y m ∧ lenI y m ≤ 31 := by
  have := lp_01 y
  rcases m12 h1 h2 with rfl | rfl | rfl | rfl | rfl | rfl | rfl | rfl | rfl | rfl | rfl | rfl <;> simp [lenI] <;> omega
theorem len_out (y m : Int) (h : m < 1 ∨ 12 < m) : lenI y m = 0 := if_pos h
theorem cum_mono (y a b : Int) (h1 : 1 ≤ a) (h : a < b) (h2 : b ≤ 13) : cum y a + lenI y a ≤ cum y b := by
  have hl := lp_01 y
  rcases m12 h1 (by omega) with rfl | rfl | rfl | rfl | rfl | rfl | rfl | rfl | rfl | rfl | rfl | rfl <;> simp [lenI] <;> unfold cum <;> (repeat' split) <;> omega

theorem right_iff (y m d : Int) : rightB y m d = true ↔ (1900 ≤ y ∧ y ≤ 2299 ∧ 1 ≤ m ∧ m ≤ 12 ∧ 1 ≤ d ∧ d ≤ lenI y m) := by
  unfold rightB
  rw [decide_eq_true_iff]
  constructor
  · rintro ⟨h1, h2, h3, h4⟩
    by_cases hm : m < 1 ∨ 12 < m
    · rw [len_out y m hm] at h4; omega
    · exact ⟨h1, h2, by omega, by omega, h3, h4⟩
  · rintro ⟨h1, h2, _, _, h3, h4⟩; exact ⟨h1, h2, h3, h4⟩
theorem num_bd {y m d : Int} (h : rightB y m d = true) : dby y ≤ numI y m d ∧ numI y m d < dby (y + 1) := by
  obtain ⟨h1, h2, h3, h4, h5, h6⟩ := (right_iff y m d).1 h
  have hs := dby_succ y
  have hc := cum_mono y m 13 h3 (by omega) (by omega)
  have h0 : 0 ≤ cum y m := by have := lp_01 y; unfold cum; (repeat' split) <;> omega
  rw [cum_13] at hc
  unfold numI
  omega
theorem num_range {y m d : Int} (h : rightB y m d = true) : 0 ≤ numI y m d ∧ numI y m d ≤ 146096 := by
  have hb := num_bd h
  obtain ⟨h1, h2, _⟩ := (right_iff y m d).1 h
  have a := dby_mono 1900 y h1
  have b := dby_mono (y + 1) 2300 (by omega)
  have c : dby 1900 = 0 := by decide
  have d : dby 2300 = 146097 := by decide
  omega
theorem num_inj {y m d y' m' d' : Int} (h : rightB y m d = true) (h' : rightB y' m' d' = true) (e : numI y m d = numI y' m' d') : y = y' ∧ m = m' ∧ d = d' := by
  have hb := num_bd h
  have hb' := num_bd h'
  obtain ⟨h1, h2, h3, h4, h5, h6⟩ := (right_iff y m d).1 h
  obtain ⟨h1', h2', h3', h4', h5', h6'⟩ := (right_iff y' m' d').1 h'
  have hy : y = y' := by
    rcases Int.lt_trichotomy y y' with hl | hl | hl
    · have := dby_mono (y + 1) y' (by omega); omega
    · exact hl
    · have := dby_mono (y' + 1) y (by omega); omega
  subst hy
  have hm : m = m' := by
    rcases Int.lt_trichotomy m m' with hl | hl | hl
    · have := cum_mono y m m' h3 hl (by omega); unfold numI at e; omega
    · exact hl
    · have := cum_mono y m' m h3' hl (by omega); unfold numI at e; omega
  subst hm
  unfold numI at e
  exact ⟨rfl, rfl, by omega⟩

/-- The day count of a year that begins in March. -/
theorem march_num (y m d : Int) (h1 : 1 ≤ m) (h2 : m ≤ 12) :
    (if m < 3 then (y - 1) * 365 + (y - 1) / 4 - (y - 1) / 100 + (y - 1) / 400 + (153 * (m - 3 + 12) + 2) / 5 + d - 1 else y * 365 + y / 4 - y / 100 + y / 400 + (153 * (m - 3) + 2) / 5 + d - 1) - 693901 = numI y m d := by
  have := lp_or y
  unfold numI cum dby
  split
  · by_cases hm : m = 1
    · subst hm; simp; omega
    · obtain rfl : m = 2 := by omega
      simp; omega
  · rw [if_neg (by omega), if_neg (by omega)]; omega

theorem era (r : Int) (h0 : 0 ≤ r) (h1 : r ≤ 146096) :
    ∃ c b a t : Int, 0 ≤ c ∧ c ≤ 3 ∧ 0 ≤ b ∧ b ≤ 24 ∧ 0 ≤ a ∧ a ≤ 3 ∧ 0 ≤ t ∧ t ≤ 365 ∧ (t = 365 → a = 3 ∧ (b ≤ 23 ∨ c = 3)) ∧ r = 36524 * c + 1461 * b + 365 * a + t := by
  obtain ⟨c, hc⟩ : ∃ c, c = (if r = 146096 then 3 else r / 36524) := ⟨_, rfl⟩
  have hc0 : 0 ≤ c ∧ c ≤ 3 ∧ 0 ≤ r - 36524 * c ∧ r - 36524 * c ≤ 36524 ∧ (r - 36524 * c = 36524 → c = 3) := by
    split at hc <;> omega
  clear hc
  obtain ⟨r1, hr1⟩ : ∃ r1, r1 = r - 36524 * c := ⟨_, rfl⟩
  rw [← hr1] at hc0
  obtain ⟨b, hb⟩ : ∃ b, b = (if r1 / 1461 ≤ 24 then r1 / 1461 else 24) := ⟨_, rfl⟩
  have hb0 : 0 ≤ b ∧ b ≤ 24 ∧ 0 ≤ r1 - 1461 * b ∧ r1 - 1461 * b ≤ 1460 ∧ (b = 24 → r1 - 1461 * b = 1460 → c = 3) := by
    split at hb <;> omega
  clear hb
  obtain ⟨r2, hr2⟩ : ∃ r2, r2 = r1 - 1461 * b := ⟨_, rfl⟩
  rw [← hr2] at hb0
  obtain ⟨a, ha⟩ : ∃ a, a = (if r2 / 365 ≤ 3 then r2 / 365 else 3) := ⟨_, rfl⟩
  refine ⟨c, b, a, r2 - 365 * a, ?_⟩
  split at ha <;> refine ⟨?_, ?_, ?_, ?_, ?_, ?_, ?_, ?_, ?_, ?_⟩ <;> omega
theorem eraY (c b a t : Int) (hc0 : 0 ≤ c) (hc : c ≤ 3) (hb0 : 0 ≤ b) (hb : b ≤ 24) (ha0 : 0 ≤ a) (ha : a ≤ 3) (ht0 : 0 ≤ t) (ht : t ≤ 365) (htt : t = 365 → a = 3 ∧ (b ≤ 23 ∨ c = 3)) (r : Int)
    (hr : r = 36524 * c + 1461 * b + 365 * a + t) : (r - r/1460 + r/36524 - r/146096)/365 = 100 * c + 4 * b + a := by
  have h1 : r / 36524 - r / 146096 = c := by
    have hc' : c = 0 ∨ c = 1 ∨ c = 2 ∨ c = 3 := by omega
    rcases hc' with rfl | rfl | rfl | rfl <;> omega
  obtain ⟨e, he, h2⟩ : ∃ e, (0 ≤ e ∧ e ≤ 1 ∧ 0 ≤ t - e ∧ t - e ≤ 364) ∧ r / 1460 = 25 * c + b + e := by
    by_cases hx : 24 * c + b + 365 * a + t < 1460
    · exact ⟨0, by omega, by omega⟩
    · refine ⟨1, ⟨by omega, by omega, by omega, by omega⟩, by omega⟩
  have h3 : r - r/1460 + r/36524 - r/146096 = 365 * (100 * c + 4 * b + a) + (t - e) := by omega
  rw [h3]
  omega

/-- The steps of a number's date. -/
def oY (r : Int) : Int := (r - r/1460 + r/36524 - r/146096)/365
def oT (r : Int) : Int := r - (oY r * 365 + oY r / 4 - oY r / 100)
def oM (r : Int) : Int := (5 * oT r + 2) / 153
def oD (r : Int) : Int := oT r - (153 * oM r + 2) / 5 + 1
/-- A number's date. -/
def dY (n : Int) : Int := if 12 < oM ((n + 693901) % 146097) + 3 then 400 * ((n + 693901) / 146097) + oY ((n + 693901) % 146097) + 1 else 400 * ((n + 693901) / 146097) + oY ((n + 693901) % 146097)
def dM (n : Int) : Int := if 12 < oM ((n + 693901) % 146097) + 3 then oM ((n + 693901) % 146097) + 3 - 12 else oM ((n + 693901) % 146097) + 3
def dD (n : Int) : Int := oD ((n + 693901) % 146097)
theorem o_bd (r : Int) (h0 : 0 ≤ r) (h1 : r ≤ 146096) : 0 ≤ oY r ∧ oY r ≤ 399 ∧ 0 ≤ oT r ∧ oT r ≤ 365 ∧ 0 ≤ oM r ∧ oM r ≤ 11 ∧ 1 ≤ oD r ∧ oD r ≤ 31 := by
  obtain ⟨c, b, a, t, c0, c1, b0, b1, a0, a1, t0, t1, tt, e⟩ := era r h0 h1
  have hY : oY r = 100 * c + 4 * b + a := eraY c b a t c0 c1 b0 b1 a0 a1 t0 t1 tt r e
  have q4 : (100 * c + 4 * b + a) / 4 = 25 * c + b := by omega
  have q100 : (100 * c + 4 * b + a) / 100 = c := by omega
  have hT : oT r = t := by unfold oT; rw [hY, q4, q100]; omega
  have hM : oM r = (5 * t + 2) / 153 := by unfold oM; rw [hT]
  have hD : oD r = t - (153 * ((5 * t + 2) / 153) + 2) / 5 + 1 := by unfold oD; rw [hT, hM]
  rw [hY, hT, hM, hD]
  omega
theorem date_right (n : Int) (h0 : 0 ≤ n) (h1 : n ≤ 146096) : rightB (dY n) (dM n) (dD n) = true ∧ numI (dY n) (dM n) (dD n) = n := by
  have hr0 : 0 ≤ (n + 693901) % 146097 := by omega
  have hr1 : (n + 693901) % 146097 ≤ 146096 := by omega
  obtain ⟨A, hA⟩ : ∃ A, A = (n + 693901) / 146097 := ⟨_, rfl⟩
  obtain ⟨r, hr⟩ : ∃ r, r = (n + 693901) % 146097 := ⟨_, rfl⟩
  have hn : n + 693901 = 146097 * A + r := by omega
  have hAA : A = 4 ∨ A = 5 := by omega
  unfold dY dM dD
  rw [← hA, ← hr]
  rw [← hr] at hr0 hr1
  clear hA hr
  obtain ⟨c, b, a, t, c0, c1, b0, b1, a0, a1, t0, t1, tt, e⟩ := era r hr0 hr1
  have hY : oY r = 100 * c + 4 * b + a := eraY c b a t c0 c1 b0 b1 a0 a1 t0 t1 tt r e
  have q4 : (100 * c + 4 * b + a) / 4 = 25 * c + b := by omega
  have q100 : (100 * c + 4 * b + a) / 100 = c := by omega
  have hT : oT r = t := by unfold oT; rw [hY, q4, q100]; omega
  have hM : oM r = (5 * t + 2) / 153 := by unfold oM; rw [hT]
  have hD : oD r = t - (153 * oM r + 2) / 5 + 1 := by unfold oD; rw [hT]
  obtain ⟨y, hy⟩ : ∃ y, y = 400 * A + oY r := ⟨_, rfl⟩
  obtain ⟨m, hm⟩ : ∃ m, m = oM r := ⟨_, rfl⟩
  obtain ⟨d, hd⟩ : ∃ d, d = oD r := ⟨_, rfl⟩
  rw [← hm] at hD hM
  rw [← hd] at hD
  rw [hY] at hy
  rw [hY, ← hm, ← hd]
  have hyy : 400 * A + (100 * c + 4 * b + a) = y := hy.symm
  rw [hyy]
  clear hY hT hm hd hyy
  have hmm : 0 ≤ m ∧ m ≤ 11 := by omega
  have hs := lp_or (y + 1)
  have y4 : y / 4 = 100 * A + 25 * c + b := by omega
  have y100 : y / 100 = 4 * A + c := by omega
  have y400 : y / 400 = A := by omega
  by_cases hlt : 12 < m + 3
  · rw [if_pos hlt, if_pos hlt]
    have hm2 : m = 10 ∨ m = 11 := by omega
    have hyr : 1900 ≤ y + 1 ∧ y + 1 ≤ 2299 := by rcases hAA with rfl | rfl <;> rcases hm2 with rfl | rfl <;> omega
    have hd2 : 1 ≤ d ∧ d ≤ lenI (y + 1) (m + 3 - 12) := by
      rcases hm2 with rfl | rfl
      · rw [show (10 : Int) + 3 - 12 = 1 from rfl, show lenI (y + 1) 1 = 31 from rfl]; omega
      · rw [show (11 : Int) + 3 - 12 = 2 from rfl, show lenI (y + 1) 2 = 28 + lp (y + 1) from rfl]
        by_cases h365 : t = 365
        · obtain ⟨rfl, h3⟩ := tt h365; omega
        · omega
    refine ⟨(right_iff _ _ _).2 ⟨hyr.1, hyr.2, by omega, by omega, hd2.1, hd2.2⟩, ?_⟩
    rw [← march_num _ _ _ (by omega) (by omega), if_pos (by omega), show y + 1 - 1 = y by omega, y4, y100, y400]
    clear hs hd2 hyr y4 y100 y400
    rcases hAA with rfl | rfl <;> rcases hm2 with rfl | rfl <;> omega
  · rw [if_neg hlt, if_neg hlt]
    have hyr : 1900 ≤ y ∧ y ≤ 2299 := by rcases hAA with rfl | rfl <;> omega
    have hm9 : m = 0 ∨ m = 1 ∨ m = 2 ∨ m = 3 ∨ m = 4 ∨ m = 5 ∨ m = 6 ∨ m = 7 ∨ m = 8 ∨ m = 9 := by omega
    have hd2 : 1 ≤ d ∧ d ≤ lenI y (m + 3) := by
      rcases hm9 with rfl | rfl | rfl | rfl | rfl | rfl | rfl | rfl | rfl | rfl <;> simp [lenI] <;> omega
    refine ⟨(right_iff _ _ _).2 ⟨hyr.1, hyr.2, by omega, by omega, hd2.1, hd2.2⟩, ?_⟩
    rw [← march_num _ _ _ (by omega) (by omega), if_neg (by omega), y4, y100, y400]
    clear hs hd2 hyr y4 y100 y400
    rcases hAA with rfl | rfl <;> omega
/-- There is one date of a number. -/
theorem date_of {y m d n : Int} (h : rightB y m d = true) (e : numI y m d = n) : y = dY n ∧ m = dM n ∧ d = dD n := by
  subst e
  have hr := num_range h
  have hd := date_right _ hr.1 hr.2
  exact num_inj h hd.1 hd.2.symm
end Go.Proofs.YtnjjkehoabghhaaDoor
