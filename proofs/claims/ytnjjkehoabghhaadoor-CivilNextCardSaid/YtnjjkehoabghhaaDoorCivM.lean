/- The plain laws of CivilNext and CivilWeeks. -/
import Derived.Test.YtnjjkehoabghhaaDoorCalM
namespace Go.Proofs.YtnjjkehoabghhaaDoor

theorem next_same (n : Int) (h0 : 0 ≤ n) (h1 : n < 146096) (hd : dD n < lenI (dY n) (dM n)) : dY (n + 1) = dY n ∧ dM (n + 1) = dM n ∧ dD (n + 1) = dD n + 1 := by
  obtain ⟨hr, hn⟩ := date_right n h0 (by omega)
  generalize dY n = y at *
  generalize dM n = m at *
  generalize dD n = d at *
  obtain ⟨r1, r2, r3, r4, r5, r6⟩ := (right_iff y m d).1 hr
  have := date_of (y := y) (m := m) (d := d + 1) (n := n + 1) ((right_iff _ _ _).2 ⟨r1, r2, r3, r4, by omega, by omega⟩) (by unfold numI at *; omega)
  exact ⟨this.1.symm, this.2.1.symm, this.2.2.symm⟩

theorem next_month (n : Int) (h0 : 0 ≤ n) (h1 : n < 146096) (hd : ¬ dD n < lenI (dY n) (dM n)) (hm : dM n < 12) : dY (n + 1) = dY n ∧ dM (n + 1) = dM n + 1 ∧ dD (n + 1) = 1 := by
  obtain ⟨hr, hn⟩ := date_right n h0 (by omega)
  generalize dY n = y at *
  generalize dM n = m at *
  generalize dD n = d at *
  obtain ⟨r1, r2, r3, r4, r5, r6⟩ := (right_iff y m d).1 hr
  have hl := len_bd y (m + 1) (by omega) (by omega)
  have hc := cum_succ y m r3 r4
  have := date_of (y := y) (m := m + 1) (d := 1) (n := n + 1) ((right_iff _ _ _).2 ⟨r1, r2, by omega, by omega, by omega, by omega⟩) (by unfold numI at *; omega)
  exact ⟨this.1.symm, this.2.1.symm, this.2.2.symm⟩

theorem next_year (n : Int) (h0 : 0 ≤ n) (h1 : n < 146096) (hd : ¬ dD n < lenI (dY n) (dM n)) (hm : ¬ dM n < 12) : dY (n + 1) = dY n + 1 ∧ dM (n + 1) = 1 ∧ dD (n + 1) = 1 := by
  obtain ⟨hr, hn⟩ := date_right n h0 (by omega)
  generalize dY n = y at *
  generalize dM n = m at *
  generalize dD n = d at *
  obtain ⟨r1, r2, r3, r4, r5, r6⟩ := (right_iff y m d).1 hr
  obtain rfl : m = 12 := by omega
  have hl := len_bd (y + 1) 1 (by omega) (by omega)
  have hc := cum_succ y 12 (by omega) (by omega)
  rw [show (12 : Int) + 1 = 13 from rfl, cum_13] at hc
  have hs := dby_succ y
  have h1c := cum_1 (y + 1)
  have hne : y ≠ 2299 := by
    intro h
    subst h
    have e1 : dby 2299 = 145732 := by decide
    have e2 : lp 2299 = 0 := by decide
    unfold numI at hn
    omega
  have := date_of (y := y + 1) (m := 1) (d := 1) (n := n + 1) ((right_iff _ _ _).2 ⟨by omega, by omega, by omega, by omega, by omega, by omega⟩) (by unfold numI at *; omega)
  exact ⟨this.1.symm, this.2.1.symm, this.2.2.symm⟩

theorem week_next (n : Int) : (n + 1) % 7 = (n % 7 + 1) % 7 := by omega
end Go.Proofs.YtnjjkehoabghhaaDoor
