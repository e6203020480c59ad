/- The plain law of Parse: the numerals of a date read back. -/
import Derived.Test.YtnjjkehoabghhaaDoorCivS
namespace Go.Proofs.YtnjjkehoabghhaaDoor

set_option maxRecDepth 100000 in
theorem atoi_year : ∀ k : Fin 400, Lib.atoi [dig ((1900 + (k.val : Int)) / 1000), dig ((1900 + (k.val : Int)) / 100 % 10), dig ((1900 + (k.val : Int)) / 10 % 10), dig ((1900 + (k.val : Int)) % 10)] = some (1900 + (k.val : Int)) := by
  decide +kernel
theorem atoi_two : ∀ k : Fin 100, Lib.atoi [dig ((k.val : Int) / 10), dig ((k.val : Int) % 10)] = some (k.val : Int) := by
  decide +kernel

theorem atoiV_year (y : Int) (h0 : 1900 ≤ y) (h1 : y ≤ 2299) : atoiV [dig (y / 1000), dig (y / 100 % 10), dig (y / 10 % 10), dig (y % 10)] = y := by
  have h := atoi_year ⟨(y - 1900).toNat, by omega⟩
  simp only [show 1900 + (((y - 1900).toNat : Nat) : Int) = y by omega] at h
  unfold atoiV
  rw [h]
  rfl
theorem atoiV_two (m : Int) (h0 : 0 ≤ m) (h1 : m ≤ 99) : atoiV [dig (m / 10), dig (m % 10)] = m := by
  have h := atoi_two ⟨m.toNat, by omega⟩
  simp only [show ((m.toNat : Nat) : Int) = m by omega] at h
  unfold atoiV
  rw [h]
  rfl
theorem digV_dig : ∀ k : Fin 10, digV ((dig (k.val : Int)).toNat : Int) = (k.val : Int) := by decide +kernel
theorem digV_of (x : Int) (h0 : 0 ≤ x) (h1 : x ≤ 9) : digV ((dig x).toNat : Int) = x := by
  have h := digV_dig ⟨x.toNat, by omega⟩
  simpa only [show ((x.toNat : Nat) : Int) = x by omega] using h

theorem text_reads {y m d : Int} (hr : rightB y m d = true) {s : ByteArray} (hs : txV y m d = s) : s.size = 10 ∧ pY s = y ∧ pM s = m ∧ pD s = d := by
  obtain ⟨h1, h2, h3, h4, h5, h6⟩ := (right_iff y m d).1 hr
  have h7 := (len_bd y m h3 h4).2
  unfold txV at hs
  rw [hr] at hs
  subst hs
  refine ⟨rfl, ?_, ?_, ?_⟩
  · exact atoiV_year y h1 h2
  · exact atoiV_two m (by omega) (by omega)
  · exact atoiV_two d (by omega) (by omega)
end Go.Proofs.YtnjjkehoabghhaaDoor
