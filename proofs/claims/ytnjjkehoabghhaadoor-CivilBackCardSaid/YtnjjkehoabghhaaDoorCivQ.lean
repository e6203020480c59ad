/- strconv.Atoi at a short string, laid at this dump. -/
import Derived.Test.YtnjjkehoabghhaaDoorCivO
import Derived.Test.YtnjjkehoabghhaaDoorShelfB
import Derived.Shelf.Strconv.AtoiAll
import Derived.Lib.AtoiTie
namespace Go.Proofs.YtnjjkehoabghhaaDoor
open Go.RowKit

/-- strconv.ErrSyntax holds some value of an interface's type. -/
def ErrW (w : World) : Prop := ∃ ev, w.cell? ⟨0, 0, none⟩ = some ev ∧ (ev = .nilIface ∨ ∃ te pe, ev = .iface te pe)
theorem ErrW.on {B : Nat} {w w' : World} (h : ErrW w) (hb : Below B w w') (hB : 0 < B) : ErrW w' := by
  obtain ⟨ev, h1, h2⟩ := h
  exact ⟨ev, (hb.cell (p := ⟨0, 0, none⟩) hB).trans h1, h2⟩

def atoiV (l : List UInt8) : Int := (Lib.atoi l).getD 0

theorem atoi_calls (s : ByteArray) (hs : s.size ≤ 18) (w : World) (hE : ErrW w) :
    Calls Tryd.prog 30 #[.string s] w fun e w' => (∃ er, e = .returned (.tuple #[.int .i64 (atoiV s.data.toList), er])) ∧ Below w.heap.size w w' := by
  have ht := Lib.atoiAll_short s.data.toList (by simpa using hs)
  unfold atoiV
  cases h : Lib.atoi s.data.toList with
  | some v =>
    rw [h] at ht
    refine Calls.mono (Any.strconv_Atoi_ok Tryd.laysC172 s (by omega) v ht w) ?_
    rintro e w' ⟨rfl, hw⟩
    refine ⟨⟨_, rfl⟩, ?_⟩
    rcases hw with rfl | ⟨t, rfl⟩
    · exact Below.refl _ _
    · exact Lib.bytesWorld_below _ _ _
  | none =>
    rw [h] at ht
    obtain ⟨ev, h1, h2⟩ := hE
    refine Calls.mono (Any.strconv_Atoi_syntax Tryd.laysC172 s (by omega) ht ev w h1 h2) ?_
    rintro e w' ⟨N, rfl, _, _, hb⟩
    exact ⟨⟨_, rfl⟩, hb⟩
end Go.Proofs.YtnjjkehoabghhaaDoor
