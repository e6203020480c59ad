/- A date as an argument: opened and shut. -/
import Derived.Test.YtnjjkehoabghhaaDoorCivR
import Derived.Lib.SmallJoins
namespace Go.Proofs.YtnjjkehoabghhaaDoor
open Go.ChangeShapes Go.WideShapes Go.ChangeAt Go.RowKit Go.Joins

theorem cellsDate : Tryd.prog.cellsOf 23 = 3 := by kernel_rfl

variable {H : Type} {enc : TypeId × Value → H} {w : World} {base : Nat} {spare : Nat → Bool} {held : Bool}

theorem open_date {r : Reach} {b0 : Nat} {v : Value} {d : DataW H} {p : List MemPlace} (hv : Value.okWide Tryd.prog w r b0 23 v) (h : DataW.Trod enc Tryd.prog w base spare held 23 v d p) :
    ∃ y m dd : Int, v = .agg #[.int .i64 y, .int .i64 m, .int .i64 dd] ∧ d = .agg [.lit (.int .i64 y), .lit (.int .i64 m), .lit (.int .i64 dd)] ∧ p = [] ∧ ((Lit.int .i64 y).wf = true ∧ (Lit.int .i64 m).wf = true ∧ (Lit.int .i64 dd).wf = true) := by
  obtain ⟨c0, c1, c2, z0, z1, z2, n, rfl, rfl, rfl, hy0, hy1, hy2⟩ := open_agg3 Tryd.underlying23 (by kernel_rfl) cellsDate hv h
  obtain ⟨a, e0, rfl, wa⟩ := DataW.trod_int Tryd.underlying3 hy0
  obtain ⟨b, e1, rfl, wb⟩ := DataW.trod_int Tryd.underlying3 hy1
  obtain ⟨c, e2, rfl, wc⟩ := DataW.trod_int Tryd.underlying3 hy2
  simp at e0 e1 e2
  subst e0 e1 e2
  exact ⟨a, b, c, rfl, rfl, rfl, wa, wb, wc⟩

theorem shut_date {y m dd : Int} (hw : (Lit.int .i64 y).wf = true ∧ (Lit.int .i64 m).wf = true ∧ (Lit.int .i64 dd).wf = true) :
    DataW.Trod enc Tryd.prog w base spare held 23 (.agg #[.int .i64 y, .int .i64 m, .int .i64 dd]) (.agg [.lit (.int .i64 y), .lit (.int .i64 m), .lit (.int .i64 dd)]) [] :=
  shut_agg3 (y0 := (.lit (.int .i64 y), [])) (y1 := (.lit (.int .i64 m), [])) (y2 := (.lit (.int .i64 dd), [])) Tryd.underlying23 (by kernel_rfl) cellsDate
    ⟨1, by simp [DataW.trod, Tryd.underlying3, hw.1]⟩ ⟨1, by simp [DataW.trod, Tryd.underlying3, hw.2.1]⟩ ⟨1, by simp [DataW.trod, Tryd.underlying3, hw.2.2]⟩
end Go.Proofs.YtnjjkehoabghhaaDoor
