/- What the rows of Parse's laws give: the errors' variables; a world for their witnesses. -/
import Derived.Test.YtnjjkehoabghhaaDoorCivR
import Derived.Test.YtnjjkehoabghhaaDoorCivW
import Derived.Stop.LaidErr
import Derived.Deep.DeepWitnessRowRef
namespace Go.Proofs.YtnjjkehoabghhaaDoor
open Go.ChangeShapes Go.WideShapes Go.ChangeAt Go.RowKit

theorem gES : Tryd.prog.globalNamed "strconv.ErrSyntax" = some 0 := by kernel_rfl
theorem gESType : (Tryd.prog.globals[0]?).map (·.type) = some 50 := by kernel_rfl
theorem cellsES : Tryd.prog.cellsOf 81 = 1 := by kernel_rfl
theorem cellsStr : Tryd.prog.cellsOf 9 = 1 := by kernel_rfl
theorem star : "*" ++ "errors.errorString" = "*errors.errorString" := by decide
theorem rowES (u : TypeId) (h : Tryd.prog.typeName? 3 u = some "*errors.errorString") : u = 79 :=
  typeName_ptr_named (nm := "errors.errorString") (by rw [star]; kernel_rfl) (by kernel_rfl) (by decide) u (by rw [star]; exact h)

theorem err {W : World} (h : laidMetH Tryd.prog [("strconv.ErrSyntax", Rows.laid_strconv_ErrSyntax)] W) : ErrW W := by
  have h' : laidMet Tryd.prog [("strconv.ErrSyntax", Rows.laid_strconv_ErrSyntax)] W := h
  obtain ⟨a0, s0, hv0, -, -, -⟩ := laid_sentinel h' gES gESType Tryd.underlying50 rowES Tryd.underlying79 Tryd.underlying81 rfl rfl Tryd.underlying9 cellsES cellsStr
  exact ⟨_, by have h0 := World.var?_cell gES hv0 0; simpa using h0, Or.inr ⟨_, _, rfl⟩⟩
theorem err_of {W : World} {l : List (String × DataW Unit)} (h : laidMetH Tryd.prog l W) (hl : l.filter (fun x => x.1 == "strconv.ErrSyntax") = [("strconv.ErrSyntax", Rows.laid_strconv_ErrSyntax)]) : ErrW W :=
  err (hl ▸ h.filter (fun x => x.1 == "strconv.ErrSyntax"))

abbrev synS : ByteArray := { data := #[105, 110, 118, 97, 108, 105, 100, 32, 115, 121, 110, 116, 97, 120] }
abbrev rngS : ByteArray := { data := #[118, 97, 108, 117, 101, 32, 111, 117, 116, 32, 111, 102, 32, 114, 97, 110, 103, 101] }
noncomputable def low : Nat := (World.holding Tryd.prog default ⟨#[], #[], []⟩).heap.size
def put1 (v : Value) : Obj → Obj
  | .cells _ t frozen => .cells #[v] t frozen
  | o => o
/-- .. and the two errors besides. -/
noncomputable def laidWorldE (os : Os) : World :=
  let w0 := World.holding Tryd.prog os ⟨#[.cells #[.string synS] 81, .cells #[.string rngS] 81], #[], []⟩
  { w0 with heap := ((((w0.heap.modify 0 (put1 (.iface 79 (.pointer (some ⟨low, 0, none⟩))))).modify 1 (put1 (.iface 79 (.pointer (some ⟨low + 1, 0, none⟩))))).modify 2 (lay1 Rows.laid_internal_strconv_uint64pow10)).modify 3 (lay1 Rows.laid_math_bits_deBruijn32tab)).modify 4 (lay1 Rows.laid_math_bits_deBruijn64tab) }
end Go.Proofs.YtnjjkehoabghhaaDoor
