/- What each civil law's row gives: the table of powers; a world for the witnesses. -/
import Derived.Test.YtnjjkehoabghhaaDoorCivO
import Derived.Test.YtnjjkehoabghhaaDoorCards
import Derived.Test.YtnjjkehoabghhaaDoorTie
import Derived.WalkKit
import Derived.ProofKit
import Derived.OpenShut
import Derived.ShutString
import Derived.Deep.DeepHandedRow
import Derived.Lib.LaidTab
import Derived.LaidSub
namespace Go.Proofs.YtnjjkehoabghhaaDoor
open Go.ChangeShapes Go.WideShapes Go.ChangeAt Go.RowKit

theorem gTab : Tryd.prog.globalNamed "internal/strconv.uint64pow10" = some 2 := by kernel_rfl
theorem gTabType : (Tryd.prog.globals[2]?).map (·.type) = some 83 := by kernel_rfl
theorem cellsTab : Tryd.prog.cellsOf 83 = 20 := by kernel_rfl
theorem cellsU64 : Tryd.prog.cellsOf 64 = 1 := by kernel_rfl

theorem table {W : World} (h : laidMetH Tryd.prog [("internal/strconv.uint64pow10", Rows.laid_internal_strconv_uint64pow10)] W) : TabW W :=
  Lib.tabIs_of_head (rest := []) gTab gTabType Tryd.underlying83 Tryd.underlying64 cellsU64 cellsTab h

theorem table_of {W : World} {l : List (String × DataW Unit)} (h : laidMetH Tryd.prog l W) (hl : l.filter (fun x => x.1 == "internal/strconv.uint64pow10") = [("internal/strconv.uint64pow10", Rows.laid_internal_strconv_uint64pow10)]) : TabW W :=
  table (hl ▸ h.filter (fun x => x.1 == "internal/strconv.uint64pow10"))

def cellsOfLaid : DataW Unit → Array Value
  | .agg l => (l.map fun | .lit (.int k z) => Value.int k z | _ => .bool false).toArray
  | _ => #[]

def lay1 (d : DataW Unit) : Obj → Obj
  | .cells _ t frozen => .cells (cellsOfLaid d) t frozen
  | o => o

/-- A WORLD FOR THE WITNESS: the settled one, the tables holding what their initialisers lay. -/
noncomputable def laidWorld (os : Os) : World :=
  { World.holding Tryd.prog os ⟨#[], #[], []⟩ with heap := (((World.holding Tryd.prog os ⟨#[], #[], []⟩).heap.modify 2 (lay1 Rows.laid_internal_strconv_uint64pow10)).modify 3 (lay1 Rows.laid_math_bits_deBruijn32tab)).modify 4 (lay1 Rows.laid_math_bits_deBruijn64tab) }
end Go.Proofs.YtnjjkehoabghhaaDoor
