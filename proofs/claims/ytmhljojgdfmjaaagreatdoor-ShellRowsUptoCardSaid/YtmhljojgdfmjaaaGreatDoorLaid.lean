/- What the rows' list of variables gives: over the three rows of the seat. -/
import Derived.Test.YtmhljojgdfmjaaaGreatDoorCards
import Derived.Test.YtmhljojgdfmjaaaGreatDoorTie
import Derived.WalkKit
import Derived.ProofKit
import Derived.OpenShut
import Derived.Deep.DeepHandedRow
import Derived.Deep.DeepWitnessRowRef
import Derived.Lay
import Derived.Lib.LaidTab
import Derived.Stop.LaidErr
import Derived.Test.YtmhljojgdfmjaaaGreatDoorMem
namespace Go.Proofs.YtmhljojgdfmjaaaGreatDoor
open Go.ChangeShapes Go.WideShapes Go.ChangeAt Go.RowKit Go.E Go.Sh
set_option maxRecDepth 100000
theorem own0 : ownKnob Tryz.prog.godebug = none := by kernel_rfl
abbrev laidL : List (String × DataW Unit) := Rows.shellRowsUptoRow.laid
theorem g7 : Tryz.prog.globalNamed "math/bits.deBruijn64tab" = some 7 := by kernel_rfl
theorem gT1 : (Tryz.prog.globals[1]?).map (·.type) = some 140 := by kernel_rfl
theorem gT2 : (Tryz.prog.globals[2]?).map (·.type) = some 78 := by kernel_rfl
theorem gT3 : (Tryz.prog.globals[3]?).map (·.type) = some 78 := by kernel_rfl
theorem star0 : "*" ++ "errors.errorString" = "*errors.errorString" := by decide
theorem rowErr (u : TypeId) (h : Tryz.prog.typeName? 3 u = some "*errors.errorString") : u = 155 :=
  typeName_ptr_named (nm := "errors.errorString") (by rw [star0]; kernel_rfl) (by kernel_rfl) (by decide) u (by rw [star0]; exact h)
theorem glob_of {W : World} (hL : laidMetH Tryz.prog laidL W) (hsh : W.ShapedOpen Tryz.prog) : Glob W := by
  have hl : laidMet Tryz.prog laidL W := by rw [← MakeChecks.laidMetH_plain _ _ _ (by kernel_rfl)]; exact hL
  have h3 : laidMet Tryz.prog (("internal/strconv.uint64pow10", Lib.tabData .u64 Lib.pow10Tab) :: _) W := hl.tail.tail
  have h5 := h3.tail.tail
  have h6 := h5.tail
  refine ⟨?_, Go.Proofs.cell_of_shapedOpen_int (zero := #[.int .i64 0]) (t := 3) hsh (of_decide_eq_true (by kernel_rfl)) (by kernel_rfl) rfl (by kernel_rfl) (by kernel_rfl) Tryz.underlying3, ?_, ?_, ?_⟩
  · obtain ⟨ps, ⟨g, t, cs, fu, p, q, hg, _, hv, _⟩, _⟩ := hl.tail
    obtain rfl := Option.some.inj (g7.symm.trans hg)
    rcases Nat.lt_or_ge 7 W.heap.size with h | h
    · omega
    · simp [World.var?, g7, Array.getElem?_eq_none h] at hv
  · exact Lib.tabIs_of_head g1 gT1 Tryz.underlying140 Tryz.underlying107 (by kernel_rfl) (by kernel_rfl) h3
  · obtain ⟨a, s, h, _⟩ := laid_sentinel h6 g2 gT2 Tryz.underlying78 rowErr Tryz.underlying155 Tryz.underlying157 rfl rfl Tryz.underlying9 (by kernel_rfl) (by kernel_rfl)
    exact ⟨_, _, h⟩
  · obtain ⟨a, s, h, _⟩ := laid_sentinel h5 g3 gT3 Tryz.underlying78 rowErr Tryz.underlying155 Tryz.underlying157 rfl rfl Tryz.underlying9 (by kernel_rfl) (by kernel_rfl)
    exact ⟨_, _, h⟩
/-- a world for the witnesses -/
noncomputable def laidWorld (os : Os) : World := World.laidAll Tryz.prog os laidL
theorem laid_met (os : Os) (args : Array Value) : laidMet Tryz.prog laidL ((laidWorld os).forCall (fun _ _ => 0) ⟨#[], args, []⟩).memory := laidMet_laidAll args (by kernel_rfl) (by kernel_rfl)
/-- nothing old has turned: as the rows say it -/
theorem Fr.keeps {w w' : World} (h : Fr [] w w') : Go.RowKit.Below w.heap.size w w' := h.below
end Go.Proofs.YtmhljojgdfmjaaaGreatDoor
