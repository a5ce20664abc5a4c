/- What a row's list of variables gives: that the tables hold what the contracts ask. -/
import Derived.Test.YtebcepbamlokcaaDoorGLaid
import Derived.Test.YtebcepbamlokcaaDoorRows
import Derived.Stop.LaidErr
namespace Go.Proofs.YtebcepbamlokcaaDoor.Q
open Go.RowKit

theorem gPow : Tryd.prog.globalNamed "internal/strconv.uint64pow10" = some 4 := by kernel_rfl
theorem gPowType : (Tryd.prog.globals[4]?).map (·.type) = some 166 := by kernel_rfl
theorem cellsU64 : Tryd.prog.cellsOf 135 = 1 := by kernel_rfl
theorem cellsPow : Tryd.prog.cellsOf 166 = 20 := by kernel_rfl

theorem laid_FnDecText {W : World} (h : laidMetH Tryd.prog Rows.fnDecTextRow.laid W) (hs : W.ShapedOpen Tryd.prog) : LaidG 9 W := by
  have h' : laidMet Tryd.prog Rows.fnDecTextRow.laid W := h
  exact LaidG.of_at ⟨hs, fun _ => Lib.tabIs_of_head gPow gPowType Tryd.underlying166 Tryd.underlying135 cellsU64 cellsPow h'.tail.tail⟩

end Go.Proofs.YtebcepbamlokcaaDoor.Q
