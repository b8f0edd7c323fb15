/- Texts laid one behind the other: FrameF. No condition beyond theirs. -/
import Derived.Test.YthkgjohhbdipcaaDoorK9
import Derived.Test.YthkgjohhbdipcaaDoorK3
namespace Go.Proofs.YthkgjohhbdipcaaDoor
open Go.ChangeShapes Go.WideShapes Go.ChangeAt Go.RowKit

theorem laidF_of {l : List (String × DataW Unit)} (hl : (l.all fun x => x.2.handleName?.isNone) = true) (h1 : ("internal/strconv.uint64pow10", Rows.laid_internal_strconv_uint64pow10) ∈ l)
    (h2 : ("strconv.ErrRange", Rows.laid_strconv_ErrRange) ∈ l) (h3 : ("strconv.ErrSyntax", Rows.laid_strconv_ErrSyntax) ∈ l) (h4 : ("strings.asciiSpace", Rows.laid_strings_asciiSpace) ∈ l)
    {W : World} (hL : laidMetH Tryd.prog l W) (hsh : W.ShapedOpen Tryd.prog) : LaidF W := by
  refine ⟨laid_of hl h1 h2 h3 hL hsh, ?_⟩
  rw [MakeChecks.laidMetH_plain _ _ _ hl] at hL
  have e : (Rows.laid_strings_asciiSpace : DataW Unit) = Lib.tabData .u8 Lib.asciiSpaceTab := by kernel_rfl
  rw [e] at h4
  exact tabIs_of_reads (g := 0) (t := 109) (n := 256) (by kernel_rfl) (by kernel_rfl) Tryd.underlying109 Tryd.underlying5 (by kernel_rfl) (by kernel_rfl) (Lib.laidMet.reads hL h4)
end Go.Proofs.YthkgjohhbdipcaaDoor
