/- This claim's own texts, joined, with only what the claim uses: DeepR. -/
import Derived.Test.YtgaoapnaplgaiaaGreatDoorZs44
import Derived.Test.YtgaoapnaplgaiaaGreatDoorZs24
import Derived.Test.YtgaoapnaplgaiaaGreatDoorZs30
import Derived.Deep.CutRange
import Derived.Laws.Concat
import Derived.Test.YtgaoapnaplgaiaaGreatDoorTie
import Derived.ProofKit
import Derived.Carry
import Derived.HandedShaped
import Derived.Lay
import Derived.Lib.LaidTab
import Derived.Stop.LaidErr
import Derived.ChangeMaps5
namespace Go.Proofs.YtgaoapnaplgaiaaGreatDoor.Sc
open Go.ChangeShapes Go.WideShapes Go.ChangeAt Go.RowKit Go.ChangeMaps Tk
set_option maxRecDepth 100000
theorem own:ownKnob Tryz.prog.godebug=none:=by kernel_rfl
theorem heap_of_tab {W:World} {name:String} {g:Nat} {zs:List Int} (hg:Tryz.prog.globalNamed name=some g) (h:Lib.TabIs Tryz.prog W name .i64 zs):∃t fr,W.heap[g]?=some (.cells (zs.map (Value.int .i64)).toArray t fr):=by
 unfold Lib.TabIs World.var? at h
 rw [hg,Option.bind_some] at h
 split at h
 ·rename_i c t fr hh
  cases h
  exact ⟨t,fr,hh⟩
 ·cases h
abbrev tabs6 : List (String × DataW Unit) := [("math/bits.deBruijn32tab", Rows.laid_math_bits_deBruijn32tab), ("math/bits.deBruijn64tab", Rows.laid_math_bits_deBruijn64tab), ("internal/strconv.uint64pow10", Rows.laid_internal_strconv_uint64pow10), ("gimbal/token.words", Rows.laid_gimbal_token_words), ("gimbal/syntax.ranks", Rows.laid_gimbal_syntax_ranks), ("gimbal/syntax.binary", Rows.laid_gimbal_syntax_binary)]
theorem env_of {W:World} (hL:laidMet Tryz.prog tabs6 W) (hsh:W.ShapedOpen Tryz.prog):Env W:=by
 have h3:=hL.tail.tail.tail
 have h4:=h3.tail
 have h5:=h4.tail
 refine ⟨hasTab h3,⟨?_,?_⟩,Go.Proofs.cell_of_shapedOpen_int (P:=Tryz.prog) (g:=2) (zero:=#[.int .i64 0]) (t:=3) hsh (of_decide_eq_true (by kernel_rfl)) (by kernel_rfl) rfl (by kernel_rfl) (by kernel_rfl) Tryz.underlying3⟩
 ·exact heap_of_tab (by kernel_rfl) (Lib.tabIs_of_head (n:=23) (zs:=binT) (t:=132) (e:=3) (g:=0) (by kernel_rfl) (by kernel_rfl) Tryz.underlying132 Tryz.underlying3 (by kernel_rfl) (by kernel_rfl) h5)
 ·exact heap_of_tab (by kernel_rfl) (Lib.tabIs_of_head (n:=23) (zs:=rnkT) (t:=132) (e:=3) (g:=1) (by kernel_rfl) (by kernel_rfl) Tryz.underlying132 Tryz.underlying3 (by kernel_rfl) (by kernel_rfl) h4)
end Go.Proofs.YtgaoapnaplgaiaaGreatDoor.Sc
namespace Go.Proofs.YtgaoapnaplgaiaaGreatDoor
end Go.Proofs.YtgaoapnaplgaiaaGreatDoor
