/- Part of the proof;words that it uses. -/
import Derived.Test.YtecpanfndodjgaaGreatDoorPNestedx0
namespace Go.Proofs.YtecpanfndodjgaaGreatDoor.PNested
open Go.RowKit Go.Proofs.YtecpanfndodjgaaGreatDoorW.PrintWords Go.Proofs.YtecpanfndodjgaaGreatDoorW.PrintLast Go.Proofs.YtecpanfndodjgaaGreatDoorW.PrintMore
attribute [local go_sem] jJ jL
set_option linter.unusedVariables false
set_option linter.unusedSimpArgs false
theorem BC (d:Nat) (w:World) (x0 y0:Int) (x1 y1:Int) (x2 y2:Int) (x3 y3:Int) (x4 y4:Int) (x5 y5:Int) (x6 y6:Int) :
    (Op.equalIn (d + 2) 30 (.agg #[.int .i64 x0,.int .i64 x1,.int .i64 x2,.int .i64 x3,.int .i64 x4,.int .i64 x5,.int .i64 x6]) (.agg #[.int .i64 y0,.int .i64 y1,.int .i64 y2,.int .i64 y3,.int .i64 y4,.int .i64 y5,.int .i64 y6])).run Tryz.prog w = .ok (x0 == y0 && (x1 == y1 && (x2 == y2 && (x3 == y3 && (x4 == y4 && (x5 == y5 && (x6 == y6))))))) w:=by
  refine Dq Tryz.underlying30 (by kernel_rfl) ?_
  refine qx (by rfl) (by go_simp;rfl) (by go_simp;rfl) (by go_simp) ?_
  refine qx (by rfl) (by go_simp;rfl) (by go_simp;rfl) (by go_simp) ?_
  refine qx (by rfl) (by go_simp;rfl) (by go_simp;rfl) (by go_simp) ?_
  refine qx (by rfl) (by go_simp;rfl) (by go_simp;rfl) (by go_simp) ?_
  refine qx (by rfl) (by go_simp;rfl) (by go_simp;rfl) (by go_simp) ?_
  refine qx (by rfl) (by go_simp;rfl) (by go_simp;rfl) (by go_simp) ?_
  exact DX (by rfl) (by go_simp;rfl) (by go_simp;rfl) (by go_simp)
end Go.Proofs.YtecpanfndodjgaaGreatDoor.PNested
