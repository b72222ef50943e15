import Derived.Test.YtaidalilfmjfgaaGreatTyC
import Derived.Test.YtaidalilfmjfgaaGreatBy
namespace Go.Proofs.YtaidalilfmjfgaaGreat
open Go.RowKit
set_option linter.unusedVariables false
set_option linter.unusedSimpArgs false
set_option maxRecDepth 20000
def numB (n:Int):Bool:=decide (0≤n) && decide (n≤10006)
theorem con_isNumber (n:Int):Con Tryz.prog 106 [.one (.int n)] [.one (.bool (numB n))]:=by
 have hw:=con_within n 0 10006
 rw [← numB] at hw
 refine con_run Tryz.func106 rfl rfl (by simp [Tryz.ntmps106]) ?_
 refine byP (fc Tryz.ntmps106 Tryz.results106) ?_
 refine sw_call (hw) rfl (aAs_ok ?_) ?_ (sw_run 200 _ _ _ ?_)
 ·exact byQ True.intro
 ·simp only [okR]
 exact byP (fc Tryz.ntmps106 Tryz.results106) True.intro
theorem numB_t {n:Int} (h:numB n=true):0≤n∧n≤10006:=by simpa [numB] using h
end Go.Proofs.YtaidalilfmjfgaaGreat
