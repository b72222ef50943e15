import Derived.Test.YtaidalilfmjfgaaGreatBy
namespace Go.Proofs.YtaidalilfmjfgaaGreat
open Go.Proofs.Tryz
open Go.RowKit
set_option linter.unusedVariables false
set_option linter.unusedSimpArgs false
set_option maxRecDepth 20000
def Jp (n:Int):Bool:=decide (0≤n) && decide (n≤10006)
theorem EZ (n:Int):Con prog 106 [.one (.int n)] [.one (.bool (Jp n))]:=by
 have hw:=BR n 0 10006
 rw [← Jp] at hw
 refine Af func106 rfl rfl (by simp [ntmps106]) ?_
 refine byP (fc ntmps106 results106) ?_
 refine Kc hw ?_
 exact rG (fc ntmps106 results106) tI
theorem aBh {n:Int} (h:Jp n=true):0≤n∧n≤10006:=by simpa [Jp] using h
end Go.Proofs.YtaidalilfmjfgaaGreat
