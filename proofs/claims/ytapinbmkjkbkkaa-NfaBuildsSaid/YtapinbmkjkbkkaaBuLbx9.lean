import Derived.Test.YtapinbmkjkbkkaaBuVi
import Derived.Test.YtapinbmkjkbkkaaBuLbx5
import Derived.Test.YtapinbmkjkbkkaaBuLbx6
import Derived.Test.YtapinbmkjkbkkaaBuLbx8
namespace Go.Proofs.Ytapinbmkjkbkkaa.Lb
open Go.RowKit Go.Proofs.aC.bE Go.Proofs.aC.bV Go.Proofs.aC.bY
attribute [local go_sem] kY kZ nO nP kC kD lC lD
set_option linter.unusedVariables false
set_option linter.unusedSimpArgs false
private theorem cZ {P:Prop} (h:P:=by repeat (first|(with_reducible first|exact HB.out|apply aN|apply bB|apply bX|refine eB ?_ GE239.out)|exact HB.out)):P:=h
def iG.l0:Nat→List Int→List Bool→Int→Int→Int→Int→Int→List (gV)→Option (Bool × Int)
  |0,_,_,_,_,_,_,_,_=>none
  |k+1,x1,x7,x8,x240000,x240001,x240002,FU,x240004=>if x8<(x1.length:Int) then (if 0≤x8 then ((bG.f k x240000 x240001 x240002 FU x240004 (rd x1 x8) x7).bind fun t248=>(iG.l0 k x1 t248 (wrap64 (x8+1)) x240000 x240001 x240002 FU x240004)) else (none)) else (if 0≤FU then (if FU<(x7.length:Int) then (some (fF false x7 FU,0)) else (none)) else (none))
def iG.f (k:Nat) (aM:Int) (aJ:Int) (aV:Int) (aW:Int) (aI:List (gV)) (l1:List Int):Option (Bool × Int):=(eP.f k aM aJ aV aW aI ([]:List Int) l1).bind fun t240=>(if t240=0 then ((bI.f k aM aJ aV aW aI (([aV]:List Int))).bind fun t244=>(iG.l0 k l1 t244 0 aM aJ aV aW aI)) else (some (false,t240)))
def iG.T8:Bool × List (List Nat × List Nat):=(true,[([],[]),([],[]),([],[]),([1,2],[1,2]),([3],[3]),([],[]),([0,4,5],[0,4,5]),([6,6,0,1,2,3,4,5,6],[5,6])])
def iG.B8:List Nat:=[0,0,0,6,14,0,63,127]
end Go.Proofs.Ytapinbmkjkbkkaa.Lb
