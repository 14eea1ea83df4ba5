import Derived.Test.YtapinbmkjkbkkaaBuVi
import Derived.Test.YtapinbmkjkbkkaaBuLbx6
import Derived.Test.YtapinbmkjkbkkaaBuLbx7
namespace Go.Proofs.Ytapinbmkjkbkkaa.Lb
open Go.RowKit Go.Proofs.aC.bE Go.Proofs.aC.bV Go.Proofs.aC.bY
attribute [local go_sem] kY kZ nO nP kC kD lC lD
set_option linter.unusedVariables false
set_option linter.unusedSimpArgs false
private theorem cZ {P:Prop} (h:P:=by repeat (first|(with_reducible first|exact HB.out|apply aN|apply bB|apply bX|refine eB ?_ GE233.out)|exact HB.out)):P:=h
mutual
def eP.l0:Nat→List Int→List Int→Int→Int→Int→Int→Int→List (gV)→Option (Int)
  |0,_,_,_,_,_,_,_,_=>none
  |k+1,x1,x2,x8,FP,AA,FQ,FR,FT=>if x8<(x1.length:Int) then (if 0≤x8 then ((cB.f FP AA FQ FR FT (rd x1 x8)).bind fun t236=>(if t236=true then (eP.l0 k x1 x2 (wrap64 (x8+1)) FP AA FQ FR FT) else (some 101))) else (none)) else (eP.l1 k x2 0 FP AA FQ FR FT)
def eP.l1:Nat→List Int→Int→Int→Int→Int→Int→List (gV)→Option (Int)
  |0,_,_,_,_,_,_,_=>none
  |k+1,x2,x9,FP,AA,FQ,FR,FT=>if x9<(x2.length:Int) then (if 0≤x9 then (if (rd x2 x9)<0 then (some 102) else (if (rd x2 x9) ≥ AA then (some 102) else (eP.l1 k x2 (wrap64 (x9+1)) FP AA FQ FR FT))) else (none)) else (some 0)
end
def eP.f (k:Nat) (aM:Int) (aJ:Int) (aV:Int) (aW:Int) (aI:List (gV)) (l1:List Int) (l2:List Int):Option (Int):=(aQ.f k aM aJ aV aW aI).bind fun t234=>(if t234=0 then (eP.l0 k l1 l2 0 aM aJ aV aW aI) else (some t234))
def eP.T12:Bool × List (List Nat × List Nat):=(true,[([],[]),([],[]),([0,1],[0,1]),([2],[2]),([3],[3]),([4],[4]),([5],[5]),([5],[5]),([6,7,5],[5,6,7]),([8,5],[5,8]),([5],[5]),([10,5],[5,10]),([9,11,5],[5,9,11]),([5,12],[5,12])])
def eP.B12:List Nat:=[0,0,3,7,15,31,63,63,255,511,63,1087,4095,8191]
end Go.Proofs.Ytapinbmkjkbkkaa.Lb
