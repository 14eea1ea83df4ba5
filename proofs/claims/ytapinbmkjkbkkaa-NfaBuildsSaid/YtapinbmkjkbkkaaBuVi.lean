import Derived.Test.YtapinbmkjkbkkaaProg
import Derived.Below
import Derived.Deep.Draws
import Derived.Deep.AppendLies
import Derived.Maps.AppendAt
import Derived.OwnWalk
import Derived.Laws.BytesArg
import Derived.Laws.MakeOwn
import Derived.Laws.OwnMore
import Derived.Deep.OwnRows
import Derived.Tactics
import Derived.Lib.ConvBytes
import Derived.Laws.Slices
import Derived.WalkKit
import Derived.KernelRfl
import Derived.RowKit3
import Derived.Deep.LoopGhost
import Derived.Deep.QuietTactic
import Derived.BigQuiet
import Derived.WideLaws
import Derived.Deep.DeepCutAuto
import Derived.Deep.CutBlock
import Derived.Deep.RegionHeld3
import Derived.Laws.Rows
import Derived.Lib.AppendStr
import Derived.ArgAppend
import Derived.Laws.IdiomCopy
import Derived.OrdersHeld
import Derived.Laws.BitsLemmas
import Derived.RowKit
import Derived.Test.YtapinbmkjkbkkaaBuWWords
import Derived.Test.YtapinbmkjkbkkaaBuWLast
import Derived.Test.YtapinbmkjkbkkaaBuWTab
import Derived.Test.YtapinbmkjkbkkaaBuWApart
import Derived.Test.YtapinbmkjkbkkaaBuWFoot
import Derived.Test.YtapinbmkjkbkkaaBuWKept
import Derived.Test.YtapinbmkjkbkkaaBuWShare
import Derived.Test.YtapinbmkjkbkkaaBuWN
import Derived.Test.YtapinbmkjkbkkaaBuWEqStruct
import Derived.Test.YtapinbmkjkbkkaaBuWRepsOne
import Derived.Test.YtapinbmkjkbkkaaBuWGuard
import Derived.Test.YtapinbmkjkbkkaaBuWNEv
import Derived.Test.YtapinbmkjkbkkaaBuWMore
namespace Go.Proofs.Ytapinbmkjkbkkaa.Lb
open Go.RowKit Go.Proofs.aC.bE Go.Proofs.aC.bV Go.Proofs.aC.bY
attribute [local go_sem] kY kZ nO nP kC kD lC lD
set_option linter.unusedVariables false
set_option linter.unusedSimpArgs false
def errW:Option Int→Value
  |none=>.nilIface
  |some c=>.iface 0 (.int .i64 c)
theorem aX:errW none = .nilIface:=rfl
theorem aY (c:Int):errW (some c) = .iface 0 (.int .i64 c):=rfl
theorem info3:(Try.prog.info? 3).map (fun i=>(i.zero,i.size,i.bytes))=some (some (.int .i64 0),1,8):=by kernel_rfl
theorem X_:(Try.prog.info? 4).map (fun i=>(i.zero,i.size,i.bytes))=some (some (.bool false),1,1):=by kernel_rfl
theorem info5:(Try.prog.info? 5).map (fun i=>(i.zero,i.size,i.bytes))=some (some (.int .u8 0),1,1):=by kernel_rfl
theorem info78:(Try.prog.info? 78).map (fun i=>(i.zero,i.size,i.bytes))=some (some (.agg #[(.int .i64 0),(.int .i64 0),(.int .i64 0)]),3,24):=by kernel_rfl
theorem info115:(Try.prog.info? 115).map (fun i=>(i.zero,i.size,i.bytes))=some (some (.int .u64 0),1,8):=by kernel_rfl
structure gB where
  f0:Int
  f1:ByteArray
  f2:(List gB)
def z25:gB:=⟨(0:Int),(⟨#[]⟩:ByteArray),([]:List gB)⟩
def F25 (d:Kd gB):Kd gB:=Kd.iso (Kd.pair (Kd.int .i64) (Kd.pair Kd.string (Kd.slice 25 d))) (fun x:gB=>(x.f0,x.f1,x.f2))
theorem mono25:Kd.GI F25:=Kd.mono_iso _ (Kd.TR (Kd.QO _) (Kd.TR (Kd.QO _) (Kd.mono_slice 25 Kd.mono_id)))
theorem sub25:Kd.Sub F25 [25]:=Kd.sub_iso _ (Kd.sub_pair (Kd.sub_const _ (by decide)) (Kd.sub_pair (Kd.sub_const _ (by decide)) (Kd.sub_slice 25 (by decide) Kd.sub_id)))
theorem sz25 : ∀ n,(Kd.upto F25 3 [25] n).sz=3:=Kd.upto_sz (fun _=>rfl)
def k25:Kd gB:=Kd.fix F25 3 [25] sz25 (Kd.upto_E sub25)
theorem k25_open {w:World} {x:gB} {cs:List Value} (h:k25.K w x cs) : ∃ A2 c2,cs=[.int .i64 x.f0,.string x.f1,.slice A2 x.f2.length c2]∧x.f2.length≤c2∧k25.C w A2 x.f2.length x.f2:=by
  obtain ⟨n,h⟩:=h;cases n with
  |zero=>exact h.elim
  |succ n =>
    obtain ⟨_,_,rfl,rfl,⟨_,_,rfl,rfl,⟨A2,c2,rfl,l2,g2⟩⟩⟩:=h;exact ⟨A2,c2,rfl,l2,Kd.fix_C g2⟩
theorem JA (w:World) (x:gB) {A2:Option Addr} {c2:Nat} (l2:x.f2.length≤c2) (g2:k25.C w A2 x.f2.length x.f2):k25.K w x [.int .i64 x.f0,.string x.f1,.slice A2 x.f2.length c2]:=by
  obtain ⟨n2,q2⟩:=Kd.fix_C_back mono25 g2;have r2:=Kd.upto_C_le mono25 sz25 (show n2≤n2 by omega) q2;exact ⟨n2+1,⟨[.int .i64 x.f0],[.string x.f1,.slice A2 x.f2.length c2],rfl,rfl,⟨[.string x.f1],[.slice A2 x.f2.length c2],rfl,rfl,⟨A2,c2,rfl,l2,r2⟩⟩⟩⟩
def bL (xs:List gB) (i:Int):gB:=xs.getD i.toNat z25
theorem mE {w:World} {A:Option Addr} {n:Nat} {xs:List gB} (h:Kd.C k25 w A n xs) (i:Int) (h0:0≤i) (h1:i<n) : ∃ ad A2 c2,A=some ad∧w.cell? (ad.add (i.toNat * 3))=some (.int .i64 (bL xs i).f0)∧w.cell? ⟨(ad.add (i.toNat * 3)).block,(ad.add (i.toNat * 3)).off+1,none⟩=some (.string (bL xs i).f1)∧w.cell? ⟨(ad.add (i.toNat * 3)).block,(ad.add (i.toNat * 3)).off+2,none⟩=some (.slice A2 (bL xs i).f2.length c2)∧(bL xs i).f2.length≤c2∧k25.C w A2 (bL xs i).f2.length (bL xs i).f2:=by
  obtain ⟨ad,c,e,_,hK,hc0⟩:=Kd.C_get h z25 i h0 h1;have hc : ∀ j u,c[j]?=some u→w.cell? (ad.add (i.toNat * 3+j))=some u:=hc0;obtain ⟨A2,c2,rfl,l2,g2⟩:=k25_open hK;exact ⟨ad,A2,c2,e,hc 0 _ rfl,by rw [←AJ _ _ 1 (by omega)];exact hc 1 _ rfl,by rw [←AJ _ _ 2 (by omega)];exact hc 2 _ rfl,l2,g2⟩
structure gV where
  f0:Int
  f1:Int
  f2:Int
def z78:gV:=⟨(0:Int),(0:Int),(0:Int)⟩
def xP:Kd gV:=Kd.iso (Kd.pair (Kd.int .i64) (Kd.pair (Kd.int .i64) (Kd.int .i64))) (fun x:gV=>(x.f0,x.f1,x.f2))
theorem aAR:Kd.Heap xP:=Kd.heap_iso _ (Kd.TS (Kd.QP .i64) (Kd.TS (Kd.QP .i64) (Kd.QP .i64)))
theorem k78_open {w:World} {x:gV} {cs:List Value} (h:xP.K w x cs):cs=[.int .i64 x.f0,.int .i64 x.f1,.int .i64 x.f2]:=by
  obtain ⟨_,_,rfl,rfl,⟨_,_,rfl,rfl,rfl⟩⟩:=h;exact rfl
theorem k78_mkM (w:World) (base:Nat) (ok:Nat→Prop) (x:gV)  : xP.M w base ok x [.int .i64 x.f0,.int .i64 x.f1,.int .i64 x.f2]:=⟨[.int .i64 x.f0],[.int .i64 x.f1,.int .i64 x.f2],rfl,rfl,⟨[.int .i64 x.f1],[.int .i64 x.f2],rfl,rfl,rfl⟩⟩
def aG (xs:List gV) (i:Int):gV:=xs.getD i.toNat z78
theorem kQ {w:World} {A:Option Addr} {n:Nat} {xs:List gV} (h:Kd.C xP w A n xs) (i:Int) (h0:0≤i) (h1:i<n) : ∃ ad ,A=some ad∧w.cell? (ad.add (i.toNat * 3))=some (.int .i64 (aG xs i).f0)∧w.cell? ⟨(ad.add (i.toNat * 3)).block,(ad.add (i.toNat * 3)).off+1,none⟩=some (.int .i64 (aG xs i).f1)∧w.cell? ⟨(ad.add (i.toNat * 3)).block,(ad.add (i.toNat * 3)).off+2,none⟩=some (.int .i64 (aG xs i).f2):=by
  obtain ⟨ad,c,e,_,hK,hc0⟩:=Kd.C_get h z78 i h0 h1;have hc : ∀ j u,c[j]?=some u→w.cell? (ad.add (i.toNat * 3+j))=some u:=hc0;obtain rfl:=k78_open hK;exact ⟨ad,e,hc 0 _ rfl,by rw [←AJ _ _ 1 (by omega)];exact hc 1 _ rfl,by rw [←AJ _ _ 2 (by omega)];exact hc 2 _ rfl⟩
end Go.Proofs.Ytapinbmkjkbkkaa.Lb
/- Short words for steps that a printed walk repeats. -/
namespace Go.Proofs.Ytapinbmkjkbkkaa.Lb
open Go.RowKit Go.Proofs.aC.bE Go.Proofs.aC.bV Go.Proofs.aC.bY
theorem iZ {A B:Prop} (h:A) (f:A→B:=by intro h_;(with_reducible repeat (first|apply Kd.nY|apply Kd.YG|apply Kd.U6));exact h_):B:=f h
theorem viV {A B:Prop} (h:A) (f:A→B:=by intro h_;(with_reducible repeat (first|apply Kd.V_alloc|apply Kd.V_drewN|apply Kd.V_drew));exact h_):B:=f h
theorem viS {A B:Prop} (h:A) (f:A→B:=by intro h_;(with_reducible repeat (first|apply Kd.S_alloc|apply Kd.S_drewN|apply Kd.S_drew));exact h_):B:=f h
theorem xD {A B:Prop} (h:A) (f:A→B:=by intro h_;(with_reducible repeat (first|apply Kd.N_alloc|apply Kd.N_drewN|apply Kd.OB));exact h_):B:=f h
theorem dV {A B:Prop} (h:A) (f:A→B:=by intro h_;(with_reducible repeat (first|refine nI ?_ _|refine mK ?_|refine bH ?_ _));exact h_):B:=f h
theorem gQ {p:Prop} [Decidable p] (h:decide p=true:=by first|(with_reducible assumption)|assumption):p:=of_decide_eq_true h
theorem bb {w0 w w1:World} {g:Nat} {o:Obj} (h:aA (w0.heap[g]?=some o)) (hb:Below w.heap.size w w1) (f:w0.heap[g]?=some o→w.heap[g]?=some o:=by intro h_;(with_reducible repeat (first|refine nI ?_ _|refine mK ?_|refine bH ?_ _));exact h_):aA (w1.heap[g]?=some o):=⟨bK (f h.out) hb⟩
theorem bw {w W:World} {g:Nat} (hg:g=W.heap.size) (h:Below w.heap.size w W):aA (w.heap.size≤g):=⟨by rw [hg];exact dO h⟩
theorem bl {w0 W:World} {g g':Nat} {o:Obj} (hg:g'=W.heap.size) (h:aA (w0.heap[g]?=some o)) (f:w0.heap[g]?=some o→W.heap[g]?=some o:=by intro h_;(with_reducible repeat (first|refine nI ?_ _|refine mK ?_|refine bH ?_ _));exact h_):aA (g≠g'):=⟨by rw [hg];exact Nat.ne_of_lt (gL (f h.out))⟩
theorem bg {w0 W:World} {g g':Nat} {o:Obj} (hg:g'=W.heap.size) (h:aA (w0.heap[g]?=some o)) (f:w0.heap[g]?=some o→W.heap[g]?=some o:=by intro h_;(with_reducible repeat (first|refine nI ?_ _|refine mK ?_|refine bH ?_ _));exact h_):aA (g'≠g):=⟨by rw [hg];exact Nat.ne_of_gt (gL (f h.out))⟩
section
variable {w : World} {g : Nat} {t : TypeId} {a b c d e : Value} {l : List Value}
theorem bc0 (h:aA (w.heap[g]?=some (.cells (List.toArray (a :: l)) t (0,0)))):w.cell? ⟨g,0,none⟩=some a:=(aD h.out 0).trans rfl
theorem bc1 (h:aA (w.heap[g]?=some (.cells (List.toArray (a :: b :: l)) t (0,0)))):w.cell? ⟨g,1,none⟩=some b:=(aD h.out 1).trans rfl
theorem bc2 (h:aA (w.heap[g]?=some (.cells (List.toArray (a :: b :: c :: l)) t (0,0)))):w.cell? ⟨g,2,none⟩=some c:=(aD h.out 2).trans rfl
theorem bc3 (h:aA (w.heap[g]?=some (.cells (List.toArray (a :: b :: c :: d :: l)) t (0,0)))):w.cell? ⟨g,3,none⟩=some d:=(aD h.out 3).trans rfl
theorem oP (h:aA (w.heap[g]?=some (.cells (List.toArray (a :: b :: c :: d :: e :: l)) t (0,0)))):w.cell? ⟨g,4,none⟩=some e:=(aD h.out 4).trans rfl
theorem bz {cs:Array Value} (h:aA (w.heap[g]?=some (.cells cs t (0,0)))) (i:Nat):w.frozen? ⟨g,i,none⟩=false:=bF h.out i
end
theorem bA {p:Prop} (h:p):aA p:=⟨h⟩
theorem bs {α:Type} {K:Kd α} {w0 w w1:World} {A:Option Addr} {n:Nat} {l:List α} (h:aA (Kd.C K w0 A n l)) (hb:aA (Below w0.heap.size w0 w)) (f:Kd.C K w A n l→Kd.C K w1 A n l:=by intro h_;(repeat (first|exact h_|(with_reducible refine Kd.jQ ?_ _)|(with_reducible refine Kd.jR ?_ _)|(with_reducible refine Kd.lI ?_)))):Kd.C K w1 A n l:=f (Kd.dJ h.out hb.out)
theorem be {P:Prop} (h:P:=by first|rfl|(simp;done)|(simp [*];done)):P:=h
theorem bm {P:Prop} (h:P:=by (try simp only [List.map_toArray,List.map_cons,List.map_nil]);first|done|rfl|(simp only [List.length_drop,List.length_take];rfl)):P:=h
theorem bd {w w':World} (h:jN w w':=by repeat (first|exact jN.refl _|apply jN.step)):jN w w':=h
end Go.Proofs.Ytapinbmkjkbkkaa.Lb
