import Derived.Test.YtapinbmkjkbkkaaBuVi
import Derived.WalkLawsBesides
import Derived.Outline
import Derived.Lib.Hide
import Derived.Test.YtapinbmkjkbkkaaProg
import Derived.Maps.OwnSet
import Derived.Maps.Views
import Derived.WalkKit
import Derived.KernelRfl
import Derived.Below
import Derived.StringKeys
import Derived.RegionTactic
import Derived.ChangeAlike
import Derived.Tactics
import Derived.Tactics2
import Derived.Defers
import Derived.Recover
import Derived.Laws.Pointers
import Derived.Test.YtapinbmkjkbkkaaBuLbx2
import Derived.Test.YtapinbmkjkbkkaaBuLbx3
import Derived.Test.YtapinbmkjkbkkaaBuLbx5
import Derived.Test.YtapinbmkjkbkkaaBuLbx4
import Derived.Test.YtapinbmkjkbkkaaBuP3
import Derived.Test.YtapinbmkjkbkkaaBuLbx8
import Derived.Test.YtapinbmkjkbkkaaBuLbx9
import Derived.Test.YtapinbmkjkbkkaaBuLbx6
import Derived.Test.YtapinbmkjkbkkaaBuLbx7
namespace Go.Proofs.Ytapinbmkjkbkkaa.Mk
open Go.RowKit Go.Proofs.aC.bE Go.Proofs.aC.bV Go.Proofs.aC.bY Lb
def mkCells (st sy:Int) (v mp:Value):Array Value:=#[.int .i64 st,.int .i64 sy,.int .i64 0,.int .i64 1,v,mp]
structure pI (base M:Nat) (sy:Int) (mp:Value) (W:World) (st:Int) (l:List gV):Prop where mk ::
  out : ∃ v,W.heap[M]?=some (.cells (mkCells st sy v mp) 71 (0,0))∧xP.R 78 W base (fun _=>True) v l
abbrev xL:Ending:=.panicked [{ v:=.iface 32 (.int .i64 3),recovered:=false }]
def vD (W W':World):Prop:=W.heap.size≤W'.heap.size∧∀ (g:Nat) (cs:Array Value) (t:TypeId) (fr:Nat × Nat),t≠71→t≠78→W.heap[g]?=some (.cells cs t fr)→W'.heap[g]?=some (.cells cs t fr)
theorem fZ {W W1 W2:World} (h:vD W W1) (k:vD W1 W2):vD W W2:=⟨Nat.le_trans h.1 k.1,fun g cs t fr h1 h2 hg=>k.2 g cs t fr h1 h2 (h.2 g cs t fr h1 h2 hg)⟩
theorem yV {W W1:World} (h:Below W.heap.size W W1):vD W W1:=⟨h.size,fun g _ _ _ _ _ hg=>(h.block g (gL hg)).trans hg⟩
theorem kV (W:World) (o:Obj):vD W (W.alloc o):=yV (aN (Below.refl _ _) o)
theorem JZ (W:World) (n:Nat):vD W (W.drewN n):=yV (bB (Below.refl _ _) n)
theorem TN {W:World} {M j:Nat} {cs:Array Value} (hB:W.heap[M]?=some (.cells cs 71 (0,0))) (u:Value):vD W (W.setCell ⟨M,j,none⟩ u):=by
  refine ⟨?_,fun g cs' t fr h1 _ hg=>?_⟩
  · exact ((Below.refl 0 W).setCell (Nat.zero_le _) u).size
  · have hne:g≠M:=by
      rintro rfl;rw [hB] at hg;injection hg with hg;injection hg with _ hg;exact h1 hg.symm
    exact (Below.heap_setCell W ⟨M,j,none⟩ u g hne).trans hg
theorem keepT_grown {W W1:World} {base:Nat} {v:Value} {l:List gV} (hR:xP.R 78 W base (fun _=>True) v l) (hg:W.grownBy W1 v.ownBlock):vD W W1:=by
  refine ⟨hg.size,fun g cs t fr _ h2 hc=>?_⟩;refine (hg.block g (gL hc) ?_).trans hc;intro e;obtain ⟨_,inner,hown,_⟩:=hR;obtain ⟨cells,hcells⟩:=vV hown g e.symm;rw [hc] at hcells;injection hcells with hcells;injection hcells with _ hcells;exact h2 hcells
section
variable {base M : Nat} {sy st : Int} {mp : Value} {l : List gV} {w0 W : World}
theorem maker_st (h:pI base M sy mp W st l) (st':Int):pI base M sy mp (W.setCell ⟨M,0,none⟩ (.int .i64 st')) st' l:=by
  obtain ⟨v,hB,hR⟩:=h;refine ⟨v,dF hB 0 _ rfl,?_⟩;exact Kd.dH (Kd.eX (Kd.dN hR hB (by decide)) (fun k hk=>hk.2) _) (fun _ _=>trivial)
theorem maker_draw (h:pI base M sy mp W st l) (n:Nat):pI base M sy mp (W.drewN n) st l:=by
  obtain ⟨v,hB,hR⟩:=h;exact ⟨v,hB,Kd.YG hR n⟩
theorem below_st (hM:base≤M) (hb:Below base w0 W) (u:Value):Below base w0 (W.setCell ⟨M,0,none⟩ u):=hb.setCell hM _
set_option maxHeartbeats 400000 in
theorem state_ok (h0:0≤st) (h1:st<4096) (hM:base≤M) (h:pI base M sy mp W st l) (hb:Below base w0 W) :
    Calls Try.prog 84 #[.pointer (some ⟨M,0,none⟩)] W fun e W'=>e = .returned (.int .i64 st)∧pI base M sy mp W' (st+1) l∧Below base w0 W'∧vD W W':=by
  have HK:=aA.mk h;obtain ⟨v,hB,hR⟩:=h;have HB:=aA.mk hb;have HS:=aA.mk hB;have hc0:W.cell? ⟨M,0,none⟩=some (.int .i64 st):=(aD hB 0).trans rfl;have hf0:=bF hB 0;clear hB hR hb;go_enter Try.func84,Try.ntmps84;go_wp2;go_ret;refine ⟨rfl,?_,?_,?_⟩
  · exact maker_st HK.out _
  · exact below_st hM HB.out _
  · exact TN HS.out _
theorem state_many (h1:4096≤st) (h:pI base M sy mp W st l) (hb:Below base w0 W) :
    Calls Try.prog 84 #[.pointer (some ⟨M,0,none⟩)] W fun e W'=>e=xL∧Below base w0 W':=by
  obtain ⟨v,hB,hR⟩:=h;have HB:=aA.mk hb;have hc0:W.cell? ⟨M,0,none⟩=some (.int .i64 st):=(aD hB 0).trans rfl;have hf0:=bF hB 0;clear hB hR hb;go_enter Try.func84,Try.ntmps84;go_wp2;exact ⟨rfl,rfl,HB.out⟩
theorem arc_many (fr s tt:Int) (h1:65536≤l.length) (h:pI base M sy mp W st l) (hb:Below base w0 W) :
    Calls Try.prog 83 #[.pointer (some ⟨M,0,none⟩),.int .i64 fr,.int .i64 s,.int .i64 tt] W fun e W'=>e=xL∧Below base w0 W':=by
  obtain ⟨v,hB,hR⟩:=h;have HB:=aA.mk hb;obtain ⟨A,c,rfl⟩:=Kd.dY hR;have hc0:W.cell? ⟨M,4,none⟩=some (.slice A l.length c):=(aD hB 4).trans rfl;have hf0:=bF hB 4;clear hB hR hb;have hd0:decide ((65536:Int)≤(l.length:Int))=true:=decide_eq_true (by omega);have hd1:decide (65536≤l.length)=true:=decide_eq_true h1;clear h1;go_enter Try.func83,Try.ntmps83;go_wp2;exact ⟨rfl,rfl,HB.out⟩
set_option maxHeartbeats 400000 in
theorem arc_ok (fr s tt:Int) (h1:l.length<65536) (hM:base≤M) (h:pI base M sy mp W st l) (hb:Below base w0 W) :
    Calls Try.prog 83 #[.pointer (some ⟨M,0,none⟩),.int .i64 fr,.int .i64 s,.int .i64 tt] W fun e W'=>e = .returned (.tuple #[])∧pI base M sy mp W' st (l ++ [⟨fr,s,tt⟩])∧Below base w0 W'∧vD W W':=by
  obtain ⟨v,hB,hR⟩:=h;have HB:=aA.mk hb;have HK:=aA.mk hB;have HR:=aA.mk hR;obtain ⟨A,c,rfl⟩:=Kd.dY hR;have hc0:W.cell? ⟨M,4,none⟩=some (.slice A l.length c):=(aD hB 4).trans rfl;have hf0:=bF hB 4;clear hB hR hb;have hd0:decide ((65536:Int)≤(l.length:Int))=false:=decide_eq_false (by omega);have hd1:decide (65536≤l.length)=false:=decide_eq_false (by omega);have H1:=aA.mk h1;clear h1;go_enter Try.func83,Try.ntmps83;go_wp2_with (at_builtin;refine Kd.wL xP (w0:=w0) base rfl (.tmp 21) (.tmp 26) 29 78 (.agg #[.int .i64 0,.int .i64 0,.int .i64 0]) 24 rfl Try.underlying29 info78 rfl (by decide) (by decide) _ l ⟨fr,s,tt⟩ [.int .i64 fr,.int .i64 s,.int .i64 tt] (fun _=>True) (fun _=>False) rfl rfl ?aP (fun _ hk=>hk.elim) ?aF ?aO ?aB ?aS ?aL ?_;(case aP=>exact k78_mkM _ _ _ _);(case aF=>exact (fun _ _=>trivial));(case aO=>exact HR.out);(case aB=>exact HB.out);(case aS=>have:=gL HK.out;omega);(case aL=>have:=H1.out;omega);intro v1 w1 o5 hb1 hg hat;obtain ⟨A1,c1,rfl⟩:=Kd.dY o5;rw [List.length_append,List.length_singleton] at o5;rw [List.length_append,List.length_singleton];have iC:=aA.mk (eZ HK.out hg (Kd.lL HR.out HK.out (by decide)));have HR1:=aA.mk o5;have HB1:=aA.mk hb1;have HKT:=aA.mk (keepT_grown HR.out hg);have hc1:w1.frozen? ⟨M,4,none⟩=false:=bF iC.out 4;have hc2:w1.cell? ⟨M,4,none⟩=some (.slice A l.length c):=(aD iC.out 4).trans rfl;clear o5 hb1 hg hat)
  go_end0
  refine ⟨rfl,⟨_,dF iC.out 4 _ rfl,?_⟩,HB1.out.setCell hM _,fZ HKT.out (TN iC.out _)⟩;exact Kd.dH (Kd.eX (Kd.dN HR1.out iC.out (by decide)) (fun k hk=>hk.2) _) (fun _ _=>trivial)
end
end Go.Proofs.Ytapinbmkjkbkkaa.Mk
namespace Go.Proofs.Ytapinbmkjkbkkaa.Mk
open Go.Maps Go.WideShapes Go.ChangeShapes Go.ChangeMaps Go.RowKit
theorem zero3 (w:World):(zeroValue 3).run Try.prog w = .ok (.int .i64 0) w:=by kernel_rfl
def nk (s:ByteArray):List UInt8:=s.data.toList
def nameAt (l:List (List UInt8)) (s:List UInt8):Int:=if s∈l then (l.idxOf s:Nat) else 0
def jU (w:World) (b:Nat) (l:List (List UInt8)):Prop :=
  ∃ D:DataW Unit,w.ownsMap Try.prog 9 (plainElem Try.prog 3) b l.length D∧IsMap D∧l.length≤4096 ∧
    ∀ s:List UInt8,has D (.string s)=decide (s∈l)∧D.atKey (.string s) (.lit (.int .i64 0)) = .lit (.int .i64 (nameAt l s))
theorem TL (w:World):jU (w.alloc (.map #[] 0)) w.heap.size [] :=
  ⟨.map [],World.ownsMap_made _ _ _ _,isMap_empty,by simp,fun s=>⟨by simp [has_eq],by simp [nameAt,DataW.atKey]⟩⟩
theorem names_lt {w:World} {b:Nat} {l:List (List UInt8)} (h:jU w b l):b<w.heap.size:=by
  obtain ⟨D,h,_⟩:=h;exact h.lt
theorem QF {w w':World} {b:Nat} {l:List (List UInt8)} (h:jU w b l) (hb:w'.heap[b]?=w.heap[b]?):jU w' b l:=by
  obtain ⟨D,⟨es,clock,h1,h2⟩,h3⟩:=h;exact ⟨D,⟨es,clock,hb.trans h1,h2⟩,h3⟩
theorem pW {w w':World} {b:Nat} {l:List (List UInt8)} (h:jU w b l) (hb:Below w.heap.size w w'):jU w' b l:=QF h (hb.block b (names_lt h))
theorem litKey (s:List UInt8):WideAt.IsKeyLit (.string s):=by simp [WideAt.IsKeyLit]
theorem CR {w:World} {b:Nat} {l:List (List UInt8)} (h:jU w b l) (s:ByteArray) (hs:s.size≤maxLen) :
    (Instr.lookup 69 (.map (some b)) (.string s) true).run Try.prog w = .ok (.tuple #[.int .i64 (nameAt l (nk s)),.bool (decide (nk s∈l))]) w:=by
  obtain ⟨D,ho,_,_,hD⟩:=h;obtain ⟨v,ps,hrun,hv⟩:=ho.look_ok (string_keyed Try.underlying9) Try.underlying69 (zero3 w) (plainElem_int Try.underlying3 (by decide)) (Go.WideMaps.keyOf_string_mk Try.underlying9 hs);have hs1:=(hD (nk s)).1;have hs2:=(hD (nk s)).2;unfold nk at hs1 hs2;rw [hs1] at hrun;rw [hs2] at hv;obtain ⟨a,rfl,hz,_⟩:=plainElem_int_inv Try.underlying3 hv;simp only [Prod.mk.injEq,DataW.lit.injEq,Lit.int.injEq,true_and] at hz;rw [hrun,← hz.1];rfl
theorem IY {w:World} {b:Nat} {l:List (List UInt8)} (h:jU w b l) (s:ByteArray) (hs:s.size≤maxLen) (hn:nk s ∉ l) (hl:l.length<4096) :
    ∃ w',(Instr.mapUpdate 69 (.map (some b)) (.string s) (.int .i64 l.length)).run Try.prog w = .ok () w'∧jU w' b (l ++ [nk s])∧w.grownBy w' (some b):=by
  obtain ⟨D,ho,hI,_,hD⟩:=h;have hwf:(Lit.int .i64 (l.length:Int)).wf=true:=by
    have h1:IntKind.i64.min = -9223372036854775808:=(by decide);have h2:IntKind.i64.max=9223372036854775807:=(by decide);simp only [Lit.wf,h1,h2,Bool.and_eq_true,decide_eq_true_eq];omega
  obtain ⟨w',hrun,ho',hg⟩:=ho.update (string_keyed Try.underlying9) Try.underlying69 (by unfold maxLen;omega) (Go.WideMaps.keyOf_string_mk Try.underlying9 hs) (plainElem_int (H:=Unit) Try.underlying3 (a:=(l.length:Int)) hwf);refine ⟨w',hrun,⟨_,by simpa using ho',hI.put _ _,by simp;omega,fun t=>?_⟩,hg⟩;by_cases ht:t=nk s
  · subst ht
    refine ⟨(has_put_same hI (litKey _) _).trans (by simp),?_⟩;refine (atKey_put_same hI (litKey _) _ _).trans ?_;simp [nameAt,List.idxOf_append,hn]
  · have hne:(Lit.string t)≠(.string s.data.toList):=by
      intro e;apply ht;injection e with e
    refine ⟨(has_put_other hne _).trans (by rw [(hD t).1];simp [ht]),?_⟩;refine (atKey_put_other hne _ _).trans ?_;rw [(hD t).2];unfold nameAt;by_cases hm:t∈l
    · simp [hm,List.idxOf_append]
    · simp [hm,ht]
end Go.Proofs.Ytapinbmkjkbkkaa.Mk
namespace Go.Proofs.Ytapinbmkjkbkkaa.Mk
open Go.RowKit Go.Proofs.aC.bE Go.Proofs.aC.bV Go.Proofs.aC.bY Lb
abbrev St:=Int × List gV
def kP (s:St):Option (Int × St):=if s.1<4096 then some (s.1,(s.1+1,s.2)) else none
def qB (s:St) (fr y tt:Int):Option St:=if s.2.length<65536 then some (s.1,s.2 ++ [⟨fr,y,tt⟩]) else none
mutual
def R6 (nm:List (List UInt8)) (nn:St→Int→Int→St→Option St):gB→Int→Int→St→Option St
  |⟨op,name,ks⟩,fr,tt,s =>
    if op=1 then (if nk name∈nm then qB s fr (nameAt nm (nk name)) tt else some s)
    else if op=2 then qB s fr (-2) tt
    else if op=3 then qB s fr (-1) tt
    else if op=5 then DV nm nn ks fr tt s
    else if op=6 then II nm nn ks fr tt s
    else if op=7 then TF nm nn ks fr tt s
    else if op=8 then ZJ nm nn ks fr tt s
    else some s
def DV (nm:List (List UInt8)) (nn:St→Int→Int→St→Option St):List gB→Int→Int→St→Option St
  |[],_,_,s=>some s
  |k :: ks,fr,tt,s=>if ks.isEmpty then R6 nm nn k fr tt s else (kP s).bind fun p=>(R6 nm nn k fr p.1 p.2).bind fun s=>DV nm nn ks p.1 tt s
def II (nm:List (List UInt8)) (nn:St→Int→Int→St→Option St):List gB→Int→Int→St→Option St
  |[],_,_,s=>some s
  |k :: ks,fr,tt,s=>(kP s).bind fun p=>(kP p.2).bind fun q=>(qB q.2 fr (-1) p.1).bind fun s=>(R6 nm nn k p.1 q.1 s).bind fun s=>(qB s q.1 (-1) tt).bind fun s=>II nm nn ks fr tt s
def TF (nm:List (List UInt8)) (nn:St→Int→Int→St→Option St):List gB→Int→Int→St→Option St
  |[],_,_,s=>some s
  |k :: _,fr,tt,s=>(kP s).bind fun p=>(kP p.2).bind fun q=>(qB q.2 fr (-1) p.1).bind fun s=>(R6 nm nn k p.1 q.1 s).bind fun s=>(qB s q.1 (-1) p.1).bind fun s=>qB s p.1 (-1) tt
def ZJ (nm:List (List UInt8)) (nn:St→Int→Int→St→Option St):List gB→Int→Int→St→Option St
  |[],_,_,s=>some s
  |k :: _,fr,tt,s=>(R6 nm nn k 0 1 (2,[])).bind fun a=>nn a fr tt s
end
def Fin (base M:Nat) (sy:Int) (mp:Value) (w0 W0:World) (o:Option St) (e:Ending) (W:World):Prop :=
  match o with
  |some s=>e = .returned (.tuple #[])∧pI base M sy mp W s.1 s.2∧Below base w0 W∧vD W0 W∧0≤s.1
  |none=>e=xL∧Below base w0 W
def FinS (base M:Nat) (sy:Int) (mp:Value) (w0 W0:World) (o:Option (Int × St)) (e:Ending) (W:World):Prop :=
  match o with
  |some p=>e = .returned (.int .i64 p.1)∧pI base M sy mp W p.2.1 p.2.2∧Below base w0 W∧vD W0 W∧0≤p.2.1
  |none=>e=xL∧Below base w0 W
section
variable {base M : Nat} {sy : Int} {mp : Value} {s : St} {w0 W : World}
theorem xM (h0:0≤s.1) (hM:base≤M) (h:pI base M sy mp W s.1 s.2) (hb:Below base w0 W) :
    Calls Try.prog 84 #[.pointer (some ⟨M,0,none⟩)] W (FinS base M sy mp w0 W (kP s)):=by
  unfold kP;by_cases h1:s.1<4096
  · rw [if_pos h1]
    exact (state_ok h0 h1 hM h hb).mono fun _ _ k=>⟨k.1,k.2.1,k.2.2.1,k.2.2.2,by show 0≤s.1+1;omega⟩
  · rw [if_neg h1]
    exact (state_many (by omega) h hb).mono fun _ _ k=>k
theorem wG (fr y tt:Int) (h0:0≤s.1) (hM:base≤M) (h:pI base M sy mp W s.1 s.2) (hb:Below base w0 W) :
    Calls Try.prog 83 #[.pointer (some ⟨M,0,none⟩),.int .i64 fr,.int .i64 y,.int .i64 tt] W (Fin base M sy mp w0 W (qB s fr y tt)):=by
  unfold qB;by_cases h1:s.2.length<65536
  · rw [if_pos h1]
    exact (arc_ok fr y tt h1 hM h hb).mono fun _ _ k=>⟨k.1,k.2.1,k.2.2.1,k.2.2.2,h0⟩
  · rw [if_neg h1]
    exact (arc_many fr y tt (by omega) h hb).mono fun _ _ k=>k
theorem QJ (h:pI base M sy mp W s.1 s.2):M<W.heap.size:=by
  obtain ⟨v,hB,_⟩:=h;exact gL hB
theorem lQ (h:pI base M sy mp W s.1 s.2) (o:Obj):pI base M sy mp (W.alloc o) s.1 s.2:=by
  obtain ⟨v,hB,hR⟩:=h;exact ⟨v,bH hB o,Kd.nY hR o⟩
theorem KA (h:pI base M sy mp W s.1 s.2) (n:Nat):pI base M sy mp (W.drewN n) s.1 s.2:=maker_draw h n
theorem qW (hM:base≤M) (h:pI base M sy mp W s.1 s.2) (hb:Below base w0 W) (o:Obj):Below base w0 (W.alloc o) :=
  hb.alloc (Nat.le_trans hM (Nat.le_of_lt (QJ h))) o
end
def rP (nm:List (List UInt8)) (nn:St→Int→Int→St→Option St) (r:gB):Prop :=
  ∀ (base M mb:Nat) (w0 W:World) (A:Option Addr) (c:Nat) (s:St) (fr tt:Int),base≤M→w0.heap.size≤base→jU w0 mb nm→Kd.C k25 w0 A r.f2.length r.f2→r.f2.length≤c →
    pI base M (nm.length:Int) (.map (some mb)) W s.1 s.2→Below base w0 W→0≤s.1 →
    Calls Try.prog 66 #[.pointer (some ⟨M,0,none⟩),.agg #[.int .i64 r.f0,.string r.f1,.slice A r.f2.length c],.int .i64 fr,.int .i64 tt] W (Fin base M (nm.length:Int) (.map (some mb)) w0 W (R6 nm nn r fr tt s))
theorem rQ (nm:List (List UInt8)) (nn:St→Int→Int→St→Option St) (op:Int) (name:ByteArray) (ks:List gB) (fr tt:Int) (s:St):R6 nm nn ⟨op,name,ks⟩ fr tt s =
    (if op=1 then (if nk name∈nm then qB s fr (nameAt nm (nk name)) tt else some s)
    else if op=2 then qB s fr (-2) tt
    else if op=3 then qB s fr (-1) tt
    else if op=5 then DV nm nn ks fr tt s
    else if op=6 then II nm nn ks fr tt s
    else if op=7 then TF nm nn ks fr tt s
    else if op=8 then ZJ nm nn ks fr tt s
    else some s):=by rw [R6]
variable {nm : List (List UInt8)} {nn : St → Int → Int → St → Option St}
set_option maxHeartbeats 800000 in
theorem ZK (op:Int) (name:ByteArray) (ks:List gB) (hop:op=2∨op=3):rP nm nn ⟨op,name,ks⟩:=by
  intro base M mb w0 W A c s fr tt hM hw hn hr hc hK hb h0;have HK:=aA.mk hK;have HB:=aA.mk hb;have HM:=aA.mk hM;have H0:=aA.mk h0;have e:R6 nm nn ⟨op,name,ks⟩ fr tt s=qB s fr (if op=2 then -2 else -1) tt:=by
    rw [rQ];rcases hop with rfl|rfl <;> simp
  rw [e];clear hr hc hK hb hw hn h0 hM e;show Calls Try.prog 66 #[.pointer (some ⟨M,0,none⟩),.agg #[.int .i64 op,.string name,.slice A ks.length c],.int .i64 fr,.int .i64 tt] W _;obtain ⟨o,ho⟩ : ∃ o,qB s fr (if op=2 then -2 else -1) tt=o:=⟨_,rfl⟩;rw [ho];have HO:=aA.mk ho;clear ho;rcases hop with rfl|rfl
  all_goals
    go_enter Try.func66,Try.ntmps66;go_wp2_with (fail)
    go_at_call 83;refine (wG _ _ _ H0.out HM.out (lQ HK.out _) (qW HM.out HK.out HB.out _)).mono ?_;rintro e w1 h1;simp only [if_true,if_false,show ((3:Int)=2)=False by simp] at HO;rw [HO.out] at h1;cases o with
    |none =>
      obtain ⟨rfl,hb1⟩:=h1;have HB1:=aA.mk hb1;clear hb1;go_wp2;exact ⟨rfl,rfl,HB1.out⟩
    |some s1 =>
      obtain ⟨rfl,hk1,hb1,ht1,hp1⟩:=h1;have HP1:=aA.mk hp1;have iC:=aA.mk hk1;have HB1:=aA.mk hb1;have HT1:=aA.mk ht1;clear hb1 hk1 ht1 hp1;go_wp2;go_end0
      exact ⟨rfl,iC.out,HB1.out,fZ (kV _ _) HT1.out,HP1.out⟩
theorem make_none (op:Int) (name:ByteArray) (ks:List gB) (hop:op=4∨¬ (1≤op∧op≤8)):rP nm nn ⟨op,name,ks⟩:=by
  intro base M mb w0 W A c s fr tt hM hw hn hr hc hK hb h0;have HK:=aA.mk hK;have HB:=aA.mk hb;have HM:=aA.mk hM;have H0:=aA.mk h0;have e:R6 nm nn ⟨op,name,ks⟩ fr tt s=some s:=by
    rw [rQ,if_neg (by omega),if_neg (by omega),if_neg (by omega),if_neg (by omega),if_neg (by omega),if_neg (by omega),if_neg (by omega)]
  rw [e];have n1:(op==1)=false:=(by simp;omega);have n2:(op==2)=false:=(by simp;omega);have n3:(op==3)=false:=(by simp;omega);have n5:(op==5)=false:=(by simp;omega);have n6:(op==6)=false:=(by simp;omega);have n7:(op==7)=false:=(by simp;omega);have n8:(op==8)=false:=(by simp;omega);clear hr hc hK hb hw hn h0 hM e hop;show Calls Try.prog 66 #[.pointer (some ⟨M,0,none⟩),.agg #[.int .i64 op,.string name,.slice A ks.length c],.int .i64 fr,.int .i64 tt] W _;go_enter Try.func66,Try.ntmps66;go_wp2;go_end0
  exact ⟨rfl,lQ HK.out _,qW HM.out HK.out HB.out _,kV _ _,H0.out⟩
set_option maxHeartbeats 1600000 in
theorem GY (name:ByteArray) (ks:List gB) (hsz:name.size≤64):rP nm nn ⟨1,name,ks⟩:=by
  intro base M mb w0 W A c s fr tt hM hw hn hr hc hK hb h0;have HK:=aA.mk hK;have HB:=aA.mk hb;have HM:=aA.mk hM;have H0:=aA.mk h0;rw [rQ,if_pos rfl];obtain ⟨v,hBk,hR⟩:=hK;have hbw : ∀ o n,Below w0.heap.size w0 ((W.alloc o).drewN n):=fun o n=>bB (hb.mono hw |>.alloc (Nat.le_trans hw (Nat.le_trans hM (Nat.le_of_lt (gL hBk)))) o) n;have hlk : ∀ o n,(Instr.lookup 69 (.map (some mb)) (.string name) true).run Try.prog ((W.alloc o).drewN n) = .ok (.tuple #[.int .i64 (nameAt nm (nk name)),.bool (decide (nk name∈nm))]) ((W.alloc o).drewN n) :=
    fun o n=>CR (pW hn (hbw o n)) name (by unfold maxLen;omega)
  have hc5 : ∀ o,(W.alloc o).cell? ⟨M,5,none⟩=some (.map (some mb)):=fun o=>(aD (bH hBk o) 5).trans rfl;clear hr hc hb hw hn h0 hM hR hBk hbw;show Calls Try.prog 66 #[.pointer (some ⟨M,0,none⟩),.agg #[.int .i64 1,.string name,.slice A ks.length c],.int .i64 fr,.int .i64 tt] W _;by_cases hin:nk name∈nm
  · rw [if_pos hin]
    rw [decide_eq_true hin] at hlk;obtain ⟨o,ho⟩ : ∃ o,qB s fr (nameAt nm (nk name)) tt=o:=⟨_,rfl⟩;rw [ho];have HO:=aA.mk ho;clear ho hin;go_enter Try.func66,Try.ntmps66;go_wp2_with (fail)
    go_quiet (fail)
    go_wp2_with (fail)
    go_at_call 83;refine (wG _ _ _ H0.out HM.out (KA (lQ HK.out _) _) (bB (qW HM.out HK.out HB.out _) _)).mono ?_;rintro e w1 h1;rw [HO.out] at h1;cases o with
    |none =>
      obtain ⟨rfl,hb1⟩:=h1;have HB1:=aA.mk hb1;clear hb1;go_wp2;exact ⟨rfl,rfl,HB1.out⟩
    |some s1 =>
      obtain ⟨rfl,hk1,hb1,ht1,hp1⟩:=h1;have HP1:=aA.mk hp1;have iC:=aA.mk hk1;have HB1:=aA.mk hb1;have HT1:=aA.mk ht1;clear hb1 hk1 ht1 hp1;go_wp2;go_end0
      exact ⟨rfl,iC.out,HB1.out,fZ (fZ (kV _ _) (JZ _ _)) HT1.out,HP1.out⟩
  · rw [if_neg hin]
    rw [decide_eq_false hin] at hlk;clear hin;go_enter Try.func66,Try.ntmps66;go_wp2_with (fail)
    go_quiet (fail)
    go_wp2;go_end0
    exact ⟨rfl,KA (lQ HK.out _) _,bB (qW HM.out HK.out HB.out _) _,fZ (kV _ _) (JZ _ _),H0.out⟩
theorem BM (k:gB) (ks:List gB) (fr tt:Int) (s:St):TF nm nn (k :: ks) fr tt s=((kP s).bind fun p=>(kP p.2).bind fun q=>(qB q.2 fr (-1) p.1).bind fun s=>(R6 nm nn k p.1 q.1 s).bind fun s=>(qB s q.1 (-1) p.1).bind fun s=>qB s p.1 (-1) tt):=by rw [TF]
set_option maxHeartbeats 3200000 in
theorem make_star (name:ByteArray) (k:gB) (ks:List gB) (ih:rP nm nn k):rP nm nn ⟨7,name,k :: ks⟩:=by
  intro base M mb w0 W A c s fr tt hM hw hn hr hc hK hb h0;have hr':Kd.C k25 w0 A (k :: ks).length (k :: ks):=hr;have HC:=aA.mk hc;obtain ⟨ad,A2,c2,rfl,hx0,hx1,hx2,hl2,hg2⟩:=mE hr' 0 (by omega) (by simp);have hrd:bL (k :: ks) 0=k:=rfl;rw [hrd] at hx0 hx1 hx2 hl2 hg2;have ha:ad.add 0=ad:=(by unfold Addr.add;simp);simp only [Int.toNat_zero,Nat.zero_mul,ha] at hx0 hx1 hx2;have HG:=aA.mk hg2;have HL:=aA.mk hl2;have YC:=aA.mk ih;have HN:=aA.mk hn;have zK:=aA.mk (lQ hK (.cells #[.int .i64 7,.string name,.slice (some ad) (k :: ks).length c] 25));have HB0:=aA.mk (qW hM hK hb (.cells #[.int .i64 7,.string name,.slice (some ad) (k :: ks).length c] 25));have HT0:=aA.mk (kV W (.cells #[.int .i64 7,.string name,.slice (some ad) (k :: ks).length c] 25));have HM:=aA.mk hM;have H0:=aA.mk h0;have HW:=aA.mk hw;have HX0:=aA.mk hx0;have HX1:=aA.mk hx1;have HX2:=aA.mk hx2;have O3:aA ((W.alloc (.cells #[.int .i64 7,.string name,.slice (some ad) (k :: ks).length c] 25)).heap[W.heap.size]?=some (.cells #[.int .i64 7,.string name,.slice (some ad) (k :: ks).length c] 25 (0,0))):=⟨dX _ _⟩;show Calls Try.prog 66 #[.pointer (some ⟨M,0,none⟩),.agg #[.int .i64 7,.string name,.slice (some ad) (k :: ks).length c],.int .i64 fr,.int .i64 tt] W (Fin base M (nm.length:Int) (.map (some mb)) w0 W (R6 nm nn ⟨7,name,k :: ks⟩ fr tt s));obtain ⟨o,ho⟩ : ∃ o,R6 nm nn ⟨7,name,k :: ks⟩ fr tt s=o:=⟨_,rfl⟩;rw [ho];rw [rQ,if_neg (by omega),if_neg (by omega),if_neg (by omega),if_neg (by omega),if_neg (by omega),if_pos rfl,BM] at ho;have HO:=aA.mk ho;clear hr hc hK hb hw hn h0 hM ho hr' hx0 hx1 hx2 hl2 hg2 ha hrd ih;go_enter Try.func66,Try.ntmps66;go_wp2_with (fail)
  go_at_call 84;refine (xM H0.out HM.out zK.out HB0.out).mono ?_;rintro e w1 h1;cases hs1:kP s with
  |none =>
    rw [hs1] at h1;obtain ⟨rfl,hb1⟩:=h1;have HB1:=aA.mk hb1;have ho:=HO.out;rw [hs1] at ho;obtain rfl:none=o:=ho;clear hb1 hs1 HO;go_wp2;exact ⟨rfl,rfl,HB1.out⟩
  |some p1 =>
    rw [hs1] at h1;obtain ⟨rfl,hk1,hb1,ht1,hp1⟩:=h1;have iC:=aA.mk hk1;have HB1:=aA.mk hb1;have HT1:=aA.mk (fZ HT0.out ht1);have HP1:=aA.mk hp1;have yH:=aA.mk (ht1.2 _ _ _ _ (by decide) (by decide) O3.out);have ho:=HO.out;rw [hs1,Option.bind_some] at ho;clear HO;have HO:=aA.mk ho;clear hk1 hb1 ht1 hp1 ho hs1 HT0 O3;go_wp2_with (fail)
    go_at_call 84;refine (xM HP1.out HM.out iC.out HB1.out).mono ?_;rintro e w2 h1;cases hs1:kP p1.2 with
    |none =>
      rw [hs1] at h1;obtain ⟨rfl,hb1⟩:=h1;have HB2:=aA.mk hb1;have ho:=HO.out;rw [hs1] at ho;obtain rfl:none=o:=ho;clear hb1 hs1 HO;go_wp2;exact ⟨rfl,rfl,HB2.out⟩
    |some p2 =>
      rw [hs1] at h1;obtain ⟨rfl,hk1,hb1,ht1,hp1⟩:=h1;have oQ:=aA.mk hk1;have HB2:=aA.mk hb1;have HT2:=aA.mk (fZ HT1.out ht1);have CS:=aA.mk hp1;have qJ:=aA.mk (ht1.2 _ _ _ _ (by decide) (by decide) yH.out);have ho:=HO.out;rw [hs1,Option.bind_some] at ho;clear HO;have HO:=aA.mk ho;clear hk1 hb1 ht1 hp1 ho hs1 HT1 yH;go_wp2_with (fail)
      go_at_call 83;refine (wG _ _ _ CS.out HM.out oQ.out HB2.out).mono ?_;rintro e w3 h1;cases hs1:qB p2.2 fr (-1) p1.1 with
      |none =>
        rw [hs1] at h1;obtain ⟨rfl,hb1⟩:=h1;have HB3:=aA.mk hb1;have ho:=HO.out;rw [hs1] at ho;obtain rfl:none=o:=ho;clear hb1 hs1 HO;go_wp2;exact ⟨rfl,rfl,HB3.out⟩
      |some p3 =>
        rw [hs1] at h1;obtain ⟨rfl,hk1,hb1,ht1,hp1⟩:=h1;have RI:=aA.mk hk1;have HB3:=aA.mk hb1;have HT3:=aA.mk (fZ HT2.out ht1);have HP3:=aA.mk hp1;have l5:=aA.mk (ht1.2 _ _ _ _ (by decide) (by decide) qJ.out);have ho:=HO.out;rw [hs1,Option.bind_some] at ho;clear HO;have HO:=aA.mk ho;clear hk1 hb1 ht1 hp1 ho hs1 HT2 qJ;have hb2:=(aD l5.out 2);have hy0:=bJ (HB3.out.mono HW.out) HX0.out;have hy1:=bJ (HB3.out.mono HW.out) HX1.out;have hy2:=bJ (HB3.out.mono HW.out) HX2.out;go_wp2_with (fail)
        go_at_call 66;refine (YC.out base M mb w0 _ A2 c2 p3 _ _ HM.out HW.out HN.out HG.out HL.out RI.out HB3.out HP3.out).mono ?_;rintro e w4 h1;clear hb2 hy0 hy1 hy2;cases hs1:R6 nm nn k p1.1 p2.1 p3 with
        |none =>
          rw [hs1] at h1;obtain ⟨rfl,hb1⟩:=h1;have wV:=aA.mk hb1;have ho:=HO.out;rw [hs1] at ho;obtain rfl:none=o:=ho;clear hb1 hs1 HO;go_wp2;exact ⟨rfl,rfl,wV.out⟩
        |some p4 =>
          rw [hs1] at h1;obtain ⟨rfl,hk1,hb1,ht1,hp1⟩:=h1;have XE:=aA.mk hk1;have wV:=aA.mk hb1;have HT4:=aA.mk (fZ HT3.out ht1);have HP4:=aA.mk hp1;have GV:=aA.mk (ht1.2 _ _ _ _ (by decide) (by decide) l5.out);have ho:=HO.out;rw [hs1,Option.bind_some] at ho;clear HO;have HO:=aA.mk ho;clear hk1 hb1 ht1 hp1 ho hs1 HT3 l5;go_wp2_with (fail)
          go_at_call 83;refine (wG _ _ _ HP4.out HM.out XE.out wV.out).mono ?_;rintro e w5 h1;cases hs1:qB p4 p2.1 (-1) p1.1 with
          |none =>
            rw [hs1] at h1;obtain ⟨rfl,hb1⟩:=h1;have DC:=aA.mk hb1;have ho:=HO.out;rw [hs1] at ho;obtain rfl:none=o:=ho;clear hb1 hs1 HO;go_wp2;exact ⟨rfl,rfl,DC.out⟩
          |some p5 =>
            rw [hs1] at h1;obtain ⟨rfl,hk1,hb1,ht1,hp1⟩:=h1;have HK5:=aA.mk hk1;have DC:=aA.mk hb1;have HT5:=aA.mk (fZ HT4.out ht1);have HP5:=aA.mk hp1;have BX5:=aA.mk (ht1.2 _ _ _ _ (by decide) (by decide) GV.out);have ho:=HO.out;rw [hs1,Option.bind_some] at ho;clear HO;have HO:=aA.mk ho;clear hk1 hb1 ht1 hp1 ho hs1 HT4 GV;go_wp2_with (fail)
            go_at_call 83;refine (wG _ _ _ HP5.out HM.out HK5.out DC.out).mono ?_;rintro e w6 h1;cases hs1:qB p5 p1.1 (-1) tt with
            |none =>
              rw [hs1] at h1;obtain ⟨rfl,hb1⟩:=h1;have SK:=aA.mk hb1;have ho:=HO.out;rw [hs1] at ho;obtain rfl:none=o:=ho;clear hb1 hs1 HO;go_wp2;exact ⟨rfl,rfl,SK.out⟩
            |some p6 =>
              rw [hs1] at h1;obtain ⟨rfl,hk1,hb1,ht1,hp1⟩:=h1;have HK6:=aA.mk hk1;have SK:=aA.mk hb1;have HT6:=aA.mk (fZ HT5.out ht1);have HP6:=aA.mk hp1;have BX6:=aA.mk (ht1.2 _ _ _ _ (by decide) (by decide) BX5.out);have ho:=HO.out;rw [hs1] at ho;clear HO;have HO:=aA.mk ho;clear hk1 hb1 ht1 hp1 ho hs1 HT5 BX5;obtain rfl:some p6=o:=HO.out;clear HO;go_wp2;go_end0
              exact ⟨rfl,HK6.out,SK.out,HT6.out,HP6.out⟩
theorem IJ (k:gB) (ks:List gB) (fr tt:Int) (s:St):II nm nn (k :: ks) fr tt s=((kP s).bind fun p=>(kP p.2).bind fun q=>(qB q.2 fr (-1) p.1).bind fun s=>(R6 nm nn k p.1 q.1 s).bind fun s=>(qB s q.1 (-1) tt).bind fun s=>II nm nn ks fr tt s):=by rw [II]
theorem IG (k:gB) (ks:List gB) (fr tt:Int) (s:St):DV nm nn (k :: ks) fr tt s=(if ks.isEmpty=true then R6 nm nn k fr tt s else (kP s).bind fun p=>(R6 nm nn k fr p.1 p.2).bind fun s=>DV nm nn ks p.1 tt s):=by rw [DV]
theorem rd_drop (l:List gB) (k:Nat) (h:k<l.length):l.drop k=bL l k :: l.drop (k+1):=by
  rw [List.drop_eq_getElem_cons h];unfold bL;simp [List.getElem?_eq_getElem h]
set_option maxHeartbeats 6400000 in
theorem ZM (name:ByteArray) (ks:List gB) (ih : ∀ k,k∈ks→rP nm nn k):rP nm nn ⟨6,name,ks⟩:=by
  intro base M mb w0 W A c s fr tt hM hw hn hr hc hK hb h0;have hr':Kd.C k25 w0 A ks.length ks:=hr;have hm:ks.length≤9223372036854775807:=hr'.2.1;have HC:=aA.mk hc;have HR:=aA.mk hr';have YC:=aA.mk ih;have HN:=aA.mk hn;have zK:=aA.mk (lQ hK (.cells #[.int .i64 6,.string name,.slice A ks.length c] 25));have HB0:=aA.mk (qW hM hK hb (.cells #[.int .i64 6,.string name,.slice A ks.length c] 25));have HT0:=aA.mk (kV W (.cells #[.int .i64 6,.string name,.slice A ks.length c] 25));have HM:=aA.mk hM;have H0:=aA.mk h0;have HW:=aA.mk hw;have O3:aA ((W.alloc (.cells #[.int .i64 6,.string name,.slice A ks.length c] 25)).heap[W.heap.size]?=some (.cells #[.int .i64 6,.string name,.slice A ks.length c] 25 (0,0))):=⟨dX _ _⟩;show Calls Try.prog 66 #[.pointer (some ⟨M,0,none⟩),.agg #[.int .i64 6,.string name,.slice A ks.length c],.int .i64 fr,.int .i64 tt] W (Fin base M (nm.length:Int) (.map (some mb)) w0 W (R6 nm nn ⟨6,name,ks⟩ fr tt s));obtain ⟨o,ho⟩ : ∃ o,R6 nm nn ⟨6,name,ks⟩ fr tt s=o:=⟨_,rfl⟩;rw [ho];rw [rQ,if_neg (by omega),if_neg (by omega),if_neg (by omega),if_neg (by omega),if_pos rfl] at ho;have HO:=aA.mk ho;clear hr hc hK hb hw hn h0 hM ho hr' ih;go_enter Try.func66,Try.ntmps66;go_wp2;go_loopw [14,15,16,82] (fun _ _ _ i wr=>∃ (k:Nat) (sr:St),k≤ks.length∧i = .int .i64 k∧aA (II nm nn (ks.drop k) fr tt sr=o)∧aA (pI base M (nm.length:Int) (.map (some mb)) wr sr.1 sr.2)∧aA (Below base w0 wr)∧aA (vD W wr)∧aA (0≤sr.1)∧aA (wr.heap[W.heap.size]?=some (.cells #[.int .i64 6,.string name,.slice A ks.length c] 25 (0,0)))) (fun _ _ _ i _=>ks.length - (intOf i).toNat)
  case atStart=>exact ⟨0,s,Nat.zero_le _,rfl,HO,zK,HB0,HT0,H0,O3⟩
  case round =>
    obtain ⟨k,sr,hk,rfl,MO,HKr,P9,HTr,HPr,BXr⟩:=hrel;clear zK HB0 HT0 O3 H0 HO;have HO:=MO;clear MO;by_cases hlt:k<ks.length
    · obtain ⟨ad,A2,c2,rfl,hx0,hx1,hx2,hl2,hg2⟩:=mE HR.out (k:Int) (by omega) (by omega)
      rw [Int.toNat_natCast] at hx0 hx1 hx2;have HG:=aA.mk hg2;have HL:=aA.mk hl2;have HIK:=aA.mk (YC.out (bL ks k) (by unfold bL;simp [List.getElem?_eq_getElem hlt]));have hy0:=bJ (P9.out.mono HW.out) hx0;have hy1:=bJ (P9.out.mono HW.out) hx1;have hy2:=bJ (P9.out.mono HW.out) hx2;clear hx0 hx1 hx2 hl2 hg2;have BY0:=aA.mk (dX wr (.cells #[.int .i64 (bL ks k).f0,.string (bL ks k).f1,.slice A2 (bL ks k).f2.length c2] 25));have O3:=aA.mk (bH BXr.out (.cells #[.int .i64 (bL ks k).f0,.string (bL ks k).f1,.slice A2 (bL ks k).f2.length c2] 25));have zK:=aA.mk (lQ HKr.out (.cells #[.int .i64 (bL ks k).f0,.string (bL ks k).f1,.slice A2 (bL ks k).f2.length c2] 25));have HB0:=aA.mk (qW HM.out HKr.out P9.out (.cells #[.int .i64 (bL ks k).f0,.string (bL ks k).f1,.slice A2 (bL ks k).f2.length c2] 25));have HT0:=aA.mk (fZ HTr.out (kV wr (.cells #[.int .i64 (bL ks k).f0,.string (bL ks k).f1,.slice A2 (bL ks k).f2.length c2] 25)));have HO:=aA.mk (show _=o from (congrArg (fun l=>II nm nn l fr tt sr) (rd_drop ks k hlt)).symm.trans HO.out);have HO:=aA.mk ((IJ (nn:=nn) _ _ fr tt sr).symm.trans HO.out);go_wp2_with (fail)
      go_at_call 84;refine (xM HPr.out HM.out zK.out HB0.out).mono ?_;rintro e w1 h1;cases hs1:kP sr with
      |none =>
        rw [hs1] at h1;obtain ⟨rfl,hb1⟩:=h1;have HB1:=aA.mk hb1;have ho:=HO.out;rw [hs1] at ho;obtain rfl:none=o:=ho;clear hb1 hs1 HO;go_wp2;exact ⟨rfl,rfl,HB1.out⟩
      |some p1 =>
        rw [hs1] at h1;obtain ⟨rfl,hk1,hb1,ht1,hp1⟩:=h1;have iC:=aA.mk hk1;have HB1:=aA.mk hb1;have HT1:=aA.mk (fZ HT0.out ht1);have HP1:=aA.mk hp1;have yH:=aA.mk (ht1.2 _ _ _ _ (by decide) (by decide) O3.out);have BY1:=aA.mk (ht1.2 _ _ _ _ (by decide) (by decide) BY0.out);clear BY0;have ho:=HO.out;rw [hs1,Option.bind_some] at ho;clear HO;have HO:=aA.mk ho;clear hk1 hb1 ht1 hp1 ho hs1 HT0 O3;clear hy0 hy1 hy2;go_wp2_with (fail)
        go_at_call 84;refine (xM HP1.out HM.out iC.out HB1.out).mono ?_;rintro e w2 h1;cases hs1:kP p1.2 with
        |none =>
          rw [hs1] at h1;obtain ⟨rfl,hb1⟩:=h1;have HB2:=aA.mk hb1;have ho:=HO.out;rw [hs1] at ho;obtain rfl:none=o:=ho;clear hb1 hs1 HO;go_wp2;exact ⟨rfl,rfl,HB2.out⟩
        |some p2 =>
          rw [hs1] at h1;obtain ⟨rfl,hk1,hb1,ht1,hp1⟩:=h1;have oQ:=aA.mk hk1;have HB2:=aA.mk hb1;have HT2:=aA.mk (fZ HT1.out ht1);have CS:=aA.mk hp1;have qJ:=aA.mk (ht1.2 _ _ _ _ (by decide) (by decide) yH.out);have BY2:=aA.mk (ht1.2 _ _ _ _ (by decide) (by decide) BY1.out);clear BY1;have ho:=HO.out;rw [hs1,Option.bind_some] at ho;clear HO;have HO:=aA.mk ho;clear hk1 hb1 ht1 hp1 ho hs1 HT1 yH;go_wp2_with (fail)
          go_at_call 83;refine (wG _ _ _ CS.out HM.out oQ.out HB2.out).mono ?_;rintro e w3 h1;cases hs1:qB p2.2 fr (-1) p1.1 with
          |none =>
            rw [hs1] at h1;obtain ⟨rfl,hb1⟩:=h1;have HB3:=aA.mk hb1;have ho:=HO.out;rw [hs1] at ho;obtain rfl:none=o:=ho;clear hb1 hs1 HO;go_wp2;exact ⟨rfl,rfl,HB3.out⟩
          |some p3 =>
            rw [hs1] at h1;obtain ⟨rfl,hk1,hb1,ht1,hp1⟩:=h1;have RI:=aA.mk hk1;have HB3:=aA.mk hb1;have HT3:=aA.mk (fZ HT2.out ht1);have HP3:=aA.mk hp1;have l5:=aA.mk (ht1.2 _ _ _ _ (by decide) (by decide) qJ.out);have BY3:=aA.mk (ht1.2 _ _ _ _ (by decide) (by decide) BY2.out);clear BY2;have ho:=HO.out;rw [hs1,Option.bind_some] at ho;clear HO;have HO:=aA.mk ho;clear hk1 hb1 ht1 hp1 ho hs1 HT2 qJ;have hz0:=(aD BY3.out 0);have hz1:=(aD BY3.out 1);have hz2:=(aD BY3.out 2);go_wp2_with (fail)
            go_at_call 66;refine (HIK.out base M mb w0 _ A2 c2 p3 _ _ HM.out HW.out HN.out HG.out HL.out RI.out HB3.out HP3.out).mono ?_;rintro e w4 h1;clear hz0 hz1 hz2;cases hs1:R6 nm nn (bL ks k) p1.1 p2.1 p3 with
            |none =>
              rw [hs1] at h1;obtain ⟨rfl,hb1⟩:=h1;have wV:=aA.mk hb1;have ho:=HO.out;rw [hs1] at ho;obtain rfl:none=o:=ho;clear hb1 hs1 HO;go_wp2;exact ⟨rfl,rfl,wV.out⟩
            |some p4 =>
              rw [hs1] at h1;obtain ⟨rfl,hk1,hb1,ht1,hp1⟩:=h1;have XE:=aA.mk hk1;have wV:=aA.mk hb1;have HT4:=aA.mk (fZ HT3.out ht1);have HP4:=aA.mk hp1;have GV:=aA.mk (ht1.2 _ _ _ _ (by decide) (by decide) l5.out);have BY4:=aA.mk (ht1.2 _ _ _ _ (by decide) (by decide) BY3.out);clear BY3;have ho:=HO.out;rw [hs1,Option.bind_some] at ho;clear HO;have HO:=aA.mk ho;clear hk1 hb1 ht1 hp1 ho hs1 HT3 l5;go_wp2_with (fail)
              go_at_call 83;refine (wG _ _ _ HP4.out HM.out XE.out wV.out).mono ?_;rintro e w5 h1;cases hs1:qB p4 p2.1 (-1) tt with
              |none =>
                rw [hs1] at h1;obtain ⟨rfl,hb1⟩:=h1;have DC:=aA.mk hb1;have ho:=HO.out;rw [hs1] at ho;obtain rfl:none=o:=ho;clear hb1 hs1 HO;go_wp2;exact ⟨rfl,rfl,DC.out⟩
              |some p5 =>
                rw [hs1] at h1;obtain ⟨rfl,hk1,hb1,ht1,hp1⟩:=h1;have HK5:=aA.mk hk1;have DC:=aA.mk hb1;have HT5:=aA.mk (fZ HT4.out ht1);have HP5:=aA.mk hp1;have BX5:=aA.mk (ht1.2 _ _ _ _ (by decide) (by decide) GV.out);have BY5:=aA.mk (ht1.2 _ _ _ _ (by decide) (by decide) BY4.out);clear BY4;have ho:=HO.out;rw [hs1,Option.bind_some] at ho;clear HO;have HO:=aA.mk ho;clear hk1 hb1 ht1 hp1 ho hs1 HT4 GV;go_wp2;go_roundw
                case rel=>exact ⟨k+1,p5,by omega,by go_num,HO,HK5,DC,HT5,HP5,BX5⟩
                case measure=>simp [intOf];omega
    · have he:ks.drop k=[]:=List.drop_eq_nil_of_le (by omega)
      have ho:=HO.out;rw [he,II] at ho;obtain rfl:some sr=o:=ho;clear HO he;go_wp2;go_end0
      exact ⟨rfl,HKr.out,P9.out,HTr.out,HPr.out⟩
set_option maxHeartbeats 6400000 in
theorem ZL (name:ByteArray) (ks:List gB) (ih : ∀ k,k∈ks→rP nm nn k):rP nm nn ⟨5,name,ks⟩:=by
  intro base M mb w0 W A c s fr tt hM hw hn hr hc hK hb h0;have hr':Kd.C k25 w0 A ks.length ks:=hr;have hm:ks.length≤9223372036854775807:=hr'.2.1;have HC:=aA.mk hc;have HR:=aA.mk hr';have YC:=aA.mk ih;have HN:=aA.mk hn;have zK:=aA.mk (lQ hK (.cells #[.int .i64 5,.string name,.slice A ks.length c] 25));have HB0:=aA.mk (qW hM hK hb (.cells #[.int .i64 5,.string name,.slice A ks.length c] 25));have HT0:=aA.mk (kV W (.cells #[.int .i64 5,.string name,.slice A ks.length c] 25));have HM:=aA.mk hM;have H0:=aA.mk h0;have HW:=aA.mk hw;have O3:aA ((W.alloc (.cells #[.int .i64 5,.string name,.slice A ks.length c] 25)).heap[W.heap.size]?=some (.cells #[.int .i64 5,.string name,.slice A ks.length c] 25 (0,0))):=⟨dX _ _⟩;show Calls Try.prog 66 #[.pointer (some ⟨M,0,none⟩),.agg #[.int .i64 5,.string name,.slice A ks.length c],.int .i64 fr,.int .i64 tt] W (Fin base M (nm.length:Int) (.map (some mb)) w0 W (R6 nm nn ⟨5,name,ks⟩ fr tt s));obtain ⟨o,ho⟩ : ∃ o,R6 nm nn ⟨5,name,ks⟩ fr tt s=o:=⟨_,rfl⟩;rw [ho];rw [rQ,if_neg (by omega),if_neg (by omega),if_neg (by omega),if_pos rfl] at ho;have HO:=aA.mk ho;clear hr hc hK hb hw hn h0 hM ho hr' ih;go_enter Try.func66,Try.ntmps66;go_wp2;go_loopw [2,10,11,12,56] (fun f _ _ _ i wr=>∃ (k:Nat) (fr':Int) (sr:St),k≤ks.length∧i = .int .i64 k∧f = .int .i64 fr'∧aA (DV nm nn (ks.drop k) fr' tt sr=o)∧aA (pI base M (nm.length:Int) (.map (some mb)) wr sr.1 sr.2)∧aA (Below base w0 wr)∧aA (vD W wr)∧aA (0≤sr.1)∧aA (wr.heap[W.heap.size]?=some (.cells #[.int .i64 5,.string name,.slice A ks.length c] 25 (0,0)))) (fun _ _ _ _ i _=>ks.length - (intOf i).toNat)
  case atStart=>exact ⟨0,fr,s,Nat.zero_le _,rfl,rfl,HO,zK,HB0,HT0,H0,O3⟩
  case round =>
    obtain ⟨k,fr',sr,hk,rfl,rfl,MO,HKr,P9,HTr,HPr,BXr⟩:=hrel;clear zK HB0 HT0 O3 H0 HO;have HO:=MO;clear MO;by_cases hlt:k<ks.length
    · obtain ⟨ad,A2,c2,rfl,hx0,hx1,hx2,hl2,hg2⟩:=mE HR.out (k:Int) (by omega) (by omega)
      rw [Int.toNat_natCast] at hx0 hx1 hx2;have HG:=aA.mk hg2;have HL:=aA.mk hl2;have HIK:=aA.mk (YC.out (bL ks k) (by unfold bL;simp [List.getElem?_eq_getElem hlt]));have hy0:=bJ (P9.out.mono HW.out) hx0;have hy1:=bJ (P9.out.mono HW.out) hx1;have hy2:=bJ (P9.out.mono HW.out) hx2;clear hx0 hx1 hx2 hl2 hg2;have BY0:=aA.mk (dX wr (.cells #[.int .i64 (bL ks k).f0,.string (bL ks k).f1,.slice A2 (bL ks k).f2.length c2] 25));have O3:=aA.mk (bH BXr.out (.cells #[.int .i64 (bL ks k).f0,.string (bL ks k).f1,.slice A2 (bL ks k).f2.length c2] 25));have zK:=aA.mk (lQ HKr.out (.cells #[.int .i64 (bL ks k).f0,.string (bL ks k).f1,.slice A2 (bL ks k).f2.length c2] 25));have HB0:=aA.mk (qW HM.out HKr.out P9.out (.cells #[.int .i64 (bL ks k).f0,.string (bL ks k).f1,.slice A2 (bL ks k).f2.length c2] 25));have HT0:=aA.mk (fZ HTr.out (kV wr (.cells #[.int .i64 (bL ks k).f0,.string (bL ks k).f1,.slice A2 (bL ks k).f2.length c2] 25)));have HO:=aA.mk (show _=o from (congrArg (fun l=>DV nm nn l fr' tt sr) (rd_drop ks k hlt)).symm.trans HO.out);have HO:=aA.mk ((IG (nn:=nn) _ _ fr' tt sr).symm.trans HO.out);have hbx : ∀ o:Obj,(wr.alloc o).cell? ⟨W.heap.size,2,none⟩=some (.slice (some ad) ks.length c):=fun o=>(aD (bH BXr.out o) 2).trans rfl;by_cases hl:k+1<ks.length
      · have hne:(ks.drop (k+1)).isEmpty=false:=by rw [List.isEmpty_eq_false_iff];intro e;have:=List.drop_eq_nil_iff.mp e;omega
        have hd0:decide ((k:Int)<(ks.length:Int) - 1)=true:=decide_eq_true (by omega);have HO:=aA.mk ((show _=o from HO.out));have ho:=HO.out;rw [hne] at ho;simp only [Bool.false_eq_true,if_false] at ho;clear HO hne;have HO:=aA.mk ho;clear ho;go_wp2_with (fail)
        go_at_call 84;refine (xM HPr.out HM.out zK.out HB0.out).mono ?_;rintro e w1 h1;cases hs1:kP sr with
        |none =>
          rw [hs1] at h1;obtain ⟨rfl,hb1⟩:=h1;have HB1:=aA.mk hb1;have ho:=HO.out;rw [hs1] at ho;obtain rfl:none=o:=ho;clear hb1 hs1 HO;go_wp2;exact ⟨rfl,rfl,HB1.out⟩
        |some p1 =>
          rw [hs1] at h1;obtain ⟨rfl,hk1,hb1,ht1,hp1⟩:=h1;have iC:=aA.mk hk1;have HB1:=aA.mk hb1;have HT1:=aA.mk (fZ HT0.out ht1);have HP1:=aA.mk hp1;have yH:=aA.mk (ht1.2 _ _ _ _ (by decide) (by decide) O3.out);have BY1:=aA.mk (ht1.2 _ _ _ _ (by decide) (by decide) BY0.out);clear BY0;have ho:=HO.out;rw [hs1,Option.bind_some] at ho;clear HO;have HO:=aA.mk ho;clear hk1 hb1 ht1 hp1 ho hs1 HT0 O3;clear hy0 hy1 hy2 hbx hd0;have hz0:=(aD BY1.out 0);have hz1:=(aD BY1.out 1);have hz2:=(aD BY1.out 2);go_wp2_with (fail)
          go_at_call 66;refine (HIK.out base M mb w0 _ A2 c2 p1.2 _ _ HM.out HW.out HN.out HG.out HL.out iC.out HB1.out HP1.out).mono ?_;rintro e w2 h1;clear hz0 hz1 hz2;cases hs1:R6 nm nn (bL ks k) fr' p1.1 p1.2 with
          |none =>
            rw [hs1] at h1;obtain ⟨rfl,hb1⟩:=h1;have HB2:=aA.mk hb1;have ho:=HO.out;rw [hs1] at ho;obtain rfl:none=o:=ho;clear hb1 hs1 HO;go_wp2;exact ⟨rfl,rfl,HB2.out⟩
          |some p2 =>
            rw [hs1] at h1;obtain ⟨rfl,hk1,hb1,ht1,hp1⟩:=h1;have oQ:=aA.mk hk1;have HB2:=aA.mk hb1;have HT2:=aA.mk (fZ HT1.out ht1);have CS:=aA.mk hp1;have qJ:=aA.mk (ht1.2 _ _ _ _ (by decide) (by decide) yH.out);have BY2:=aA.mk (ht1.2 _ _ _ _ (by decide) (by decide) BY1.out);clear BY1;have ho:=HO.out;rw [hs1,Option.bind_some] at ho;clear HO;have HO:=aA.mk ho;clear hk1 hb1 ht1 hp1 ho hs1 HT1 yH;go_wp2;go_roundw
            case rel=>exact ⟨k+1,p1.1,p2,by omega,by go_num,rfl,HO,oQ,HB2,HT2,CS,qJ⟩
            case measure=>simp [intOf];omega
      · have hne:ks.drop (k+1)=[]:=List.drop_eq_nil_of_le (by omega)
        have hd0:decide ((k:Int)<(ks.length:Int) - 1)=false:=decide_eq_false (by omega);have ho:=HO.out;rw [hne] at ho;simp only [List.isEmpty_nil,if_true] at ho;clear HO;have HO:=aA.mk ho;have HNE:=aA.mk hne;clear ho hne;go_wp2_with (fail)
        go_at_call 66;refine (HIK.out base M mb w0 _ A2 c2 sr _ _ HM.out HW.out HN.out HG.out HL.out zK.out HB0.out HPr.out).mono ?_;rintro e w1 h1;cases hs1:R6 nm nn (bL ks k) fr' tt sr with
        |none =>
          rw [hs1] at h1;obtain ⟨rfl,hb1⟩:=h1;have HB1:=aA.mk hb1;have ho:=HO.out;rw [hs1] at ho;obtain rfl:none=o:=ho;clear hb1 hs1 HO;go_wp2;exact ⟨rfl,rfl,HB1.out⟩
        |some p1 =>
          rw [hs1] at h1;obtain ⟨rfl,hk1,hb1,ht1,hp1⟩:=h1;have iC:=aA.mk hk1;have HB1:=aA.mk hb1;have HT1:=aA.mk (fZ HT0.out ht1);have HP1:=aA.mk hp1;have yH:=aA.mk (ht1.2 _ _ _ _ (by decide) (by decide) O3.out);have BY1:=aA.mk (ht1.2 _ _ _ _ (by decide) (by decide) BY0.out);clear BY0;have ho:=HO.out;rw [hs1] at ho;clear HO;have HO:=aA.mk ho;clear hk1 hb1 ht1 hp1 ho hs1 HT0 O3;have PX:=aA.mk (show DV nm nn (ks.drop (k+1)) tt tt p1=o by rw [HNE.out,DV];exact HO.out);clear HO HNE hy0 hy1 hy2 hbx hd0;go_wp2;go_roundw
          case rel=>exact ⟨k+1,tt,p1,by omega,by go_num,rfl,PX,iC,HB1,HT1,HP1,yH⟩
          case measure=>simp [intOf];omega
    · have he:ks.drop k=[]:=List.drop_eq_nil_of_le (by omega)
      have ho:=HO.out;rw [he,DV] at ho;obtain rfl:some sr=o:=ho;clear HO he;go_wp2;go_end0
      exact ⟨rfl,HKr.out,P9.out,HTr.out,HPr.out⟩
end Go.Proofs.Ytapinbmkjkbkkaa.Mk
namespace Go.Proofs.Ytapinbmkjkbkkaa.Mk
open Go.RowKit Go.Proofs.aC.bE Go.Proofs.aC.bV Go.Proofs.aC.bY Lb
def qO (nm:List (List UInt8)) (nn:St→Int→Int→St→Option St) (r:gB):Option St:=R6 nm nn r 0 1 (2,[])
def FinA (sy:Int) (W0:World) (o:Option St) (e:Ending) (W:World):Prop :=
  match o with
  |some s=>∃ v,e = .returned (.agg #[.int .i64 s.1,.int .i64 sy,.int .i64 0,.int .i64 1,v])∧xP.R 78 W W0.heap.size (fun _=>True) v s.2∧Below W0.heap.size W0 W
  |none=>e=xL∧Below W0.heap.size W0 W
def YQ (nm:List (List UInt8)) (nn:St→Int→Int→St→Option St) (r:gB):Prop :=
  ∀ (M mb:Nat) (W:World) (A:Option Addr) (c:Nat),jU W mb nm→Kd.C k25 W A r.f2.length r.f2→r.f2.length≤c →
    W.cell? ⟨M,1,none⟩=some (.int .i64 (nm.length:Int))→W.cell? ⟨M,5,none⟩=some (.map (some mb)) →
    Calls Try.prog 36 #[.pointer (some ⟨M,0,none⟩),.agg #[.int .i64 r.f0,.string r.f1,.slice A r.f2.length c]] W (FinA (nm.length:Int) W (qO nm nn r))
variable {nm : List (List UInt8)} {nn : St → Int → Int → St → Option St}
theorem BF {W:World} {base g:Nat} {v:Value} {l:List gV} (j:Nat) (u:Value) (h:xP.R 78 W base (fun _=>True) v l∧∃ cs,W.heap[g]?=some (.cells cs 31 (0,0))) :
    xP.R 78 (W.setCell ⟨g,j,none⟩ u) base (fun _=>True) v l∧∃ cs,(W.setCell ⟨g,j,none⟩ u).heap[g]?=some (.cells cs 31 (0,0)):=by
  obtain ⟨hR,cs,hB⟩:=h;exact ⟨Kd.dH (Kd.eX (Kd.dN hR hB (by decide)) (fun k hk=>hk.2) _) (fun _ _=>trivial),_,lN hB j u⟩
set_option maxHeartbeats 3200000 in
theorem R8 (r:gB) (ih:rP nm nn r):YQ nm nn r:=by
  intro M mb W A c hn hr hc h1 h5;have YC:=aA.mk ih;have HN:=aA.mk hn;have HG:=aA.mk hr;have HL:=aA.mk hc;have hy1:=bJ (aN (aN (Below.refl _ _) (.cells #[.int .i64 r.f0,.string r.f1,.slice A r.f2.length c] 25)) (.cells #[.int .i64 0,.int .i64 0,.int .i64 0,.int .i64 0,.slice none 0 0] 31)) h1;have hy5:=bJ (aN (aN (Below.refl _ _) (.cells #[.int .i64 r.f0,.string r.f1,.slice A r.f2.length c] 25)) (.cells #[.int .i64 0,.int .i64 0,.int .i64 0,.int .i64 0,.slice none 0 0] 31)) h5;obtain ⟨o,ho⟩ : ∃ o,qO nm nn r=o:=⟨_,rfl⟩;rw [ho];have HO:=aA.mk ho;clear ho ih hn hr hc h1 h5;go_enter Try.func36,Try.ntmps36;go_wp2_with (fail)
  go_region
  go_wp2_with (fail)
  go_at_call 66;refine (YC.out W.heap.size (W.heap.size+1+1) mb W _ A c (2,[]) 0 1 (by omega) (Nat.le_refl _) HN.out HG.out HL.out ?_ ?_ (by show (0:Int)≤2;omega)).mono ?_
  · refine ⟨.slice none 0 0,mK ?_,Kd.kJ _ _ _ _ _⟩
    have e:=dX ((W.alloc (.cells #[.int .i64 r.f0,.string r.f1,.slice A r.f2.length c] 25)).alloc (.cells #[.int .i64 0,.int .i64 0,.int .i64 0,.int .i64 0,.slice none 0 0] 31)) (.cells #[.int .i64 2,.int .i64 (nm.length:Int),.int .i64 0,.int .i64 1,.slice none 0 0,.map (some mb)] 71);unfold mkCells;simpa using e
  · exact vW (aN (aN (aN (Below.refl _ _) _) _) _)
  · rintro e w1 h1
    have hr4:((((W.alloc (.cells #[.int .i64 r.f0,.string r.f1,.slice A r.f2.length c] 25)).alloc (.cells #[.int .i64 0,.int .i64 0,.int .i64 0,.int .i64 0,.slice none 0 0] 31)).alloc (.cells #[.int .i64 2,.int .i64 (nm.length:Int),.int .i64 0,.int .i64 1,.slice none 0 0,.map (some mb)] 71)).drew).heap[W.heap.size+1]?=some (.cells #[.int .i64 0,.int .i64 0,.int .i64 0,.int .i64 0,.slice none 0 0] 31 (0,0)):=by
      refine mK (bH ?_ _);have e:=dX (W.alloc (.cells #[.int .i64 r.f0,.string r.f1,.slice A r.f2.length c] 25)) (.cells #[.int .i64 0,.int .i64 0,.int .i64 0,.int .i64 0,.slice none 0 0] 31);simpa using e
    have HR4:=aA.mk hr4;clear hr4 hy1 hy5;have ho:=HO.out;unfold qO at ho;rw [ho] at h1;cases o with
    |none =>
      obtain ⟨rfl,hb1⟩:=h1;have HB1:=aA.mk hb1;clear hb1 ho;go_wp2;exact ⟨rfl,rfl,HB1.out⟩
    |some s =>
      obtain ⟨rfl,⟨v,hm,hR⟩,hb1,ht1,_⟩:=h1;have HB1:=aA.mk hb1;have HM:=aA.mk hm;have HR:=aA.mk hR;have HX:=aA.mk (ht1.2 _ _ _ _ (by decide) (by decide) HR4.out);obtain ⟨A1,c1,rfl⟩:=Kd.dY hR;have hc0:w1.cell? ⟨W.heap.size+1+1,0,none⟩=some (.int .i64 s.1):=(aD HM.out 0).trans rfl;have hc1:w1.cell? ⟨W.heap.size+1+1,1,none⟩=some (.int .i64 (nm.length:Int)):=(aD HM.out 1).trans rfl;have hc2:w1.cell? ⟨W.heap.size+1+1,2,none⟩=some (.int .i64 0):=(aD HM.out 2).trans rfl;have hc3:w1.cell? ⟨W.heap.size+1+1,3,none⟩=some (.int .i64 1):=(aD HM.out 3).trans rfl;have hc4:w1.cell? ⟨W.heap.size+1+1,4,none⟩=some (.slice A1 s.2.length c1):=(aD HM.out 4).trans rfl;have hf0:=bF HX.out 0;have hf1:=bF HX.out 1;have hf2:=bF HX.out 2;have hf3:=bF HX.out 3;have hf4:=bF HX.out 4;have hd0:w1.cell? ⟨W.heap.size+1,0,none⟩=some (.int .i64 0):=(aD HX.out 0).trans rfl;have hd1:w1.cell? ⟨W.heap.size+1,1,none⟩=some (.int .i64 0):=(aD HX.out 1).trans rfl;have hd2:w1.cell? ⟨W.heap.size+1,2,none⟩=some (.int .i64 0):=(aD HX.out 2).trans rfl;have hd3:w1.cell? ⟨W.heap.size+1,3,none⟩=some (.int .i64 0):=(aD HX.out 3).trans rfl;have hd4:w1.cell? ⟨W.heap.size+1,4,none⟩=some (.slice none 0 0):=(aD HX.out 4).trans rfl;clear hm hR hb1 ht1 ho;go_wp2;refine bodyPost_ret (v:=.agg #[.int .i64 s.1,.int .i64 (nm.length:Int),.int .i64 0,.int .i64 1,.slice A1 s.2.length c1]) (by simp [results,Try.results36,go_sem,hd0,hd1,hd2,hd3,hd4]) rfl ⟨.slice A1 s.2.length c1,rfl,?_,?_⟩
      · exact (BF _ _ (BF _ _ (BF _ _ (BF _ _ (BF _ _ ⟨HR.out,_,HX.out⟩))))).1
      · exact ((((HB1.out.setCell (by simp) _).setCell (by simp) _).setCell (by simp) _).setCell (by simp) _).setCell (by simp) _
end Go.Proofs.Ytapinbmkjkbkkaa.Mk
namespace Go.Proofs.Ytapinbmkjkbkkaa.Mk
open Go.RowKit
theorem JW (p:Addr) (w:World) :
    CallsD Try.prog 34 #[.pointer (some p)] .returning w fun e u' w'=>e = .returned (.tuple #[])∧u' = .returning∧w'=w:=by
  refine callsD_of_wpS Try.func34 rfl fun c₀ cs hu=>?_;apply wpS_seq;apply wpS_region;simp [wpOpsS,go_sem,recoverD,hu,Try.ntmps34,Exit.thenS];rw [show (#[Value.pointer (some p)] ++ ((Array.replicate 18 undef).setIfInBounds 4 Value.nilIface).setIfInBounds 1 Value.nilIface:Array Value) = #[.pointer (some p),undef,.nilIface,undef,undef,.nilIface,undef,undef,undef,undef,undef,undef,undef,undef,undef,undef,undef,undef,undef] from by kernel_rfl];refine wpS_of_wp ?_;go_wp2;cases c₀
  simp_all [bodyPostS,results,Try.results34]
set_option maxRecDepth 100000 in
set_option maxHeartbeats 1000000 in
theorem JX (p:Addr) (x:Int) (older:List PanicEntry) (w:World) (hc:w.cell? p=some (.int .i64 x)) (hz:w.frozen? p=false) :
    CallsD Try.prog 34 #[.pointer (some p)] (.panicking ({ v:=.iface 32 (.int .i64 3),recovered:=false } :: older)) w fun e u' w' =>
      e = .returned (.tuple #[])∧u' = .panicking ({ v:=.iface 32 (.int .i64 3),recovered:=true } :: older)∧w'=w.setCell p (.int .i64 3):=by
  have hta : ∀ w,(Instr.typeAssert (.iface 32 (.int .i64 3)) 20 32 true).run Try.prog w = .ok (.tuple #[.int .i64 3,.bool true]) w:=fun _=>(by kernel_rfl);refine callsD_of_wpS Try.func34 rfl fun c₀ cs hu=>?_;apply wpS_seq;apply wpS_region;simp [wpOpsS,go_sem,recoverD,hu,Try.ntmps34,Exit.thenS];rw [show (#[Value.pointer (some p)] ++ ((Array.replicate 18 undef).setIfInBounds 4 (.iface 32 (.int .i64 3))).setIfInBounds 1 (.iface 32 (.int .i64 3)):Array Value) = #[.pointer (some p),undef,.iface 32 (.int .i64 3),undef,undef,.iface 32 (.int .i64 3),undef,undef,undef,undef,undef,undef,undef,undef,undef,undef,undef,undef,undef] from by kernel_rfl];refine wpS_of_wp ?_;go_wp2;simp [bodyPostS,results,Try.results34]
end Go.Proofs.Ytapinbmkjkbkkaa.Mk
namespace Go.Proofs.Ytapinbmkjkbkkaa.Mk
open Go.RowKit Go.Proofs.aC.bE Go.Proofs.aC.bV Go.Proofs.aC.bY Lb
def xO (s:ByteArray):Bool:=(dE.f 100 s).getD false
theorem yL (c:Int) : ∃ b,kT.f c=some b:=by
  unfold kT.f;repeat' split
  all_goals exact ⟨_,rfl⟩
theorem MZ (c:Int) : ∃ b,oG.f c=some b:=by
  unfold oG.f;repeat' split
  all_goals exact ⟨_,rfl⟩
theorem name_l0 (s:ByteArray) (hs:s.size≤64) : ∀ (d k:Nat) (i:Int),0≤i→i≤s.size→(s.size:Int) - i=d→d<k→∃ b,dE.l0 k s (s.size:Int) i=some b:=by
  intro d;induction d with
  |zero =>
    intro k i h0 h1 hd hk;obtain ⟨k,rfl⟩ : ∃ m,k=m+1:=⟨k - 1,by omega⟩;exact ⟨true,by simp only [dE.l0];rw [if_neg (by omega)]⟩
  |succ d ih =>
    intro k i h0 h1 hd hk;obtain ⟨k,rfl⟩ : ∃ m,k=m+1:=⟨k - 1,by omega⟩;obtain ⟨r,hr⟩:=ih k (i+1) (by omega) (by omega) (by omega) (by omega);have hw:wrap64 (i+1)=i+1:=(by unfold wrap64;omega);obtain ⟨b,hb⟩:=yL (bt s i);obtain ⟨c,hc⟩:=MZ (bt s i);simp only [dE.l0];rw [if_pos (by omega),if_pos h0,if_pos (by omega),hb,hc,hw,hr];cases b <;> cases c <;> simp
theorem GX (s:ByteArray):dE.f 100 s=some (xO s):=by
  have : ∃ b,dE.f 100 s=some b:=by
    unfold dE.f;have hj : ∀ t,s.size≤64→∃ b,dE.j0 100 s t=some b:=by
      intro t hs;rw [show (100:Nat)=99+1 from rfl];simp only [dE.j0];split
      · exact ⟨_,rfl⟩
      · exact name_l0 s hs s.size 99 0 (by omega) (by omega) (by omega) (by omega)
    have hj' : ∃ b,dE.j0 100 s true=some b:=⟨false,by rw [show (100:Nat)=99+1 from rfl];simp only [dE.j0];rfl⟩;split
    · exact hj'
    · split
      · exact hj'
      · rename_i h1 h2
        have hpos:0<s.size:=by
          rcases Nat.eq_zero_or_pos s.size with h|h
          · exfalso
            apply h1;have h3:s.data.size=0:=h;have h4:s.data = #[]:=Array.eq_empty_of_size_eq_zero h3;show s.toList=[];unfold ByteArray.toList ByteArray.toList.loop;simp [h]
          · exact h
        rw [if_pos (by omega)];obtain ⟨b,hb⟩:=yL (bt s 0);rw [hb];exact hj _ (by omega)
  obtain ⟨b,hb⟩:=this;unfold xO;rw [hb];rfl
mutual
def gX:gB→Bool
  |⟨op,nm,ks⟩ =>
    if op=1 then xO nm && ks.isEmpty
    else if op=2∨op=3∨op=4 then nm.toList.isEmpty && ks.isEmpty
    else if op=7∨op=8 then nm.toList.isEmpty && ks.length==1 && R7 ks
    else if op=5∨op=6 then nm.toList.isEmpty && decide (2≤ks.length) && !P5 op ks
    else false
def R7:List gB→Bool
  |[]=>false
  |k :: _=>gX k
def P5 (op:Int):List gB→Bool
  |[]=>false
  |k :: ks=>(k.f0==op || !gX k) || P5 op ks
end
theorem oZ (op:Int) (nm:ByteArray) (ks:List gB):gX ⟨op,nm,ks⟩=(if op=1 then xO nm && ks.isEmpty
    else if op=2∨op=3∨op=4 then nm.toList.isEmpty && ks.isEmpty
    else if op=7∨op=8 then nm.toList.isEmpty && ks.length==1 && R7 ks
    else if op=5∨op=6 then nm.toList.isEmpty && decide (2≤ks.length) && !P5 op ks
    else false):=by rw [gX]
def sQ (r:gB):Prop:=∀ (w:World) (A:Option Addr) (c:Nat),Kd.C k25 w A r.f2.length r.f2→r.f2.length≤c →
  Calls Try.prog 65 #[.agg #[.int .i64 r.f0,.string r.f1,.slice A r.f2.length c]] w fun e w'=>e = .returned (.bool (gX r))∧Below w.heap.size w w'
set_option maxHeartbeats 800000 in
theorem right_name (nm:ByteArray) (ks:List gB):sQ ⟨1,nm,ks⟩:=by
  intro w A c hr hc;rw [oZ,if_pos rfl];show Calls Try.prog 65 #[.agg #[.int .i64 1,.string nm,.slice A ks.length c]] w _;have hn:=GX nm;cases hb:xO nm with
  |false =>
    rw [hb] at hn;have HN:=Lib.hid hn;clear hn hb hr;go_enter Try.func65,Try.ntmps65;go_wp2_with (go_at_call 80;refine (dE.calls 100 nm false _ HN.out).mono ?_;rintro e w' ⟨rfl,⟨nd,rfl⟩⟩)
    go_ret;exact ⟨rfl,by repeat (first|exact Below.refl _ _|apply aN|apply bB)⟩
  |true =>
    rw [hb] at hn;have HN:=Lib.hid hn;clear hn hb hr;have e0:(((ks.length:Int))==0)=ks.isEmpty:=(by cases ks <;> simp <;> omega);go_enter Try.func65,Try.ntmps65;go_wp2_with (go_at_call 80;refine (dE.calls 100 nm true _ HN.out).mono ?_;rintro e w' ⟨rfl,⟨nd,rfl⟩⟩)
    go_ret;exact ⟨rfl,by repeat (first|exact Below.refl _ _|apply aN|apply bB)⟩
set_option maxHeartbeats 800000 in
theorem right_leaf (op:Int) (nm:ByteArray) (ks:List gB) (h:op=2∨op=3∨op=4):sQ ⟨op,nm,ks⟩:=by
  intro w A c hr hc;have h1 : ¬ op=1:=(by omega);rw [oZ,if_neg h1,if_pos h];show Calls Try.prog 65 #[.agg #[.int .i64 op,.string nm,.slice A ks.length c]] w _;have e0:(((ks.length:Int))==0)=ks.isEmpty:=(by cases ks <;> simp <;> omega);clear hr h1;rcases h with rfl|rfl|rfl
  all_goals
    cases hb:nm.toList with
    |nil =>
      go_enter Try.func65,Try.ntmps65;go_wp2;go_ret;exact ⟨rfl,by repeat (first|exact Below.refl _ _|apply aN|apply bB)⟩
    |cons x xs =>
      go_enter Try.func65,Try.ntmps65;go_wp2;go_ret;exact ⟨rfl,by repeat (first|exact Below.refl _ _|apply aN|apply bB)⟩
theorem right_other (op:Int) (nm:ByteArray) (ks:List gB) (h : ¬ (1≤op∧op≤8)):sQ ⟨op,nm,ks⟩:=by
  intro w A c hr hc;rw [oZ,if_neg (by omega),if_neg (by omega),if_neg (by omega),if_neg (by omega)];show Calls Try.prog 65 #[.agg #[.int .i64 op,.string nm,.slice A ks.length c]] w _;have n1:(op==1)=false:=(by simp;omega);have n2:(op==2)=false:=(by simp;omega);have n3:(op==3)=false:=(by simp;omega);have n4:(op==4)=false:=(by simp;omega);have n5:(op==5)=false:=(by simp;omega);have n6:(op==6)=false:=(by simp;omega);have n7:(op==7)=false:=(by simp;omega);have n8:(op==8)=false:=(by simp;omega);clear hr h;go_enter Try.func65,Try.ntmps65;go_wp2;go_ret;exact ⟨rfl,by repeat (first|exact Below.refl _ _|apply aN|apply bB)⟩
set_option maxHeartbeats 800000 in
theorem right_one (op:Int) (nm:ByteArray) (ks:List gB) (h:op=7∨op=8) (ih : ∀ k,k∈ks→sQ k):sQ ⟨op,nm,ks⟩:=by
  intro w A c hr hc;rw [oZ,if_neg (by omega),if_neg (by omega),if_pos h];show Calls Try.prog 65 #[.agg #[.int .i64 op,.string nm,.slice A ks.length c]] w _;have hr':Kd.C k25 w A ks.length ks:=hr;clear hr;cases hb:nm.toList with
  |cons x xs =>
    clear hr';rcases h with rfl|rfl
    all_goals
      go_enter Try.func65,Try.ntmps65;go_wp2;go_ret;exact ⟨rfl,by repeat (first|exact Below.refl _ _|apply aN|apply bB)⟩
  |nil =>
    by_cases hl:ks.length=1
    · obtain ⟨k,rfl⟩ : ∃ k,ks=[k]:=List.length_eq_one_iff.mp hl
      have hk:=ih k (by simp);obtain ⟨ad,A2,c2,rfl,hx0,hx1,hx2,hl2,hg2⟩:=mE hr' 0 (by omega) (by simp);have hrd:bL [k] 0=k:=rfl;rw [hrd] at hx0 hx1 hx2 hl2 hg2;have HG:=aA.mk hg2;have HK:=aA.mk hk;have HL:=aA.mk hl2;have ha:ad.add 0=ad:=(by unfold Addr.add;simp);simp only [Int.toNat_zero,Nat.zero_mul,ha] at hx0 hx1 hx2;have hy0:=bJ (aN (Below.refl _ _) (.cells #[.int .i64 op,.string nm,.slice (some ad) 1 c] 25)) hx0;have hy1:=bJ (aN (Below.refl _ _) (.cells #[.int .i64 op,.string nm,.slice (some ad) 1 c] 25)) hx1;have hy2:=bJ (aN (Below.refl _ _) (.cells #[.int .i64 op,.string nm,.slice (some ad) 1 c] 25)) hx2;clear hx0 hx1 hx2 ha hrd;clear hr' hk hg2 ih hl hl2;rcases h with rfl|rfl
      all_goals
        go_enter Try.func65,Try.ntmps65;go_wp2_with (go_at_call 65;refine (HK.out _ A2 c2 (Kd.dJ HG.out (aN (Below.refl _ _) _)) HL.out).mono ?_;rintro e w1 ⟨rfl,hb1⟩;have HB1:=aA.mk hb1;clear hb1)
        go_ret;exact ⟨rfl,bU (aN (Below.refl _ _) _) (by simp) HB1.out⟩
    · have e0:(((ks.length:Int))==1)=false:=by simp;omega
      have e1:(ks.length==1)=false:=(by simp;omega);clear hr' hl;rcases h with rfl|rfl
      all_goals
        go_enter Try.func65,Try.ntmps65;go_wp2;go_ret;exact ⟨rfl,by repeat (first|exact Below.refl _ _|apply aN|apply bB)⟩
set_option maxHeartbeats 800000 in
theorem TP (k:gB) (op:Int) (B:Nat) (A2:Option Addr) (c2:Nat) (w:World) (hk:sQ k) (hg:Kd.C k25 w A2 k.f2.length k.f2) (hl:k.f2.length≤c2) (hc:w.cell? ⟨B,0,none⟩=some (.int .i64 op)) :
    Calls Try.prog 82 #[.agg #[.int .i64 k.f0,.string k.f1,.slice A2 k.f2.length c2],.pointer (some ⟨B,0,none⟩)] w fun e w'=>e = .returned (.bool (k.f0==op || !gX k))∧Below w.heap.size w w':=by
  have HG:=aA.mk hg;have HK:=aA.mk hk;have HL:=aA.mk hl;have hy0:=bJ (aN (Below.refl _ _) (.cells #[.int .i64 k.f0,.string k.f1,.slice A2 k.f2.length c2] 25)) hc;clear hk hg hl hc;by_cases he:k.f0=op
  · have e0:(k.f0==op)=true:=by simp [he]
    clear he;go_enter Try.func82,Try.ntmps82;go_wp2;go_ret;exact ⟨by rw [e0];rfl,by repeat (first|exact Below.refl _ _|apply aN|apply bB)⟩
  · have e0:(k.f0==op)=false:=by simp [he]
    clear he;go_enter Try.func82,Try.ntmps82;go_wp2_with (go_at_call 65;refine (HK.out _ A2 c2 (Kd.dJ HG.out (aN (Below.refl _ _) _)) HL.out).mono ?_;rintro e w1 ⟨rfl,hb1⟩;have HB1:=aA.mk hb1;clear hb1)
    go_ret;exact ⟨by rw [e0];rfl,bU (aN (Below.refl _ _) _) (by simp) HB1.out⟩
theorem badF_step (op:Int) (l:List gB) (k:Nat) (h:k<l.length):P5 op (l.drop k)=((((bL l k).f0==op) || !gX (bL l k)) || P5 op (l.drop (k+1))):=by
  rw [List.drop_eq_getElem_cons h,P5];unfold bL;simp [List.getElem?_eq_getElem h]
theorem badF_end (op:Int) (l:List gB) (k:Nat) (h:l.length≤k):P5 op (l.drop k)=false:=by
  rw [List.drop_eq_nil_of_le h,P5]
set_option maxHeartbeats 1600000 in
theorem QK (op:Int) (l:List gB) (A:Option Addr) (c B:Nat) (w:World) (ih : ∀ k,k∈l→sQ k) (hr:Kd.C k25 w A l.length l)
    (hc:w.cell? ⟨B,0,none⟩=some (.int .i64 op)) :
    Calls Try.prog 93 #[.slice A l.length c,.func (.func 82) #[] #[.pointer (some ⟨B,0,none⟩)]] w fun e w'=>∃ i:Int,e = .returned (.int .i64 i)∧decide (0≤i)=P5 op l∧Below w.heap.size w w':=by
  have hl:l.length≤9223372036854775807:=hr.2.1;have HR:=aA.mk hr;have HC:=aA.mk hc;have HI:=aA.mk ih;clear hr hc ih;go_enter Try.func93,Try.ntmps93;go_wp2;go_loopw [5,8] (fun _ i wr=>∃ k:Nat,k≤l.length∧i = .int .i64 k∧aA (P5 op l=P5 op (l.drop k))∧aA (Below w.heap.size w wr)) (fun _ i _=>l.length - (intOf i).toNat)
  case atStart=>exact ⟨0,Nat.zero_le _,rfl,⟨rfl⟩,⟨Below.refl _ _⟩⟩
  case round =>
    obtain ⟨k,hk,rfl,hbad,HB⟩:=hrel;by_cases hlt:k<l.length
    · obtain ⟨ad,A2,c2,rfl,hx0,hx1,hx2,hl2,hg2⟩:=mE HR.out (k:Int) (by omega) (by omega)
      rw [Int.toNat_natCast] at hx0 hx1 hx2;have hy0:=bJ HB.out hx0;have hy1:=bJ HB.out hx1;have hy2:=bJ HB.out hx2;have HG:=aA.mk (Kd.dJ hg2 HB.out);have HL:=aA.mk hl2;have HK:=aA.mk (HI.out (bL l k) (by unfold bL;simp [List.getElem?_eq_getElem hlt]));have HS:=aA.mk (badF_step op l k hlt);have OO:=aA.mk (bJ HB.out HC.out);clear hx0 hx1 hx2 hl2 hg2;cases hb:(((bL l k).f0==op) || !gX (bL l k)) with
      |true =>
        have ZI:=Lib.hid hb;clear hb;go_wp2_with (go_at_call 82;refine (TP (bL l k) op B A2 c2 _ HK.out HG.out HL.out OO.out).mono ?_;rintro e w1 ⟨rfl,hb1⟩;have HB1:=aA.mk hb1;clear hb1;rw [ZI.out])
        go_ret;exact ⟨_,rfl,by rw [hbad.out,HS.out,ZI.out];simp,bU HB.out HB.out.size HB1.out⟩
      |false =>
        have ZI:=Lib.hid hb;clear hb;go_wp2_with (go_at_call 82;refine (TP (bL l k) op B A2 c2 _ HK.out HG.out HL.out OO.out).mono ?_;rintro e w1 ⟨rfl,hb1⟩;have HB1:=aA.mk hb1;clear hb1;rw [ZI.out])
        go_roundw
        case rel=>exact ⟨k+1,by omega,by go_num,⟨by rw [hbad.out,HS.out,ZI.out];simp⟩,⟨bU HB.out HB.out.size HB1.out⟩⟩
        case measure=>simp [intOf];omega
    · have hge:l.length≤k:=by omega
      have HE:=aA.mk (badF_end op l k hge);go_wp2;go_ret;exact ⟨_,rfl,by rw [hbad.out,HE.out];rfl,HB.out⟩
set_option maxHeartbeats 400000 in
theorem GD (op:Int) (l:List gB) (A:Option Addr) (c B:Nat) (w:World) (ih : ∀ k,k∈l→sQ k) (hr:Kd.C k25 w A l.length l)
    (hc:w.cell? ⟨B,0,none⟩=some (.int .i64 op)) :
    Calls Try.prog 81 #[.slice A l.length c,.func (.func 82) #[] #[.pointer (some ⟨B,0,none⟩)]] w fun e w'=>e = .returned (.bool (P5 op l))∧Below w.heap.size w w':=by
  have HR:=aA.mk hr;have HC:=aA.mk hc;have HI:=aA.mk ih;clear hr hc ih;go_enter Try.func81,Try.ntmps81;go_wp2_with (go_at_call 93;refine (QK op l A c B _ HI.out HR.out HC.out).mono ?_;rintro e w' ⟨i,rfl,hi,hb⟩;have HB:=aA.mk hb;clear hb)
  go_ret;exact ⟨rfl,HB.out⟩
set_option maxHeartbeats 1600000 in
theorem right_many (op:Int) (nm:ByteArray) (ks:List gB) (h:op=5∨op=6) (ih : ∀ k,k∈ks→sQ k):sQ ⟨op,nm,ks⟩:=by
  intro w A c hr hc;rw [oZ,if_neg (by omega),if_neg (by omega),if_neg (by omega),if_pos h];show Calls Try.prog 65 #[.agg #[.int .i64 op,.string nm,.slice A ks.length c]] w _;have hmf : ∀ (fn:Fn) (first cap:Array Value) (w:World),(Instr.makeFunc fn first cap).run Try.prog w = .ok (.func fn first cap) w:=fun _ _ _ _=>rfl;have hr':Kd.C k25 w A ks.length ks:=hr;have hm:ks.length≤9223372036854775807:=hr'.2.1;clear hr;cases hb:nm.toList with
  |cons x xs =>
    clear hr' ih;rcases h with rfl|rfl
    all_goals
      go_enter Try.func65,Try.ntmps65;go_wp2;go_ret;exact ⟨rfl,by repeat (first|exact Below.refl _ _|apply aN|apply bB)⟩
  |nil =>
    by_cases hl:2≤ks.length
    · have e0:decide ((2:Int)≤(ks.length:Int))=true:=decide_eq_true (by omega)
      have e1:decide (2≤ks.length)=true:=decide_eq_true hl;have HX:=aA.mk (GD op ks A c w.heap.size _ ih (Kd.dJ hr' (aN (Below.refl _ _) (.cells #[.int .i64 op,.string nm,.slice A ks.length c] 25))) ((aD (dX _ _) 0).trans rfl));clear hr' ih hl;rcases h with rfl|rfl
      all_goals
        go_enter Try.func65,Try.ntmps65;go_wp2_with (go_at_call 81;refine HX.out.mono ?_;rintro e w1 ⟨rfl,hb1⟩;have HB1:=aA.mk hb1;clear hb1)
        go_ret;exact ⟨by first|rfl|(rw [e1];rfl),bU (aN (Below.refl _ _) _) (by simp) HB1.out⟩
    · have e0:decide ((2:Int)≤(ks.length:Int))=false:=decide_eq_false (by omega)
      have e1:decide (2≤ks.length)=false:=decide_eq_false hl;clear hr' hl;rcases h with rfl|rfl
      all_goals
        go_enter Try.func65,Try.ntmps65;go_wp2;go_ret;exact ⟨by first|rfl|(rw [e1];rfl),by repeat (first|exact Below.refl _ _|apply aN|apply bB)⟩
theorem right_ok : ∀ (n:Nat) (r:gB),SizeOf.sizeOf r≤n→sQ r:=by
  intro n;induction n with
  |zero=>intro r h;cases r;simp at h
  |succ n ih =>
    intro r h;obtain ⟨op,nm,ks⟩:=r;have hk : ∀ k,k∈ks→sQ k:=by
      intro k hk;apply ih;have:=List.sizeOf_lt_of_mem hk;simp at h;omega
    by_cases h1:op=1
    · subst h1;exact right_name nm ks
    · by_cases h2:op=2∨op=3∨op=4
      · exact right_leaf op nm ks h2
      · by_cases h3:op=7∨op=8
        · exact right_one op nm ks h3 hk
        · by_cases h4:op=5∨op=6
          · exact right_many op nm ks h4 hk
          · exact right_other op nm ks (by omega)
def sS (k:Nat) (op:Int) (nm:ByteArray) (ks:List gB):Option Int :=
  (dQ.f k op nm ks 1).map fun m=>if m.2=true then (if gX ⟨op,nm,ks⟩=true then 0 else 70) else 71
set_option maxHeartbeats 800000 in
theorem yX (k:Nat) (op:Int) (nm:ByteArray) (ks:List gB) (A:Option Addr) (c:Nat) (r:Int) (w:World) (hr:Kd.C k25 w A ks.length ks) (hc:ks.length≤c) (h:sS k op nm ks=some r) :
    Calls Try.prog 35 #[.agg #[.int .i64 op,.string nm,.slice A ks.length c]] w fun e w'=>e = .returned (.int .i64 r)∧Below w.heap.size w w':=by
  have HR:=aA.mk hr;have HC:=aA.mk hc;unfold sS at h;obtain ⟨⟨m,ok⟩,hm,h⟩:=Option.map_eq_some_iff.mp h;have HM:=aA.mk hm;have HO:=aA.mk (right_ok _ ⟨op,nm,ks⟩ (Nat.le_refl _));clear hr hc hm;cases ok with
  |false =>
    obtain rfl:71=r:=h;go_enter Try.func35,Try.ntmps35;go_wp2_with (go_at_call 64;refine (dQ.calls k op nm A c ks 1 m false _ (Kd.dJ HR.out (aN (Below.refl _ _) _)) HC.out HM.out).mono ?_;rintro e w1 ⟨rfl,hb1⟩;have HB1:=aA.mk (bU (aN (Below.refl _ _) _) (by simp) hb1);clear hb1)
    go_ret;exact ⟨rfl,HB1.out⟩
  |true =>
    have H:(if gX ⟨op,nm,ks⟩=true then (0:Int) else 70)=r:=h;clear h;have HBX : ∀ j v,(#[.int .i64 op,.string nm,.slice A ks.length c]:Array Value)[j]?=some v→(w.alloc (.cells #[.int .i64 op,.string nm,.slice A ks.length c] 25)).cell? ⟨w.heap.size,j,none⟩=some v:=fun j v hj=>(aD (dX _ _) j).trans hj;have HX:=aA.mk HBX;clear HBX;cases hb:gX ⟨op,nm,ks⟩ with
    |true =>
      have ZI:=Lib.hid hb;rw [hb] at H;obtain rfl:(0:Int)=r:=H;clear hb;go_enter Try.func35,Try.ntmps35;go_wp2_with (first|(go_at_call 64;refine (dQ.calls k op nm A c ks 1 m true _ (Kd.dJ HR.out (aN (Below.refl _ _) _)) HC.out HM.out).mono ?_;rintro e w1 ⟨rfl,hb1⟩;have HB1:=aA.mk (bU (aN (Below.refl _ _) _) (by simp) hb1);have hc0:=bJ hb1 (HX.out 0 _ rfl);have hc1:=bJ hb1 (HX.out 1 _ rfl);have hc2:=bJ hb1 (HX.out 2 _ rfl);clear hb1)|(go_at_call 65;refine (HO.out _ A c (Kd.dJ HR.out HB1.out) HC.out).mono ?_;rintro e w2 ⟨rfl,hb2⟩;have HB2:=aA.mk (bU HB1.out HB1.out.size hb2);clear hb2;rw [ZI.out]))
      go_ret;exact ⟨rfl,HB2.out⟩
    |false =>
      have ZI:=Lib.hid hb;rw [hb] at H;obtain rfl:(70:Int)=r:=H;clear hb;go_enter Try.func35,Try.ntmps35;go_wp2_with (first|(go_at_call 64;refine (dQ.calls k op nm A c ks 1 m true _ (Kd.dJ HR.out (aN (Below.refl _ _) _)) HC.out HM.out).mono ?_;rintro e w1 ⟨rfl,hb1⟩;have HB1:=aA.mk (bU (aN (Below.refl _ _) _) (by simp) hb1);have hc0:=bJ hb1 (HX.out 0 _ rfl);have hc1:=bJ hb1 (HX.out 1 _ rfl);have hc2:=bJ hb1 (HX.out 2 _ rfl);clear hb1)|(go_at_call 65;refine (HO.out _ A c (Kd.dJ HR.out HB1.out) HC.out).mono ?_;rintro e w2 ⟨rfl,hb2⟩;have HB2:=aA.mk (bU HB1.out HB1.out.size hb2);clear hb2;rw [ZI.out]))
      go_ret;exact ⟨rfl,HB2.out⟩
end Go.Proofs.Ytapinbmkjkbkkaa.Mk
namespace Go.Proofs.Ytapinbmkjkbkkaa.Mk
open Go.RowKit Go.Proofs.aC.bE Go.Proofs.aC.bV Go.Proofs.aC.bY Lb
def FinB (W0:World) (r1 r2 r3 r4:Int) (r5:List gV) (r6:Int) (e:Ending) (W:World):Prop :=
  ∃ v,e = .returned (.tuple #[.agg #[.int .i64 r1,.int .i64 r2,.int .i64 r3,.int .i64 r4,v],.int .i64 r6])∧xP.R 78 W W0.heap.size (fun _=>True) v r5∧Below W0.heap.size W0 W
def X3 (W:World) (o2:Obj):World:=((W.alloc o2).alloc (.cells #[.int .i64 0,.int .i64 0,.int .i64 0,.int .i64 0,.slice none 0 0] 31)).alloc (.cells #[.int .i64 0] 32)
theorem vars3_2 (W:World) (o2:Obj):(X3 W o2).heap[W.heap.size]?=some o2:=bH (bH (dX _ _) _) _
theorem vars3_4 (W:World) (o2:Obj):(X3 W o2).heap[W.heap.size+1]?=some (.cells #[.int .i64 0,.int .i64 0,.int .i64 0,.int .i64 0,.slice none 0 0] 31):=by
  have e:=dX (W.alloc o2) (.cells #[.int .i64 0,.int .i64 0,.int .i64 0,.int .i64 0,.slice none 0 0] 31);exact bH (by simpa using e) _
theorem vars3_5 (W:World) (o2:Obj):(X3 W o2).heap[W.heap.size+1+1]?=some (.cells #[.int .i64 0] 32):=by
  have e:=dX ((W.alloc o2).alloc (.cells #[.int .i64 0,.int .i64 0,.int .i64 0,.int .i64 0,.slice none 0 0] 31)) (.cells #[.int .i64 0] 32);simpa [X3] using e
theorem KC (W:World) (o2:Obj):Below W.heap.size W (X3 W o2):=aN (aN (aN (Below.refl _ _) _) _) _
theorem vars3_size (W:World) (o2:Obj):(X3 W o2).heap.size=W.heap.size+1+1+1:=by simp [X3]
theorem QL (tmps:Array Value) (w:World) (g g':Nat) (cs:Array Value) (x:Value) (hp:tmps.getD 4 undef = .pointer (some ⟨g,0,none⟩)) (hg:w.heap[g]?=some (.cells cs 31 (0,0))) (hs:cs.size=5)
    (hp':tmps.getD 5 undef = .pointer (some ⟨g',0,none⟩)) (hc':w.cell? ⟨g',0,none⟩=some x):(results Try.f11 tmps).run Try.prog w = .ok (.tuple #[.agg cs,x]) w:=by
  have h1:tmps[4]?.getD undef = .pointer (some ⟨g,0,none⟩):=(by simpa using hp);have h2:tmps[5]?.getD undef = .pointer (some ⟨g',0,none⟩):=(by simpa using hp');have hi:(Try.prog.info? 31).map (·.size)=some 5:=(by kernel_rfl);have hrow:=run_loadVar_row (P:=Try.prog) w g 31 31 cs (0,0) _ hg Try.underlying31 rfl (by rw [hi,hs]);have hrow2:(loadVar 32 ⟨g',0,none⟩).run Try.prog w = .ok x w:=(by simp [go_sem,hc']);simp [results,Try.results11,h1,h2,asAddr,hrow,hrow2]
theorem zV (tmps:Array Value) (w:World) (g g':Nat) (cs:Array Value) (x:Value) (hp:tmps.getD 4 undef = .pointer (some ⟨g,0,none⟩)) (hg:w.heap[g]?=some (.cells cs 31 (0,0))) (hs:cs.size=5)
    (hp':tmps.getD 5 undef = .pointer (some ⟨g',0,none⟩)) (hc':w.cell? ⟨g',0,none⟩=some x) (R:Ending→World→Prop) (hK:R (.returned (.tuple #[.agg cs,x])) w) :
    bodyPostD Try.prog Try.f11 R Exit.ret { tmps:=tmps,defers:=[{ target:=Target.fn (Fn.func 34) #[],args:=#[.pointer (some ⟨g',0,none⟩)] }] } w:=by
  refine leaves_cons (f:=34) (args:=#[.pointer (some ⟨g',0,none⟩)]) (by simp) (by simp [go_sem]) ?_;refine (JW ⟨g',0,none⟩ _).mono ?_;rintro e u' w'' ⟨rfl,rfl,rfl⟩;exact ⟨_,QL tmps _ g g' cs x hp hg hs hp' hc',hK⟩
theorem door_many (tmps:Array Value) (w:World) (g g':Nat) (cs:Array Value) (x:Int) (hp:tmps.getD 4 undef = .pointer (some ⟨g,0,none⟩)) (hg:w.heap[g]?=some (.cells cs 31 (0,0))) (hs:cs.size=5)
    (hp':tmps.getD 5 undef = .pointer (some ⟨g',0,none⟩)) (hc':w.heap[g']?=some (.cells #[.int .i64 x] 32 (0,0))) (R:Ending→World→Prop) (hK:R (.returned (.tuple #[.agg cs,.int .i64 3])) (w.setCell ⟨g',0,none⟩ (.int .i64 3))) :
    bodyPostD Try.prog Try.f11 R (Exit.panic [{ v:=.iface 32 (.int .i64 3),recovered:=false }]) { tmps:=tmps,defers:=[{ target:=Target.fn (Fn.func 34) #[],args:=#[.pointer (some ⟨g',0,none⟩)] }] } w:=by
  refine leaves_cons (f:=34) (args:=#[.pointer (some ⟨g',0,none⟩)]) (by simp) (by simp [go_sem]) ?_;refine (JX ⟨g',0,none⟩ x [] _ ((aD hc' 0).trans rfl) (bF hc' 0)).mono ?_;rintro e u' w'' ⟨rfl,rfl,rfl⟩;refine ⟨_,QL tmps _ g g' cs (.int .i64 3) hp ?_ hs hp' ?_,hK⟩
  · exact bR hg (mZ hg hc' (by decide)) _
  · exact (aD (lN hc' 0 _) 0).trans rfl
def setA (w:World) (g:Nat) (x0 x1 x2 x3 x4:Value):World:=((((w.setCell ⟨g,0,none⟩ x0).setCell ⟨g,1,none⟩ x1).setCell ⟨g,2,none⟩ x2).setCell ⟨g,3,none⟩ x3).setCell ⟨g,4,none⟩ x4
theorem X4 {w:World} {g:Nat} {a0 a1 a2 a3 a4:Value} (h:w.heap[g]?=some (.cells #[a0,a1,a2,a3,a4] 31 (0,0))) (x0 x1 x2 x3 x4:Value):(setA w g x0 x1 x2 x3 x4).heap[g]?=some (.cells #[x0,x1,x2,x3,x4] 31 (0,0)) :=
  dF (dF (dF (dF (dF h 0 x0 rfl) 1 x1 rfl) 2 x2 rfl) 3 x3 rfl) 4 x4 rfl
theorem zW {w:World} {g g':Nat} {cs:Array Value} {t:TypeId} (h:w.heap[g']?=some (.cells cs t (0,0))) (hne:g'≠g) (x0 x1 x2 x3 x4:Value):(setA w g x0 x1 x2 x3 x4).heap[g']?=some (.cells cs t (0,0)) :=
  bR (bR (bR (bR (bR h hne _) hne _) hne _) hne _) hne _
theorem setA_R {w:World} {g base:Nat} {cs:Array Value} {v:Value} {l:List gV} (hR:xP.R 78 w base (fun _=>True) v l) (h:w.heap[g]?=some (.cells cs 31 (0,0))) (x0 x1 x2 x3 x4:Value):xP.R 78 (setA w g x0 x1 x2 x3 x4) base (fun _=>True) v l :=
  (BF 4 x4 (BF 3 x3 (BF 2 x2 (BF 1 x1 (BF 0 x0 ⟨hR,_,h⟩))))).1
theorem yE {B g:Nat} {w W:World} (h:Below B W w) (hg:B≤g) (x0 x1 x2 x3 x4:Value):Below B W (setA w g x0 x1 x2 x3 x4) :=
  ((((h.setCell hg _).setCell hg _).setCell hg _).setCell hg _).setCell hg _
set_option maxHeartbeats 1600000 in
theorem build_bad (k:Nat) (r:gB) (A:Option Addr) (c:Nat) (N:Value) (err:Int) (W:World) (hr:Kd.C k25 W A r.f2.length r.f2) (hc:r.f2.length≤c) (h:sS k r.f0 r.f1 r.f2=some err) (hne:err≠0) :
    Calls Try.prog 11 #[.agg #[.int .i64 r.f0,.string r.f1,.slice A r.f2.length c],N] W (FinB W 0 0 0 0 [] err):=by
  have HC:=aA.mk hc;have HR:=aA.mk hr;have HH:=aA.mk h;have hb:(err != 0)=true:=(by simp [hne]);have HV2:=aA.mk (vars3_2 W (.cells #[.int .i64 r.f0,.string r.f1,.slice A r.f2.length c] 25));have HV4:=aA.mk (vars3_4 W (.cells #[.int .i64 r.f0,.string r.f1,.slice A r.f2.length c] 25));have HV5:=aA.mk (vars3_5 W (.cells #[.int .i64 r.f0,.string r.f1,.slice A r.f2.length c] 25));have YF:=aA.mk (KC W (.cells #[.int .i64 r.f0,.string r.f1,.slice A r.f2.length c] 25));clear hr hc h hne;go_enter_defers Try.func11,Try.ntmps11
  go_wp2_with (fail)
  go_at_call 35;refine (yX k r.f0 r.f1 r.f2 A c err _ (Kd.dJ HR.out YF.out) HC.out HH.out).mono ?_;rintro e w1 ⟨rfl,hb1⟩;have hb1':Below (X3 W (.cells #[.int .i64 r.f0,.string r.f1,.slice A r.f2.length c] 25)).heap.size (X3 W (.cells #[.int .i64 r.f0,.string r.f1,.slice A r.f2.length c] 25)) w1:=hb1;have B4:=aA.mk (bK HV4.out hb1');have B5:=aA.mk (bK HV5.out hb1');have HB1:=aA.mk (bU YF.out YF.out.size hb1');clear hb1 hb1';have hc40:w1.cell? ⟨W.heap.size+1,0,none⟩=some (.int .i64 0):=(aD B4.out 0).trans rfl;have hc41:w1.cell? ⟨W.heap.size+1,1,none⟩=some (.int .i64 0):=(aD B4.out 1).trans rfl;have hc42:w1.cell? ⟨W.heap.size+1,2,none⟩=some (.int .i64 0):=(aD B4.out 2).trans rfl;have hc43:w1.cell? ⟨W.heap.size+1,3,none⟩=some (.int .i64 0):=(aD B4.out 3).trans rfl;have hc44:w1.cell? ⟨W.heap.size+1,4,none⟩=some (.slice none 0 0):=(aD B4.out 4).trans rfl;have hc50:w1.cell? ⟨W.heap.size+1+1,0,none⟩=some (.int .i64 0):=(aD B5.out 0).trans rfl;have hf0:=bF B4.out 0;have hf1:=bF B4.out 1;have hf2:=bF B4.out 2;have hf3:=bF B4.out 3;have hf4:=bF B4.out 4;have hf5:=bF B5.out 0;go_wp2;have hne:W.heap.size+1+1≠W.heap.size+1:=(by omega);refine zV _ _ (W.heap.size+1) (W.heap.size+1+1) #[.int .i64 0,.int .i64 0,.int .i64 0,.int .i64 0,.slice none 0 0] (.int .i64 err) rfl ?_ rfl rfl ?_ _ ?_
  · exact bR (X4 B4.out _ _ _ _ _) hne.symm _
  · exact (aD (lN (zW B5.out hne _ _ _ _ _) 0 _) 0).trans rfl
  · exact ⟨.slice none 0 0,rfl,Kd.kJ _ _ _ _ _,(yE HB1.out (by omega) _ _ _ _ _).setCell (by simp;omega) _⟩
theorem QM (s:ByteArray):sS 5 1 s []=some (if xO s=true then 0 else 70):=by
  have hm:dQ.f 5 1 s [] 1=some (1,true):=by
    simp [dQ.f,dQ.l0]
  unfold sS;rw [hm,oZ];simp
def iU:List (List UInt8)→List ByteArray→Bool
  |_,[]=>true
  |seen,s :: ss=>!decide (nk s∈seen) && xO s && iU (seen ++ [nk s]) ss
theorem wX (names:List ByteArray) (k:Nat) (h:k<names.length):iU ((names.take k).map nk) (names.drop k) =
    (!decide (nk (fF ByteArray.empty names k)∈(names.take k).map nk) && xO (fF ByteArray.empty names k) && iU ((names.take (k+1)).map nk) (names.drop (k+1))):=by
  have e:fF ByteArray.empty names k=names[k]:=(by simp [fF,List.getElem?_eq_getElem h]);rw [List.drop_eq_getElem_cons h,iU,e,List.take_succ_eq_append_getElem h,List.map_append];rfl
theorem JI (names:List ByteArray) (k:Nat) (h:names.length≤k):iU ((names.take k).map nk) (names.drop k)=true:=by
  rw [List.drop_eq_nil_of_le h,iU]
set_option maxHeartbeats 6400000 in
theorem JF (k:Nat) (r:gB) (A:Option Addr) (c:Nat) (names:List ByteArray) (An:Option Addr) (cn:Nat) (nn:St→Int→Int→St→Option St) (W:World) (hr:Kd.C k25 W A r.f2.length r.f2) (hc:r.f2.length≤c)
    (hn:Kd.C Kd.string W An names.length names) (hsz : ∀ i,(fF ByteArray.empty names i).size≤maxLen) (h:sS k r.f0 r.f1 r.f2=some 0) (hal:names.length≤4096→YQ (names.map nk) nn r)
    (R:Ending→World→Prop)
    (hbad:names.length > 4096∨iU [] names=false→∀ e W',FinB W 0 0 0 0 [] 80 e W'→R e W')
    (jM:names.length≤4096→iU [] names=true→qO (names.map nk) nn r=none→∀ e W',FinB W 0 0 0 0 [] 3 e W'→R e W')
    (hok:names.length≤4096→iU [] names=true→∀ s,qO (names.map nk) nn r=some s→∀ e W',FinB W s.1 names.length 0 1 s.2 0 e W'→R e W') :
    Calls Try.prog 11 #[.agg #[.int .i64 r.f0,.string r.f1,.slice A r.f2.length c],.slice An names.length cn] W R:=by
  have hmm:=@run_makeMap Try.prog;have HC:=aA.mk hc;have HR:=aA.mk hr;have HH:=aA.mk h;have HNM:=aA.mk hn;have IV:=aA.mk hsz;have hal2:names.length≤4096→∀ (M mb:Nat) (W:World) (A:Option Addr) (c:Nat),jU W mb (names.map nk)→Kd.C k25 W A r.f2.length r.f2→r.f2.length≤c →
    W.cell? ⟨M,1,none⟩=some (.int .i64 (names.length:Int))→W.cell? ⟨M,5,none⟩=some (.map (some mb)) →
    Calls Try.prog 36 #[.pointer (some ⟨M,0,none⟩),.agg #[.int .i64 r.f0,.string r.f1,.slice A r.f2.length c]] W (FinA (names.length:Int) W (qO (names.map nk) nn r)):=by
    intro hle;have h0:=hal hle;unfold YQ at h0;rw [List.length_map] at h0;exact h0
  have vG:=aA.mk hal2;clear hal2;have HBAD:=aA.mk hbad;have HMANY:=aA.mk jM;have HOK:=aA.mk hok;have hm:names.length≤9223372036854775807:=hn.2.1;have HV2:=aA.mk (vars3_2 W (.cells #[.int .i64 r.f0,.string r.f1,.slice A r.f2.length c] 25));have HV4:=aA.mk (vars3_4 W (.cells #[.int .i64 r.f0,.string r.f1,.slice A r.f2.length c] 25));have HV5:=aA.mk (vars3_5 W (.cells #[.int .i64 r.f0,.string r.f1,.slice A r.f2.length c] 25));have YF:=aA.mk (KC W (.cells #[.int .i64 r.f0,.string r.f1,.slice A r.f2.length c] 25));clear hr hc h hn hsz hal hbad jM hok;go_enter_defers Try.func11,Try.ntmps11
  go_wp2_with (fail)
  go_at_call 35;refine (yX k r.f0 r.f1 r.f2 A c 0 _ (Kd.dJ HR.out YF.out) HC.out HH.out).mono ?_;rintro e w1 ⟨rfl,hb1⟩;have hb1':Below (X3 W (.cells #[.int .i64 r.f0,.string r.f1,.slice A r.f2.length c] 25)).heap.size (X3 W (.cells #[.int .i64 r.f0,.string r.f1,.slice A r.f2.length c] 25)) w1:=hb1;have B2:=aA.mk (bK HV2.out hb1');have B4:=aA.mk (bK HV4.out hb1');have B5:=aA.mk (bK HV5.out hb1');have HB1:=aA.mk (bU YF.out YF.out.size hb1');have HSZ1:=aA.mk (Nat.le_trans (Nat.le_of_eq (vars3_size W (.cells #[.int .i64 r.f0,.string r.f1,.slice A r.f2.length c] 25)).symm) hb1'.size);clear hb1 hb1' HV2 HV4 HV5 YF;by_cases hmax:4096<names.length
  · have hd0:decide ((4096:Int)<(names.length:Int))=true:=decide_eq_true (by omega)
    have hd1:decide (4096<names.length)=true:=decide_eq_true hmax;have HBD:=aA.mk (HBAD.out (.inl hmax));have C4:=aA.mk (bH (bH B4.out (.map #[] 0)) (.cells #[.int .i64 0,.int .i64 names.length,.int .i64 0,.int .i64 0,.slice none 0 0,.map (some w1.heap.size)] 71));have C5:=aA.mk (bH (bH B5.out (.map #[] 0)) (.cells #[.int .i64 0,.int .i64 names.length,.int .i64 0,.int .i64 0,.slice none 0 0,.map (some w1.heap.size)] 71));have hc40:=(aD C4.out 0).trans rfl;have hc41:=(aD C4.out 1).trans rfl;have hc42:=(aD C4.out 2).trans rfl;have hc43:=(aD C4.out 3).trans rfl;have hc44:=(aD C4.out 4).trans rfl;have hc50:=(aD C5.out 0).trans rfl;have hf0:=bF C4.out 0;have hf1:=bF C4.out 1;have hf2:=bF C4.out 2;have hf3:=bF C4.out 3;have hf4:=bF C4.out 4;have hf5:=bF C5.out 0;clear hmax;go_wp2;have hne:W.heap.size+1+1≠W.heap.size+1:=(by omega);refine zV _ _ (W.heap.size+1) (W.heap.size+1+1) #[.int .i64 0,.int .i64 0,.int .i64 0,.int .i64 0,.slice none 0 0] (.int .i64 80) rfl ?_ rfl rfl ?_ _ ?_
    · exact bR (X4 C4.out _ _ _ _ _) hne.symm _
    · exact (aD (lN (zW C5.out hne _ _ _ _ _) 0 _) 0).trans rfl
    · exact HBD.out _ _ ⟨.slice none 0 0,rfl,Kd.kJ _ _ _ _ _,(yE (aN (aN HB1.out _) _) (by omega) _ _ _ _ _).setCell (by simp;omega) _⟩
  · have hd0:decide ((4096:Int)<(names.length:Int))=false:=decide_eq_false (by omega)
    have hd1:decide (4096<names.length)=false:=decide_eq_false hmax;have HMAX:=aA.mk (Nat.le_of_not_lt hmax);have C2:=aA.mk (bH (bH B2.out (.map #[] 0)) (.cells #[.int .i64 0,.int .i64 names.length,.int .i64 0,.int .i64 0,.slice none 0 0,.map (some w1.heap.size)] 71));have C4:=aA.mk (bH (bH B4.out (.map #[] 0)) (.cells #[.int .i64 0,.int .i64 names.length,.int .i64 0,.int .i64 0,.slice none 0 0,.map (some w1.heap.size)] 71));have C5:=aA.mk (bH (bH B5.out (.map #[] 0)) (.cells #[.int .i64 0,.int .i64 names.length,.int .i64 0,.int .i64 0,.slice none 0 0,.map (some w1.heap.size)] 71));have CM:aA (((w1.alloc (.map #[] 0)).alloc (.cells #[.int .i64 0,.int .i64 names.length,.int .i64 0,.int .i64 0,.slice none 0 0,.map (some w1.heap.size)] 71)).heap[w1.heap.size+1]?=some (.cells #[.int .i64 0,.int .i64 names.length,.int .i64 0,.int .i64 0,.slice none 0 0,.map (some w1.heap.size)] 71 (0,0))):=⟨by have e:=dX (w1.alloc (.map #[] 0)) (.cells #[.int .i64 0,.int .i64 names.length,.int .i64 0,.int .i64 0,.slice none 0 0,.map (some w1.heap.size)] 71);simpa using e⟩;have CN:aA (jU ((w1.alloc (.map #[] 0)).alloc (.cells #[.int .i64 0,.int .i64 names.length,.int .i64 0,.int .i64 0,.slice none 0 0,.map (some w1.heap.size)] 71)) w1.heap.size []):=⟨pW (TL w1) (aN (Below.refl _ _) _)⟩;have CB:=aA.mk (aN (aN HB1.out (.map #[] 0)) (.cells #[.int .i64 0,.int .i64 names.length,.int .i64 0,.int .i64 0,.slice none 0 0,.map (some w1.heap.size)] 71));clear hmax B2 B4 B5 HB1;go_wp2;go_loopw [8,9,10,11,30] (fun _ _ _ _ i wr=>∃ j:Nat,j≤names.length∧i = .int .i64 j∧aA (iU [] names=iU ((names.take j).map nk) (names.drop j))∧aA (jU wr w1.heap.size ((names.take j).map nk))∧aA (wr.heap[w1.heap.size+1]?=some (.cells #[.int .i64 0,.int .i64 names.length,.int .i64 0,.int .i64 0,.slice none 0 0,.map (some w1.heap.size)] 71 (0,0)))∧aA (wr.heap[W.heap.size]?=some (.cells #[.int .i64 r.f0,.string r.f1,.slice A r.f2.length c] 25 (0,0)))∧aA (wr.heap[W.heap.size+1]?=some (.cells #[.int .i64 0,.int .i64 0,.int .i64 0,.int .i64 0,.slice none 0 0] 31 (0,0)))∧aA (wr.heap[W.heap.size+1+1]?=some (.cells #[.int .i64 0] 32 (0,0)))∧aA (Below W.heap.size W wr)) (fun _ _ _ _ i _=>names.length - (intOf i).toNat)
    case atStart=>exact ⟨0,Nat.zero_le _,rfl,⟨rfl⟩,CN,CM,C2,C4,C5,CB⟩
    case round =>
      obtain ⟨j,hj,rfl,HNO,DN,DM,D2,D4,D5,DB⟩:=hrel;clear C2 C4 C5 CM CN CB hd0 hd1;by_cases hlt:j<names.length
      · obtain ⟨ad,rfl,hx0⟩:=Kd.qN HNM.out (j:Int) (by omega) (by omega)
        rw [Int.toNat_natCast] at hx0;have hy0:=bJ DB.out hx0;have HST:=aA.mk (wX names j hlt);have hm5:=(aD DM.out 5).trans rfl;have hlk:=CR DN.out (fF ByteArray.empty names j) (IV.out j);clear hx0;by_cases hin:nk (fF ByteArray.empty names j)∈(names.take j).map nk
        · rw [decide_eq_true hin] at hlk
          have HBD:=aA.mk (HBAD.out (.inr (by rw [HNO.out,HST.out,decide_eq_true hin];rfl)));have hc40:=(aD D4.out 0).trans rfl;have hc41:=(aD D4.out 1).trans rfl;have hc42:=(aD D4.out 2).trans rfl;have hc43:=(aD D4.out 3).trans rfl;have hc44:=(aD D4.out 4).trans rfl;have hc50:=(aD D5.out 0).trans rfl;have hf0:=bF D4.out 0;have hf1:=bF D4.out 1;have hf2:=bF D4.out 2;have hf3:=bF D4.out 3;have hf4:=bF D4.out 4;have hf5:=bF D5.out 0;clear hin;go_wp2;have hne:W.heap.size+1+1≠W.heap.size+1:=(by omega);refine zV _ _ (W.heap.size+1) (W.heap.size+1+1) #[.int .i64 0,.int .i64 0,.int .i64 0,.int .i64 0,.slice none 0 0] (.int .i64 80) rfl ?_ rfl rfl ?_ _ ?_
          · exact bR (X4 D4.out _ _ _ _ _) hne.symm _
          · exact (aD (lN (zW D5.out hne _ _ _ _ _) 0 _) 0).trans rfl
          · exact HBD.out _ _ ⟨.slice none 0 0,rfl,Kd.kJ _ _ _ _ _,(yE DB.out (by omega) _ _ _ _ _).setCell (by simp;omega) _⟩
        · rw [decide_eq_false hin] at hlk
          have HIN:=aA.mk hin;clear hin;cases hb:xO (fF ByteArray.empty names j) with
          |false =>
            have HBD:=aA.mk (HBAD.out (.inr (by rw [HNO.out,HST.out,hb];simp)));have HCK:=aA.mk ((QM (fF ByteArray.empty names j)).trans (by rw [hb];rfl:_=some (70:Int)));clear hb;go_wp2_with (fail)
            go_at_call 35;refine (yX 5 1 (fF ByteArray.empty names j) [] none 0 70 _ (Kd.FH _ _) (Nat.le_refl _) HCK.out).mono ?_;rintro e w2 ⟨rfl,hb2⟩;have E4:=aA.mk (bK D4.out hb2);have E5:=aA.mk (bK D5.out hb2);have EB:=aA.mk (bU DB.out DB.out.size hb2);clear hb2 hlk hm5 hy0;have hc40:=(aD E4.out 0).trans rfl;have hc41:=(aD E4.out 1).trans rfl;have hc42:=(aD E4.out 2).trans rfl;have hc43:=(aD E4.out 3).trans rfl;have hc44:=(aD E4.out 4).trans rfl;have hc50:=(aD E5.out 0).trans rfl;have hf0:=bF E4.out 0;have hf1:=bF E4.out 1;have hf2:=bF E4.out 2;have hf3:=bF E4.out 3;have hf4:=bF E4.out 4;have hf5:=bF E5.out 0;go_wp2;have hne:W.heap.size+1+1≠W.heap.size+1:=(by omega);refine zV _ _ (W.heap.size+1) (W.heap.size+1+1) #[.int .i64 0,.int .i64 0,.int .i64 0,.int .i64 0,.slice none 0 0] (.int .i64 80) rfl ?_ rfl rfl ?_ _ ?_
            · exact bR (X4 E4.out _ _ _ _ _) hne.symm _
            · exact (aD (lN (zW E5.out hne _ _ _ _ _) 0 _) 0).trans rfl
            · exact HBD.out _ _ ⟨.slice none 0 0,rfl,Kd.kJ _ _ _ _ _,(yE EB.out (by omega) _ _ _ _ _).setCell (by simp;omega) _⟩
          |true =>
            have HCK:=aA.mk ((QM (fF ByteArray.empty names j)).trans (by rw [hb];rfl:_=some (0:Int)));have HNO2:aA (iU [] names=iU ((names.take (j+1)).map nk) (names.drop (j+1))):=⟨by rw [HNO.out,HST.out,hb,decide_eq_false HIN.out];simp⟩;clear hb;go_wp2_with (fail)
            go_at_call 35;refine (yX 5 1 (fF ByteArray.empty names j) [] none 0 0 _ (Kd.FH _ _) (Nat.le_refl _) HCK.out).mono ?_;rintro e w2 ⟨rfl,hb2⟩;have E2:=aA.mk (bK D2.out hb2);have E4:=aA.mk (bK D4.out hb2);have E5:=aA.mk (bK D5.out hb2);have EM:=aA.mk (bK DM.out hb2);have EB:=aA.mk (bU DB.out DB.out.size hb2);have hlen:((names.take j).map nk).length=j:=(by simp;omega);obtain ⟨w3,hrun,hn3,hg3⟩:=IY (pW DN.out hb2) (fF ByteArray.empty names j) (IV.out j) HIN.out (by have:=HMAX.out;omega);rw [hlen] at hrun;have hgs : ∀ g,g≠w1.heap.size→some g≠some w1.heap.size:=fun g hg e=>hg (Option.some.inj e);have G2:=aA.mk (eZ E2.out hg3 (hgs _ (by have:=HSZ1.out;omega)));have G4:=aA.mk (eZ E4.out hg3 (hgs _ (by have:=HSZ1.out;omega)));have G5:=aA.mk (eZ E5.out hg3 (hgs _ (by have:=HSZ1.out;omega)));have GM:=aA.mk (eZ EM.out hg3 (hgs _ (by omega)));have GB:=aA.mk (yD EB.out (some w1.heap.size) EB.out.size hg3 (by intro q hq;have:=HSZ1.out;injection hq;omega));have GN:aA (jU w3 w1.heap.size ((names.take (j+1)).map nk)):=⟨by
              have e:fF ByteArray.empty names j=names[j]:=(by simp [fF,List.getElem?_eq_getElem hlt]);rw [e] at hn3;rw [List.take_succ_eq_append_getElem hlt,List.map_append];exact hn3⟩
            have hm52:=(aD EM.out 5).trans rfl;clear hb2 hlk hm5 hy0 hn3 hg3 hlen hgs;go_wp2;go_roundw
            case rel=>exact ⟨j+1,by omega,by go_num,HNO2,GN,GM,G2,G4,G5,GB⟩
            case measure=>simp [intOf];omega
      · obtain rfl:j=names.length:=by omega
        have HT:=aA.mk (HNO.out.trans (JI names names.length (Nat.le_refl _)));have hn:=DN.out;rw [List.take_length] at hn;have DN2:=aA.mk hn;have hz0:=(aD D2.out 0).trans rfl;have hz1:=(aD D2.out 1).trans rfl;have hz2:=(aD D2.out 2).trans rfl;clear hn;go_wp2_with (fail)
        go_at_call 36;refine (vG.out HMAX.out (w1.heap.size+1) w1.heap.size _ A c DN2.out (Kd.dJ HR.out DB.out) HC.out ((aD DM.out 1).trans rfl) ((aD DM.out 5).trans rfl)).mono ?_;rintro e w2 h2;have HMY:=aA.mk (HMANY.out HMAX.out HT.out);have HKK:=aA.mk (HOK.out HMAX.out HT.out);clear hz0 hz1 hz2;cases ha:qO (names.map nk) nn r with
        |none =>
          rw [ha] at h2;obtain ⟨rfl,hb2⟩:=h2;have E4:=aA.mk (bK D4.out hb2);have E5:=aA.mk (bK D5.out hb2);have EB:=aA.mk (bU DB.out DB.out.size hb2);have HMZ:=aA.mk (HMY.out ha);clear hb2 ha;go_wp2;refine door_many _ _ (W.heap.size+1) (W.heap.size+1+1) #[.int .i64 0,.int .i64 0,.int .i64 0,.int .i64 0,.slice none 0 0] 0 rfl E4.out rfl rfl E5.out _ ?_;exact HMZ.out _ _ ⟨.slice none 0 0,rfl,Kd.kJ _ _ _ _ _,EB.out.setCell (by simp;omega) _⟩
        |some s =>
          rw [ha] at h2;obtain ⟨v,rfl,hRv,hb2⟩:=h2;have E4:=aA.mk (bK D4.out hb2);have E5:=aA.mk (bK D5.out hb2);have EB:=aA.mk (bU DB.out DB.out.size hb2);have HRV:=aA.mk (Kd.iH hRv DB.out.size);have HKZ:=aA.mk (HKK.out s ha);obtain ⟨A1,c1,rfl⟩:=Kd.dY hRv;have hc40:=(aD E4.out 0).trans rfl;have hc41:=(aD E4.out 1).trans rfl;have hc42:=(aD E4.out 2).trans rfl;have hc43:=(aD E4.out 3).trans rfl;have hc44:=(aD E4.out 4).trans rfl;have hc50:=(aD E5.out 0).trans rfl;have hf0:=bF E4.out 0;have hf1:=bF E4.out 1;have hf2:=bF E4.out 2;have hf3:=bF E4.out 3;have hf4:=bF E4.out 4;have hf5:=bF E5.out 0;clear hb2 ha hRv;go_wp2;have hne:W.heap.size+1+1≠W.heap.size+1:=(by omega);refine zV _ _ (W.heap.size+1) (W.heap.size+1+1) #[.int .i64 s.1,.int .i64 names.length,.int .i64 0,.int .i64 1,.slice A1 s.2.length c1] (.int .i64 0) rfl ?_ rfl rfl ?_ _ ?_
          · exact bR (X4 E4.out _ _ _ _ _) hne.symm _
          · exact (aD (lN (zW E5.out hne _ _ _ _ _) 0 _) 0).trans rfl
          · refine HKZ.out _ _ ⟨.slice A1 s.2.length c1,rfl,?_,(yE EB.out (by omega) _ _ _ _ _).setCell (by simp;omega) _⟩
            exact Kd.dH (Kd.eX (Kd.dN (setA_R HRV.out E4.out _ _ _ _ _) (zW E5.out hne _ _ _ _ _) (by decide)) (fun k hk=>hk.2) _) (fun _ _=>trivial)
end Go.Proofs.Ytapinbmkjkbkkaa.Mk
namespace Go.Proofs.Ytapinbmkjkbkkaa.Ls
open Go.RowKit Go.Proofs.aC.bE Go.Proofs.aC.bV Go.Proofs.aC.bY Lb
def vE (w:World) (g:Nat) (xs:List Int):Prop:=w.heap[g]?=some (.cells (nums .i64 xs).toArray 3 (0,0))
theorem yF {w:World} {g:Nat} {xs:List Int} (h:vE w g xs) (i:Int) (h0:0≤i) (h1:i<xs.length):w.cell? ⟨g,i.toNat,none⟩=some (.int .i64 (rd xs i)):=by
  refine (aD h i.toNat).trans ?_;have hi:i.toNat<xs.length:=(by omega);simp [nums,rd,List.getElem?_eq_getElem hi]
theorem tY {w:World} {g:Nat} {xs:List Int} (h:vE w g xs) (i x:Int):vE (w.setCell ⟨g,i.toNat,none⟩ (.int .i64 x)) g (xs.set i.toNat x):=by
  refine dF h i.toNat _ ?_;simp [nums,List.map_set]
structure Held (w:World) (B6 B15 g:Nat) (near:List Int) (left:Int):Prop where
  h6:w.heap[B6]?=some (.cells #[.slice (some ⟨g,0,none⟩) near.length near.length] 27 (0,0))
  h15:w.heap[B15]?=some (.cells #[.int .i64 left] 3 (0,0))
  hrow:vE w g near
theorem held_below {w w1:World} {B6 B15 g:Nat} {near:List Int} {left:Int} (h:Held w B6 B15 g near left) (hb:Below w.heap.size w w1):Held w1 B6 B15 g near left :=
  ⟨bK h.h6 hb,bK h.h15 hb,bK h.hrow hb⟩
set_option maxHeartbeats 400000 in
theorem near_calls (B6 B15 g:Nat) (near:List Int) (left i:Int) (w:World) (h:Held w B6 B15 g near left) (h0:0≤i) (h1:i<near.length) :
    Calls Try.prog 57 #[.int .i64 i,.pointer (some ⟨B6,0,none⟩),.pointer (some ⟨B15,0,none⟩)] w fun e w'=>e = .returned (.bool (rd near i==left))∧jN w w':=by
  have hc6:w.cell? ⟨B6,0,none⟩=some (.slice (some ⟨g,0,none⟩) near.length near.length):=(aD h.h6 0).trans rfl;have hc15:w.cell? ⟨B15,0,none⟩=some (.int .i64 left):=(aD h.h15 0).trans rfl;have hx:=yF h.hrow i h0 h1;have hadd:(⟨g,0,none⟩:Addr).add i.toNat=⟨g,i.toNat,none⟩:=add_plain g _;clear h;go_enter Try.func57,Try.ntmps57;go_wp2_with (fail)
  go_quiet (fail)
  go_wp2;go_ret;exact ⟨rfl,by repeat (first|exact jN.refl _|apply jN.step)⟩
def uS (near:List Int) (left:Int) (l:List Int):Bool:=l.any fun i=>rd near i==left
theorem YR {near:List Int} {left:Int} {l:List Int} {k:Nat} (h:k<l.length):uS near left (l.drop k)=((rd near (rd l k)==left) || uS near left (l.drop (k+1))):=by
  unfold uS;rw [List.drop_eq_getElem_cons h,List.any_cons];have e:rd l k=l[k]:=(by unfold rd;simp [List.getElem?_eq_getElem h]);rw [e]
theorem nearAny_end {near:List Int} {left:Int} {l:List Int} {k:Nat} (h:l.length≤k):uS near left (l.drop k)=false:=by
  unfold uS;rw [List.drop_eq_nil_of_le h];rfl
set_option maxHeartbeats 800000 in
theorem KR (B6 B15 g:Nat) (near:List Int) (left:Int) (l:List Int) (A:Option Addr) (c:Nat) (w:World) (h:Held w B6 B15 g near left) (hr:Kd.C (Kd.int .i64) w A l.length l)
    (hin : ∀ k:Nat,k<l.length→0≤rd l k∧rd l k<near.length) :
    Calls Try.prog 79 #[.slice A l.length c,.func (.func 57) #[] #[.pointer (some ⟨B6,0,none⟩),.pointer (some ⟨B15,0,none⟩)]] w fun e w'=>∃ i:Int,e = .returned (.int .i64 i)∧decide (0≤i)=uS near left l∧Below w.heap.size w w':=by
  have hl:l.length≤9223372036854775807:=hr.2.1;have HR:=aA.mk hr;have HD:=aA.mk h;have HIN:=aA.mk hin;clear hr h hin;go_enter Try.func79,Try.ntmps79;go_wp2;go_loopw [5,8] (fun _ i wr=>∃ k:Nat,k≤l.length∧i = .int .i64 k∧aA (uS near left l=uS near left (l.drop k))∧aA (Below w.heap.size w wr)) (fun _ i _=>l.length - (intOf i).toNat)
  case atStart=>exact ⟨0,Nat.zero_le _,rfl,⟨rfl⟩,⟨Below.refl _ _⟩⟩
  case round =>
    obtain ⟨k,hk,rfl,hany,HB⟩:=hrel;by_cases hlt:k<l.length
    · obtain ⟨ad,rfl,hx0⟩:=Kd.qP HR.out (k:Int) (by omega) (by omega)
      rw [Int.toNat_natCast] at hx0;have hy0:=bJ HB.out hx0;have HS:=aA.mk (YR (near:=near) (left:=left) hlt);have HX:=aA.mk (near_calls B6 B15 g near left (rd l k) wr (held_below HD.out HB.out) (HIN.out k hlt).1 (HIN.out k hlt).2);clear hx0;cases hb:(rd near (rd l k)==left) with
      |true =>
        have ZI:=Lib.hid hb;clear hb;go_wp2_with (go_at_call 57;refine HX.out.mono ?_;rintro e w1 ⟨rfl,⟨nd,rfl⟩⟩;rw [ZI.out])
        go_ret;exact ⟨_,rfl,by rw [hany.out,HS.out,ZI.out];simp,bB HB.out _⟩
      |false =>
        have ZI:=Lib.hid hb;clear hb;go_wp2_with (go_at_call 57;refine HX.out.mono ?_;rintro e w1 ⟨rfl,⟨nd,rfl⟩⟩;rw [ZI.out])
        go_roundw
        case rel=>exact ⟨k+1,by omega,by go_num,⟨by rw [hany.out,HS.out,ZI.out];simp⟩,⟨bB HB.out _⟩⟩
        case measure=>simp [intOf];omega
    · have hge:l.length≤k:=by omega
      have HE:=aA.mk (nearAny_end (near:=near) (left:=left) hge);go_wp2;go_ret;exact ⟨_,rfl,by rw [hany.out,HE.out];rfl,HB.out⟩
set_option maxHeartbeats 400000 in
theorem CU (B6 B15 g:Nat) (near:List Int) (left:Int) (l:List Int) (A:Option Addr) (c:Nat) (w:World) (h:Held w B6 B15 g near left) (hr:Kd.C (Kd.int .i64) w A l.length l)
    (hin : ∀ k:Nat,k<l.length→0≤rd l k∧rd l k<near.length) :
    Calls Try.prog 55 #[.slice A l.length c,.func (.func 57) #[] #[.pointer (some ⟨B6,0,none⟩),.pointer (some ⟨B15,0,none⟩)]] w fun e w'=>e = .returned (.bool (uS near left l))∧Below w.heap.size w w':=by
  have HX:=aA.mk (KR B6 B15 g near left l A c w h hr hin);clear hr h hin;go_enter Try.func55,Try.ntmps55;go_wp2_with (go_at_call 79;refine HX.out.mono ?_;rintro e w' ⟨i,rfl,hi,hb⟩;have HB:=aA.mk hb;clear hb)
  go_ret;exact ⟨rfl,HB.out⟩
end Go.Proofs.Ytapinbmkjkbkkaa.Ls
namespace Go.Proofs.Ytapinbmkjkbkkaa.Ls
open Go.RowKit Go.Proofs.aC.bE Go.Proofs.aC.bV Go.Proofs.aC.bY Lb
def KD (sy:Int) (p:List Int × Bool) (x:gV):List Int × Bool :=
  if x.f1 = -2∧sy=0∨rd p.1 x.f2<0 then p
  else if rd p.1 x.f0<0∨wrap64 (rd p.1 x.f2+(if x.f1 = -1 then 0 else 1))<rd p.1 x.f0 then (p.1.set x.f0.toNat (wrap64 (rd p.1 x.f2+(if x.f1 = -1 then 0 else 1))),true)
  else p
def GG (sy:Int) (xs:List gV) (p:List Int × Bool):List Int × Bool:=xs.foldl (KD sy) p
def KE (sy:Int) (xs:List gV):Nat→List Int→Option (List Int)
  |0,_=>none
  |j+1,near=>if (GG sy xs (near,false)).2=true then KE sy xs j (GG sy xs (near,false)).1 else some (GG sy xs (near,false)).1
theorem lJ (sy:Int) (l:List gV) (k:Nat) (p:List Int × Bool) (h:k<l.length):GG sy (l.drop k) p=GG sy (l.drop (k+1)) (KD sy p (aG l k)):=by
  unfold GG aG;rw [List.drop_eq_getElem_cons h,List.foldl_cons,show l.getD ((k:Int).toNat) z78=l[k] by simp [List.getElem?_eq_getElem h]]
theorem passF_end (sy:Int) (l:List gV) (k:Nat) (p:List Int × Bool) (h:l.length≤k):GG sy (l.drop k) p=p:=by
  rw [List.drop_eq_nil_of_le h];rfl
def symF (k:Nat) (aM aJ aV aW:Int) (l:List gV) (near:List Int) (left:Int) (s:List Int):Nat→Nat→Option (Option (Nat × List Int))
  |0,_=>some none
  |d+1,j=>(eT.f k aM aJ aV aW l (j:Int) s).bind fun t=>(dU.f k t).bind fun q =>
    if (q.all fun i=>decide (0≤i) && decide (i<near.length))=true then (if uS near left q=true then some (some (j,t)) else symF k aM aJ aV aW l near left s d (j+1)) else none
def CV (k:Nat) (aM aJ aV aW:Int) (l:List gV) (near:List Int):Nat→Int→List Int→List Int→Option (List Int)
  |0,_,_,_=>none
  |J+1,left,w,s=>if 0≤left then ((symF k aM aJ aV aW l near left s aJ.toNat 0).bind fun o=>match o with
      |some p=>if w.length<17592186044416 then CV k aM aJ aV aW l near J (wrap64 (left - 1)) (w ++ [(p.1:Int)]) p.2 else none
      |none=>CV k aM aJ aV aW l near J (wrap64 (left - 1)) w s) else some w
def nearS (m:Nat) (e:Int):List Int:=(List.replicate m (-1)).set e.toNat 0
def vX.f (k:Nat) (aM aJ aV aW:Int) (l:List gV):Option (List Int × Bool × Int) :=
  (jI.f aM aJ aV aW l).bind fun c=>if c=0 then ((KE aJ l k (nearS aM.toNat aW)).bind fun near =>
    if rd near aV<0 then some ([],false,0) else (jZ.f aM).bind fun b=>(dM.f b aV).bind fun b=>(bP.f k aM aJ aV aW l b).bind fun s =>
      (CV k aM aJ aV aW l near k (wrap64 (rd near aV - 1)) [] s).map fun w=>(w,true,0)) else some ([],false,c)
theorem fill_set (m k:Nat) (h:k<m):(List.replicate k (-1:Int) ++ List.replicate (m - k) 0).set k (-1)=List.replicate (k+1) (-1) ++ List.replicate (m - (k+1)) 0:=by
  obtain ⟨d,rfl⟩ : ∃ d,m=k+1+d:=⟨m - (k+1),by omega⟩;have e1:k+1+d - k=d+1:=(by omega);have e2:k+1+d - (k+1)=d:=(by omega);rw [e1,e2,List.set_append_right _ _ (by simp),List.replicate_succ (n:=d)];simp [List.replicate_succ' (n:=k)]
theorem jV {w:World} {g:Nat} {xs:List Int} (h:vE w g xs) (o:Obj):vE (w.alloc o) g xs:=bH h o
theorem zX {w w1:World} {g:Nat} {xs:List Int} (h:vE w g xs) (hb:Below w.heap.size w w1):vE w1 g xs:=bK h hb
structure X5 (w wr:World) (g m:Nat) (av:Array Value):Prop where
  b1:wr.heap[w.heap.size]?=some (.cells av 31 (0,0))
  b6:wr.heap[g+1]?=some (.cells #[.slice (some ⟨g,0,none⟩) m m] 27 (0,0))
  bl:Below w.heap.size w wr
theorem vY {w wr w2:World} {g m:Nat} {av:Array Value} (h:X5 w wr g m av) (hb:Below wr.heap.size wr w2):X5 w w2 g m av:=⟨bK h.b1 hb,bK h.b6 hb,bU h.bl h.bl.size hb⟩
theorem jW {w wr:World} {g m:Nat} {av:Array Value} (h:X5 w wr g m av) (o:Obj):X5 w (wr.alloc o) g m av:=vY h (aN (Below.refl _ _) o)
theorem wO {w wr:World} {g m:Nat} {av:Array Value} (h:X5 w wr g m av) {p:Addr} (h1:w.heap.size≤p.block) (h2:w.heap.size≠p.block) (h3:g+1≠p.block) (u:Value):X5 w (wr.setCell p u) g m av :=
  ⟨bR h.b1 h2 u,bR h.b6 h3 u,h.bl.setCell h1 u⟩
theorem linv_grown {w wr w2:World} {g m:Nat} {av:Array Value} (h:X5 w wr g m av) {row:Option Nat} (hg:wr.grownBy w2 row) (hr : ∀ q,row=some q→q≠w.heap.size∧q≠g+1∧w.heap.size≤q):X5 w w2 g m av :=
  ⟨eZ h.b1 hg (fun e=>(hr _ e.symm).1 rfl),eZ h.b6 hg (fun e=>(hr _ e.symm).2.1 rfl),yD h.bl row h.bl.size hg (fun q hq=>(hr q hq).2.2)⟩
theorem r115_grown {W W1:World} {base:Nat} {v u:Value} {xs ys:List Int} {ok:Nat→Prop} (h:Kd.R (Kd.int .u64) 115 W base (fun _=>True) v xs) (h2:Kd.R (Kd.int .i64) 3 W base ok u ys) (hg:W.grownBy W1 u.ownBlock):Kd.R (Kd.int .u64) 115 W1 base (fun _=>True) v xs:=by
  refine Kd.dH (Kd.R_grown (Kd.nR rfl h) hg (fun k hk e=>?_)) (fun _ _=>trivial);obtain ⟨_,inner,hown,_⟩:=h;obtain ⟨_,inner2,hown2,_⟩:=h2;obtain ⟨c1,e1⟩:=vV hown k hk.symm;obtain ⟨c2,e2⟩:=vV hown2 k e.symm;rw [e1] at e2;injection e2 with e2;injection e2 with _ e2;exact absurd e2 (by decide)
theorem IU (m:Nat):madeCells #[.int .i64 0] m=(nums .i64 (List.replicate m 0)).toArray:=by
  apply Array.ext';apply List.ext_getElem
  · simp [nums,madeCells]
  · intro i h1 h2
    simp [nums,madeCells,Nat.mod_one]
theorem N9 {sy:Int} {p:List Int × Bool} {x:gV} (h:x.f1 = -2∧sy=0∨rd p.1 x.f2<0):KD sy p x=p:=by unfold KD;rw [if_pos h]
theorem xN {sy:Int} {p:List Int × Bool} {x:gV} (n:Int) (h : ¬ (x.f1 = -2∧sy=0∨rd p.1 x.f2<0)) (hn:wrap64 (rd p.1 x.f2+(if x.f1 = -1 then 0 else 1))=n) (h2:rd p.1 x.f0<0∨n<rd p.1 x.f0):KD sy p x=(p.1.set x.f0.toNat n,true):=by
  unfold KD;rw [if_neg h,hn,if_pos h2]
theorem CW {sy:Int} {p:List Int × Bool} {x:gV} (n:Int) (h : ¬ (x.f1 = -2∧sy=0∨rd p.1 x.f2<0)) (hn:wrap64 (rd p.1 x.f2+(if x.f1 = -1 then 0 else 1))=n) (h2 : ¬ (rd p.1 x.f0<0∨n<rd p.1 x.f0)):KD sy p x=p:=by
  unfold KD;rw [if_neg h,hn,if_neg h2]
set_option maxRecDepth 100000 in
set_option maxHeartbeats 12800000 in
theorem least_walk (k m:Nat) (aJ aV aW:Int) (A:Option Addr) (c:Nat) (l:List gV) (w:World) (hr:Kd.C xP w A l.length l) (hc:l.length≤c)
    (hhead:mF (m:Int) aJ aV aW=true) (harc : ∀ j:Nat,j<l.length→iQ (m:Int) aJ (aG l j)=true) (hck:jI.f (m:Int) aJ aV aW l=some 0)
    (near:List Int) (hnear:KE aJ l k (nearS m aW)=some near) (r:List Int × Bool × Int) (h:vX.f k (m:Int) aJ aV aW l=some r) :
    Calls Try.prog 22 #[.agg #[.int .i64 (m:Int),.int .i64 aJ,.int .i64 aV,.int .i64 aW,.slice A l.length c]] w fun e w'=>∃ yR:Value,e = .returned (.tuple #[yR,.bool r.2.1,.int .i64 r.2.2])∧Kd.R (Kd.int .i64) 3 w' w.heap.size (fun _=>True) yR r.1∧Below w.heap.size w w':=by
  have hm:l.length≤9223372036854775807:=hr.2.1;obtain ⟨c1,c2,c3,c4,c5,c6⟩:=of_decide_eq_true hhead;have hmk:=print_make 27 3 .i64 8 Try.underlying27 info3 (by decide) m (by omega);have HR:=aA.mk hr;have HC:=aA.mk hc;have HARC:=aA.mk harc;have HCK:=aA.mk hck;have HNEAR:=aA.mk hnear;have HH:=aA.mk h;have HM:=aA.mk (show m≤4096 by omega);have HE:=aA.mk c6;have HS:=aA.mk c5;have HY:=aA.mk (And.intro c3 c4);have O3:aA ((w.alloc (.cells #[.int .i64 (m:Int),.int .i64 aJ,.int .i64 aV,.int .i64 aW,.slice A l.length c] 31)).heap[w.heap.size]?=some (.cells #[.int .i64 (m:Int),.int .i64 aJ,.int .i64 aV,.int .i64 aW,.slice A l.length c] 31 (0,0))):=⟨dX _ _⟩;clear hr hc harc hck hnear h hhead c1 c2 c3 c4 c5 c6;go_enter Try.func22,Try.ntmps22;go_wp2_with (fail)
  go_at_call 31;refine (jI.calls (m:Int) aJ aV aW A c l 0 _ (Kd.dJ HR.out (aN (Below.refl _ _) _)) HC.out HCK.out).mono ?_;rintro e w1 ⟨rfl,hb1⟩;have yH:=aA.mk (bK O3.out hb1);have HB1:=aA.mk (bU (aN (Below.refl _ _) _) (by simp) hb1);have ZH:aA (w.heap.size<w1.heap.size):=⟨gL yH.out⟩;have hc0:w1.cell? ⟨w.heap.size,0,none⟩=some (.int .i64 (m:Int)):=(aD yH.out 0).trans rfl;have HI0:aA (X5 w ((w1.alloc (.cells (madeCells #[.int .i64 0] m) 3)).alloc (.cells #[.slice (some ⟨w1.heap.size,0,none⟩) m m] 27)) w1.heap.size m #[.int .i64 (m:Int),.int .i64 aJ,.int .i64 aV,.int .i64 aW,.slice A l.length c]):=⟨⟨bH (bH yH.out _) _,by have e:=dX (w1.alloc (.cells (madeCells #[.int .i64 0] m) 3)) (.cells #[.slice (some ⟨w1.heap.size,0,none⟩) m m] 27);simpa using e,aN (aN HB1.out _) _⟩⟩;have P6:aA (vE ((w1.alloc (.cells (madeCells #[.int .i64 0] m) 3)).alloc (.cells #[.slice (some ⟨w1.heap.size,0,none⟩) m m] 27)) w1.heap.size (List.replicate 0 (-1) ++ List.replicate (m - 0) 0)):=⟨bH (by have e:=dX w1 (.cells (madeCells #[.int .i64 0] m) 3);rw [IU] at e;rw [IU];simpa [vE] using e) _⟩;clear hb1 O3;go_wp2;obtain ⟨g,hg⟩ : ∃ g,g=w1.heap.size:=⟨_,rfl⟩;rw [←hg] at HI0 P6 ZH;rw [←hg];clear hg hc0 hmk;have hadd : ∀ q:Nat,(⟨g,0,none⟩:Addr).add q=⟨g,q,none⟩:=fun q=>add_plain g q;go_loopw [7,28] (fun _ i wr=>∃ j:Nat,j≤m∧i = .int .i64 j∧aA (X5 w wr g m #[.int .i64 (m:Int),.int .i64 aJ,.int .i64 aV,.int .i64 aW,.slice A l.length c])∧aA (vE wr g (List.replicate j (-1) ++ List.replicate (m - j) 0))) (fun _ i _=>m - (intOf i).toNat)
  case atStart=>exact ⟨0,Nat.zero_le _,rfl,HI0,P6⟩
  case round =>
    obtain ⟨j,hj,rfl,HI,HRW⟩:=hrel;clear HI0 P6;have hn6:wr.cell? ⟨g+1,0,none⟩=some (.slice (some ⟨g,0,none⟩) m m):=(aD HI.out.b6 0).trans rfl;have hm0:m≤9223372036854775807:=(by have:=HM.out;omega);by_cases hlt:j<m
    · have hx:=yF HRW.out (j:Int) (by omega) (by simp;omega)
      rw [Int.toNat_natCast] at hx;have hz:=bF HRW.out j;go_wp2;go_roundw
      case rel=>exact ⟨j+1,by omega,by go_num,⟨wO HI.out (by have:=ZH.out;show w.heap.size≤g;omega) (by have:=ZH.out;show w.heap.size≠g;omega) (by show g+1≠g;omega) _⟩,⟨by have e:=tY HRW.out (j:Int) (-1);rw [Int.toNat_natCast,fill_set m j hlt] at e;exact e⟩⟩
      case measure=>simp [intOf];omega
    · obtain rfl:j=m:=by omega
      have hrow:=HRW.out;rw [Nat.sub_self,List.replicate_zero,List.append_nil] at hrow;have HRW2:=aA.mk hrow;have hb3:wr.cell? ⟨w.heap.size,3,none⟩=some (.int .i64 aW):=(aD HI.out.b1 3).trans rfl;have he0:=HE.out.1;have he1:=HE.out.2;have hx:=yF HRW2.out aW he0 (by simpa using he1);have hz:=bF HRW2.out aW.toNat;clear hrow;go_wp2;have HIa:aA (X5 w (wr.setCell ⟨g,aW.toNat,none⟩ (.int .i64 0)) g j #[.int .i64 (j:Int),.int .i64 aJ,.int .i64 aV,.int .i64 aW,.slice A l.length c]):=⟨wO HI.out (by have:=ZH.out;show w.heap.size≤g;omega) (by have:=ZH.out;show w.heap.size≠g;omega) (by show g+1≠g;omega) _⟩;have HRa:aA (vE (wr.setCell ⟨g,aW.toNat,none⟩ (.int .i64 0)) g (nearS j aW)):=⟨tY HRW2.out aW 0⟩;clear HI HRW HRW2 hx hz hb3 hn6 hlt;go_loopg [8] k (fun kq v8 wr=>∃ (b:Bool) (nr:List Int),v8 = .bool b∧aA (if b=true then KE aJ l kq nr=some near else nr=near)∧aA (nr.length=j)∧aA (X5 w wr g j #[.int .i64 (j:Int),.int .i64 aJ,.int .i64 aV,.int .i64 aW,.slice A l.length c])∧aA (vE wr g nr))
      case atStart=>exact ⟨true,nearS j aW,rfl,⟨by rw [if_pos rfl];exact HNEAR.out⟩,⟨by simp [nearS]⟩,HIa,HRa⟩
      case round =>
        obtain ⟨b,nr,rfl,HNF,RX,HI,HRW⟩:=hrel;clear HIa HRa;cases b with
        |false =>
          have hnr:nr=near:=(by simpa using HNF.out);subst hnr;have hs0:=HS.out.1;have hs1:=HS.out.2;have hb0:wr.cell? ⟨w.heap.size,0,none⟩=some (.int .i64 (j:Int)):=(aD HI.out.b1 0).trans rfl;have hb2:wr.cell? ⟨w.heap.size,2,none⟩=some (.int .i64 aV):=(aD HI.out.b1 2).trans rfl;have hn6:wr.cell? ⟨g+1,0,none⟩=some (.slice (some ⟨g,0,none⟩) j j):=(aD HI.out.b6 0).trans rfl;have hx:=yF HRW.out aV hs0 (by rw [RX.out];exact hs1);have hh:=HH.out;unfold vX.f at hh;rw [HCK.out,Option.bind_some,if_pos rfl,show (j:Int).toNat=j from Int.toNat_natCast j,HNEAR.out,Option.bind_some] at hh;by_cases q0:rd nr aV<0
          · have d0:decide (rd nr aV<0)=true:=decide_eq_true q0
            rw [if_pos q0] at hh;obtain rfl:=Option.some.inj hh;clear hh q0;go_wp2;go_ret3
            exact ⟨.slice none 0 0,rfl,Kd.kJ _ _ _ _ _,HI.out.bl⟩
          · have d0:decide (rd nr aV<0)=false:=decide_eq_false q0
            rw [if_neg q0] at hh;obtain ⟨b,hb,hh⟩:=Option.bind_eq_some_iff.mp hh;obtain ⟨b',hb',hh⟩:=Option.bind_eq_some_iff.mp hh;obtain ⟨ss,hss,hh⟩:=Option.bind_eq_some_iff.mp hh;obtain ⟨wf,hwf,rfl⟩:=Option.map_eq_some_iff.mp hh;have HB_:=aA.mk hb;have HB':=aA.mk hb';have HSS:=aA.mk hss;have HWF:=aA.mk hwf;clear hh hb hb' hss hwf q0;go_wp2_with (fail)
            go_at_call 54;refine (jZ.calls (j:Int) b _ HB_.out).mono ?_;rintro e w2 ⟨v0,rfl,hRb,hb2'⟩;have HI2:=aA.mk (vY HI.out hb2');have HRW2:=aA.mk (zX HRW.out hb2');have HRb:=aA.mk (Kd.iH hRb HI.out.bl.size);obtain ⟨Ab,cb,rfl⟩:=Kd.dY hRb;have hc2:w2.cell? ⟨w.heap.size,2,none⟩=some (.int .i64 aV):=(aD HI2.out.b1 2).trans rfl;clear hRb hb2' hb0 hb2 hn6 hx HI HRW d0;go_wp2_with (fail)
            go_at_call 40;refine (dM.calls (fun k_=>some k_=(Value.slice Ab b.length cb).ownBlock) (.slice Ab b.length cb) b aV b' w _ HI2.out.bl (Kd.nR rfl HRb.out) HB'.out).mono ?_;rintro e w3 ⟨rfl,hR3,hb3,hk3⟩;have hne1 : ¬ some w.heap.size=(Value.slice Ab b.length cb).ownBlock:=Kd.lL HRb.out HI2.out.b1 (by decide);have hne6 : ¬ some (g+1)=(Value.slice Ab b.length cb).ownBlock:=Kd.lL HRb.out HI2.out.b6 (by decide);have hneg : ¬ some g=(Value.slice Ab b.length cb).ownBlock:=Kd.lL HRb.out HRW2.out (by decide);have HI3:aA (X5 w w3 g j #[.int .i64 (j:Int),.int .i64 aJ,.int .i64 aV,.int .i64 aW,.slice A l.length c]):=⟨⟨oH HI2.out.b1 hk3 hne1,oH HI2.out.b6 hk3 hne6,hb3⟩⟩;have HRW3:aA (vE w3 g nr):=⟨oH HRW2.out hk3 hneg⟩;have hlen:b'.length=b.length:=(by obtain ⟨_,_,e⟩:=Kd.dY hR3;injection e with _ e _;exact e.symm);obtain ⟨hrd1,aAi,aAj⟩:=Kd.cO hR3;have HC3:=aA.mk aAj;have HL3:=aA.mk aAi;rw [←hlen] at HL3;rw [←hlen];have hd0:w3.cell? ⟨w.heap.size,0,none⟩=some (.int .i64 (j:Int)):=(aD HI3.out.b1 0).trans rfl;have hd1:w3.cell? ⟨w.heap.size,1,none⟩=some (.int .i64 aJ):=(aD HI3.out.b1 1).trans rfl;have hd2:w3.cell? ⟨w.heap.size,2,none⟩=some (.int .i64 aV):=(aD HI3.out.b1 2).trans rfl;have hd3:w3.cell? ⟨w.heap.size,3,none⟩=some (.int .i64 aW):=(aD HI3.out.b1 3).trans rfl;have hd4:w3.cell? ⟨w.heap.size,4,none⟩=some (.slice A l.length c):=(aD HI3.out.b1 4).trans rfl;clear hR3 hb3 hk3 hne1 hne6 hneg hrd1 aAi aAj hc2 HI2 HRW2 HRb hlen;go_wp2_with (fail)
            go_at_call 41;refine (bP.calls k (j:Int) aJ aV aW A c l Ab cb b' ss _ (Kd.dJ HR.out HI3.out.bl) HC.out HC3.out HL3.out HSS.out).mono ?_;rintro e w4 ⟨v13,rfl,hR4,hb4⟩;have HI4:=aA.mk (vY HI3.out hb4);have HRW4:=aA.mk (zX HRW3.out hb4);have HS4:=aA.mk (Kd.iH hR4 HI3.out.bl.size);have he2:w4.cell? ⟨w.heap.size,2,none⟩=some (.int .i64 aV):=(aD HI4.out.b1 2).trans rfl;have hn4:w4.cell? ⟨g+1,0,none⟩=some (.slice (some ⟨g,0,none⟩) j j):=(aD HI4.out.b6 0).trans rfl;have hx4:=yF HRW4.out aV hs0 (by rw [RX.out];exact hs1);clear hR4 hb4 hd0 hd1 hd2 hd3 hd4 HC3 HL3 HI3 HRW3;go_wp2;have hG4:g<w4.heap.size:=gL HRW4.out;have hB4:w.heap.size<w4.heap.size:=gL HI4.out.b1;have hG14:g+1<w4.heap.size:=gL HI4.out.b6;go_loopg [13,14,15] k (fun kq v13_ v14_ v15_ wr=>∃ (left:Int) (ws:List Int) (ss_:List Int) (gl:Nat),v15_ = .pointer (some ⟨gl,0,none⟩)∧aA (CV k (j:Int) aJ aV aW l nr kq left ws ss_=some wf)∧aA (X5 w wr g j #[.int .i64 (j:Int),.int .i64 aJ,.int .i64 aV,.int .i64 aW,.slice A l.length c])∧aA (vE wr g nr)∧aA (wr.heap[gl]?=some (.cells #[.int .i64 left] 3 (0,0)))∧aA (g<gl∧w.heap.size<gl∧g+1≠gl)∧aA (Kd.R (Kd.int .u64) 115 wr w.heap.size (fun _=>True) v13_ ss_)∧aA (Kd.R (Kd.int .i64) 3 wr w.heap.size (fun q=>q≠g∧q≠gl) v14_ ws))
            case atStart=>exact ⟨wrap64 (rd nr aV - 1),[],ss,w4.heap.size,rfl,HWF,⟨jW HI4.out _⟩,⟨jV HRW4.out _⟩,⟨dX _ _⟩,⟨hG4,hB4,by omega⟩,⟨Kd.nY HS4.out _⟩,⟨Kd.kJ _ _ _ _ _⟩⟩
            case round =>
              obtain ⟨left,ws,s_,gl,rfl,HLL,HI,HRW,HBL,HGL,HSR,HWR⟩:=hrel;clear HWF HI4 HRW4 HS4;have hl15:wr.cell? ⟨gl,0,none⟩=some (.int .i64 left):=(aD HBL.out 0).trans rfl;cases gk with
              |zero=>exact absurd HLL.out (by simp [CV])
              |succ J =>
                have hL:=HLL.out;clear HLL;rw [CV] at hL;by_cases hleft:0≤left
                · rw [if_pos hleft] at hL
                  have dl:decide (0≤left)=true:=decide_eq_true hleft;obtain ⟨o,ho,hL⟩:=Option.bind_eq_some_iff.mp hL;have HOS:=aA.mk ho;have HLN2:=aA.mk hL;have hs1':wr.cell? ⟨w.heap.size,1,none⟩=some (.int .i64 aJ):=(aD HI.out.b1 1).trans rfl;clear ho hL;have hmy:aJ.toNat≤9223372036854775807:=(by have:=HY.out;omega);go_wp2;go_loopg [13,14,122] aJ.toNat (fun q v13' v14' i_ wr=>∃ i:Nat,i≤aJ.toNat∧q=aJ.toNat - i∧i_ = .int .i64 i∧v13'=u13∧v14'=u14∧aA (symF k (j:Int) aJ aV aW l nr left s_ (aJ.toNat - i) i=some o)∧aA (X5 w wr g j #[.int .i64 (j:Int),.int .i64 aJ,.int .i64 aV,.int .i64 aW,.slice A l.length c])∧aA (vE wr g nr)∧aA (wr.heap[gl]?=some (.cells #[.int .i64 left] 3 (0,0)))∧aA (Kd.R (Kd.int .u64) 115 wr w.heap.size (fun _=>True) u13 s_)∧aA (Kd.R (Kd.int .i64) 3 wr w.heap.size (fun q=>q≠g∧q≠gl) u14 ws))
                  case atStart=>exact ⟨0,Nat.zero_le _,by omega,rfl,rfl,rfl,HOS,HI,HRW,HBL,HSR,HWR⟩
                  case round =>
                    obtain ⟨i,hi,rfl,rfl,rfl,rfl,HSF,HI,HRW,HBL,HSR,HWR⟩:=hrel;clear hl15 hs1' HOS dl;by_cases hlt:i<aJ.toNat
                    · have di:decide ((i:Int)<aJ)=true:=decide_eq_true (by omega)
                      have Q8:=HSF.out;obtain ⟨d,hd⟩ : ∃ d,aJ.toNat - i=d+1:=⟨aJ.toNat - i - 1,by omega⟩;rw [hd,symF] at Q8;obtain ⟨t,ht,Q8⟩:=Option.bind_eq_some_iff.mp Q8;obtain ⟨q,hq,Q8⟩:=Option.bind_eq_some_iff.mp Q8;by_cases hall:(q.all fun i=>decide (0≤i) && decide (i<nr.length))=true
                      · rw [if_pos hall] at Q8
                        have HT:=aA.mk ht;have HQ:=aA.mk hq;have HSF2:=aA.mk Q8;have HD:=aA.mk hd;have HIN:aA (∀ z:Nat,z<q.length→0≤rd q z∧rd q z<nr.length):=⟨fun z hz=>by
                          have hm:=(List.all_eq_true.mp hall) (rd q z) (by unfold rd;simp [List.getElem?_eq_getElem hz]);simpa using hm⟩
                        obtain ⟨As,cs,rfl⟩:=Kd.dY HSR.out;obtain ⟨_,aAi,aAj⟩:=Kd.cO HSR.out;have HC3:=aA.mk aAj;have HL3:=aA.mk aAi;have hmf : ∀ (fn:Fn) (first cap:Array Value) (w:World),(Instr.makeFunc fn first cap).run Try.prog w = .ok (.func fn first cap) w:=fun _ _ _ _=>rfl;have hd0:wr.cell? ⟨w.heap.size,0,none⟩=some (.int .i64 (j:Int)):=(aD HI.out.b1 0).trans rfl;have hd1:wr.cell? ⟨w.heap.size,1,none⟩=some (.int .i64 aJ):=(aD HI.out.b1 1).trans rfl;have hd2:wr.cell? ⟨w.heap.size,2,none⟩=some (.int .i64 aV):=(aD HI.out.b1 2).trans rfl;have hd3:wr.cell? ⟨w.heap.size,3,none⟩=some (.int .i64 aW):=(aD HI.out.b1 3).trans rfl;have hd4:wr.cell? ⟨w.heap.size,4,none⟩=some (.slice A l.length c):=(aD HI.out.b1 4).trans rfl;clear ht hq Q8 hd hall aAi aAj;go_wp2_with (fail)
                        go_at_call 42;refine (eT.calls k (j:Int) aJ aV aW A c l (i:Int) As cs s_ t _ (Kd.dJ HR.out HI.out.bl) HC.out HC3.out HL3.out HT.out).mono ?_;rintro e w5 ⟨v17,rfl,hR5,hb5⟩;have HI5:=aA.mk (vY HI.out hb5);have HRW5:=aA.mk (zX HRW.out hb5);have HBL5:=aA.mk (bK HBL.out hb5);have HSR5:=aA.mk (Kd.fE HSR.out hb5);have HWR5:=aA.mk (Kd.fE HWR.out hb5);have HTR5:=aA.mk (Kd.iH hR5 HI.out.bl.size);obtain ⟨At,ct,rfl⟩:=Kd.dY hR5;obtain ⟨_,hrt2,hrt3⟩:=Kd.cO hR5;have HCT:=aA.mk hrt3;have HLT:=aA.mk hrt2;clear hR5 hb5 hd0 hd1 hd2 hd3 hd4 HC3 HL3 hrt2 hrt3 HI HRW HBL HSR HWR;go_wp2_with (fail)
                        go_at_call 56;refine (dU.calls k At ct t q _ HCT.out HLT.out HQ.out).mono ?_;rintro e w6 ⟨v130,rfl,hR6,hb6⟩;have HI6:=aA.mk (vY HI5.out hb6);have HRW6:=aA.mk (zX HRW5.out hb6);have HBL6:=aA.mk (bK HBL5.out hb6);have HSR6:=aA.mk (Kd.fE HSR5.out hb6);have HWR6:=aA.mk (Kd.fE HWR5.out hb6);have HTR6:=aA.mk (Kd.fE HTR5.out hb6);obtain ⟨Aq,cq,rfl⟩:=Kd.dY hR6;obtain ⟨_,_,hrq3⟩:=Kd.cO hR6;have HCQ:=aA.mk hrq3;have HHD:aA (Held w6 (g+1) gl g nr left):=⟨⟨by rw [RX.out];exact HI6.out.b6,HBL6.out,HRW6.out⟩⟩;clear hR6 hb6 hrq3 HI5 HRW5 HBL5 HSR5 HWR5 HTR5 HCT HLT;go_wp2_with (fail)
                        go_at_call 55;refine (CU (g+1) gl g nr left q Aq cq _ HHD.out HCQ.out HIN.out).mono ?_;rintro e w7 ⟨rfl,hb7⟩;have HI7:=aA.mk (vY HI6.out hb7);have HRW7:=aA.mk (zX HRW6.out hb7);have HBL7:=aA.mk (bK HBL6.out hb7);have HSR7:=aA.mk (Kd.fE HSR6.out hb7);have HWR7:=aA.mk (Kd.fE HWR6.out hb7);have HTR7:=aA.mk (Kd.fE HTR6.out hb7);clear hb7 HI6 HRW6 HBL6 HSR6 HWR6 HTR6 HHD HCQ HIN;cases hany:uS nr left q with
                        |true =>
                          have Q8:=HSF2.out;rw [if_pos hany] at Q8;obtain rfl:=Option.some.inj Q8;have hl2:=HLN2.out;by_cases hwl:ws.length<17592186044416
                          · have hl3:CV k (j:Int) aJ aV aW l nr J (wrap64 (left - 1)) (ws ++ [(i:Int)]) t=some wf:=by simpa [hwl] using hl2
                            have HL3:=aA.mk hl3;have HWL:=aA.mk hwl;clear Q8 hl2 hl3 hwl hany;have HGL7:=aA.mk (And.intro (show g<w7.heap.size from gL HRW7.out) (And.intro (show gl<w7.heap.size from gL HBL7.out) (And.intro (show w.heap.size<w7.heap.size from gL HI7.out.b1) (show g+1<w7.heap.size from gL HI7.out.b6))));go_wp2_with (at_builtin;refine Kd.wL (Kd.int .i64) (w0:=w) w.heap.size rfl (.tmp 133) (.tmp 135) 27 3 (.int .i64 0) 8 rfl Try.underlying27 info3 rfl (by decide) (by decide) _ ws (i:Int) [.int .i64 (i:Int)] (fun q=>q≠g∧q≠gl∧q≠w.heap.size∧q≠g+1) (fun _=>False) rfl rfl ?aP (fun _ hk=>hk.elim) ?aF ?aO ?aB ?aS ?aL ?_;(case aP=>exact rfl);(case aF=>exact (fun q hq=>⟨by have:=HGL7.out.1;omega,by have:=HGL7.out.2.1;omega,by have:=HGL7.out.2.2.1;omega,by have:=HGL7.out.2.2.2;omega⟩));(case aO=>exact Kd.dH (Kd.dN (Kd.dN HWR7.out HI7.out.b1 (by decide)) HI7.out.b6 (by decide)) (fun q hq=>⟨hq.1.1.1,hq.1.1.2,hq.1.2,hq.2⟩));(case aB=>exact HI7.out.bl);(case aS=>exact HI7.out.bl.size);(case aL=>have:=HWL.out;omega);intro v1 w8 hR8 hb8 hg8 hat8;obtain ⟨Aw,cw,rfl⟩:=Kd.dY hR8;rw [List.length_append,List.length_singleton] at hR8;rw [List.length_append,List.length_singleton];have hrow8:=HWR7.out.1;have HI8:aA (X5 w w8 g j #[.int .i64 (j:Int),.int .i64 aJ,.int .i64 aV,.int .i64 aW,.slice A l.length c]):=⟨linv_grown HI7.out hg8 (fun q hq=>⟨by rintro rfl;exact Kd.lL HWR7.out HI7.out.b1 (by decide) hq.symm,by rintro rfl;exact Kd.lL HWR7.out HI7.out.b6 (by decide) hq.symm,by obtain ⟨_,inner,hown,_⟩:=HWR7.out;exact zY hown q hq⟩)⟩;have HRW8:aA (vE w8 g nr):=⟨eZ HRW7.out hg8 (fun e=>(hrow8 g e.symm).1 rfl)⟩;have HBL8:=aA.mk (eZ HBL7.out hg8 (fun e=>(hrow8 gl e.symm).2 rfl));have HTR8:=aA.mk (r115_grown HTR7.out HWR7.out hg8);have HWR8:=aA.mk hR8;have hm8:w8.cell? ⟨gl,0,none⟩=some (.int .i64 left):=(aD HBL8.out 0).trans rfl;clear hR8 hb8 hg8 hat8 hrow8)
                            go_roundg J
                            case measure=>omega
                            case rel=>exact ⟨wrap64 (left - 1),ws ++ [(i:Int)],t,w8.heap.size,rfl,HL3,⟨jW HI8.out _⟩,⟨jV HRW8.out _⟩,⟨dX _ _⟩,⟨gL HRW8.out,gL HI8.out.b1,by have:=gL HI8.out.b6;omega⟩,⟨Kd.nY HTR8.out _⟩,⟨Kd.nY (Kd.dH (Kd.lZ HWR8.out) (fun q hq=>⟨hq.1.1,by have:=hq.2.2.1;omega⟩)) _⟩⟩
                          · exact absurd hl2 (by simp [hwl])
                        |false =>
                          have Q8:=HSF2.out;rw [hany,if_neg (by simp)] at Q8;have HSF3:aA (symF k (j:Int) aJ aV aW l nr left s_ (aJ.toNat - (i+1)) (i+1)=some o):=⟨by rw [show aJ.toNat - (i+1)=d by have:=HD.out;omega];exact Q8⟩;clear Q8 hany;go_wp2;go_roundg (aJ.toNat - (i+1))
                          case measure=>omega
                          case rel=>exact ⟨i+1,by omega,rfl,by go_num,rfl,rfl,HSF3,HI7,HRW7,HBL7,HSR7,HWR7⟩
                      · rw [if_neg hall] at Q8
                        exact absurd Q8 (by simp)
                    · have di:decide ((i:Int)<aJ)=false:=decide_eq_false (by omega)
                      have Q8:=HSF.out;rw [show aJ.toNat - i=0 by omega,symF] at Q8;obtain rfl:=Option.some.inj Q8;have HL3:=aA.mk HLN2.out;have hm15:wr.cell? ⟨gl,0,none⟩=some (.int .i64 left):=(aD HBL.out 0).trans rfl;clear Q8;have hgw:g<wr.heap.size:=gL HRW.out;have hbw:w.heap.size<wr.heap.size:=gL HI.out.b1;have hg1:g+1<wr.heap.size:=gL HI.out.b6;have HGW:=aA.mk (And.intro hgw (And.intro hbw hg1));clear hgw hbw hg1;go_wp2;go_roundg J
                      case measure=>omega
                      case rel=>exact ⟨wrap64 (left - 1),ws,s_,wr.heap.size,rfl,HL3,⟨jW HI.out _⟩,⟨jV HRW.out _⟩,⟨dX _ _⟩,⟨HGW.out.1,HGW.out.2.1,by have:=HGW.out.2.2;omega⟩,⟨Kd.nY HSR.out _⟩,⟨Kd.nY (Kd.dH (Kd.lZ HWR.out) (fun q hq=>⟨hq.1.1,by have:=hq.2.2.1;omega⟩)) _⟩⟩
                · rw [if_neg hleft] at hL
                  have dl:decide (0≤left)=false:=decide_eq_false hleft;obtain rfl:=Option.some.inj hL;clear hL hleft;go_wp2;go_ret3
                  exact ⟨_,rfl,Kd.dH HWR.out (fun _ _=>trivial),HI.out.bl⟩
        |true =>
          cases gk with
          |zero=>exact absurd HNF.out (by simp [KE])
          |succ kq =>
            have hb4:wr.cell? ⟨w.heap.size,4,none⟩=some (.slice A l.length c):=(aD HI.out.b1 4).trans rfl;have HOUT:=HNF;clear HNF;go_wp2;go_loopg [8,43] l.length (fun q v8 i wr=>∃ (i':Nat) (b2:Bool) (oU:List Int),i'≤l.length∧q=l.length - i'∧i = .int .i64 i'∧v8 = .bool b2∧aA (GG aJ l (nr,false)=GG aJ (l.drop i') (oU,b2))∧aA (oU.length=j)∧aA (X5 w wr g j #[.int .i64 (j:Int),.int .i64 aJ,.int .i64 aV,.int .i64 aW,.slice A l.length c])∧aA (vE wr g oU))
            case atStart=>exact ⟨0,false,nr,Nat.zero_le _,by omega,rfl,rfl,⟨rfl⟩,RX,HI,HRW⟩
            case round =>
              obtain ⟨i,b2,oU,hi,rfl,rfl,rfl,HPS,RX,HI,HRW⟩:=hrel;clear hb4;by_cases hlt:i<l.length
              · obtain ⟨ad,rfl,hx0,hx1,hx2⟩:=kQ HR.out (i:Int) (by omega) (by omega)
                rw [Int.toNat_natCast] at hx0 hx1 hx2;have hy0:=bJ HI.out.bl hx0;have hy1:=bJ HI.out.bl hx1;have hy2:=bJ HI.out.bl hx2;obtain ⟨⟨p0,p1⟩,⟨p2,p3⟩,p4,p5⟩:=of_decide_eq_true (HARC.out i hlt);have hw1 : ∀ o:Obj,(wr.alloc o).cell? ⟨w.heap.size,1,none⟩=some (.int .i64 aJ):=fun o=>(aD (bH HI.out.b1 o) 1).trans rfl;have hw6 : ∀ o:Obj,(wr.alloc o).cell? ⟨g+1,0,none⟩=some (.slice (some ⟨g,0,none⟩) j j):=fun o=>(aD (bH HI.out.b6 o) 0).trans rfl;have hr2 : ∀ o:Obj,(wr.alloc o).cell? ⟨g,(aG l i).f2.toNat,none⟩=some (.int .i64 (rd oU (aG l i).f2)):=fun o=>yF (jV HRW.out o) _ p2 (by rw [RX.out];exact p3);have hr0 : ∀ o:Obj,(wr.alloc o).cell? ⟨g,(aG l i).f0.toNat,none⟩=some (.int .i64 (rd oU (aG l i).f0)):=fun o=>yF (jV HRW.out o) _ p0 (by rw [RX.out];exact p1);have hz0 : ∀ o:Obj,(wr.alloc o).frozen? ⟨g,(aG l i).f0.toNat,none⟩=false:=fun o=>bF (jV HRW.out o) _;clear hx0 hx1 hx2 p4 p5;by_cases q1:(aG l i).f1 = -1
                · have e1:((aG l i).f1 == -1)=true:=by simp [q1]
                  have e2:((aG l i).f1 == -2)=false:=(by simp [q1]);by_cases q3:rd oU (aG l i).f2<0
                  · have d1:decide (rd oU (aG l i).f2<0)=true:=decide_eq_true q3
                    have HX:=aA.mk (N9 (sy:=aJ) (p:=(oU,b2)) (x:=(aG l i)) (Or.inr q3));have CS:=aA.mk (HPS.out.trans ((lJ aJ l i (oU,b2) hlt).trans (by rw [HX.out])));clear HX;try clear q1
                    try clear q2
                    try clear q3
                    try clear q4
                    try clear q5
                    try clear q6
                    go_wp2;go_roundg (l.length - (i+1))
                    case measure=>omega
                    case rel=>exact ⟨i+1,b2,oU,by omega,rfl,by go_num,rfl,CS,RX,⟨jW HI.out _⟩,⟨jV HRW.out _⟩⟩
                  · have d1:decide (rd oU (aG l i).f2<0)=false:=decide_eq_false q3
                    have q6 : ¬ ((aG l i).f1 = -2∧aJ=0∨rd oU (aG l i).f2<0):=(by omega);obtain ⟨n,hn⟩ : ∃ n,wrap64 (rd oU (aG l i).f2)=n:=⟨_,rfl⟩;have hnn:wrap64 (rd oU (aG l i).f2+(if (aG l i).f1 = -1 then 0 else 1))=n:=(by rw [←hn];simp [q1]);by_cases q4:rd oU (aG l i).f0<0
                    · have d2:decide (rd oU (aG l i).f0<0)=true:=decide_eq_true q4
                      have HX:=aA.mk (xN (sy:=aJ) (p:=(oU,b2)) (x:=(aG l i)) n (q6) hnn (Or.inl q4));have CS:=aA.mk (HPS.out.trans ((lJ aJ l i (oU,b2) hlt).trans (by rw [HX.out])));clear hnn HX;try clear q1
                      try clear q2
                      try clear q3
                      try clear q4
                      try clear q5
                      try clear q6
                      go_wp2;go_roundg (l.length - (i+1))
                      case measure=>omega
                      case rel=>exact ⟨i+1,true,oU.set (aG l i).f0.toNat n,by omega,rfl,by go_num,rfl,CS,⟨by rw [List.length_set];exact RX.out⟩,⟨wO (jW HI.out _) (by have:=ZH.out;show w.heap.size≤g;omega) (by have:=ZH.out;show w.heap.size≠g;omega) (by show g+1≠g;omega) _⟩,⟨tY (jV HRW.out _) _ _⟩⟩
                    · have d2:decide (rd oU (aG l i).f0<0)=false:=decide_eq_false q4
                      by_cases q5:n<rd oU (aG l i).f0
                      · have d3:decide (n<rd oU (aG l i).f0)=true:=decide_eq_true q5
                        have HX:=aA.mk (xN (sy:=aJ) (p:=(oU,b2)) (x:=(aG l i)) n (q6) hnn (Or.inr q5));have CS:=aA.mk (HPS.out.trans ((lJ aJ l i (oU,b2) hlt).trans (by rw [HX.out])));clear hnn HX;try clear q1
                        try clear q2
                        try clear q3
                        try clear q4
                        try clear q5
                        try clear q6
                        go_wp2;go_roundg (l.length - (i+1))
                        case measure=>omega
                        case rel=>exact ⟨i+1,true,oU.set (aG l i).f0.toNat n,by omega,rfl,by go_num,rfl,CS,⟨by rw [List.length_set];exact RX.out⟩,⟨wO (jW HI.out _) (by have:=ZH.out;show w.heap.size≤g;omega) (by have:=ZH.out;show w.heap.size≠g;omega) (by show g+1≠g;omega) _⟩,⟨tY (jV HRW.out _) _ _⟩⟩
                      · have d3:decide (n<rd oU (aG l i).f0)=false:=decide_eq_false q5
                        have HX:=aA.mk (CW (sy:=aJ) (p:=(oU,b2)) (x:=(aG l i)) n (q6) hnn (fun q=>q.elim q4 q5));have CS:=aA.mk (HPS.out.trans ((lJ aJ l i (oU,b2) hlt).trans (by rw [HX.out])));clear hnn HX;try clear q1
                        try clear q2
                        try clear q3
                        try clear q4
                        try clear q5
                        try clear q6
                        go_wp2;go_roundg (l.length - (i+1))
                        case measure=>omega
                        case rel=>exact ⟨i+1,b2,oU,by omega,rfl,by go_num,rfl,CS,RX,⟨jW HI.out _⟩,⟨jV HRW.out _⟩⟩
                · have e1:((aG l i).f1 == -1)=false:=by simp [q1]
                  by_cases q2:(aG l i).f1 = -2
                  · have e2:((aG l i).f1 == -2)=true:=by simp [q2]
                    by_cases q7:aJ=0
                    · have e3:(aJ==0)=true:=by simp [q7]
                      have HX:=aA.mk (N9 (sy:=aJ) (p:=(oU,b2)) (x:=(aG l i)) (Or.inl ⟨q2,q7⟩));have CS:=aA.mk (HPS.out.trans ((lJ aJ l i (oU,b2) hlt).trans (by rw [HX.out])));clear HX;try clear q1
                      try clear q2
                      try clear q3
                      try clear q4
                      try clear q5
                      try clear q6
                      go_wp2;go_roundg (l.length - (i+1))
                      case measure=>omega
                      case rel=>exact ⟨i+1,b2,oU,by omega,rfl,by go_num,rfl,CS,RX,⟨jW HI.out _⟩,⟨jV HRW.out _⟩⟩
                    · have e3:(aJ==0)=false:=by simp [q7]
                      by_cases q3:rd oU (aG l i).f2<0
                      · have d1:decide (rd oU (aG l i).f2<0)=true:=decide_eq_true q3
                        have HX:=aA.mk (N9 (sy:=aJ) (p:=(oU,b2)) (x:=(aG l i)) (Or.inr q3));have CS:=aA.mk (HPS.out.trans ((lJ aJ l i (oU,b2) hlt).trans (by rw [HX.out])));clear HX;try clear q1
                        try clear q2
                        try clear q3
                        try clear q4
                        try clear q5
                        try clear q6
                        go_wp2;go_roundg (l.length - (i+1))
                        case measure=>omega
                        case rel=>exact ⟨i+1,b2,oU,by omega,rfl,by go_num,rfl,CS,RX,⟨jW HI.out _⟩,⟨jV HRW.out _⟩⟩
                      · have d1:decide (rd oU (aG l i).f2<0)=false:=decide_eq_false q3
                        have q6 : ¬ ((aG l i).f1 = -2∧aJ=0∨rd oU (aG l i).f2<0):=(by omega);obtain ⟨n,hn⟩ : ∃ n,wrap64 (rd oU (aG l i).f2+1)=n:=⟨_,rfl⟩;have hnn:wrap64 (rd oU (aG l i).f2+(if (aG l i).f1 = -1 then 0 else 1))=n:=(by rw [←hn];simp [q1]);by_cases q4:rd oU (aG l i).f0<0
                        · have d2:decide (rd oU (aG l i).f0<0)=true:=decide_eq_true q4
                          have HX:=aA.mk (xN (sy:=aJ) (p:=(oU,b2)) (x:=(aG l i)) n (q6) hnn (Or.inl q4));have CS:=aA.mk (HPS.out.trans ((lJ aJ l i (oU,b2) hlt).trans (by rw [HX.out])));clear hnn HX;try clear q1
                          try clear q2
                          try clear q3
                          try clear q4
                          try clear q5
                          try clear q6
                          go_wp2;go_roundg (l.length - (i+1))
                          case measure=>omega
                          case rel=>exact ⟨i+1,true,oU.set (aG l i).f0.toNat n,by omega,rfl,by go_num,rfl,CS,⟨by rw [List.length_set];exact RX.out⟩,⟨wO (jW HI.out _) (by have:=ZH.out;show w.heap.size≤g;omega) (by have:=ZH.out;show w.heap.size≠g;omega) (by show g+1≠g;omega) _⟩,⟨tY (jV HRW.out _) _ _⟩⟩
                        · have d2:decide (rd oU (aG l i).f0<0)=false:=decide_eq_false q4
                          by_cases q5:n<rd oU (aG l i).f0
                          · have d3:decide (n<rd oU (aG l i).f0)=true:=decide_eq_true q5
                            have HX:=aA.mk (xN (sy:=aJ) (p:=(oU,b2)) (x:=(aG l i)) n (q6) hnn (Or.inr q5));have CS:=aA.mk (HPS.out.trans ((lJ aJ l i (oU,b2) hlt).trans (by rw [HX.out])));clear hnn HX;try clear q1
                            try clear q2
                            try clear q3
                            try clear q4
                            try clear q5
                            try clear q6
                            go_wp2;go_roundg (l.length - (i+1))
                            case measure=>omega
                            case rel=>exact ⟨i+1,true,oU.set (aG l i).f0.toNat n,by omega,rfl,by go_num,rfl,CS,⟨by rw [List.length_set];exact RX.out⟩,⟨wO (jW HI.out _) (by have:=ZH.out;show w.heap.size≤g;omega) (by have:=ZH.out;show w.heap.size≠g;omega) (by show g+1≠g;omega) _⟩,⟨tY (jV HRW.out _) _ _⟩⟩
                          · have d3:decide (n<rd oU (aG l i).f0)=false:=decide_eq_false q5
                            have HX:=aA.mk (CW (sy:=aJ) (p:=(oU,b2)) (x:=(aG l i)) n (q6) hnn (fun q=>q.elim q4 q5));have CS:=aA.mk (HPS.out.trans ((lJ aJ l i (oU,b2) hlt).trans (by rw [HX.out])));clear hnn HX;try clear q1
                            try clear q2
                            try clear q3
                            try clear q4
                            try clear q5
                            try clear q6
                            go_wp2;go_roundg (l.length - (i+1))
                            case measure=>omega
                            case rel=>exact ⟨i+1,b2,oU,by omega,rfl,by go_num,rfl,CS,RX,⟨jW HI.out _⟩,⟨jV HRW.out _⟩⟩
                  · have e2:((aG l i).f1 == -2)=false:=by simp [q2]
                    by_cases q3:rd oU (aG l i).f2<0
                    · have d1:decide (rd oU (aG l i).f2<0)=true:=decide_eq_true q3
                      have HX:=aA.mk (N9 (sy:=aJ) (p:=(oU,b2)) (x:=(aG l i)) (Or.inr q3));have CS:=aA.mk (HPS.out.trans ((lJ aJ l i (oU,b2) hlt).trans (by rw [HX.out])));clear HX;try clear q1
                      try clear q2
                      try clear q3
                      try clear q4
                      try clear q5
                      try clear q6
                      go_wp2;go_roundg (l.length - (i+1))
                      case measure=>omega
                      case rel=>exact ⟨i+1,b2,oU,by omega,rfl,by go_num,rfl,CS,RX,⟨jW HI.out _⟩,⟨jV HRW.out _⟩⟩
                    · have d1:decide (rd oU (aG l i).f2<0)=false:=decide_eq_false q3
                      have q6 : ¬ ((aG l i).f1 = -2∧aJ=0∨rd oU (aG l i).f2<0):=(by omega);obtain ⟨n,hn⟩ : ∃ n,wrap64 (rd oU (aG l i).f2+1)=n:=⟨_,rfl⟩;have hnn:wrap64 (rd oU (aG l i).f2+(if (aG l i).f1 = -1 then 0 else 1))=n:=(by rw [←hn];simp [q1]);by_cases q4:rd oU (aG l i).f0<0
                      · have d2:decide (rd oU (aG l i).f0<0)=true:=decide_eq_true q4
                        have HX:=aA.mk (xN (sy:=aJ) (p:=(oU,b2)) (x:=(aG l i)) n (q6) hnn (Or.inl q4));have CS:=aA.mk (HPS.out.trans ((lJ aJ l i (oU,b2) hlt).trans (by rw [HX.out])));clear hnn HX;try clear q1
                        try clear q2
                        try clear q3
                        try clear q4
                        try clear q5
                        try clear q6
                        go_wp2;go_roundg (l.length - (i+1))
                        case measure=>omega
                        case rel=>exact ⟨i+1,true,oU.set (aG l i).f0.toNat n,by omega,rfl,by go_num,rfl,CS,⟨by rw [List.length_set];exact RX.out⟩,⟨wO (jW HI.out _) (by have:=ZH.out;show w.heap.size≤g;omega) (by have:=ZH.out;show w.heap.size≠g;omega) (by show g+1≠g;omega) _⟩,⟨tY (jV HRW.out _) _ _⟩⟩
                      · have d2:decide (rd oU (aG l i).f0<0)=false:=decide_eq_false q4
                        by_cases q5:n<rd oU (aG l i).f0
                        · have d3:decide (n<rd oU (aG l i).f0)=true:=decide_eq_true q5
                          have HX:=aA.mk (xN (sy:=aJ) (p:=(oU,b2)) (x:=(aG l i)) n (q6) hnn (Or.inr q5));have CS:=aA.mk (HPS.out.trans ((lJ aJ l i (oU,b2) hlt).trans (by rw [HX.out])));clear hnn HX;try clear q1
                          try clear q2
                          try clear q3
                          try clear q4
                          try clear q5
                          try clear q6
                          go_wp2;go_roundg (l.length - (i+1))
                          case measure=>omega
                          case rel=>exact ⟨i+1,true,oU.set (aG l i).f0.toNat n,by omega,rfl,by go_num,rfl,CS,⟨by rw [List.length_set];exact RX.out⟩,⟨wO (jW HI.out _) (by have:=ZH.out;show w.heap.size≤g;omega) (by have:=ZH.out;show w.heap.size≠g;omega) (by show g+1≠g;omega) _⟩,⟨tY (jV HRW.out _) _ _⟩⟩
                        · have d3:decide (n<rd oU (aG l i).f0)=false:=decide_eq_false q5
                          have HX:=aA.mk (CW (sy:=aJ) (p:=(oU,b2)) (x:=(aG l i)) n (q6) hnn (fun q=>q.elim q4 q5));have CS:=aA.mk (HPS.out.trans ((lJ aJ l i (oU,b2) hlt).trans (by rw [HX.out])));clear hnn HX;try clear q1
                          try clear q2
                          try clear q3
                          try clear q4
                          try clear q5
                          try clear q6
                          go_wp2;go_roundg (l.length - (i+1))
                          case measure=>omega
                          case rel=>exact ⟨i+1,b2,oU,by omega,rfl,by go_num,rfl,CS,RX,⟨jW HI.out _⟩,⟨jV HRW.out _⟩⟩
              · obtain rfl:i=l.length:=by omega
                have HEND:=aA.mk (HPS.out.trans (passF_end aJ l l.length (oU,b2) (Nat.le_refl _)));have HNX:aA (if b2=true then KE aJ l kq oU=some near else oU=near):=⟨by
                  have h:KE aJ l (kq+1) nr=some near:=(by simpa using HOUT.out);rw [KE,HEND.out] at h;cases b2 with
                  |true=>rw [if_pos rfl];rw [if_pos rfl] at h;exact h
                  |false=>rw [if_neg (by simp)];rw [if_neg (by simp)] at h;exact Option.some.inj h⟩
                go_wp2;go_roundg kq
                case measure=>omega
                case rel=>exact ⟨b2,oU,rfl,HNX,RX,HI,HRW⟩
set_option maxRecDepth 100000 in
set_option maxHeartbeats 1600000 in
theorem vX.calls (k:Nat) (aM:Int) (aJ:Int) (aV:Int) (aW:Int) (gN:Option Addr) (fM:Nat) (aI:List (gV)) (r1:List Int) (r2:Bool) (r3:Int) (w:World) (kW:Kd.C xP w gN aI.length aI) (lF:aI.length≤fM) (h:vX.f k aM aJ aV aW aI=some (r1,r2,r3)) :
    Calls Try.prog 22 #[.agg #[.int .i64 aM,.int .i64 aJ,.int .i64 aV,.int .i64 aW,.slice gN aI.length fM]] w fun e w'=>∃ yR:Value,e = .returned (.tuple #[yR,.bool r2,.int .i64 r3])∧Kd.R (Kd.int .i64) 3 w' w.heap.size (fun _=>True) yR r1∧Below w.heap.size w w':=by
  have h0:=h;unfold vX.f at h0;obtain ⟨cc,hcc,h0⟩:=Option.bind_eq_some_iff.mp h0;by_cases hc:cc=0
  · subst hc
    rw [if_pos rfl] at h0;obtain ⟨near,hnear,_⟩:=Option.bind_eq_some_iff.mp h0;have hck:=hcc;unfold jI.f at hck;have hck:=Option.some.inj hck;by_cases b1:65536<aI.length
    · rw [if_pos b1] at hck;exact absurd hck (by decide)
    · rw [if_neg b1] at hck
      by_cases b2:mF aM aJ aV aW=true
      · rw [if_pos b2] at hck
        by_cases b3:aI.all (iQ aM aJ)=true
        · obtain ⟨m,rfl⟩:=Int.eq_ofNat_of_zero_le (show 0≤aM by have:=(of_decide_eq_true b2).1;omega)
          refine (least_walk k m aJ aV aW gN fM aI w kW lF b2 (fun j hj=>?_) hcc near (by rw [show m=((m:Nat):Int).toNat by simp];exact hnear) (r1,r2,r3) h).mono fun _ _ q=>q;exact (List.all_eq_true.mp b3) (aG aI j) (by unfold aG;simp [List.getElem?_eq_getElem hj])
        · rw [if_neg b3] at hck;exact absurd hck (by decide)
      · rw [if_neg b2] at hck;exact absurd hck (by decide)
  · rw [if_neg hc] at h0
    have e:=Option.some.inj h0;injection e with e1 e2;injection e2 with e2 e3;subst e1;subst e2;subst e3;have HCC:=aA.mk hcc;have HR:=aA.mk kW;have HL:=aA.mk lF;have hne:(cc != 0)=true:=(by simp [hc]);clear h h0 hcc kW lF hc;go_enter Try.func22,Try.ntmps22;go_wp2_with (go_at_call 31;refine (jI.calls aM aJ aV aW gN fM aI cc _ (Kd.dJ HR.out (aN (Below.refl _ _) _)) HL.out HCC.out).mono ?_;rintro e w1 ⟨rfl,hb1⟩;have HB1:=aA.mk (bU (aN (Below.refl _ _) _) (by simp) hb1);clear hb1)
    go_ret3
    exact ⟨.slice none 0 0,rfl,Kd.kJ _ _ _ _ _,HB1.out⟩
end Go.Proofs.Ytapinbmkjkbkkaa.Ls
namespace Go.Proofs.Ytapinbmkjkbkkaa.Mk
open Go.RowKit Go.Proofs.aC.bE Go.Proofs.aC.bV Go.Proofs.aC.bY Lb Ls
def exB:ByteArray:=⟨#[98]⟩
def exA:ByteArray:=⟨#[97]⟩
def ex0:ByteArray:=⟨#[]⟩
def exK1:List gB:=[⟨1,exB,[]⟩,⟨3,ex0,[]⟩]
def exK3:List gB:=[⟨1,exA,[]⟩,⟨6,ex0,exK1⟩]
def exR:gB:=⟨5,ex0,exK3⟩
def rR:List gV:=[⟨0,0,2⟩,⟨2,-1,3⟩,⟨3,1,4⟩,⟨4,-1,1⟩,⟨2,-1,5⟩,⟨5,-1,6⟩,⟨6,-1,1⟩]
def noNot:St→Int→Int→St→Option St:=fun _ _ _ s=>some s
theorem ex_alone:qO ([exA,exB].map nk) noNot exR=some (7,rR):=by kernel_rfl
theorem ex_check:sS 10 exR.f0 exR.f1 exR.f2=some 0:=by kernel_rfl
theorem ex_names:iU [] [exA,exB]=true:=by kernel_rfl
theorem ex_run1:jX.f 30 7 2 0 1 rR [0,1]=some (true,0):=by kernel_rfl
theorem ex_run2:jX.f 30 7 2 0 1 rR [1]=some (false,0):=by kernel_rfl
theorem ex_least:vX.f 80 7 2 0 1 rR=some ([0],true,0):=by kernel_rfl
def exV (B3:Nat):Value:=.agg #[.int .i64 5,.string ⟨#[]⟩,.slice (some ⟨B3,0,none⟩) 2 2]
def exC3 (B1:Nat):Array Value:=#[.int .i64 1,.string ⟨#[97]⟩,.slice none 0 0,.int .i64 6,.string ⟨#[]⟩,.slice (some ⟨B1,0,none⟩) 2 2]
def exC1:Array Value:=#[.int .i64 1,.string ⟨#[98]⟩,.slice none 0 0,.int .i64 3,.string ⟨#[]⟩,.slice none 0 0]
set_option maxHeartbeats 800000 in
theorem RY (w:World):Calls Try.prog 33 #[] w fun e w'=>∃ B3 B1:Nat,e = .returned (exV B3)∧w'.heap[B1]?=some (.cells exC1 25 (0,0))∧w'.heap[B3]?=some (.cells (exC3 B1) 25 (0,0))∧Below w.heap.size w w':=by
  go_enter Try.func33,Try.ntmps33;go_wp2;refine bodyPost_ret (v:=exV (w.heap.size+1+1+1)) (by simp [results,Try.results33,go_sem,exV]) rfl ⟨w.heap.size+1+1+1,w.heap.size+1,rfl,?_,?_,?_⟩
  · show ((((w.heap.push _).push _).push _).push _)[w.heap.size+1]?=_
    rw [Array.getElem?_push,if_neg (by simp),Array.getElem?_push,if_neg (by simp),Array.getElem?_push,if_pos (by simp)];rfl
  · show ((((w.heap.push _).push _).push _).push _)[w.heap.size+1+1+1]?=_
    rw [Array.getElem?_push,if_pos (by simp)];rfl
  · repeat (first|exact Below.refl _ _|apply aN|apply bX)
theorem YS (w:World):Kd.C k25 w none ([]:List gB).length []:=Kd.FH _ _
theorem ex_C1 {w:World} {B1:Nat} (h:w.heap[B1]?=some (.cells exC1 25 (0,0))):Kd.C k25 w (some ⟨B1,0,none⟩) exK1.length exK1:=by
  refine ⟨rfl,by decide,fun _=>⟨⟨B1,0,none⟩,rfl,fun j p hj=>?_⟩⟩
  match j,hj with
  |0,hj =>
    obtain rfl:=Option.some.inj hj;refine ⟨_,rfl,JA w ⟨1,exB,[]⟩ (A2:=none) (c2:=0) (Nat.le_refl _) (YS w),fun i u hu=>?_⟩;rw [add_plain,aD h]
    match i,hu with
    |0,hu=>exact hu
    |1,hu=>exact hu
    |2,hu=>exact hu
    |i+3,hu=>simp at hu
  |1,hj =>
    obtain rfl:=Option.some.inj hj;refine ⟨_,rfl,JA w ⟨3,ex0,[]⟩ (A2:=none) (c2:=0) (Nat.le_refl _) (YS w),fun i u hu=>?_⟩;rw [add_plain,aD h]
    match i,hu with
    |0,hu=>exact hu
    |1,hu=>exact hu
    |2,hu=>exact hu
    |i+3,hu=>simp at hu
  |j+2,hj=>simp [exK1] at hj
theorem ex_C3 {w:World} {B1 B3:Nat} (h1:w.heap[B1]?=some (.cells exC1 25 (0,0))) (h:w.heap[B3]?=some (.cells (exC3 B1) 25 (0,0))):Kd.C k25 w (some ⟨B3,0,none⟩) exK3.length exK3:=by
  refine ⟨rfl,by decide,fun _=>⟨⟨B3,0,none⟩,rfl,fun j p hj=>?_⟩⟩
  match j,hj with
  |0,hj =>
    obtain rfl:=Option.some.inj hj;refine ⟨_,rfl,JA w ⟨1,exA,[]⟩ (A2:=none) (c2:=0) (Nat.le_refl _) (YS w),fun i u hu=>?_⟩;rw [add_plain,aD h]
    match i,hu with
    |0,hu=>exact hu
    |1,hu=>exact hu
    |2,hu=>exact hu
    |i+3,hu=>simp at hu
  |1,hj =>
    obtain rfl:=Option.some.inj hj;refine ⟨_,rfl,JA w ⟨6,ex0,exK1⟩ (A2:=some ⟨B1,0,none⟩) (c2:=2) (Nat.le_refl _) (ex_C1 h1),fun i u hu=>?_⟩;rw [add_plain,aD h]
    match i,hu with
    |0,hu=>exact hu
    |1,hu=>exact hu
    |2,hu=>exact hu
    |i+3,hu=>simp at hu
  |j+2,hj=>simp [exK3] at hj
theorem ex_make (nm:List (List UInt8)):rP nm noNot exR:=by
  refine ZL ex0 exK3 (fun k hk=>?_);rcases List.mem_cons.mp hk with rfl|hk
  · exact GY exA [] (by decide)
  · rcases List.mem_cons.mp hk with rfl|hk
    · refine ZM ex0 exK1 (fun k hk=>?_)
      rcases List.mem_cons.mp hk with rfl|hk
      · exact GY exB [] (by decide)
      · rcases List.mem_cons.mp hk with rfl|hk
        · exact ZK 3 ex0 [] (.inr rfl)
        · cases hk
    · cases hk
set_option maxHeartbeats 1600000 in
theorem ex_build {w0 w:World} {B1 B3:Nat} (An:Option Addr) (cn:Nat) (h1:w.heap[B1]?=some (.cells exC1 25 (0,0))) (h3:w.heap[B3]?=some (.cells (exC3 B1) 25 (0,0))) (hn:Kd.C Kd.string w An [exA,exB].length [exA,exB]) :
    Calls Try.prog 11 #[exV B3,.slice An 2 cn] w fun e w'=>FinB w 7 2 0 1 rR 0 e w':=by
  refine (JF 10 exR (some ⟨B3,0,none⟩) 2 [exA,exB] An cn noNot w (ex_C3 h1 h3) (Nat.le_refl _) hn (fun i=>?_) ex_check (fun _=>R8 exR (ex_make _)) _ ?_ ?_ ?_)
  · unfold fF
    match i.toNat with
    |0=>decide
    |1=>decide
    |j+2=>show (ByteArray.empty).size≤_;decide
  · rintro (h|h)
    · simp at h
    · rw [ex_names] at h;cases h
  · intro _ _ h
    rw [ex_alone] at h;cases h
  · intro _ _ s hs e W' hF
    rw [ex_alone] at hs;obtain rfl:=Option.some.inj hs;exact hF
theorem names_C {w:World} {b:Nat} (h:w.heap[b]?=some (.cells #[.string exA,.string exB] 9 (0,0))):Kd.C Kd.string w (some ⟨b,0,none⟩) [exA,exB].length [exA,exB]:=by
  refine ⟨rfl,by decide,fun _=>⟨⟨b,0,none⟩,rfl,fun j p hj=>?_⟩⟩
  match j,hj with
  |0,hj =>
    obtain rfl:=Option.some.inj hj;refine ⟨[.string exA],rfl,rfl,fun i u hu=>?_⟩;rw [add_plain,aD h]
    match i,hu with
    |0,hu=>exact hu
    |i+1,hu=>simp at hu
  |1,hj =>
    obtain rfl:=Option.some.inj hj;refine ⟨[.string exB],rfl,rfl,fun i u hu=>?_⟩;rw [add_plain,aD h]
    match i,hu with
    |0,hu=>exact hu
    |i+1,hu=>simp at hu
  |j+2,hj=>simp at hj
theorem ints_C {w:World} {b:Nat} {xs:List Int} (h:w.heap[b]?=some (.cells (nums .i64 xs).toArray 3 (0,0))) (hl:xs.length≤9223372036854775807):Kd.C (Kd.int .i64) w (some ⟨b,0,none⟩) xs.length xs:=by
  refine ⟨rfl,hl,fun _=>⟨⟨b,0,none⟩,rfl,fun j p hj=>⟨[.int .i64 p],rfl,rfl,fun i u hu=>?_⟩⟩⟩;rw [add_plain,aD h]
  match i,hu with
  |0,hu =>
    show (nums .i64 xs).toArray[j * 1+0]?=some u;obtain ⟨hlt,hp⟩:=List.getElem?_eq_some_iff.mp hj;obtain rfl:=Option.some.inj hu;simp [nums,List.getElem?_eq_getElem hlt,hp]
  |i+1,hu=>simp at hu
set_option maxRecDepth 100000 in
set_option maxHeartbeats 6400000 in
theorem ZZ (w:World):Calls Try.prog 10 #[] w fun e w'=>e = .returned (.bool true)∧Below w.heap.size w w':=by
  go_enter Try.func10,Try.ntmps10;go_wp2_with (fail)
  go_at_call 33;refine (RY w).mono ?_;rintro e w1 ⟨B3,B1,rfl,h1,h3,hb1⟩;have H1:=aA.mk (bH h1 (.cells #[.string exA,.string exB] 9));have H3:=aA.mk (bH h3 (.cells #[.string exA,.string exB] 9));have HB1:=aA.mk (aN hb1 (.cells #[.string exA,.string exB] 9));have HN:=aA.mk (names_C (dX w1 (.cells #[.string exA,.string exB] 9)));clear h1 h3 hb1;go_wp2_with (fail)
  go_at_call 11;refine (ex_build (w0:=w) (some ⟨w1.heap.size,0,none⟩) 2 H1.out H3.out HN.out).mono ?_;rintro e w2 ⟨v,rfl,hR,hb2⟩;obtain ⟨Av,cv,rfl⟩:=Kd.dY hR;obtain ⟨_,hcv,hrc⟩:=Kd.cO hR;have HCV:=aA.mk hcv;have OO:=aA.mk hrc;have HB2:=aA.mk (bU HB1.out HB1.out.size hb2);have HX3:=aA.mk (bH (dX w2 (.cells #[.int .i64 7,.int .i64 2,.int .i64 0,.int .i64 1,.slice Av rR.length cv] 31)) (.cells #[.int .i64 0,.int .i64 1] 3));have HC3:=aA.mk (Kd.dJ OO.out (aN (aN (Below.refl _ _) (.cells #[.int .i64 7,.int .i64 2,.int .i64 0,.int .i64 1,.slice Av rR.length cv] 31)) (.cells #[.int .i64 0,.int .i64 1] 3)));have HW3:aA (Kd.C (Kd.int .i64) ((w2.alloc (.cells #[.int .i64 7,.int .i64 2,.int .i64 0,.int .i64 1,.slice Av rR.length cv] 31)).alloc (.cells #[.int .i64 0,.int .i64 1] 3)) (some ⟨w2.heap.size+1,0,none⟩) [(0:Int),1].length [0,1]):=⟨ints_C (by have e:=dX (w2.alloc (.cells #[.int .i64 7,.int .i64 2,.int .i64 0,.int .i64 1,.slice Av rR.length cv] 31)) (.cells #[.int .i64 0,.int .i64 1] 3);simpa [nums] using e) (by decide)⟩;clear hR hb2 hcv hrc H1 H3 HN;go_wp2_with (fail)
  go_at_call 14;refine (jX.calls 30 7 2 0 1 Av cv rR (some ⟨w2.heap.size+1,0,none⟩) 2 [0,1] true 0 _ HC3.out HCV.out HW3.out (Nat.le_refl _) ex_run1).mono ?_;rintro e w3 ⟨rfl,hb3⟩;have HX4:=aA.mk (bK HX3.out hb3);have HC4:=aA.mk (Kd.dJ HC3.out hb3);have wV:=aA.mk (bU (aN (aN HB2.out (.cells #[.int .i64 7,.int .i64 2,.int .i64 0,.int .i64 1,.slice Av rR.length cv] 31)) (.cells #[.int .i64 0,.int .i64 1] 3)) (aN (aN HB2.out (.cells #[.int .i64 7,.int .i64 2,.int .i64 0,.int .i64 1,.slice Av rR.length cv] 31)) (.cells #[.int .i64 0,.int .i64 1] 3)).size hb3);have ha0:w3.cell? ⟨w2.heap.size,0,none⟩=some (.int .i64 7):=(aD HX4.out 0).trans rfl;have ha1:w3.cell? ⟨w2.heap.size,1,none⟩=some (.int .i64 2):=(aD HX4.out 1).trans rfl;have ha2:w3.cell? ⟨w2.heap.size,2,none⟩=some (.int .i64 0):=(aD HX4.out 2).trans rfl;have ha3:w3.cell? ⟨w2.heap.size,3,none⟩=some (.int .i64 1):=(aD HX4.out 3).trans rfl;have MQ:w3.cell? ⟨w2.heap.size,4,none⟩=some (.slice Av rR.length cv):=(aD HX4.out 4).trans rfl;have HX5:=aA.mk (bH HX4.out (.cells #[.int .i64 1] 3));have HC5:=aA.mk (Kd.dJ HC4.out (aN (Below.refl _ _) (.cells #[.int .i64 1] 3)));have HW5:aA (Kd.C (Kd.int .i64) (w3.alloc (.cells #[.int .i64 1] 3)) (some ⟨w3.heap.size,0,none⟩) [(1:Int)].length [1]):=⟨ints_C (by have e:=dX w3 (.cells #[.int .i64 1] 3);simpa [nums] using e) (by decide)⟩;clear hb3 HX3 HC3 HW3;go_wp2_with (fail)
  go_at_call 14;refine (jX.calls 30 7 2 0 1 Av cv rR (some ⟨w3.heap.size,0,none⟩) 1 [1] false 0 _ HC5.out HCV.out HW5.out (Nat.le_refl _) ex_run2).mono ?_;rintro e w4 ⟨rfl,hb4⟩;have HX6:=aA.mk (bK HX5.out hb4);have HC6:=aA.mk (Kd.dJ HC5.out hb4);have SK:=aA.mk (bU (aN wV.out (.cells #[.int .i64 1] 3)) (aN wV.out (.cells #[.int .i64 1] 3)).size hb4);clear hb4 HX5 HC5 HW5 ha0 ha1 ha2 ha3 MQ;have hb0:w4.cell? ⟨w2.heap.size,0,none⟩=some (.int .i64 7):=(aD HX6.out 0).trans rfl;have hb1:w4.cell? ⟨w2.heap.size,1,none⟩=some (.int .i64 2):=(aD HX6.out 1).trans rfl;have hb2:w4.cell? ⟨w2.heap.size,2,none⟩=some (.int .i64 0):=(aD HX6.out 2).trans rfl;have hb3:w4.cell? ⟨w2.heap.size,3,none⟩=some (.int .i64 1):=(aD HX6.out 3).trans rfl;have hb4:w4.cell? ⟨w2.heap.size,4,none⟩=some (.slice Av rR.length cv):=(aD HX6.out 4).trans rfl;go_wp2_with (fail)
  go_at_call 22;refine (vX.calls 80 7 2 0 1 Av cv rR [0] true 0 _ HC6.out HCV.out ex_least).mono ?_;rintro e w5 ⟨v7,rfl,hR7,hb7⟩;obtain ⟨A7,c7,rfl⟩:=Kd.dY hR7;have HB7:=aA.mk (bU SK.out SK.out.size hb7);clear hR7 hb7;go_wp2;go_ret;exact ⟨rfl,HB7.out⟩
end Go.Proofs.Ytapinbmkjkbkkaa.Mk
namespace Go.Proofs.Ytapinbmkjkbkkaa.Pu
open Go.RowKit Go.Proofs.aC.bE Go.Proofs.aC.bV Go.Proofs.aC.bY Lb
def bl (b:List Bool):Nat→Nat→List Int
  |_,0=>[]
  |p,d+1=>if b.getD p false=true then (p:Int) :: bl b (p+1) d else bl b (p+1) d
section
variable {m : Nat}
theorem at_div (i n:Nat) (h:n<64):(i * 64+n) / 64=i∧(i * 64+n) % 64=n:=by omega
end
end Go.Proofs.Ytapinbmkjkbkkaa.Pu
