import Derived.Test.YtapinbmkjkbkkaaRows
import Derived.WalkKit
import Derived.ProofKit
import Derived.OpenShut
import Derived.Lib.SmallJoins
import Derived.Deep.DeepHandedRow
import Derived.Deep.Slices
import Derived.SizedLaws
import Derived.Below
import Derived.ChangeOld
import Derived.Test.YtapinbmkjkbkkaaBuLbx2
namespace Go.Proofs.Ytapinbmkjkbkkaa
open Go.ChangeShapes Go.WideShapes Go.ChangeAt Go.RowKit Go.Joins Go.Proofs.aC.bE Go.Proofs.aC.bV Go.Proofs.aC.bY Lb
theorem own:ownKnob Try.prog.godebug=none:=by kernel_rfl
theorem laidOut:laidOutB Try.prog=true:=by kernel_rfl
theorem cells3:Try.prog.cellsOf 3=1:=by kernel_rfl
theorem bytes3:Try.prog.bytesOf 3=8:=by kernel_rfl
theorem list3 {α:Type} {l:List α} (h:l.length=3) : ∃ c0 c1 c2,l=[c0,c1,c2]:=by
  match l,h with
  |[c0,c1,c2],_=>exact ⟨c0,c1,c2,rfl⟩
section
variable {H : Type} {enc : TypeId × Value → H} {W : World} {base : Nat} {held : Bool} {r : Reach} {b0 : Nat}
theorem open_nums {fuel:Nat} {v:Value} {x:DataW H × List MemPlace} (h:DataW.trod enc Try.prog W base (fun _=>true) held fuel 27 [v]=some x) :
    ∃ (A:Option Addr) (c:Nat) (l:List Int),v = .slice A l.length c∧l.length≤c∧Kd.C (Kd.int .i64) W A l.length l∧(l=[]∨∃ es sp,x.1 = .slice es sp∧es.length=l.length):=by
  rcases open_ints Try.underlying27 Try.underlying3 cells3 h with ⟨e1,e2⟩|⟨a,len,cap,zs,e1,_,hl,hm,hz,e2,hcell,hwf⟩
  · obtain rfl:v = .slice none 0 0:=by simpa using e1
    exact ⟨none,0,[],rfl,Nat.le_refl _,Kd.FH _ _,.inl rfl⟩
  · obtain rfl:v = .slice (some a) len cap:=by simpa using e1
    have hz':zs.length=cap:=(by simpa using hz);have hm':cap≤9223372036854775807:=(by simpa [maxLen] using hm);have hlen:(zs.take len).length=len:=(by rw [List.length_take];omega);refine ⟨some a,cap,zs.take len,by rw [hlen],by omega,?_,.inr ⟨_,_,by rw [e2],by simp [lits]⟩⟩;refine ⟨rfl,by omega,fun hn=>⟨a,rfl,fun j x hj=>⟨[.int .i64 x],rfl,rfl,fun i u hi=>?_⟩⟩⟩;have hjl:j<len:=by
      have:=(List.getElem?_eq_some_iff.1 hj).1;omega
    have hx:zs.getD j 0=x:=by
      rw [List.getElem?_take_of_lt hjl] at hj;simp [List.getD_eq_getElem?_getD,hj]
    have:=hcell j (by omega);rw [hx] at this
    match i,hi with
    |0,hi =>
      obtain rfl:Value.int .i64 x=u:=(by simpa using hi);simpa [Kd.int,Kd.scalar] using this
set_option maxRecDepth 20000 in
theorem open_list {v:Value} {d:DataW H} {p:List MemPlace} (hv:Value.okWide Try.prog W r b0 27 v) (h:DataW.Trod enc Try.prog W base (fun _=>true) held 27 v d p) :
    ∃ (A:Option Addr) (c:Nat) (l:List Int),v = .slice A l.length c∧l.length≤c∧Kd.C (Kd.int .i64) W A l.length l∧(l=[]∨∃ es sp,d = .slice es sp∧es.length=l.length):=by
  obtain ⟨a,len,cap,rfl⟩:=okWide_slice Try.underlying27 hv;obtain ⟨fuel,hf⟩:=h;exact open_nums hf
end
theorem short {H:Type} {ts:List TypeId} {ds:List (DataW H)} (h:(DataW.weightsEach Try.prog ts ds).all (· ≤ reachBytes)=true) {j:Nat} {d:DataW H} {l:List Int} (ht:ts[j]?=some 27) (hd:ds[j]?=some d)
    (hl:l=[]∨∃ es sp,d = .slice es sp∧es.length=l.length):l.length<17592186044416:=by
  rcases hl with rfl|⟨es,sp,rfl,he⟩
  · simp
  · have:=sized_slice h ht hd Try.underlying27
    have hr:=reachBytes_lt;rw [bytes3] at this;omega
end Go.Proofs.Ytapinbmkjkbkkaa
namespace Go.Proofs.Ytapinbmkjkbkkaa
open Go.ChangeShapes Go.WideShapes Go.ChangeAt Go.RowKit Go.Joins Go.Proofs.aC.bE Go.Proofs.aC.bV Go.Proofs.aC.bY Lb
theorem YM:Try.prog.cellsOf 25=3:=by kernel_rfl
theorem cells22:Try.prog.cellsOf 22=1:=by kernel_rfl
theorem cells9:Try.prog.cellsOf 9=1:=by kernel_rfl
theorem cells23:Try.prog.cellsOf 23=1:=by kernel_rfl
section
variable {H : Type} {enc : TypeId × Value → H} {W : World} {base : Nat} {held : Bool} {r : Reach} {b0 : Nat}
theorem open_names {fuel:Nat} {v:Value} {x:DataW H × List MemPlace} (h:DataW.trod enc Try.prog W base (fun _=>true) held fuel 26 [v]=some x) :
    ∃ (A:Option Addr) (c:Nat) (l:List ByteArray),v = .slice A l.length c∧l.length≤c∧Kd.C Kd.string W A l.length l∧∀ s∈l,s.size≤maxLen:=by
  rcases Go.Deep.open_slice Try.underlying26 h with ⟨e1,e2⟩|⟨a,len,cap,m,n,D,Pl,e1,hb,hl,hm,hmm,_,hx⟩
  · obtain rfl:v = .slice none 0 0:=by simpa using e1
    exact ⟨none,0,[],rfl,Nat.le_refl _,Kd.FH _ _,fun _ h=>absurd h (by simp)⟩
  · obtain rfl:v = .slice (some a) len cap:=by simpa using e1
    have hm':cap≤9223372036854775807:=(by simpa [maxLen] using hm);have hmc:m=cap:=(by simpa using hmm);obtain ⟨V,hV⟩:=@Go.Deep.choose_lt ByteArray ⟨ByteArray.empty⟩ len (fun i s=>W.cells? base (a.add (i * 1)) 1=some [.string s]∧s.size≤maxLen) (fun i hi=>by
      obtain ⟨cs',h1,h2⟩:=hx i (by omega);obtain ⟨s,rfl,_,hs⟩:=DataW.trod_string Try.underlying9 h2;exact ⟨s,by rw [cells9] at h1;exact h1,hs⟩)
    refine ⟨some a,cap,(List.range len).map V,by simp,by simpa using hl,?_,?_⟩
    · refine ⟨by simp,by simp;omega,fun _=>⟨a,rfl,fun j y hj=>?_⟩⟩
      have hjl:j<len:=(by simpa using (List.getElem?_eq_some_iff.1 hj).1);obtain rfl:V j=y:=(by simpa [hjl] using hj);refine ⟨[.string (V j)],rfl,rfl,fun i u hi=>?_⟩;obtain ⟨_,_,hc⟩:=World.cells?_some (hV j hjl).1;have hi1:i<1:=(by simpa using (List.getElem?_eq_some_iff.1 hi).1);have:=hc i hi1;rw [hi,add_add] at this;exact this
    · intro s hs
      obtain ⟨i,hi,rfl⟩:=List.mem_map.mp hs;exact (hV i (by simpa using hi)).2
set_option maxRecDepth 20000 in
theorem open_tree : ∀ (N fuel:Nat),fuel≤N→∀ (cs:List Value) (x:DataW H × List MemPlace),DataW.trod enc Try.prog W base (fun _=>true) held fuel 25 cs=some x→∃ y:gB,k25.K W y cs:=by
  intro N;induction N with
  |zero =>
    intro fuel hf cs x h;obtain ⟨xs,n,hfn,_⟩:=DataW.trod_struct Try.underlying25 h;omega
  |succ N ih =>
    intro fuel hf cs x h;obtain ⟨xs,n,hfn,_,hl,hlen,hf'⟩:=DataW.trod_struct Try.underlying25 h;rw [YM] at hl;obtain ⟨c0,c1,c2,rfl⟩:=list3 hl;obtain ⟨y0,y1,y2,rfl⟩:=list3 (show xs.length=3 from hlen);have f0:DataW.trod enc Try.prog W base (fun _=>true) held n 22 (([c0,c1,c2].drop 0).take (Try.prog.cellsOf 22))=some y0:=hf' 0 _ rfl;have f1:DataW.trod enc Try.prog W base (fun _=>true) held n 9 (([c0,c1,c2].drop 1).take (Try.prog.cellsOf 9))=some y1:=hf' 1 _ rfl;have f2:DataW.trod enc Try.prog W base (fun _=>true) held n 23 (([c0,c1,c2].drop 2).take (Try.prog.cellsOf 23))=some y2:=hf' 2 _ rfl;rw [cells22] at f0;rw [cells9] at f1;rw [cells23] at f2;obtain ⟨z0,e0,_,_⟩:=DataW.trod_int Try.underlying22 f0;obtain ⟨s1,e1,_,_⟩:=DataW.trod_string Try.underlying9 f1;obtain rfl:c0 = .int .i64 z0:=(by simpa using e0);obtain rfl:c1 = .string s1:=(by simpa using e1);rcases DataW.trod_slice Try.underlying23 f2 with ⟨e2,_⟩|⟨a,len,cap,elems,rest,n2,hn2,e2,_,_,hlc,hm,hel,hex,_,_⟩
    · obtain rfl:c2 = .slice none 0 0:=by simpa using e2
      exact ⟨⟨z0,s1,[]⟩,JA W ⟨z0,s1,[]⟩ (Nat.le_refl _) (Kd.FH _ _)⟩
    · obtain rfl:c2 = .slice (some a) len cap:=by simpa using e2
      have hm':cap≤9223372036854775807:=(by simpa [maxLen] using hm);obtain ⟨V,hV⟩:=@Go.Deep.choose_lt gB ⟨z25⟩ len (fun i y=>∃ cs',W.cells? base (a.add (i * 3)) 3=some cs'∧k25.K W y cs') (fun i hi=>by
        have h1:=hex i hi;rw [List.getElem?_eq_getElem (by omega)] at h1;obtain ⟨cs',h2,h3⟩:=Option.bind_eq_some_iff.mp h1;obtain ⟨y,hy⟩:=ih n2 (by omega) cs' _ h3;exact ⟨y,cs',by rw [YM] at h2;exact h2,hy⟩)
      have hC:Kd.C k25 W (some a) ((List.range len).map V).length ((List.range len).map V):=by
        refine ⟨rfl,by simp;omega,fun _=>⟨a,rfl,fun j y hj=>?_⟩⟩;have hjl:j<len:=(by simpa using (List.getElem?_eq_some_iff.1 hj).1);obtain rfl:V j=y:=(by simpa [hjl] using hj);obtain ⟨cs',h1,h2⟩:=hV j hjl;obtain ⟨_,h3,hc⟩:=World.cells?_some h1;refine ⟨cs',k25.pJ h2,h2,fun i u hi=>?_⟩;have hi3:i<3:=by
          have:=(List.getElem?_eq_some_iff.1 hi).1;have h4:cs'.length=3:=k25.pJ h2;omega
        have:=hc i hi3;rw [hi,add_add] at this;exact this
      have hk:=JA W ⟨z0,s1,(List.range len).map V⟩ (c2:=cap) (by simpa using hlc) hC;refine ⟨⟨z0,s1,(List.range len).map V⟩,?_⟩;have e:((List.range len).map V).length=len:=(by simp);have hk:k25.K W ⟨z0,s1,(List.range len).map V⟩ [.int .i64 z0,.string s1,.slice (some a) ((List.range len).map V).length cap]:=hk;rw [e] at hk;exact hk
theorem array3 {α:Type} {cs:Array α} (h:cs.size=3) : ∃ c0 c1 c2,cs = #[c0,c1,c2]:=by
  obtain ⟨l⟩:=cs
  match l,h with
  |[c0,c1,c2],_=>exact ⟨c0,c1,c2,rfl⟩
set_option maxRecDepth 20000 in
theorem open_expr {v:Value} {d:DataW H} {p:List MemPlace} (hv:Value.okWide Try.prog W r b0 25 v) (h:DataW.Trod enc Try.prog W base (fun _=>true) held 25 v d p) :
    ∃ (y:gB) (A:Option Addr) (c:Nat),v = .agg #[.int .i64 y.f0,.string y.f1,.slice A y.f2.length c]∧y.f2.length≤c∧Kd.C k25 W A y.f2.length y.f2:=by
  obtain ⟨cs,rfl,hsz⟩:=okWide_struct Try.underlying25 hv;obtain ⟨c0,c1,c2,rfl⟩:=array3 (hsz.trans YM);obtain ⟨fuel,hf⟩:=h;obtain ⟨y,hy⟩:=open_tree fuel fuel (Nat.le_refl _) _ _ hf;obtain ⟨A,c,e,hl,hC⟩:=k25_open hy;have e:[c0,c1,c2]=[.int .i64 y.f0,.string y.f1,.slice A y.f2.length c]:=e;injection e with e0 e;injection e with e1 e;injection e with e2 e;subst e0;subst e1;subst e2;exact ⟨y,A,c,rfl,hl,hC⟩
set_option maxRecDepth 20000 in
theorem open_words {v:Value} {d:DataW H} {p:List MemPlace} (hv:Value.okWide Try.prog W r b0 26 v) (h:DataW.Trod enc Try.prog W base (fun _=>true) held 26 v d p) :
    ∃ (A:Option Addr) (c:Nat) (l:List ByteArray),v = .slice A l.length c∧l.length≤c∧Kd.C Kd.string W A l.length l∧∀ s∈l,s.size≤maxLen:=by
  obtain ⟨a,len,cap,rfl⟩:=okWide_slice Try.underlying26 hv;obtain ⟨fuel,hf⟩:=h;exact open_names hf
end
end Go.Proofs.Ytapinbmkjkbkkaa
