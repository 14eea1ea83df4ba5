import Derived.Test.YtapinbmkjkbkkaaBuLbx1
import Derived.Test.YtapinbmkjkbkkaaBuVi
import Derived.Test.YtapinbmkjkbkkaaBuLbx4
import Derived.Test.YtapinbmkjkbkkaaBuLbx16
import Derived.Test.YtapinbmkjkbkkaaBuP4
import Derived.Test.YtapinbmkjkbkkaaBuLbx2
import Derived.Test.YtapinbmkjkbkkaaBuLbx7
import Derived.WalkLawsBesides
import Derived.Outline
import Derived.Lib.Hide
import Derived.RegionTactic
import Derived.Lib.SmallJoins
import Derived.Test.YtapinbmkjkbkkaaBuLbx3
namespace Go.Proofs.Ytapinbmkjkbkkaa.Pu
open Go.RowKit Go.Proofs.aC.bE Go.Proofs.aC.bV Go.Proofs.aC.bY Lb Mk Ls
inductive Path (l:List gV):Nat→List Int→Nat→Prop
  |nil (i:Nat):Path l i [] i
  |SL {x:gV} {w:List Int} {j:Nat} (hx:x∈l) (h:x.f1 = -1) (p:Path l x.f2.toNat w j):Path l x.f0.toNat w j
  |sym {x:gV} {c:Int} {w:List Int} {j:Nat} (hx:x∈l) (h:x.f1=c∨x.f1 = -2) (p:Path l x.f2.toNat w j):Path l x.f0.toNat (c :: w) j
theorem BL {l:List gV} {i j q:Nat} {w v:List Int} (h:Path l i w j) (k:Path l j v q):Path l i (w ++ v) q:=by
  induction h with
  |nil=>exact k
  |SL hx h _ ih=>exact .SL hx h (ih k)
  |sym hx h _ ih=>exact .sym hx h (ih k)
theorem f_ {l:List gV} {i j q:Nat} {w:List Int} (h:ZF l i j) (k:Path l j w q):Path l i w q:=by
  induction h with
  |refl=>exact k
  |step _ hx hs ih=>exact ih (.SL hx hs k)
theorem path_nil {l:List gV} {i j:Nat} {w:List Int} (h:Path l i w j):w=[]→ZF l i j:=by
  induction h with
  |nil=>exact fun _=>.refl _
  |SL hx h _ ih=>exact fun e=>(ZF.step (.refl _) hx h).trans (ih e)
  |sym=>exact fun e=>by cases e
theorem path_cons {l:List gV} {i j:Nat} {w:List Int} (h:Path l i w j) : ∀ c v,w=c :: v→∃ y∈l,ZF l i y.f0.toNat∧(y.f1=c∨y.f1 = -2)∧Path l y.f2.toNat v j:=by
  induction h with
  |nil=>exact fun _ _ e=>by cases e
  |SL hx h _ ih =>
    intro c v e;obtain ⟨y,hy,hE,hc,hp⟩:=ih c v e;exact ⟨y,hy,(ZF.step (.refl _) hx h).trans hE,hc,hp⟩
  |@sym x c w j hx h p _ =>
    intro c' v e;obtain ⟨rfl,rfl⟩:c=c'∧w=v:=(by simpa using e);exact ⟨x,hx,.refl _,h,p⟩
theorem walk_path {m:Nat} {l:List gV} {b b':List Bool} {w:List Int} (h:Walk m l b w b') (hH:Hand l b b) (j:Nat):In b' j↔∃ i,In b i∧Path l i w j:=by
  induction h with
  |nil b =>
    constructor
    · exact fun h=>⟨j,h,.nil _⟩
    · rintro ⟨i,hi,hp⟩
      exact NJ hH.shut hi (path_nil hp rfl)
  |@cons x w b b1 b2 hb _ _ ih =>
    rw [ih (UD hb)];constructor
    · rintro ⟨q,hq,hp⟩
      obtain ⟨y,hy,⟨hm,hf⟩,hE⟩:=(by_in hb q).mp hq;exact ⟨_,hf,.sym hy hm (f_ hE hp)⟩
    · rintro ⟨i,hi,hp⟩
      obtain ⟨y,hy,hE,hc,hp2⟩:=path_cons hp x w rfl;exact ⟨y.f2.toNat,(by_in hb _).mpr ⟨y,hy,⟨hc,NJ hH.shut hi hE⟩,.refl _⟩,hp2⟩
theorem in_one' {m s:Nat} (hs:s<m) (i:Nat):In (l7 (none0 m) [(s:Int)]) i↔i=s:=by
  rw [in_setB i _ _ (fun x hx=>by
    have:x=s:=(by simpa using hx);simp only [none0,List.length_replicate];omega)]
  constructor
  · rintro (h|h)
    · exact absurd h (in_none m i)
    · have:(i:Int)=s:=by simpa using h
      omega
  · rintro rfl
    exact .inr (by simp)
theorem d_ {m s:Nat} {l:List gV} {b0 b':List Bool} {w:List Int} (hs:s<m) (hH:Hand l (l7 (none0 m) [(s:Int)]) b0) (hW:Walk m l b0 w b') (j:Nat):In b' j↔Path l s w j:=by
  rw [walk_path hW (X8 hH)];constructor
  · rintro ⟨i,hi,hp⟩
    obtain ⟨q,hq,hE⟩:=hH.from_ i hi;obtain rfl:=(in_one' hs q).mp hq;exact f_ hE hp
  · exact fun hp=>⟨s,hH.sub _ ((in_one' hs s).mpr rfl),hp⟩
theorem same_l0 {a0 a1 a2 a3 b0 b1 b2 b3:Int} {l:List gV} (hl:l.length≤65536) : ∀ (d i:Nat),l.length - i=d→i≤l.length→∀ k,d<k→bW.l0 k (i:Int) a0 a1 a2 a3 l b0 b1 b2 b3 l=some true:=by
  intro d;induction d with
  |zero =>
    intro i hd hi k hk;obtain ⟨k,rfl⟩ : ∃ q,k=q+1:=⟨k - 1,by omega⟩;simp only [bW.l0];rw [if_neg (by omega)]
  |succ d ih =>
    intro i hd hi k hk;obtain ⟨k,rfl⟩ : ∃ q,k=q+1:=⟨k - 1,by omega⟩;simp only [bW.l0];rw [if_pos (by omega),if_pos (by omega),if_pos (by omega),if_neg (by simp),xR (by omega)];exact ih (i+1) (by omega) (by omega) k (by omega)
theorem same_f {a0 a1 a2 a3:Int} {l:List gV} (hl:l.length≤65536) : ∃ K,∀ k,K≤k→bW.f k a0 a1 a2 a3 l a0 a1 a2 a3 l=some true:=by
  refine ⟨l.length+2,fun k hk=>?_⟩;obtain ⟨k,rfl⟩ : ∃ q,k=q+1:=⟨k - 1,by omega⟩;unfold bW.f;rw [if_pos rfl,if_pos rfl,if_pos rfl,if_pos rfl];simp only [bW.j0];rw [if_neg (by simp)];exact same_l0 hl l.length 0 rfl (Nat.zero_le _) k (by omega)
section
variable {aM aJ aV aW : Int} {l : List gV}
end
end Go.Proofs.Ytapinbmkjkbkkaa.Pu
namespace Go.Proofs.Ytapinbmkjkbkkaa.Pu
open Go.RowKit Go.Proofs.aC.bE Go.Proofs.aC.bV Go.Proofs.aC.bY Lb Mk Ls
inductive tC (L:List Int→Prop):List Int→Prop
  |nil:tC L []
  |app {u v:List Int} (hu:L u) (hv:tC L v):tC L (u ++ v)
mutual
def tV (nm:List (List UInt8)):gB→List Int→Prop
  |⟨op,name,ks⟩ =>
    if op=1 then (fun w=>nk name∈nm∧w=[nameAt nm (nk name)])
    else if op=2 then (fun w=>∃ c,w=[c])
    else if op=3 then (fun w=>w=[])
    else if op=5 then kM nm ks
    else if op=6 then wB nm ks
    else if op=7 then tC (tX nm ks)
    else if op=8 then (fun w=>¬ tX nm ks w)
    else (fun _=>False)
def kM (nm:List (List UInt8)):List gB→List Int→Prop
  |[]=>fun w=>w=[]
  |k :: ks=>fun w=>∃ u v,w=u ++ v∧tV nm k u∧kM nm ks v
def wB (nm:List (List UInt8)):List gB→List Int→Prop
  |[]=>fun _=>False
  |k :: ks=>fun w=>tV nm k w∨wB nm ks w
def tX (nm:List (List UInt8)):List gB→List Int→Prop
  |[]=>fun w=>w=[]
  |k :: _=>tV nm k
end
theorem zM {l l':List gV} (h : ∀ x∈l,x∈l') {i j:Nat} {w:List Int} (p:Path l i w j):Path l' i w j:=by
  induction p with
  |nil=>exact .nil _
  |SL hx e _ ih=>exact .SL (h _ hx) e ih
  |sym hx e _ ih=>exact .sym (h _ hx) e ih
theorem NK {l:List gV} {i j:Nat} {w:List Int} (p:Path l i w j):(w=[]∧i=j)∨∃ x∈l,x.f0.toNat=i∧((x.f1 = -1∧Path l x.f2.toNat w j)∨∃ c v,w=c :: v∧(x.f1=c∨x.f1 = -2)∧Path l x.f2.toNat v j):=by
  cases p with
  |nil=>exact .inl ⟨rfl,rfl⟩
  |SL hx e p=>exact .inr ⟨_,hx,rfl,.inl ⟨e,p⟩⟩
  |sym hx e p=>exact .inr ⟨_,hx,rfl,.inr ⟨_,_,rfl,e,p⟩⟩
theorem DL {l:List gV} {j:Nat} (P:Nat→List Int→Prop) (h0:P j []) (hs : ∀ x∈l,x.f1 = -1→∀ w,P x.f2.toNat w→P x.f0.toNat w)
    (hc : ∀ x∈l,∀ c w,0≤c→(x.f1=c∨x.f1 = -2)→P x.f2.toNat w→P x.f0.toNat (c :: w)) {i:Nat} {w:List Int} (p:Path l i w j):(∀ c∈w,0≤c)→P i w:=by
  induction p with
  |nil=>exact fun _=>h0
  |SL hx e _ ih=>exact fun h=>hs _ hx e _ (ih h0 h)
  |sym hx e _ ih=>exact fun h=>hc _ hx _ _ (h _ (List.mem_cons_self ..)) e (ih h0 (fun c hc=>h c (List.mem_cons_of_mem _ hc)))
structure NL (ns:Nat) (F:List gV) (fr tt n0 n1:Nat):Prop where
  src : ∀ x∈F,x.f0.toNat=fr∨(n0≤x.f0.toNat∧x.f0.toNat<n1)
  dst : ∀ x∈F,x.f2.toNat=tt∨(n0≤x.f2.toNat∧x.f2.toNat<n1)
  pos : ∀ x∈F,0≤x.f0∧0≤x.f2
  sym : ∀ x∈F,-2≤x.f1∧x.f1<ns
def VW (ns:Nat) (w:List Int):Prop:=AR ns w=true∧w.length<4611686018427387904
theorem IA {ns:Nat} {u v:List Int} (h:VW ns (u ++ v)):VW ns u∧VW ns v:=by
  obtain ⟨h1,h2⟩:=h;unfold AR at h1;rw [List.all_append,Bool.and_eq_true] at h1;rw [List.length_append] at h2;exact ⟨⟨h1.1,by omega⟩,⟨h1.2,by omega⟩⟩
theorem l8 {ns:Nat} {w:List Int} (h:VW ns w) : ∀ c∈w,0≤c:=fun c hc=>(okS_mem h.1 hc).1
section
variable {ns : Nat} {F1 F2 : List gV} {fr tt q n0 n1 n2 n3 : Nat}
theorem frag_seq (h1:NL ns F1 fr q n0 n1) (h2:NL ns F2 q tt n1 n2) (hf:fr<n0) (ht:tt<n0) (hq:q<n0) (h01:n0≤n1) (hfq:fr≠q) (hqt:q≠tt) (hft:fr≠tt) {w:List Int} (hw:VW ns w) :
    Path (F1 ++ F2) fr w tt↔∃ u v,w=u ++ v∧Path F1 fr u q∧Path F2 q v tt:=by
  constructor
  · intro p
    have:=DL (fun i w=>((i=fr∨(n0≤i∧i<n1))→∃ u v,w=u ++ v∧Path F1 i u q∧Path F2 q v tt)∧((i=q∨(n1≤i∧i<n2))→Path F2 i w tt)∧(i=tt→w=[]))
      ⟨fun h=>by omega,fun h=>by omega,fun _=>rfl⟩ (fun x hx e w ih=>?_) (fun x hx c w _ e ih=>?_) p (l8 hw)
    · exact this.1 (.inl rfl)
    · rcases List.mem_append.mp hx with hx|hx
      · have e1:=h1.src x hx
        have e2:=h1.dst x hx;refine ⟨fun _=>?_,fun h=>by omega,fun h=>by omega⟩;rcases e2 with e2|e2
        · exact ⟨[],w,rfl,.SL hx e (e2 ▸ .nil _),e2 ▸ ih.2.1 (.inl e2)⟩
        · obtain ⟨u,v,rfl,p1,p2⟩:=ih.1 (.inr e2)
          exact ⟨u,v,rfl,.SL hx e p1,p2⟩
      · have e1:=h2.src x hx
        have e2:=h2.dst x hx;refine ⟨fun h=>by omega,fun _=>?_,fun h=>by omega⟩;rcases e2 with e2|e2
        · obtain rfl:=ih.2.2 e2
          exact .SL hx e (e2 ▸ .nil _)
        · exact .SL hx e (ih.2.1 (.inr e2))
    · rcases List.mem_append.mp hx with hx|hx
      · have e1:=h1.src x hx
        have e2:=h1.dst x hx;refine ⟨fun _=>?_,fun h=>by omega,fun h=>by omega⟩;rcases e2 with e2|e2
        · exact ⟨[c],w,rfl,.sym hx e (e2 ▸ .nil _),e2 ▸ ih.2.1 (.inl e2)⟩
        · obtain ⟨u,v,rfl,p1,p2⟩:=ih.1 (.inr e2)
          exact ⟨c :: u,v,rfl,.sym hx e p1,p2⟩
      · have e1:=h2.src x hx
        have e2:=h2.dst x hx;refine ⟨fun h=>by omega,fun _=>?_,fun h=>by omega⟩;rcases e2 with e2|e2
        · obtain rfl:=ih.2.2 e2
          exact .sym hx e (e2 ▸ .nil _)
        · exact .sym hx e (ih.2.1 (.inr e2))
  · rintro ⟨u,v,rfl,p1,p2⟩
    exact BL (zM (fun x hx=>List.mem_append_left _ hx) p1) (zM (fun x hx=>List.mem_append_right _ hx) p2)
theorem iR {a b:Nat} {c:Int}:(⟨(a:Int),c,(b:Int)⟩:gV).f0.toNat=a∧(⟨(a:Int),c,(b:Int)⟩:gV).f2.toNat=b:=by
  constructor
  · show (a:Int).toNat=a;omega
  · show (b:Int).toNat=b;omega
theorem wH {l:List gV} {a b j:Nat} {w:List Int} (h:(⟨(a:Int),-1,(b:Int)⟩:gV)∈l) (p:Path l b w j):Path l a w j:=by
  have:=Path.SL (l:=l) (w:=w) (j:=j) h rfl (by rw [iR.2];exact p)
  rwa [iR.1] at this
theorem g_ {l:List gV} {a b j:Nat} {c c':Int} {w:List Int} (h:(⟨(a:Int),c',(b:Int)⟩:gV)∈l) (hc:c'=c∨c' = -2) (p:Path l b w j):Path l a (c :: w) j:=by
  have:=Path.sym (l:=l) (c:=c) (w:=w) (j:=j) h hc (by rw [iR.2];exact p)
  rwa [iR.1] at this
theorem frag_alt {a b:Nat} (h1:NL ns F1 a b n0 n1) (h2:NL ns F2 fr tt n1 n2) (ha:a<n0) (hb:b<n0) (hf:fr<a) (hfb:fr<b) (hab:a≠b) (ht:tt<a) (htb:tt<b) (h01:n0≤n1) (hft:fr≠tt) {w:List Int} (hw:VW ns w) :
    Path (⟨fr,-1,a⟩ :: (F1 ++ (⟨b,-1,tt⟩ :: F2))) fr w tt↔Path F1 a w b∨Path F2 fr w tt:=by
  have hin : ∀ x∈(⟨fr,-1,a⟩ :: (F1 ++ (⟨b,-1,tt⟩ :: F2)):List gV),x=⟨fr,-1,a⟩∨x∈F1∨x=⟨b,-1,tt⟩∨x∈F2:=fun x hx=>by
    simpa [List.mem_cons,List.mem_append,or_assoc] using hx
  constructor
  · intro p
    have:=DL (fun i w=>(i=fr→Path F1 a w b∨Path F2 fr w tt)∧((i=a∨(n0≤i∧i<n1))→Path F1 i w b)∧(i=b→w=[])∧((n1≤i∧i<n2)→Path F2 i w tt)∧(i=tt→w=[]))
      ⟨fun h=>by omega,fun h=>by omega,fun _=>rfl,fun h=>by omega,fun _=>rfl⟩ (fun x hx e w ih=>?_) (fun x hx c w hc e ih=>?_) p (l8 hw)
    · exact this.1 rfl
    · rcases hin x hx with rfl|hx|rfl|hx
      · rw [iR.2] at ih
        rw [iR.1];exact ⟨fun _=>.inl (ih.2.1 (.inl rfl)),fun h=>by omega,fun h=>by omega,fun h=>by omega,fun h=>by omega⟩
      · have e1:=h1.src x hx
        have e2:=h1.dst x hx;refine ⟨fun h=>by omega,fun _=>?_,fun h=>by omega,fun h=>by omega,fun h=>by omega⟩;rcases e2 with e2|e2
        · obtain rfl:=ih.2.2.1 e2
          exact .SL hx e (e2 ▸ .nil _)
        · exact .SL hx e (ih.2.1 (.inr e2))
      · rw [iR.2] at ih
        rw [iR.1];exact ⟨fun h=>by omega,fun h=>by omega,fun _=>ih.2.2.2.2 rfl,fun h=>by omega,fun h=>by omega⟩
      · have e1:=h2.src x hx
        have e2:=h2.dst x hx;have hp:Path F2 x.f0.toNat w tt:=by
          rcases e2 with e2|e2
          · obtain rfl:=ih.2.2.2.2 e2
            exact .SL hx e (e2 ▸ .nil _)
          · exact .SL hx e (ih.2.2.2.1 e2)
        exact ⟨fun h=>.inr (h ▸ hp),fun h=>by omega,fun h=>by omega,fun _=>hp,fun h=>by omega⟩
    · rcases hin x hx with rfl|hx|rfl|hx
      · have:(-1:Int)=c∨(-1:Int) = -2:=e
        omega
      · have e1:=h1.src x hx
        have e2:=h1.dst x hx;refine ⟨fun h=>by omega,fun _=>?_,fun h=>by omega,fun h=>by omega,fun h=>by omega⟩;rcases e2 with e2|e2
        · obtain rfl:=ih.2.2.1 e2
          exact .sym hx e (e2 ▸ .nil _)
        · exact .sym hx e (ih.2.1 (.inr e2))
      · have:(-1:Int)=c∨(-1:Int) = -2:=e
        omega
      · have e1:=h2.src x hx
        have e2:=h2.dst x hx;have hp:Path F2 x.f0.toNat (c :: w) tt:=by
          rcases e2 with e2|e2
          · obtain rfl:=ih.2.2.2.2 e2
            exact .sym hx e (e2 ▸ .nil _)
          · exact .sym hx e (ih.2.2.2.1 e2)
        exact ⟨fun h=>.inr (h ▸ hp),fun h=>by omega,fun h=>by omega,fun _=>hp,fun h=>by omega⟩
  · rintro (p|p)
    · refine wH (List.mem_cons_self ..) ?_
      have:=BL (zM (l':=(⟨fr,-1,a⟩ :: (F1 ++ (⟨b,-1,tt⟩ :: F2)):List gV)) (fun x hx=>List.mem_cons_of_mem _ (List.mem_append_left _ hx)) p) (wH (l:=(⟨fr,-1,a⟩ :: (F1 ++ (⟨b,-1,tt⟩ :: F2)):List gV)) (a:=b) (b:=tt) (List.mem_cons_of_mem _ (List.mem_append_right _ (List.mem_cons_self ..))) (.nil _))
      rwa [List.append_nil] at this
    · exact zM (fun x hx=>List.mem_cons_of_mem _ (List.mem_append_right _ (List.mem_cons_of_mem _ hx))) p
theorem frag_star {a b:Nat} (h1:NL ns F1 a b n0 n1) (ha:a<n0) (hb:b<n0) (hf:fr<a) (hfb:fr<b) (hab:a≠b) (ht:tt<a) (htb:tt<b) (hft:fr≠tt) {w:List Int} (hw:VW ns w) :
    Path (⟨fr,-1,a⟩ :: (F1 ++ [⟨b,-1,a⟩,⟨a,-1,tt⟩])) fr w tt↔tC (fun u=>Path F1 a u b) w:=by
  have hin : ∀ x∈(⟨fr,-1,a⟩ :: (F1 ++ [⟨b,-1,a⟩,⟨a,-1,tt⟩]):List gV),x=⟨fr,-1,a⟩∨x∈F1∨x=⟨b,-1,a⟩∨x=⟨a,-1,tt⟩:=fun x hx=>by
    simpa [List.mem_cons,List.mem_append,or_assoc] using hx
  constructor
  · intro p
    have:=DL (fun i w=>((i=fr∨i=a∨i=b)→tC (fun u=>Path F1 a u b) w)∧((n0≤i∧i<n1)→∃ u v,w=u ++ v∧Path F1 i u b∧tC (fun u=>Path F1 a u b) v)∧(i=tt→w=[]))
      ⟨fun h=>by omega,fun h=>by omega,fun _=>rfl⟩ (fun x hx e w ih=>?_) (fun x hx c w hc e ih=>?_) p (l8 hw)
    · exact this.1 (.inl rfl)
    · rcases hin x hx with rfl|hx|rfl|rfl
      · rw [iR.2] at ih
        rw [iR.1];exact ⟨fun _=>ih.1 (.inr (.inl rfl)),fun h=>by omega,fun h=>by omega⟩
      · have e1:=h1.src x hx
        have e2:=h1.dst x hx;have hp : ∃ u v,w=u ++ v∧Path F1 x.f0.toNat u b∧tC (fun u=>Path F1 a u b) v:=by
          rcases e2 with e2|e2
          · exact ⟨[],w,rfl,.SL hx e (e2 ▸ .nil _),ih.1 (.inr (.inr e2))⟩
          · obtain ⟨u,v,rfl,p1,p2⟩:=ih.2.1 e2
            exact ⟨u,v,rfl,.SL hx e p1,p2⟩
        refine ⟨fun h=>?_,fun _=>hp,fun h=>by omega⟩;obtain ⟨u,v,rfl,p1,p2⟩:=hp;have:x.f0.toNat=a:=(by omega);exact .app (this ▸ p1) p2
      · rw [iR.2] at ih
        rw [iR.1];exact ⟨fun _=>ih.1 (.inr (.inl rfl)),fun h=>by omega,fun h=>by omega⟩
      · rw [iR.2] at ih
        rw [iR.1];refine ⟨fun _=>?_,fun h=>by omega,fun h=>by omega⟩;obtain rfl:=ih.2.2 rfl;exact .nil
    · rcases hin x hx with rfl|hx|rfl|rfl
      · have:(-1:Int)=c∨(-1:Int) = -2:=e
        omega
      · have e1:=h1.src x hx
        have e2:=h1.dst x hx;have hp : ∃ u v,c :: w=u ++ v∧Path F1 x.f0.toNat u b∧tC (fun u=>Path F1 a u b) v:=by
          rcases e2 with e2|e2
          · exact ⟨[c],w,rfl,.sym hx e (e2 ▸ .nil _),ih.1 (.inr (.inr e2))⟩
          · obtain ⟨u,v,rfl,p1,p2⟩:=ih.2.1 e2
            exact ⟨c :: u,v,rfl,.sym hx e p1,p2⟩
        refine ⟨fun h=>?_,fun _=>hp,fun h=>by omega⟩;obtain ⟨u,v,e3,p1,p2⟩:=hp;have:x.f0.toNat=a:=(by omega);rw [e3];exact .app (this ▸ p1) p2
      · have:(-1:Int)=c∨(-1:Int) = -2:=e
        omega
      · have:(-1:Int)=c∨(-1:Int) = -2:=e
        omega
  · intro h
    refine wH (List.mem_cons_self ..) ?_;clear hw;have hlast:(⟨(a:Int),-1,(tt:Int)⟩:gV)∈(⟨fr,-1,a⟩ :: (F1 ++ [⟨b,-1,a⟩,⟨a,-1,tt⟩]):List gV):=(by simp);have hback:(⟨(b:Int),-1,(a:Int)⟩:gV)∈(⟨fr,-1,a⟩ :: (F1 ++ [⟨b,-1,a⟩,⟨a,-1,tt⟩]):List gV):=(by simp);induction h with
    |nil=>exact wH hlast (.nil _)
    |app hu _ ih=>exact BL (zM (fun x hx=>List.mem_cons_of_mem _ (List.mem_append_left _ hx)) hu) (wH hback ih)
end
end Go.Proofs.Ytapinbmkjkbkkaa.Pu
namespace Go.Proofs.Ytapinbmkjkbkkaa.Pu
open Go.RowKit Go.Proofs.aC.bE Go.Proofs.aC.bV Go.Proofs.aC.bY Lb Mk
theorem SN : ∀ (n w1 w2:Nat),w1<256 ^ n→w2<256 ^ n→(∀ i,i<n→w1 / 256 ^ i % 256=w2 / 256 ^ i % 256)→w1=w2
  |0,w1,w2,h1,h2,_=>by simp at h1 h2;omega
  |n+1,w1,w2,h1,h2,h=>by
    have h0:=h 0 (by omega);simp only [Nat.pow_zero,Nat.div_one] at h0;have:=SN n (w1 / 256) (w2 / 256) (by rw [Nat.pow_succ] at h1;omega) (by rw [Nat.pow_succ] at h2;omega) (fun i hi=>by
      have:=h (i+1) (by omega);rw [Nat.pow_succ,Nat.mul_comm,← Nat.div_div_eq_div_mul,← Nat.div_div_eq_div_mul] at this;exact this)
    omega
def wb (w:Int):List Int:=(List.range 8).map fun x:Nat=>(shr .u64 w (8 * (x:Int))) % 256
def UE (B:List Int):List Int:=B.flatMap wb
theorem wb_len (w:Int):(wb w).length=8:=by simp [wb]
theorem UF : ∀ B:List Int,(UE B).length=8 * B.length
  |[]=>rfl
  |w :: B=>by
    have:=UF B;simp only [UE,List.flatMap_cons,List.length_append,wb_len,List.length_cons] at this ⊢;omega
theorem key_l1 {B:List Int} {i:Nat} {v:Int} (hi:i<4096) (hl:B.length≤4096) : ∀ (d x:Nat),8 - x=d→x≤8→∀ (acc:List Int) k,acc.length≤40000+x →
    fD.l1 (k+d+1) acc v B (B.length:Int) (i:Int) (x:Int)=fD.l0 k (acc ++ ((List.range' x d).map fun x:Nat=>(shr .u64 v (8 * (x:Int))) % 256)) B (B.length:Int) ((i+1:Nat):Int):=by
  intro d;induction d with
  |zero =>
    intro x hd hx acc k ha;simp only [fD.l1];rw [if_neg (by omega),show wrap64 ((i:Int)+1)=((i+1:Nat):Int) by unfold wrap64;omega];simp
  |succ d ih =>
    intro x hd hx acc k ha;have e1:wrap64 (8 * (x:Int))=8 * (x:Int):=(by unfold wrap64;omega);have e2:wrap64 ((x:Int)+1)=((x+1:Nat):Int):=(by unfold wrap64;omega);rw [show k+(d+1)+1=(k+d+1)+1 by omega];generalize hK:k+d+1=K at ih ⊢;simp only [fD.l1];rw [if_pos (by omega),e1,if_pos (by omega),if_pos (by omega),e2,← hK,ih (x+1) (by omega) (by omega) _ k (by simp;omega),List.range'_succ];simp
theorem key_l0 {B:List Int} (hl:B.length≤4096) : ∀ (d i:Nat),B.length - i=d→i≤B.length→∀ (acc:List Int),acc.length≤8 * i→∃ K,∀ k,K≤k→fD.l0 k acc B (B.length:Int) (i:Int)=some (strOfNums (acc ++ UE (B.drop i))):=by
  intro d;induction d with
  |zero =>
    intro i hd hi acc ha;refine ⟨1,fun k hk=>?_⟩;obtain ⟨k,rfl⟩ : ∃ q,k=q+1:=⟨k - 1,by omega⟩;simp only [fD.l0];rw [if_neg (by omega),List.drop_eq_nil_of_le (by omega)];simp [UE]
  |succ d ih =>
    intro i hd hi acc ha;have hlt:i<B.length:=(by omega);obtain ⟨K,hK⟩:=ih (i+1) (by omega) (by omega) (acc ++ wb B[i]) (by simp [wb_len];omega);refine ⟨K+8+1+1,fun k hk=>?_⟩;obtain ⟨k,rfl⟩ : ∃ q,k=q+8+1+1:=⟨k - 10,by omega⟩;have e:=key_l1 (B:=B) (i:=i) (v:=B[i]) (by omega) hl 8 0 rfl (by omega) acc k (by omega);have hrd:rd B (i:Int)=B[i]:=(by unfold rd;simp [List.getElem?_eq_getElem hlt]);have e0:fD.l0 (k+8+1+1) acc B (B.length:Int) (i:Int)=fD.l1 (k+8+1) acc B[i] B (B.length:Int) (i:Int) ((0:Nat):Int):=by
      generalize k+8+1=q;simp only [fD.l0];rw [if_pos (by omega),if_pos (by omega),if_pos (by omega),hrd];rfl
    rw [e0,e,← List.range_eq_range'];have:=hK k (by omega);rw [List.append_assoc] at this;rw [List.drop_eq_getElem_cons hlt];exact this
theorem key_f {B:List Int} (hl:B.length≤4096) : ∃ K,∀ k,K≤k→fD.f k B=some (strOfNums (UE B)):=by
  obtain ⟨K,hK⟩:=key_l0 hl B.length 0 rfl (Nat.zero_le _) [] (by simp);refine ⟨K,fun k hk=>?_⟩;unfold fD.f;exact hK k hk
theorem shr_byte (w:Nat) (x:Nat) (hx:x<8):shr .u64 (w:Int) (8 * (x:Int)) % 256=((w / 256 ^ x % 256:Nat):Int):=by
  have e:=shr_u64 w (8 * x) (by omega);rw [show 8 * (x:Int)=((8 * x:Nat):Int) by omega,e,Nat.pow_mul,show (2:Nat) ^ 8=256 from rfl];generalize w / 256 ^ x=q;omega
theorem u8_inj {a b:Nat} (ha:a<256) (hb:b<256) (h:UInt8.ofNat a=UInt8.ofNat b):a=b:=by
  have:=congrArg UInt8.toNat h;rw [UInt8.toNat_ofNat',UInt8.toNat_ofNat',Nat.mod_eq_of_lt (by omega),Nat.mod_eq_of_lt (by omega)] at this;exact this
theorem wb_inj {w1 w2:Nat} (h1:w1<2 ^ 64) (h2:w2<2 ^ 64) (h:(wb w1).map (fun n=>UInt8.ofNat n.toNat)=(wb w2).map (fun n=>UInt8.ofNat n.toNat)):w1=w2:=by
  refine SN 8 w1 w2 (by simpa using h1) (by simpa using h2) (fun i hi=>?_);have e : ∀ w:Nat,((wb w).map (fun n=>UInt8.ofNat n.toNat))[i]?=some (UInt8.ofNat (w / 256 ^ i % 256)):=fun w=>by
    rw [List.getElem?_map];unfold wb;rw [List.getElem?_map,List.getElem?_range hi,Option.map_some,Option.map_some,shr_byte w i hi,Int.toNat_natCast]
  have this:=Option.some.inj ((e w1).symm.trans ((congrArg (fun l:List UInt8=>l[i]?) h).trans (e w2)));exact u8_inj (Nat.mod_lt _ (by omega)) (Nat.mod_lt _ (by omega)) this
theorem wbs_inj : ∀ (B1 B2:List Int),B1.length=B2.length→(∀ x∈B1,0≤x∧x<2 ^ 64)→(∀ x∈B2,0≤x∧x<2 ^ 64)→(UE B1).map (fun n=>UInt8.ofNat n.toNat)=(UE B2).map (fun n=>UInt8.ofNat n.toNat)→B1=B2
  |[],[],_,_,_,_=>rfl
  |[],_ :: _,h,_,_,_=>by simp at h
  |_ :: _,[],h,_,_,_=>by simp at h
  |x :: B1,y :: B2,h,h1,h2,he=>by
    simp only [UE,List.flatMap_cons,List.map_append] at he;obtain ⟨e1,e2⟩:=List.append_inj he (by simp [wb_len]);obtain ⟨a,rfl⟩:=Int.eq_ofNat_of_zero_le (h1 x List.mem_cons_self).1;obtain ⟨b,rfl⟩:=Int.eq_ofNat_of_zero_le (h2 y List.mem_cons_self).1;have ha:=(h1 (a:Int) List.mem_cons_self).2;have hb:=(h2 (b:Int) List.mem_cons_self).2;obtain rfl:=wb_inj (by omega) (by omega) e1;rw [wbs_inj B1 B2 (by simpa using h) (fun z hz=>h1 z (List.mem_cons_of_mem _ hz)) (fun z hz=>h2 z (List.mem_cons_of_mem _ hz)) e2]
section
variable {m : Nat}
theorem rep_mem {B:List Int} {b:List Bool} (h:X9 m B b) : ∀ x∈B,0≤x∧x<2 ^ 64:=fun x hx=>by
  obtain ⟨j,hj,rfl⟩:=List.mem_iff_getElem.mp hx;have:=h.small j
  rwa [show rd B (j:Int)=B[j] by unfold rd;simp [List.getElem?_eq_getElem hj]] at this
theorem rep_words {B B':List Int} {b:List Bool} (h:X9 m B b) (h':X9 m B' b):B=B':=by
  refine List.ext_getElem (by rw [h.lB,h'.lB]) fun j hj hj'=>?_;have e1:rd B (j:Int)=B[j]:=(by unfold rd;simp [List.getElem?_eq_getElem hj]);have e2:rd B' (j:Int)=B'[j]:=(by unfold rd;simp [List.getElem?_eq_getElem hj']);have w1:=KW h j;have w2:=KW h' j;have hw:wd B j=wd B' j:=by
    refine Nat.eq_of_testBit_eq fun n=>?_;by_cases hn:n<64
    · have b1:=h.bit (j * 64+n)
      have b2:=h'.bit (j * 64+n);rw [(at_div j n hn).1,(at_div j n hn).2] at b1 b2;rw [b1,b2]
    · have hp:2 ^ 64≤2 ^ n:=Nat.pow_le_pow_right (by omega) (by omega)
      rw [Nat.testBit_lt_two_pow (Nat.lt_of_lt_of_le w1.2 hp),Nat.testBit_lt_two_pow (Nat.lt_of_lt_of_le w2.2 hp)]
  rw [←e1,← e2,w1.1,w2.1,hw]
theorem rep_sets {B:List Int} {b b':List Bool} (h:X9 m B b) (h':X9 m B b'):b=b':=by
  refine List.ext_getElem (by rw [h.lb,h'.lb]) fun i hi hi'=>?_;have b1:=h.bit i;have b2:=h'.bit i;rw [b1] at b2;simpa [List.getD_eq_getElem?_getD,List.getElem?_eq_getElem hi,List.getElem?_eq_getElem hi'] using b2
def keyOf (B:List Int):List UInt8:=nk (strOfNums (UE B))
theorem key_inj {B B':List Int} {b b':List Bool} (h:X9 m B b) (h':X9 m B' b'):keyOf B=keyOf B'↔b=b':=by
  constructor
  · intro e
    have:=wbs_inj B B' (by rw [h.lB,h'.lB]) (rep_mem h) (rep_mem h') e;subst this;exact rep_sets h h'
  · rintro rfl
    rw [rep_words h h']
end
end Go.Proofs.Ytapinbmkjkbkkaa.Pu
namespace Go.Proofs.Ytapinbmkjkbkkaa.Mk
open Go.RowKit Go.Proofs.aC.bE Go.Proofs.aC.bV Go.Proofs.aC.bY Lb
def qQ (ns n:Int):Bool:=decide (1024<n) || decide (65536<wrap64 (n * ns))
def xS (k:Nat) (aM aJ aV aW:Int) (l:List gV) (S:List Int):Nat→Nat→List (List Int)→List (List UInt8)→List Int→Option (Option (List (List Int) × List (List UInt8) × List Int))
  |0,_,sets,ks,row=>some (some (sets,ks,row))
  |d+1,j,sets,ks,row=>(eT.f k aM aJ aV aW l (j:Int) S).bind fun t=>(fD.f k t).bind fun key =>
    if key.size≤4096 then (if nk key∈ks then xS k aM aJ aV aW l S d (j+1) sets ks (row ++ [nameAt ks (nk key)])
      else if qQ aJ (sets.length+1)=true then some none else xS k aM aJ aV aW l S d (j+1) (sets ++ [t]) (ks ++ [nk key]) (row ++ [(sets.length:Int)])) else none
def l9 (k:Nat) (aM aJ aV aW:Int) (l:List gV):Nat→Nat→List (List Int)→List (List UInt8)→List (List Int)→List Bool→Option (Option (List (List Int) × List Bool))
  |0,_,_,_,_,_=>none
  |J+1,i,sets,ks,next,acc=>if i<sets.length then (fI.f (sets.getD i []) aW).bind fun b =>
      (xS k aM aJ aV aW l (sets.getD i []) aJ.toNat 0 sets ks []).bind fun o=>match o with
        |none=>some none
        |some (T9,ks',row)=>l9 k aM aJ aV aW l J (i+1) T9 ks' (next ++ [row]) (acc ++ [b])
    else some (some (next,acc))
def oV.f (k:Nat) (aM aJ aV aW:Int) (l:List gV):Option (Int × List (List Int) × List Bool × Int) :=
  (jI.f aM aJ aV aW l).bind fun c=>if c=0 then ((jZ.f aM).bind fun b=>(dM.f b aV).bind fun b=>(bP.f k aM aJ aV aW l b).bind fun s=>(fD.f k s).bind fun key =>
    if key.size≤4096 then ((l9 k aM aJ aV aW l k 0 [s] [nk key] [] []).map fun o=>match o with
      |none=>(0,[],[],3)
      |some (n,a)=>(aJ,n,a,0)) else none) else some (0,[],[],c)
theorem IB (k:Nat) (aM aJ aV aW:Int) (l:List gV) (S:List Int) : ∀ (d j:Nat) (sets:List (List Int)) (ks:List (List UInt8)) (row:List Int),fQ (xS k aM aJ aV aW l S d j sets ks row) (xS (k+1) aM aJ aV aW l S d j sets ks row)
  |0,_,_,_,_=>fQ.refl _
  |d+1,j,sets,ks,row=>by
    simp only [xS];refine fQ.bind (eT.mono _ _ _ _ _ _ _ _) (fun t=>fQ.bind (fD.mono _ _) (fun key=>fQ.ite (fQ.ite (IB k aM aJ aV aW l S _ _ _ _ _) (fQ.ite (fQ.refl _) (IB k aM aJ aV aW l S _ _ _ _ _))) (fQ.refl _)))
theorem SQ (k:Nat) (aM aJ aV aW:Int) (l:List gV) : ∀ (J i:Nat) (sets:List (List Int)) (ks:List (List UInt8)) (next:List (List Int)) (acc:List Bool),fQ (l9 k aM aJ aV aW l J i sets ks next acc) (l9 (k+1) aM aJ aV aW l (J+1) i sets ks next acc)
  |0,_,_,_,_,_=>fQ.none _
  |J+1,i,sets,ks,next,acc=>by
    simp only [l9];refine fQ.ite (fQ.bind (fQ.refl _) (fun b=>fQ.bind (IB _ _ _ _ _ _ _ _ _ _ _ _) (fun o=>?_))) (fQ.refl _);cases o with
    |none=>exact fQ.refl _
    |some p=>exact SQ k aM aJ aV aW l J (i+1) p.1 p.2.1 _ _
theorem oV.mono : ∀ a0 a1 a2 a3 a4 k,fQ (oV.f k a0 a1 a2 a3 a4) (oV.f (k+1) a0 a1 a2 a3 a4):=by
  intro a0 a1 a2 a3 a4 k;unfold oV.f;refine fQ.bind (fQ.refl _) (fun c=>fQ.ite (fQ.bind (fQ.refl _) (fun b=>fQ.bind (fQ.refl _) (fun b2=>fQ.bind (bP.mono _ _ _ _ _ _ _) (fun s=>fQ.bind (fD.mono _ _) (fun key=>fQ.ite ?_ (fQ.refl _)))))) (fQ.refl _));intro r hr;obtain ⟨o,ho,he⟩:=Option.map_eq_some_iff.mp hr;rw [SQ k a0 a1 a2 a3 a4 k 0 _ _ _ _ o ho];exact congrArg some he
end Go.Proofs.Ytapinbmkjkbkkaa.Mk
namespace Go.Proofs.Ytapinbmkjkbkkaa.Lb
open Go.RowKit Go.Proofs.aC.bE Go.Proofs.aC.bV Go.Proofs.aC.bY
theorem info27:(Try.prog.info? 27).map (fun i=>(i.zero,i.size,i.bytes))=some (some (.slice none 0 0),1,24):=by kernel_rfl
theorem UG:(Try.prog.info? 44).map (fun i=>(i.zero,i.size,i.bytes))=some (some (.slice none 0 0),1,24):=by kernel_rfl
def jJ (xs:List (List Bool)) (i:Int):(List Bool):=xs.getD i.toNat ([]:List Bool)
theorem l_ {w:World} {A:Option Addr} {n:Nat} {xs:List (List Bool)} (h:Kd.C (Kd.slice 4 Kd.bool) w A n xs) (i:Int) (h0:0≤i) (h1:i<n) : ∃ ad A0 c0,A=some ad∧w.cell? (ad.add i.toNat)=some (.slice A0 (jJ xs i).length c0)∧(jJ xs i).length≤c0∧Kd.bool.C w A0 (jJ xs i).length (jJ xs i):=by
  obtain ⟨ad,c,e,_,hK,hc0⟩:=Kd.C_get h ([]:List Bool) i h0 h1;have hc : ∀ j u,c[j]?=some u→w.cell? (ad.add (i.toNat * 1+j))=some u:=hc0;obtain ⟨A0,c0,rfl,l0,g0⟩:=hK;exact ⟨ad,A0,c0,e,by have hq:=hc 0 _ rfl;rwa [Nat.mul_one,Nat.add_zero] at hq,l0,g0⟩
def SS (xs:List (List Int)) (i:Int):(List Int):=xs.getD i.toNat ([]:List Int)
theorem at_L8 {w:World} {A:Option Addr} {n:Nat} {xs:List (List Int)} (h:Kd.C (Kd.slice 3 (Kd.int .i64)) w A n xs) (i:Int) (h0:0≤i) (h1:i<n) : ∃ ad A0 c0,A=some ad∧w.cell? (ad.add i.toNat)=some (.slice A0 (SS xs i).length c0)∧(SS xs i).length≤c0∧(Kd.int .i64).C w A0 (SS xs i).length (SS xs i):=by
  obtain ⟨ad,c,e,_,hK,hc0⟩:=Kd.C_get h ([]:List Int) i h0 h1;have hc : ∀ j u,c[j]?=some u→w.cell? (ad.add (i.toNat * 1+j))=some u:=hc0;obtain ⟨A0,c0,rfl,l0,g0⟩:=hK;exact ⟨ad,A0,c0,e,by have hq:=hc 0 _ rfl;rwa [Nat.mul_one,Nat.add_zero] at hq,l0,g0⟩
end Go.Proofs.Ytapinbmkjkbkkaa.Lb
