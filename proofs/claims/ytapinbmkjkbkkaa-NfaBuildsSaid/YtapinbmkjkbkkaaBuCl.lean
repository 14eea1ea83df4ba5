import Derived.Test.YtapinbmkjkbkkaaBuNw
import Derived.Test.YtapinbmkjkbkkaaBuP4
namespace Go.Proofs.Ytapinbmkjkbkkaa.Mk
open Go.RowKit Go.Proofs.aC.bE Go.Proofs.aC.bV Go.Proofs.aC.bY Lb Pu
theorem name_short {s:ByteArray} (h:xO s=true):s.size≤64:=by
  have h1:=GX s;rw [h] at h1;unfold dE.f at h1;by_cases hs:s.size≤64
  · exact hs
  · exfalso
    rw [show (100:Nat)=99+1 from rfl] at h1;split at h1
    · simp only [dE.j0] at h1
      simp at h1
    · rw [if_pos (by omega)] at h1
      simp only [dE.j0] at h1;simp at h1
theorem notF_cons {nm:List (List UInt8)} {nn:St→Int→Int→St→Option St} (k:gB) (ks:List gB) (fr tt:Int) (s:St):ZJ nm nn (k :: ks) fr tt s=(qO nm nn k).bind fun a=>nn a fr tt s:=by rw [ZJ];rfl
variable {nm : List (List UInt8)} {nn : St → Int → Int → St → Option St}
set_option maxHeartbeats 3200000 in
theorem make_not (name:ByteArray) (k:gB) (ks:List gB) (ih:rP nm nn k) (hnn : ∀ a,qO nm nn k=some a→∃ o,Q9 nm.length a o∧∀ fr tt s,nn a fr tt s=MU o fr tt s):rP nm nn ⟨8,name,k :: ks⟩:=by
  intro base M mb w0 W A c s fr tt hM hw hn hr hc hK hb h0;have hr':Kd.C k25 w0 A (k :: ks).length (k :: ks):=hr;have HC:=aA.mk hc;obtain ⟨ad,A2,c2,rfl,hx0,hx1,hx2,hl2,hg2⟩:=mE hr' 0 (by omega) (by simp);have hrd:bL (k :: ks) 0=k:=rfl;rw [hrd] at hx0 hx1 hx2 hl2 hg2;have ha:ad.add 0=ad:=(by unfold Addr.add;simp);simp only [Int.toNat_zero,Nat.zero_mul,ha] at hx0 hx1 hx2;have HG:=aA.mk hg2;have HL:=aA.mk hl2;have HN:=aA.mk hn;have HNC:=aA.mk (fun (base M mb:Nat) (w0 W:World) (A:Option Addr) (c:Nat) (s:St) (fr tt:Int) hM hw hn hr hc hK hb h0=>not_calls k ih hnn base M mb w0 W A c s fr tt hM hw hn hr hc hK hb h0);have zK:=aA.mk (lQ hK (.cells #[.int .i64 8,.string name,.slice (some ad) (k :: ks).length c] 25));have HB0:=aA.mk (qW hM hK hb (.cells #[.int .i64 8,.string name,.slice (some ad) (k :: ks).length c] 25));have HT0:=aA.mk (kV W (.cells #[.int .i64 8,.string name,.slice (some ad) (k :: ks).length c] 25));have HM:=aA.mk hM;have H0:=aA.mk h0;have HW:=aA.mk hw;have O3:aA ((W.alloc (.cells #[.int .i64 8,.string name,.slice (some ad) (k :: ks).length c] 25)).heap[W.heap.size]?=some (.cells #[.int .i64 8,.string name,.slice (some ad) (k :: ks).length c] 25 (0,0))):=⟨dX _ _⟩;have hb2:=(aD O3.out 2);have hy0:=bJ (HB0.out.mono HW.out) hx0;have hy1:=bJ (HB0.out.mono HW.out) hx1;have hy2:=bJ (HB0.out.mono HW.out) hx2;show Calls Try.prog 66 #[.pointer (some ⟨M,0,none⟩),.agg #[.int .i64 8,.string name,.slice (some ad) (k :: ks).length c],.int .i64 fr,.int .i64 tt] W (Fin base M (nm.length:Int) (.map (some mb)) w0 W (R6 nm nn ⟨8,name,k :: ks⟩ fr tt s));rw [rQ,if_neg (by omega),if_neg (by omega),if_neg (by omega),if_neg (by omega),if_neg (by omega),if_neg (by omega),if_pos rfl,notF_cons];obtain ⟨o,ho⟩ : ∃ o,((qO nm nn k).bind fun a=>nn a fr tt s)=o:=⟨_,rfl⟩;rw [ho];have HO:=aA.mk ho;rw [List.length_cons] at hb2 hy0 hy1 hy2 zK HB0;clear hr hc hK hb hw hn h0 hM ho hr' hx0 hx1 hx2 hl2 hg2 ha hrd ih hnn;go_enter Try.func66,Try.ntmps66;go_wp2_with (fail)
  go_at_call 85;refine (HNC.out base M mb w0 _ A2 c2 s fr tt HM.out HW.out HN.out HG.out HL.out zK.out HB0.out H0.out).mono ?_;rintro e w1 h1;rw [HO.out] at h1;clear hb2 hy0 hy1 hy2;cases o with
  |none =>
    obtain ⟨rfl,hb1⟩:=h1;have HB1:=aA.mk hb1;clear hb1 HO;go_wp2;exact ⟨rfl,rfl,HB1.out⟩
  |some s1 =>
    obtain ⟨rfl,hk1,hb1,ht1,hp1⟩:=h1;have iC:=aA.mk hk1;have HB1:=aA.mk hb1;have HT1:=aA.mk (fZ HT0.out ht1);have HP1:=aA.mk hp1;clear hk1 hb1 ht1 hp1 HO;go_wp2;go_end0
    exact ⟨rfl,iC.out,HB1.out,HT1.out,HP1.out⟩
theorem MV {op:Int} {ks:List gB} (hb:P5 op ks=false) : ∀ k∈ks,gX k=true:=by
  induction ks with
  |nil=>exact fun _ h=>absurd h (by simp)
  |cons k ks ih =>
    rw [P5,Bool.or_eq_false_iff,Bool.or_eq_false_iff,Bool.not_eq_false'] at hb;intro q hq;rcases List.mem_cons.mp hq with rfl|hq
    · exact hb.1.2
    · exact ih hb.2 q hq
theorem make_all (hns:nm.length≤4096) (hnn:NNok nm.length nn) : ∀ (n:Nat) (r:gB),SizeOf.sizeOf r≤n→gX r=true→rP nm nn r:=by
  intro n;induction n with
  |zero=>intro r h;cases r;simp at h
  |succ n ih =>
    intro r h hr;obtain ⟨op,name,ks⟩:=r;have hk : ∀ k,k∈ks→gX k=true→rP nm nn k:=by
      intro k hk;apply ih;have:=List.sizeOf_lt_of_mem hk;simp at h;omega
    rw [oZ] at hr;by_cases h1:op=1
    · subst h1
      rw [if_pos rfl,Bool.and_eq_true] at hr;exact GY name ks (name_short hr.1)
    rw [if_neg h1] at hr;by_cases h2:op=2∨op=3
    · exact ZK op name ks h2
    by_cases h4:op=4
    · exact make_none op name ks (.inl h4)
    rw [if_neg (by omega)] at hr;by_cases h78:op=7∨op=8
    · rw [if_pos h78,Bool.and_eq_true,Bool.and_eq_true] at hr
      cases ks with
      |nil=>exact absurd hr.2 (by simp [R7])
      |cons k ks =>
        have hrk:gX k=true:=(by simpa [R7] using hr.2);have hkk:=hk k (List.mem_cons_self ..) hrk;rcases h78 with rfl|rfl
        · exact make_star name k ks hkk
        · refine make_not name k ks hkk (fun a ha=>?_)
          obtain ⟨m',F,h1,h2,h3,h4,h5,_⟩:=mk_all hns hnn _ k (Nat.le_refl _) hrk 0 1 2 [] a (by omega) (by omega) (by omega) (by omega) (by simp) ha;subst h1;exact hnn _ (UA h2 h3 hns h4 h5)
    · rw [if_neg h78] at hr
      by_cases h56:op=5∨op=6
      · rw [if_pos h56,Bool.and_eq_true,Bool.and_eq_true,Bool.not_eq_true'] at hr
        have hall:=MV hr.2;rcases h56 with rfl|rfl
        · exact ZL name ks (fun k hq=>hk k hq (hall k hq))
        · exact ZM name ks (fun k hq=>hk k hq (hall k hq))
      · rw [if_neg h56] at hr
        exact absurd hr (by simp)
noncomputable def dC (ns:Nat):St→Option (List (List Int) × List Bool):=Classical.epsilon fun d=>∀ a,wU (d a)∧(RA a.1 ns 0 1 a.2=0→Q9 ns a (d a))
theorem ZN {ns:Nat} (h:ns≤4096) : ∀ a,wU (dC ns a)∧(RA a.1 ns 0 1 a.2=0→Q9 ns a (dC ns a)):=Classical.epsilon_spec (d_ex h)
noncomputable def nnC (ns:Nat):St→Int→Int→St→Option St:=fun a fr tt s=>MU (dC ns a) fr tt s
theorem nnC_ok {ns:Nat} (h:ns≤4096):NNok ns (nnC ns):=fun a hck=>⟨_,(ZN h a).2 hck,fun _ _ _=>rfl⟩
noncomputable def pE.f (k:Nat) (aM:Int) (aJ:ByteArray) (bQ:List gB) (l1:List ByteArray):Option (Int × Int × Int × Int × List gV × Int) :=
  if l1.all (fun s=>decide (s.size≤maxLen))=true then (sS k aM aJ bQ).map fun (e:Int) =>
    if e=0 then (if l1.length≤4096∧iU [] l1=true then (match qO (l1.map nk) (nnC l1.length) ⟨aM,aJ,bQ⟩ with
      |none=>(0,0,0,0,[],3)
      |some s=>(s.1,(l1.length:Int),0,1,s.2,0)) else (0,0,0,0,[],80)) else (0,0,0,0,[],e)
  else none
theorem UB {k:Nat} {op:Int} {name:ByteArray} {ks:List gB} (h:sS k op name ks=some 0):gX ⟨op,name,ks⟩=true:=by
  unfold sS at h;obtain ⟨m,_,h⟩:=Option.map_eq_some_iff.mp h;by_cases h1:m.2=true
  · rw [if_pos h1] at h
    by_cases h2:gX ⟨op,name,ks⟩=true
    · exact h2
    · rw [if_neg h2] at h;exact absurd h (by decide)
  · rw [if_neg h1] at h;exact absurd h (by decide)
theorem pE.calls (k:Nat) (aM:Int) (aJ:ByteArray) (jF:Option Addr) (iY:Nat) (bQ:List gB) (A1:Option Addr) (c1:Nat) (l1:List ByteArray) (r1 r2 r3 r4:Int) (r5:List gV) (r6:Int) (w:World) (mI:Kd.C k25 w jF bQ.length bQ) (mJ:bQ.length≤iY) (hr1:Kd.C Kd.string w A1 l1.length l1) (_hc1:l1.length≤c1) (h:pE.f k aM aJ bQ l1=some (r1,r2,r3,r4,r5,r6)) :
    Calls Try.prog 11 #[.agg #[.int .i64 aM,.string aJ,.slice jF bQ.length iY],.slice A1 l1.length c1] w fun e w'=>∃ v,e = .returned (.tuple #[.agg #[.int .i64 r1,.int .i64 r2,.int .i64 r3,.int .i64 r4,v],.int .i64 r6])∧xP.R 78 w' w.heap.size (fun _=>True) v r5∧Below w.heap.size w w':=by
  unfold pE.f at h;by_cases hsz:l1.all (fun s=>decide (s.size≤maxLen))=true
  · rw [if_pos hsz] at h
    obtain ⟨e,he,h⟩:=Option.map_eq_some_iff.mp h;have hsz2 : ∀ i,(fF ByteArray.empty l1 i).size≤maxLen:=fun i=>by
      unfold fF;by_cases hi:i.toNat<l1.length
      · rw [List.getD_eq_getElem?_getD,List.getElem?_eq_getElem hi]
        exact of_decide_eq_true (List.all_eq_true.mp hsz _ (List.getElem_mem hi))
      · rw [List.getD_eq_getElem?_getD,List.getElem?_eq_none (by omega)]
        exact Nat.zero_le _
    by_cases hz:e=0
    · subst hz
      rw [if_pos rfl] at h;have hright:=UB he;refine JF k ⟨aM,aJ,bQ⟩ jF iY l1 A1 c1 (nnC l1.length) w mI mJ hr1 hsz2 he ?_ _ ?_ ?_ ?_
      · intro hns
        exact R8 _ (make_all (nm:=l1.map nk) (by simpa using hns) (by rw [List.length_map];exact nnC_ok hns) _ _ (Nat.le_refl _) hright)
      · rintro hbad e W' hF
        rw [if_neg (by rcases hbad with hbad|hbad <;> simp [hbad] <;> omega)] at h;injection h with e1 h;injection h with e2 h;injection h with e3 h;injection h with e4 h;injection h with e5 e6;subst e1;subst e2;subst e3;subst e4;subst e5;subst e6;exact hF
      · intro h1 h2 h3 e W' hF
        rw [if_pos ⟨h1,h2⟩,h3] at h;injection h with e1 h;injection h with e2 h;injection h with e3 h;injection h with e4 h;injection h with e5 e6;subst e1;subst e2;subst e3;subst e4;subst e5;subst e6;exact hF
      · intro h1 h2 s h3 e W' hF
        rw [if_pos ⟨h1,h2⟩,h3] at h;injection h with e1 h;injection h with e2 h;injection h with e3 h;injection h with e4 h;injection h with e5 e6;subst e1;subst e2;subst e3;subst e4;subst e5;subst e6;exact hF
    · rw [if_neg hz] at h
      injection h with e1 h;injection h with e2 h;injection h with e3 h;injection h with e4 h;injection h with e5 e6;subst e1;subst e2;subst e3;subst e4;subst e5;subst e6;exact build_bad k ⟨aM,aJ,bQ⟩ jF iY _ e w mI mJ he hz
  · rw [if_neg hsz] at h
    exact absurd h (by simp)
end Go.Proofs.Ytapinbmkjkbkkaa.Mk
namespace Go.Proofs.Ytapinbmkjkbkkaa.Mk
open Go.RowKit Go.Proofs.aC.bE Go.Proofs.aC.bV Go.Proofs.aC.bY Lb Pu
theorem ZO (bs:ByteArray) : ∀ (d i:Nat) (r:List UInt8),bs.size - i=d→ByteArray.toList.loop bs i r=r.reverse ++ bs.data.toList.drop i:=by
  intro d;induction d with
  |zero =>
    intro i r h;rw [ByteArray.toList.loop.eq_def,if_neg (by omega),List.drop_eq_nil_of_le (by rw [Array.length_toList];show bs.size≤i;omega),List.append_nil]
  |succ d ih =>
    intro i r h;rw [ByteArray.toList.loop.eq_def,if_pos (by omega),ih (i+1) _ (by omega)];have hi:i<bs.data.toList.length:=(by rw [Array.length_toList];show i<bs.size;omega);rw [List.drop_eq_getElem_cons hi,List.reverse_cons,List.append_assoc];congr 1
    have:bs.get! i=bs.data.toList[i]:=by
      have h2:i<bs.data.size:=(by rw [←Array.length_toList];exact hi);show bs.data[i]! = _;rw [getElem!_pos bs.data i h2,Array.getElem_toList]
    rw [this];rfl
theorem toList_data (bs:ByteArray):bs.toList=nk bs:=by
  unfold ByteArray.toList;rw [ZO bs bs.size 0 [] (by omega)];rfl
theorem number_l0 (names:List ByteArray) (name:ByteArray) (hn:names.length≤4096) : ∀ (d i k:Nat),names.length - i=d→i≤names.length→d<k →
    dI.l0 k names name i=some (if nk name∈(names.drop i).map nk then ((i+((names.drop i).map nk).idxOf (nk name):Nat):Int) else -1):=by
  intro d;induction d with
  |zero =>
    intro i k hd hi hk;obtain ⟨k,rfl⟩ : ∃ m,k=m+1:=⟨k - 1,by omega⟩;rw [dI.l0,if_neg (by omega),List.drop_eq_nil_of_le (by omega)];rfl
  |succ d ih =>
    intro i k hd hi hk;obtain ⟨k,rfl⟩ : ∃ m,k=m+1:=⟨k - 1,by omega⟩;have hi':i<names.length:=(by omega);have hrd:fF ByteArray.empty names (i:Int)=names[i]:=(by unfold fF;simp [List.getElem?_eq_getElem hi']);rw [dI.l0,if_pos (by omega),if_pos (by omega),hrd,toList_data,toList_data,List.drop_eq_getElem_cons hi',List.map_cons];have hw:wrap64 ((i:Int)+1)=((i+1:Nat):Int):=(by unfold wrap64;omega);by_cases he:nk names[i]=nk name
    · rw [if_pos he,he,if_pos (List.mem_cons_self ..),List.idxOf_cons_self]
      rfl
    · rw [if_neg he,hw,ih (i+1) k (by omega) (by omega) (by omega),List.idxOf_cons,beq_false_of_ne he,cond_false]
      by_cases hm:nk name∈(names.drop (i+1)).map nk
      · rw [if_pos hm,if_pos (List.mem_cons_of_mem _ hm)]
        congr 2
        omega
      · rw [if_neg hm,if_neg (by rintro h;rcases List.mem_cons.mp h with h|h;exact he h.symm;exact hm h)]
theorem ZP (names:List ByteArray) (name:ByteArray) (hn:names.length≤4096) (k:Nat) (hk:names.length<k):dI.f k names name=some (KI (names.map nk) (nk name)):=by
  have h:=number_l0 names name hn names.length 0 k (by omega) (by omega) hk;unfold dI.f;refine h.trans ?_;rw [List.drop_zero];unfold KI nameAt;by_cases hm:nk name∈names.map nk
  · rw [if_pos hm,if_pos hm,if_pos hm]
    simp
  · rw [if_neg hm,if_neg hm]
theorem DD {k:gB} : ∀ {ks:List gB},k∈ks→cnt k≤rT ks
  |q :: ks,h=>by
    rw [kI];rcases List.mem_cons.mp h with rfl|h
    · omega
    · have:=DD h
      omega
variable {nm : List (List UInt8)} {names : List ByteArray} {d : St → Option (List (List Int) × List Bool)}
theorem rnotF_cons {rn:RS→Int→Int→RS→RS} (k:gB) (ks:List gB) (fr tt:Int) (s:RS):DF nm rn (k :: ks) fr tt s=rn (zA nm rn k 0 1 (2,[],false)) fr tt s:=by rw [DF]
set_option maxHeartbeats 3200000 in
theorem rmake_not (name:ByteArray) (k:gB) (ks:List gB) (ih:pY nm (wW d) names k) (hcnt:cnt k≤100000) (hok:Over (zA nm (wW d) k 0 1 (2,[],false))=false→Q9 names.length ((zA nm (wW d) k 0 1 (2,[],false)).1,(zA nm (wW d) k 0 1 (2,[],false)).2.1) (d ((zA nm (wW d) k 0 1 (2,[],false)).1,(zA nm (wW d) k 0 1 (2,[],false)).2.1))):pY nm (wW d) names ⟨8,name,k :: ks⟩:=by
  intro base M w0 W An cn A c s fr tt hM hw hn hcn hr hc hK hb h0;have hr':Kd.C k25 w0 A (k :: ks).length (k :: ks):=hr;have HC:=aA.mk hc;obtain ⟨ad,A2,c2,rfl,hx0,hx1,hx2,hl2,hg2⟩:=mE hr' 0 (by omega) (by simp);have hrd:bL (k :: ks) 0=k:=rfl;rw [hrd] at hx0 hx1 hx2 hl2 hg2;have ha:ad.add 0=ad:=(by unfold Addr.add;simp);simp only [Int.toNat_zero,Nat.zero_mul,ha] at hx0 hx1 hx2;have HG:=aA.mk hg2;have HL:=aA.mk hl2;have HN:=aA.mk hn;have HNC:=aA.mk (fun (base M:Nat) (w0 W:World) (An:Option Addr) (cn:Nat) (A:Option Addr) (c:Nat) (s:RS) (fr tt:Int) hM hw hn hcn hr hc hK hb h0=>rnot_calls k ih hcnt _ rfl hok base M w0 W An cn A c s fr tt hM hw hn hcn hr hc hK hb h0);have zK:=aA.mk (qA hK (.cells #[.int .i64 8,.string name,.slice (some ad) (k :: ks).length c] 25));have HB0:=aA.mk (rU hM hK hb (.cells #[.int .i64 8,.string name,.slice (some ad) (k :: ks).length c] 25));have HT0:=aA.mk (nX W (.cells #[.int .i64 8,.string name,.slice (some ad) (k :: ks).length c] 25));have HM:=aA.mk hM;have HCN:=aA.mk hcn;have HR:=aA.mk (room_le (m:=4500000) h0 (by rw [wQ,kI];have:=vZ k;omega));have HW:=aA.mk hw;have O3:aA ((W.alloc (.cells #[.int .i64 8,.string name,.slice (some ad) (k :: ks).length c] 25)).heap[W.heap.size]?=some (.cells #[.int .i64 8,.string name,.slice (some ad) (k :: ks).length c] 25 (0,0))):=⟨dX _ _⟩;have hb2:=(aD O3.out 2);have hy0:=bJ (HB0.out.mono HW.out) hx0;have hy1:=bJ (HB0.out.mono HW.out) hx1;have hy2:=bJ (HB0.out.mono HW.out) hx2;show Calls Try.prog 69 #[.pointer (some ⟨M,0,none⟩),.agg #[.int .i64 8,.string name,.slice (some ad) (k :: ks).length c],.int .i64 fr,.int .i64 tt] W (MW base M An names.length cn w0 W (zA nm (wW d) ⟨8,name,k :: ks⟩ fr tt s) (.tuple #[]));rw [j6,if_neg (by omega),if_neg (by omega),if_neg (by omega),if_neg (by omega),if_neg (by omega),if_neg (by omega),if_pos rfl,rnotF_cons];rw [List.length_cons] at hb2 hy0 hy1 hy2 zK HB0 HT0;clear hr hc hK hb hw hn h0 hM hr' hx0 hx1 hx2 hl2 hg2 ha hrd ih hok hcnt hcn;go_enter Try.func69,Try.ntmps69;go_wp2_with (fail)
  go_at_call 89;refine (HNC.out base M w0 _ An cn A2 c2 s fr tt HM.out HW.out HN.out HCN.out HG.out HL.out zK.out HB0.out HR.out).mono ?_;rintro e w1 ⟨rfl,hk1,hb1,ht1⟩;have iC:=aA.mk hk1;have HB1:=aA.mk hb1;have HT1:=aA.mk (fB HT0.out ht1);clear hb2 hy0 hy1 hy2 hk1 hb1 ht1;go_wp2;go_end0
  exact ⟨rfl,iC.out,HB1.out,HT1.out⟩
theorem r_ok (names:List ByteArray) (hns:names.length≤4096) (k:gB) (hrk:gX k=true) (a:RS) (ha:zA (names.map nk) (wW (dC names.length)) k 0 1 (2,[],false)=a) (ho:Over a=false) :
    R6 (names.map nk) (nnC names.length) k 0 1 (2,[])=some (a.1,a.2.1)∧RA a.1 names.length 0 1 a.2.1=0∧a.2.2=false∧Q9 names.length (a.1,a.2.1) (dC names.length (a.1,a.2.1)):=by
  have DI:=sim_all (nm:=names.map nk) (d:=dC names.length) (fun a=>(ZN hns a).1) _ k (Nat.le_refl _) 0 1 (2,[]) ⟨by decide,by simp⟩;have DI:Sim false (R6 (names.map nk) (nnC names.length) k 0 1 (2,[])) (zA (names.map nk) (wW (dC names.length)) k 0 1 (2,[],false)):=DI;rw [ha] at DI;cases hm:R6 (names.map nk) (nnC names.length) k 0 1 (2,[]) with
  |none =>
    rw [hm] at DI;exact absurd (show Over a=true from DI) (by rw [ho];simp)
  |some t =>
    rw [hm] at DI;obtain ⟨rfl,_⟩:=DI;have hns':(names.map nk).length≤4096:=(by rw [List.length_map];exact hns);have hnn:NNok (names.map nk).length (nnC names.length):=(by rw [List.length_map];exact nnC_ok hns);obtain ⟨m',F,h1,h2,h3,h4,h5,_⟩:=mk_all hns' hnn _ k (Nat.le_refl _) hrk 0 1 2 [] t (by omega) (by omega) (by omega) (by omega) (by simp) hm;subst h1;have hck:=UA h2 h3 hns' h4 h5;rw [List.length_map] at hck;exact ⟨rfl,hck,rfl,(ZN hns _).2 hck⟩
theorem rmake_all (hns:names.length≤4096) : ∀ (n:Nat) (r:gB),SizeOf.sizeOf r≤n→gX r=true→cnt r≤100000→pY (names.map nk) (wW (dC names.length)) names r:=by
  intro n;induction n with
  |zero=>intro r h;cases r;simp at h
  |succ n ih =>
    intro r h hr hct;obtain ⟨op,name,ks⟩:=r;have hct':=hct;rw [wQ] at hct';have hg : ∀ k,JG (names.map nk) (wW (dC names.length)) k:=fun k=>DJ (fun a fr tt s=>DK (fun a=>(ZN hns a).1) a fr tt s) _ k (Nat.le_refl _);have hk : ∀ k,k∈ks→gX k=true→pY (names.map nk) (wW (dC names.length)) names k:=by
      intro k hk hrk;refine ih k ?_ hrk ?_
      · have:=List.sizeOf_lt_of_mem hk
        simp at h;omega
      · have:=DD hk
        omega
    rw [oZ] at hr;by_cases h1:op=1
    · subst h1
      exact rmake_name name ks _ (ZP names name hns _ (Nat.lt_succ_self _))
    rw [if_neg h1] at hr;by_cases h2:op=2∨op=3
    · exact rmake_arc op name ks h2
    by_cases h4:op=4
    · exact rmake_none op name ks h4
    rw [if_neg (by omega)] at hr;by_cases h78:op=7∨op=8
    · rw [if_pos h78,Bool.and_eq_true,Bool.and_eq_true] at hr
      cases ks with
      |nil=>exact absurd hr.2 (by simp [R7])
      |cons k ks =>
        have hrk:gX k=true:=(by simpa [R7] using hr.2);have hkk:=hk k (List.mem_cons_self ..) hrk;rw [kI] at hct';rcases h78 with rfl|rfl
        · exact rmake_star name k ks hkk (hg k)
        · exact rmake_not name k ks hkk (by omega) (fun ho=>(r_ok names hns k hrk _ rfl ho).2.2.2)
    · rw [if_neg h78] at hr
      by_cases h56:op=5∨op=6
      · rw [if_pos h56,Bool.and_eq_true,Bool.and_eq_true,Bool.not_eq_true'] at hr
        have hall:=MV hr.2;rcases h56 with rfl|rfl
        · exact rmake_seq name ks (fun k hq=>hk k hq (hall k hq)) (fun k _=>hg k)
        · exact rmake_alt name ks (fun k hq=>hk k hq (hall k hq)) (fun k _=>hg k)
      · rw [if_neg h56] at hr
        exact absurd hr (by simp)
end Go.Proofs.Ytapinbmkjkbkkaa.Mk
namespace Go.Proofs.Ytapinbmkjkbkkaa.Pu
open Go.RowKit Go.Proofs.aC.bE Go.Proofs.aC.bV Go.Proofs.aC.bY Lb Mk
mutual
def dep:gB→Nat
  |⟨_,_,ks⟩=>1+zL ks
def zL:List gB→Nat
  |[]=>0
  |k :: ks=>max (dep k) (zL ks)
end
theorem R9 (op:Int) (name:ByteArray) (ks:List gB):dep ⟨op,name,ks⟩=1+zL ks:=by rw [dep]
theorem vF (k:gB) (ks:List gB):zL (k :: ks)=max (dep k) (zL ks):=by rw [zL]
theorem JH {ks:List gB} {i:Nat} (h:i<ks.length):bL ks (i:Int)=ks[i]:=by unfold bL;simp [List.getElem?_eq_getElem h]
def Meas (r:gB) (d:Nat):Prop:=∃ (n:Int) (b:Bool) (K:Nat),(∀ k,K≤k→dQ.f k r.f0 r.f1 r.f2 (d:Int)=some (n,b))∧(b=true↔cnt r≤500∧dep r+d≤51)∧(b=true→n=(cnt r:Int))
theorem meas_l (d:Nat) (hd:d≤50) (ks:List gB) (ih : ∀ k,k∈ks→Meas k (d+1)) : ∀ (m i x:Nat),ks.length - i=m→i≤ks.length→x≤500 →
    ∃ (n:Int) (b:Bool) (K:Nat),(∀ k,K≤k→i+1≤x→dQ.l0 k (d:Int) (x:Int) ks (ks.length:Int) (i:Int)=some (n,b))∧(b=true↔x+rT (ks.drop i)≤500∧zL (ks.drop i)+d≤50)∧(b=true→n=((x+rT (ks.drop i):Nat):Int)):=by
  intro m;induction m with
  |zero =>
    intro i x hm hi hx;refine ⟨(x:Int),true,1,fun k hk _=>?_,?_,fun _=>?_⟩
    · obtain ⟨k,rfl⟩ : ∃ q,k=q+1:=⟨k - 1,by omega⟩
      rw [dQ.l0,if_neg (by omega)]
    · rw [List.drop_eq_nil_of_le (by omega),rT,zL];simp;omega
    · rw [List.drop_eq_nil_of_le (by omega),rT];rfl
  |succ m ihm =>
    intro i x hm hi hx;have hlt:i<ks.length:=(by omega);have hdrop:=List.drop_eq_getElem_cons hlt;obtain ⟨n1,b1,K1,h1,h2,h3⟩:=ih ks[i] (List.getElem_mem hlt);have hcp:=vZ ks[i];have step : ∀ k,K1≤k→i+1≤x→dQ.l0 (k+1) (d:Int) (x:Int) ks (ks.length:Int) (i:Int)=(if b1=true then (if (wrap64 ((x:Int)+n1)) > 500 then (some (wrap64 ((x:Int)+n1),false)) else (dQ.l0 k (d:Int) (wrap64 ((x:Int)+n1)) ks (ks.length:Int) (wrap64 ((i:Int)+1)))) else (some (wrap64 ((x:Int)+n1),false))):=by
      intro k hk hix;rw [dQ.l0,if_pos (by omega),if_pos (by omega),if_pos (by omega),JH hlt,show wrap64 ((d:Int)+1)=((d+1:Nat):Int) by unfold wrap64;omega,h1 k hk,Option.bind_some]
    cases b1 with
    |false =>
      refine ⟨wrap64 ((x:Int)+n1),false,K1+1,fun k hk hix=>?_,?_,fun h=>absurd h (by simp)⟩
      · obtain ⟨k,rfl⟩ : ∃ q,k=q+1:=⟨k - 1,by omega⟩
        rw [step k (by omega) hix,if_neg (by simp)]
      · rw [hdrop,kI,vF]
        constructor
        · intro h;exact absurd h (by simp)
        · rintro ⟨h4,h5⟩
          have:=h2.mpr ⟨by omega,by omega⟩;exact absurd this (by simp)
    |true =>
      have h4:=h2.mp rfl;have h5:=h3 rfl;subst h5;by_cases hbig:x+cnt ks[i] > 500
      · refine ⟨wrap64 ((x:Int)+(cnt ks[i]:Int)),false,K1+1,fun k hk hix=>?_,?_,fun h=>absurd h (by simp)⟩
        · obtain ⟨k,rfl⟩ : ∃ q,k=q+1:=⟨k - 1,by omega⟩
          rw [step k (by omega) hix,if_pos rfl,if_pos (by unfold wrap64;omega)]
        · rw [hdrop,kI]
          constructor
          · intro h;exact absurd h (by simp)
          · rintro ⟨h6,_⟩;omega
      · have hw:wrap64 ((x:Int)+(cnt ks[i]:Int))=((x+cnt ks[i]:Nat):Int):=by unfold wrap64;omega
        obtain ⟨n,b,K,g1,g2,g3⟩:=ihm (i+1) (x+cnt ks[i]) (by omega) (by omega) (by omega);refine ⟨n,b,K+K1+1,fun k hk hix=>?_,?_,fun h=>?_⟩
        · obtain ⟨k,rfl⟩ : ∃ q,k=q+1:=⟨k - 1,by omega⟩
          rw [step k (by omega) hix,if_pos rfl,hw,if_neg (by omega),show wrap64 ((i:Int)+1)=((i+1:Nat):Int) by unfold wrap64;omega];exact g1 k (by omega) (by omega)
        · rw [g2,hdrop,kI,vF]
          constructor
          · rintro ⟨h6,h7⟩;exact ⟨by omega,by omega⟩
          · rintro ⟨h6,h7⟩;exact ⟨by omega,by omega⟩
        · rw [g3 h,hdrop,kI,Nat.add_assoc]
theorem ZQ : ∀ (n:Nat) (r:gB),SizeOf.sizeOf r≤n→∀ d,d≤51→Meas r d:=by
  intro n;induction n with
  |zero=>intro r h;cases r;simp at h
  |succ n ih =>
    intro r h d hd;obtain ⟨op,name,ks⟩:=r;by_cases h50:d > 50
    · refine ⟨1,false,1,fun k hk=>?_,?_,fun h=>absurd h (by simp)⟩
      · obtain ⟨k,rfl⟩ : ∃ q,k=q+1:=⟨k - 1,by omega⟩
        show dQ.f (k+1) op name ks (d:Int)=_;rw [dQ.f,if_pos (by omega)]
      · rw [R9]
        constructor
        · intro h;exact absurd h (by simp)
        · rintro ⟨_,h1⟩;omega
    · obtain ⟨m,b,K,g1,g2,g3⟩:=meas_l d (by omega) ks (fun k hk=>ih k (by
        have:=List.sizeOf_lt_of_mem hk;simp at h;omega) (d+1) (by omega)) ks.length 0 1 (by omega) (by omega) (by omega)
      refine ⟨m,b,K+1,fun k hk=>?_,?_,fun h=>?_⟩
      · obtain ⟨k,rfl⟩ : ∃ q,k=q+1:=⟨k - 1,by omega⟩
        show dQ.f (k+1) op name ks (d:Int)=_;rw [dQ.f,if_neg (by omega)];exact g1 k (by omega) (by omega)
      · rw [g2,R9,wQ,List.drop_zero]
        constructor
        · rintro ⟨h6,h7⟩;exact ⟨by omega,by omega⟩
        · rintro ⟨h6,h7⟩;exact ⟨by omega,by omega⟩
      · rw [g3 h,wQ,List.drop_zero]
def Cou (r:gB):Prop:=∃ (n K:Nat),(∀ k,K≤k→bS.f k r.f0 r.f1 r.f2=some (n:Int))∧(n > 500↔cnt r > 500)∧(cnt r≤500→n=cnt r)∧n≤500 * dep r+1∧1≤n
theorem cou_l (op:Int) (name:ByteArray) (ks:List gB) (hdp:zL ks≤1000000000000) (ih : ∀ k,k∈ks→Cou k) (hdk : ∀ k,k∈ks→dep k≤zL ks) : ∀ (m i x:Nat),ks.length - i=m→i≤ks.length→i+1≤x→x≤500 * zL ks+501 →
    ∃ (n K:Nat),(∀ k,K≤k→bS.l0 k (x:Int) (i:Int) op name ks=some (n:Int))∧(n > 500↔x+rT (ks.drop i) > 500)∧(x+rT (ks.drop i)≤500→n=x+rT (ks.drop i))∧n≤500 * zL ks+501∧1≤n:=by
  intro m;induction m with
  |zero =>
    intro i x hm hi hix hx;refine ⟨x,1,fun k hk=>?_,?_,fun _=>?_,hx,by omega⟩
    · obtain ⟨k,rfl⟩ : ∃ q,k=q+1:=⟨k - 1,by omega⟩
      rw [bS.l0,if_neg (by omega)]
    · rw [List.drop_eq_nil_of_le (by omega),rT];omega
    · rw [List.drop_eq_nil_of_le (by omega),rT];omega
  |succ m ihm =>
    intro i x hm hi hix hx;have hlt:i<ks.length:=(by omega);have hdrop:=List.drop_eq_getElem_cons hlt;have hcp:=vZ ks[i];by_cases h500:x≤500
    · obtain ⟨n1,K1,h1,h2,h2',h3,h4⟩:=ih ks[i] (List.getElem_mem hlt)
      have hdk1:=hdk ks[i] (List.getElem_mem hlt);have hn1:n1≤500 * zL ks+1:=by
        have:500 * dep ks[i]≤500 * zL ks:=Nat.mul_le_mul_left _ hdk1;omega
      obtain ⟨D,hD⟩ : ∃ D,D=500 * zL ks:=⟨_,rfl⟩;rw [←hD] at hn1 hx;have hDb:D≤500000000000000:=(by rw [hD];omega);obtain ⟨n,K,g1,g2,g2',g3,g4⟩:=ihm (i+1) (x+n1) (by omega) (by omega) (by omega) (by rw [←hD];omega);refine ⟨n,K+K1+1,fun k hk=>?_,?_,fun h=>?_,g3,g4⟩
      · obtain ⟨k,rfl⟩ : ∃ q,k=q+1:=⟨k - 1,by omega⟩
        rw [bS.l0,if_pos (by omega),if_pos (by omega),if_pos (by omega),JH hlt,h1 k (by omega),Option.bind_some,show wrap64 ((x:Int)+(n1:Int))=((x+n1:Nat):Int) by unfold wrap64;omega,show wrap64 ((i:Int)+1)=((i+1:Nat):Int) by unfold wrap64;omega];exact g1 k (by omega)
      · rw [g2,hdrop,kI]
        omega
      · rw [hdrop,kI] at h ⊢
        rw [g2' (by omega)];omega
    · refine ⟨x,1,fun k hk=>?_,?_,fun h=>by omega,hx,by omega⟩
      · obtain ⟨k,rfl⟩ : ∃ q,k=q+1:=⟨k - 1,by omega⟩
        rw [bS.l0,if_pos (by omega),if_neg (by omega)]
      · omega
theorem MX {k:gB} : ∀ {ks:List gB},k∈ks→dep k≤zL ks
  |q :: ks,h=>by
    rw [vF];rcases List.mem_cons.mp h with rfl|h
    · omega
    · have:=MX h
      omega
theorem cou_all : ∀ (n:Nat) (r:gB),SizeOf.sizeOf r≤n→dep r≤1000000000000→Cou r:=by
  intro n;induction n with
  |zero=>intro r h;cases r;simp at h
  |succ n ih =>
    intro r h hd;obtain ⟨op,name,ks⟩:=r;rw [R9] at hd;obtain ⟨m,K,g1,g2,g2',g3,g4⟩:=cou_l op name ks (by omega) (fun k hk=>ih k (by
      have:=List.sizeOf_lt_of_mem hk;simp at h;omega) (by have:=MX hk;omega)) (fun k hk=>MX hk) ks.length 0 1 (by omega) (by omega) (by omega) (by omega)
    rw [List.drop_zero] at g2 g2';refine ⟨m,K+1,fun k hk=>?_,by rw [g2,wQ],fun h=>?_,by rw [R9];omega,g4⟩
    · obtain ⟨k,rfl⟩ : ∃ q,k=q+1:=⟨k - 1,by omega⟩
      show bS.f (k+1) op name ks=_;rw [bS.f];exact g1 k (by omega)
    · rw [wQ] at h ⊢
      exact g2' h
def Dee (r:gB) (d:Nat):Prop:=∃ (b:Bool) (K:Nat),(∀ k,K≤k→bN.f k r.f0 r.f1 r.f2 (d:Int)=some b)∧(b=true↔dep r≤d)
theorem dee_l (op:Int) (name:ByteArray) (d:Nat) (hd:d<50) (ks:List gB) (hc:rT ks≤500) (ih : ∀ k,k∈ks→Dee k d) : ∀ (m i:Nat),ks.length - i=m→i≤ks.length→i+rT (ks.drop i)≤500 →
    ∃ (b:Bool) (K:Nat),(∀ k,K≤k→bN.l0 k ((d+1:Nat):Int) (i:Int) op name ks=some b)∧(b=true↔zL (ks.drop i)≤d):=by
  intro m;induction m with
  |zero =>
    intro i hm hi _;refine ⟨true,1,fun k hk=>?_,?_⟩
    · obtain ⟨k,rfl⟩ : ∃ q,k=q+1:=⟨k - 1,by omega⟩
      rw [bN.l0,if_neg (by omega)]
    · rw [List.drop_eq_nil_of_le (by omega),zL];simp
  |succ m ihm =>
    intro i hm hi hix;have hlt:i<ks.length:=(by omega);have hdrop:=List.drop_eq_getElem_cons hlt;have hcp:=vZ ks[i];rw [hdrop,kI] at hix;obtain ⟨b1,K1,h1,h2⟩:=ih ks[i] (List.getElem_mem hlt);have step : ∀ k,K1≤k→bN.l0 (k+1) ((d+1:Nat):Int) (i:Int) op name ks=(if b1=true then (bN.l0 k ((d+1:Nat):Int) ((i+1:Nat):Int) op name ks) else (some false)):=by
      intro k hk;rw [bN.l0,if_pos (by omega),if_pos (by omega),JH hlt,show wrap64 (((d+1:Nat):Int) - 1)=(d:Int) by unfold wrap64;omega,h1 k hk,Option.bind_some,show wrap64 ((i:Int)+1)=((i+1:Nat):Int) by unfold wrap64;omega]
    cases b1 with
    |false =>
      refine ⟨false,K1+1,fun k hk=>?_,?_⟩
      · obtain ⟨k,rfl⟩ : ∃ q,k=q+1:=⟨k - 1,by omega⟩
        rw [step k (by omega),if_neg (by simp)]
      · rw [hdrop,vF]
        constructor
        · intro h;exact absurd h (by simp)
        · intro h
          exact absurd (h2.mpr (by omega)) (by simp)
    |true =>
      have h4:=h2.mp rfl;obtain ⟨b,K,g1,g2⟩:=ihm (i+1) (by omega) (by omega) (by omega);refine ⟨b,K+K1+1,fun k hk=>?_,?_⟩
      · obtain ⟨k,rfl⟩ : ∃ q,k=q+1:=⟨k - 1,by omega⟩
        rw [step k (by omega),if_pos rfl];exact g1 k (by omega)
      · rw [g2,hdrop,vF]
        omega
theorem dee_all : ∀ (n:Nat) (r:gB),SizeOf.sizeOf r≤n→cnt r≤500→∀ d,d≤50→Dee r d:=by
  intro n;induction n with
  |zero=>intro r h;cases r;simp at h
  |succ n ih =>
    intro r h hc d hd;obtain ⟨op,name,ks⟩:=r;rw [wQ] at hc;cases d with
    |zero =>
      refine ⟨false,1,fun k hk=>?_,?_⟩
      · obtain ⟨k,rfl⟩ : ∃ q,k=q+1:=⟨k - 1,by omega⟩
        show bN.f (k+1) op name ks ((0:Nat):Int)=_;rw [bN.f];exact if_pos rfl
      · rw [R9];simp
    |succ d =>
      obtain ⟨b,K,g1,g2⟩:=dee_l op name d (by omega) ks (by omega) (fun k hk=>ih k (by
        have:=List.sizeOf_lt_of_mem hk;simp at h;omega) (by have:=DD hk;omega) d (by omega)) ks.length 0 (by omega) (by omega) (by rw [List.drop_zero];omega)
      refine ⟨b,K+1,fun k hk=>?_,?_⟩
      · obtain ⟨k,rfl⟩ : ∃ q,k=q+1:=⟨k - 1,by omega⟩
        show bN.f (k+1) op name ks ((d+1:Nat):Int)=_;rw [bN.f,if_neg (by omega)];exact g1 k (by omega)
      · rw [g2,R9,List.drop_zero]
        omega
end Go.Proofs.Ytapinbmkjkbkkaa.Pu
namespace Go.Proofs.Ytapinbmkjkbkkaa.Pu
open Go.RowKit Go.Proofs.aC.bE Go.Proofs.aC.bV Go.Proofs.aC.bY Lb Mk
theorem name_l0s (s:ByteArray) (hs:s.size≤64) : ∀ (d i:Nat),s.size - i=d→∃ b,∀ k,d<k→dE.l0 k s (s.size:Int) (i:Int)=some b∧bD.l0 k s (i:Int)=some b:=by
  intro d;induction d with
  |zero =>
    intro i hd;refine ⟨true,fun k hk=>?_⟩;obtain ⟨k,rfl⟩ : ∃ q,k=q+1:=⟨k - 1,by omega⟩;rw [dE.l0,bD.l0,if_neg (by omega),if_neg (by omega)];exact ⟨rfl,rfl⟩
  |succ d ih =>
    intro i hd;obtain ⟨b,hb⟩:=ih (i+1) (by omega);have hw:wrap64 ((i:Int)+1)=((i+1:Nat):Int):=(by unfold wrap64;omega);obtain ⟨c1,h1⟩:=yL (bt s (i:Int));obtain ⟨c2,h2⟩:=MZ (bt s (i:Int));have h1':gF.f (bt s (i:Int))=some c1:=h1;have h2':iV.f (bt s (i:Int))=some c2:=h2;cases c1 with
    |true =>
      refine ⟨b,fun k hk=>?_⟩;obtain ⟨k,rfl⟩ : ∃ q,k=q+1:=⟨k - 1,by omega⟩;rw [dE.l0,bD.l0,if_pos (by omega),if_pos (by omega),if_pos (by omega),if_pos (by omega),if_pos (by omega),h1,h1',Option.bind_some,Option.bind_some,if_pos rfl,if_pos rfl,hw];exact hb k (by omega)
    |false =>
      cases c2 with
      |true =>
        refine ⟨b,fun k hk=>?_⟩;obtain ⟨k,rfl⟩ : ∃ q,k=q+1:=⟨k - 1,by omega⟩;rw [dE.l0,bD.l0,if_pos (by omega),if_pos (by omega),if_pos (by omega),if_pos (by omega),if_pos (by omega),h1,h1',Option.bind_some,Option.bind_some,if_neg (by simp),if_neg (by simp),h2,h2',Option.bind_some,Option.bind_some,if_pos rfl,if_pos rfl,hw];exact hb k (by omega)
      |false =>
        refine ⟨false,fun k hk=>?_⟩;obtain ⟨k,rfl⟩ : ∃ q,k=q+1:=⟨k - 1,by omega⟩;rw [dE.l0,bD.l0,if_pos (by omega),if_pos (by omega),if_pos (by omega),if_pos (by omega),if_pos (by omega),h1,h1',Option.bind_some,Option.bind_some,if_neg (by simp),if_neg (by simp),h2,h2',Option.bind_some,Option.bind_some,if_neg (by simp),if_neg (by simp)];exact ⟨rfl,rfl⟩
theorem SF (s:ByteArray) (k:Nat) (hk:100≤k):bD.f k s=some (xO s):=by
  obtain ⟨k,rfl⟩ : ∃ q,k=q+1:=⟨k - 1,by omega⟩;rw [←GX s];unfold bD.f dE.f;by_cases h0:s.toList=([]:List UInt8)
  · rw [if_pos h0,if_pos h0,bD.j0,if_pos rfl,show (100:Nat)=99+1 from rfl,dE.j0,if_pos rfl]
  · rw [if_neg h0,if_neg h0]
    by_cases h64:(s.size:Int) > 64
    · rw [if_pos h64,if_pos h64,bD.j0,if_pos rfl,show (100:Nat)=99+1 from rfl,dE.j0,if_pos rfl]
    · rw [if_neg h64,if_neg h64]
      by_cases hp:0<(s.size:Int)
      · rw [if_pos hp,if_pos hp]
        obtain ⟨c1,h1⟩:=yL (bt s 0);have h1':gF.f (bt s 0)=some c1:=h1;rw [h1,h1',Option.bind_some,Option.bind_some];cases c1 with
        |false =>
          rw [show (100:Nat)=99+1 from rfl,bD.j0,dE.j0];simp
        |true =>
          obtain ⟨b,hb⟩:=name_l0s s (by omega) (s.size - 1) 1 rfl;rw [show (100:Nat)=98+1+1 from rfl,bD.j0,dE.j0,if_neg (by simp),if_neg (by simp),dE.l0,if_pos hp,if_pos (by omega),if_pos hp,h1,Option.bind_some,if_pos rfl,show wrap64 ((0:Int)+1)=((1:Nat):Int) by unfold wrap64;omega];rw [show (1:Int)=((1:Nat):Int) from rfl,(hb k (by omega)).2,(hb 98 (by omega)).1]
      · rw [if_neg hp,if_neg hp]
def ZR (op:Int) (name:ByteArray) (ks:List gB):Bool :=
  if op=1 then xO name && ks.isEmpty
  else if op=2∨op=3∨op=4 then name.toList.isEmpty && ks.isEmpty
  else if op=7∨op=8 then name.toList.isEmpty && ks.length==1
  else if op=5∨op=6 then name.toList.isEmpty && decide (2≤ks.length) && !ks.any (fun k=>k.f0==op)
  else false
theorem len0 (ks:List gB):((ks.length:Int)==0)=ks.isEmpty:=by cases ks <;> simp;omega
theorem len1 (ks:List gB):((ks.length:Int)==1)=(ks.length==1):=by
  rw [Bool.eq_iff_iff,beq_iff_eq,beq_iff_eq];omega
theorem tl (name:ByteArray) (b:Bool):(if name.toList=([]:List UInt8) then some b else some false)=some (name.toList.isEmpty && b):=by
  by_cases h:name.toList=[]
  · rw [if_pos h,h];simp
  · rw [if_neg h]
    have:name.toList.isEmpty=false:=by
      cases hq:name.toList with
      |nil=>exact absurd hq h
      |cons a l=>rfl
    rw [this];rfl
theorem node_l0 (op:Int) (name:ByteArray) (ks:List gB) (hl:ks.length≤1000) : ∀ (d i k:Nat),ks.length - i=d→i≤ks.length→d<k→bC.l0 k (i:Int) op name ks=some (name.toList.isEmpty && decide (2≤ks.length) && !(ks.drop i).any (fun k=>k.f0==op)):=by
  intro d;induction d with
  |zero =>
    intro i k hd hi hk;obtain ⟨k,rfl⟩ : ∃ q,k=q+1:=⟨k - 1,by omega⟩;rw [bC.l0,if_neg (by omega),tl,List.drop_eq_nil_of_le (by omega)];have:decide ((ks.length:Int) ≥ 2)=decide (2≤ks.length):=by
      rw [Bool.eq_iff_iff,decide_eq_true_iff,decide_eq_true_iff];omega
    rw [this];simp
  |succ d ih =>
    intro i k hd hi hk;obtain ⟨k,rfl⟩ : ∃ q,k=q+1:=⟨k - 1,by omega⟩;have hlt:i<ks.length:=(by omega);rw [bC.l0,if_pos (by omega),if_pos (by omega),JH hlt,List.drop_eq_getElem_cons hlt,List.any_cons];by_cases he:ks[i].f0=op
    · rw [if_pos he,show (ks[i].f0==op)=true from beq_iff_eq.mpr he]
      simp
    · rw [if_neg he,show (ks[i].f0==op)=false from beq_eq_false_iff_ne.mpr he,show wrap64 ((i:Int)+1)=((i+1:Nat):Int) by unfold wrap64;omega,ih (i+1) k (by omega) (by omega) (by omega),Bool.false_or]
theorem node_f (op:Int) (name:ByteArray) (ks:List gB) (hl:ks.length≤1000) (k:Nat) (hk:2000≤k):bC.f k op name ks=some (ZR op name ks):=by
  obtain ⟨k,rfl⟩ : ∃ q,k=q+3:=⟨k - 3,by omega⟩;unfold bC.f ZR;by_cases h1:op=1
  · rw [if_pos h1,if_pos h1,SF name _ (by omega),Option.bind_some,len0]
    cases xO name <;> simp
  · rw [if_neg h1,if_neg h1]
    have j0t : ∀ x,bC.j0 (k+3) x true op name ks=some (name.toList.isEmpty && ks.isEmpty):=fun x=>by
      rw [bC.j0,if_pos rfl,tl,len0]
    by_cases h2:op=2
    · subst h2;rw [if_pos rfl,if_pos (by simp)];exact j0t _
    rw [if_neg h2];by_cases h3:op=3
    · subst h3;rw [if_pos rfl,if_pos (by simp)];exact j0t _
    rw [if_neg h3];by_cases h4:op=4
    · subst h4;rw [if_pos (by simp)];exact j0t _
    rw [if_neg (by omega),beq_eq_false_iff_ne.mpr h4,bC.j0,if_neg (by simp)];have j1t : ∀ x,bC.j1 (k+2) x true op name ks=some (name.toList.isEmpty && ks.length==1):=fun x=>by
      rw [bC.j1,if_pos rfl,tl,len1]
    by_cases h7:op=7
    · subst h7;rw [if_pos rfl,if_pos (by simp)];exact j1t _
    rw [if_neg h7];by_cases h8:op=8
    · subst h8;rw [if_pos (by simp)];exact j1t _
    rw [if_neg (by omega),beq_eq_false_iff_ne.mpr h8,bC.j1,if_neg (by simp)];have j2t:bC.j2 (k+1) true op name ks=some (name.toList.isEmpty && decide (2≤ks.length) && !ks.any (fun k=>k.f0==op)):=by
      rw [bC.j2,if_pos rfl];exact node_l0 op name ks hl ks.length 0 k (by omega) (by omega) (by omega)
    by_cases h5:op=5
    · subst h5;rw [if_pos rfl,if_pos (by simp)];exact j2t
    rw [if_neg h5];by_cases h6:op=6
    · subst h6;rw [if_pos (by simp)];exact j2t
    rw [if_neg (by omega),beq_eq_false_iff_ne.mpr h6,bC.j2,if_neg (by simp)]
theorem ZT (op:Int) : ∀ ks:List gB,P5 op ks=(ks.any (fun k=>k.f0==op) || !ks.all gX)
  |[]=>by rw [P5];rfl
  |k :: ks=>by
    rw [P5,ZT op ks,List.any_cons,List.all_cons];cases k.f0==op <;> cases gX k <;> simp
theorem NA (op:Int) (name:ByteArray) (ks:List gB):gX ⟨op,name,ks⟩=(ks.all gX && ZR op name ks):=by
  rw [oZ];unfold ZR;by_cases h1:op=1
  · rw [if_pos h1,if_pos h1]
    cases ks <;> simp
  rw [if_neg h1,if_neg h1];by_cases h2:op=2∨op=3∨op=4
  · rw [if_pos h2,if_pos h2]
    cases ks <;> simp
  rw [if_neg h2,if_neg h2];by_cases h7:op=7∨op=8
  · rw [if_pos h7,if_pos h7]
    cases ks with
    |nil=>simp
    |cons k ks =>
      cases ks with
      |nil=>simp [R7];cases gX k <;> simp
      |cons q ks=>simp
  rw [if_neg h7,if_neg h7];by_cases h5:op=5∨op=6
  · rw [if_pos h5,if_pos h5,ZT]
    cases ks.any (fun k=>k.f0==op) <;> cases ks.all gX <;> simp
  rw [if_neg h5,if_neg h5,Bool.and_false]
def Rig (r:gB):Prop:=∃ K,∀ k,K≤k→dD.f k r.f0 r.f1 r.f2=some (gX r)
theorem rig_l (op:Int) (name:ByteArray) (ks:List gB) (hl:ks.length≤1000) (ih : ∀ k,k∈ks→Rig k) : ∀ (d i:Nat),ks.length - i=d→i≤ks.length→∃ K,∀ k,K≤k→dD.l0 k (i:Int) op name ks=some ((ks.drop i).all gX && ZR op name ks):=by
  intro d;induction d with
  |zero =>
    intro i hd hi;refine ⟨2001,fun k hk=>?_⟩;obtain ⟨k,rfl⟩ : ∃ q,k=q+1:=⟨k - 1,by omega⟩;rw [dD.l0,if_neg (by omega),node_f op name ks hl k (by omega),Option.bind_some,List.drop_eq_nil_of_le (by omega)];simp
  |succ d ihd =>
    intro i hd hi;have hlt:i<ks.length:=(by omega);obtain ⟨K1,h1⟩:=ih ks[i] (List.getElem_mem hlt);obtain ⟨K2,h2⟩:=ihd (i+1) (by omega) (by omega);refine ⟨K1+K2+1,fun k hk=>?_⟩;obtain ⟨k,rfl⟩ : ∃ q,k=q+1:=⟨k - 1,by omega⟩;rw [dD.l0,if_pos (by omega),if_pos (by omega),JH hlt,h1 k (by omega),Option.bind_some,List.drop_eq_getElem_cons hlt,List.all_cons,show wrap64 ((i:Int)+1)=((i+1:Nat):Int) by unfold wrap64;omega,h2 k (by omega)];cases gX ks[i] <;> simp
theorem rig_all : ∀ (n:Nat) (r:gB),SizeOf.sizeOf r≤n→cnt r≤500→Rig r:=by
  intro n;induction n with
  |zero=>intro r h;cases r;simp at h
  |succ n ih =>
    intro r h hc;obtain ⟨op,name,ks⟩:=r;rw [wQ] at hc;have hlen : ∀ l:List gB,l.length≤rT l:=by
      intro l;induction l with
      |nil=>exact Nat.zero_le _
      |cons k l ihl=>rw [kI,List.length_cons];have:=vZ k;omega
    have:=hlen ks;obtain ⟨K,hK⟩:=rig_l op name ks (by omega) (fun k hk=>ih k (by
        have:=List.sizeOf_lt_of_mem hk;simp at h;omega) (by have:=DD hk;omega)) ks.length 0 (by omega) (by omega)
    refine ⟨K+1,fun k hk=>?_⟩;obtain ⟨k,rfl⟩ : ∃ q,k=q+1:=⟨k - 1,by omega⟩;show dD.f (k+1) op name ks=_;rw [dD.f,NA];exact hK k (by omega)
def ZE (r:gB):Int:=if cnt r≤500∧dep r≤50 then (if gX r=true then 0 else 70) else 71
theorem check_same (r:gB) (hd:dep r≤1000000000000) : ∃ K,∀ k,K≤k→sS k r.f0 r.f1 r.f2=some (ZE r)∧bT.f k r.f0 r.f1 r.f2=some (ZE r):=by
  obtain ⟨n,b,K1,h1,h2,_⟩:=ZQ _ r (Nat.le_refl _) 1 (by omega);obtain ⟨m,K2,g1,g2,_,_,_⟩:=cou_all _ r (Nat.le_refl _) hd;have e1 : ∀ k,K1≤k→sS k r.f0 r.f1 r.f2=some (ZE r):=fun k hk=>by
    unfold sS ZE;have e:dQ.f k r.f0 r.f1 r.f2 1=some (n,b):=h1 k hk;rw [e,Option.map_some,show (⟨r.f0,r.f1,r.f2⟩:gB)=r by cases r;rfl];show some (if b=true then (if gX r=true then (0:Int) else 70) else 71)=some _;by_cases hb:b=true
    · have:=h2.mp hb
      rw [if_pos hb,if_pos (show cnt r≤500∧dep r≤50 from ⟨this.1,by omega⟩)]
    · rw [if_neg hb,if_neg (fun h=>hb (h2.mpr ⟨h.1,by omega⟩))]
  by_cases hc:cnt r≤500
  · obtain ⟨b2,K3,f1,f2⟩:=dee_all _ r (Nat.le_refl _) hc 50 (by omega)
    obtain ⟨K4,r1⟩:=rig_all _ r (Nat.le_refl _) hc;refine ⟨K1+K2+K3+K4+1,fun k hk=>⟨e1 k (by omega),?_⟩⟩;obtain ⟨k,rfl⟩ : ∃ q,k=q+1:=⟨k - 1,by omega⟩;unfold bT.f ZE;have e2:bN.f (k+1) r.f0 r.f1 r.f2 50=some b2:=f1 (k+1) (by omega);rw [g1 (k+1) (by omega),Option.bind_some,if_neg (by omega),e2,Option.bind_some];by_cases hb:b2=true
    · rw [hb,if_pos ⟨hc,f2.mp hb⟩]
      show bT.j0 (k+1) false r.f0 r.f1 r.f2=_;rw [bT.j0,if_neg (by simp),r1 k (by omega),Option.bind_some];cases gX r <;> rfl
    · rw [if_neg (fun h=>hb (f2.mpr h.2)),show (!b2)=true by simpa using hb,bT.j0,if_pos rfl]
  · refine ⟨K1+K2+1,fun k hk=>⟨e1 k (by omega),?_⟩⟩
    obtain ⟨k,rfl⟩ : ∃ q,k=q+1:=⟨k - 1,by omega⟩;unfold bT.f ZE;rw [g1 (k+1) (by omega),Option.bind_some,if_pos (by omega),bT.j0,if_pos rfl,if_neg (fun h=>hc h.1)]
end Go.Proofs.Ytapinbmkjkbkkaa.Pu
