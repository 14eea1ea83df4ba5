import Derived.Test.YtapinbmkjkbkkaaBuLbf
import Derived.Test.YtapinbmkjkbkkaaBuLbx33
import Derived.WalkLawsBesides
import Derived.Outline
import Derived.Lib.Hide
import Derived.RegionTactic
import Derived.Deep.RegionLaw
import Derived.ChangeAlike
import Derived.Test.YtapinbmkjkbkkaaBuLbx18
import Derived.Test.YtapinbmkjkbkkaaBuLbe
import Derived.Test.YtapinbmkjkbkkaaBuP4
import Derived.Lib.SmallJoins
import Derived.Laws.IdiomCopy
import Derived.Test.YtapinbmkjkbkkaaBuLbx4
import Derived.Laws.EntriesVeiled
namespace Go.Proofs.Ytapinbmkjkbkkaa.Mk
open Go.RowKit Go.Proofs.aC.bE Go.Proofs.aC.bV Go.Proofs.aC.bY Lb Pu
structure lU (P:Nat→Prop) (base M:Nat) (An:Option Addr) (ln cn:Nat) (W:World) (s:RS):Prop where mk ::
  out : ∃ v,W.heap[M]?=some (.cells #[.int .i64 s.1,v,.slice An ln cn,.bool s.2.2] 113 (0,0))∧xP.R 78 W base P v s.2.1
def yT (W W':World):Prop:=W.heap.size≤W'.heap.size∧∀ (g:Nat) (cs:Array Value) (t:TypeId) (fr:Nat × Nat),t≠113→t≠78→W.heap[g]?=some (.cells cs t fr)→W'.heap[g]?=some (.cells cs t fr)
theorem fB {W W1 W2:World} (h:yT W W1) (k:yT W1 W2):yT W W2:=⟨Nat.le_trans h.1 k.1,fun g cs t fr h1 h2 hg=>k.2 g cs t fr h1 h2 (h.2 g cs t fr h1 h2 hg)⟩
theorem oJ {W W1:World} (h:Below W.heap.size W W1):yT W W1:=⟨h.size,fun g _ _ _ _ _ hg=>(h.block g (gL hg)).trans hg⟩
theorem nX (W:World) (o:Obj):yT W (W.alloc o):=oJ (aN (Below.refl _ _) o)
theorem zS {W:World} {M j:Nat} {cs:Array Value} (hB:W.heap[M]?=some (.cells cs 113 (0,0))) (u:Value):yT W (W.setCell ⟨M,j,none⟩ u):=by
  refine ⟨((Below.refl 0 W).setCell (Nat.zero_le _) u).size,fun g cs' t fr h1 _ hg=>?_⟩;have hne:g≠M:=by
    rintro rfl;rw [hB] at hg;injection hg with hg;injection hg with _ hg;exact h1 hg.symm
  exact (Below.heap_setCell W ⟨M,j,none⟩ u g hne).trans hg
theorem aAY {W W1:World} {base:Nat} {P:Nat→Prop} {v:Value} {l:List gV} (hR:xP.R 78 W base P v l) (hg:W.grownBy W1 v.ownBlock):yT W W1:=by
  refine ⟨hg.size,fun g cs t fr _ h2 hc=>(hg.block g (gL hc) (fun e=>?_)).trans hc⟩;obtain ⟨cells,hcells⟩:=Kd.jE hR g e.symm;rw [hc] at hcells;injection hcells with hcells;injection hcells with _ hcells;exact h2 hcells
section
variable {P : Nat → Prop} {base M : Nat} {An : Option Addr} {ln cn : Nat} {s : RS} {w0 W : World}
theorem FV (h:lU P base M An ln cn W s):M<W.heap.size:=by
  obtain ⟨v,hB,_⟩:=h;exact gL hB
theorem qZ (h:lU P base M An ln cn W s) {W1:World} (hb:Below W.heap.size W W1):lU P base M An ln cn W1 s:=by
  obtain ⟨v,hB,hR⟩:=h;exact ⟨v,bK hB hb,Kd.fE hR hb⟩
theorem qA (h:lU P base M An ln cn W s) (o:Obj):lU P base M An ln cn (W.alloc o) s:=qZ h (aN (Below.refl _ _) o)
theorem rU (hM:base≤M) (h:lU P base M An ln cn W s) (hb:Below base w0 W) (o:Obj):Below base w0 (W.alloc o):=hb.alloc (Nat.le_trans hM (Nat.le_of_lt (FV h))) o
theorem FW (h:lU P base M An ln cn W s) (s':RS) (j:Nat) (u:Value) (hs:s'.2.1=s.2.1) (he : ∀ v,(#[.int .i64 s.1,v,.slice An ln cn,.bool s.2.2]:Array Value).setIfInBounds j u = #[.int .i64 s'.1,v,.slice An ln cn,.bool s'.2.2]):lU P base M An ln cn (W.setCell ⟨M,j,none⟩ u) s':=by
  obtain ⟨v,hB,hR⟩:=h;refine ⟨v,dF hB j _ (he v),?_⟩;rw [hs];exact Kd.dH (Kd.eX (Kd.dN hR hB (by decide)) (fun k hk=>hk.2) _) (fun _ hk=>hk.1)
def Room (s:RS) (n:Nat):Prop:=0≤s.1∧s.1+n≤1000000000000∧s.2.1.length+n≤1000000000000
theorem room_le {s:RS} {n m:Nat} (h:Room s n) (hm:m≤n):Room s m:=⟨h.1,by have:=h.2.1;omega,by have:=h.2.2;omega⟩
theorem nJ {s s':RS} {a n:Nat} (h:Room s n) (hg:wI s s' a) (m:Nat) (hm:a+m≤n):Room s' m :=
  ⟨by have:=h.1;have:=hg.1;omega,by have:=h.2.1;have:=hg.2.1;omega,by have:=h.2.2;have:=hg.2.2.2.1;omega⟩
def MW (base M:Nat) (An:Option Addr) (ln cn:Nat) (w0 W0:World) (s:RS) (v:Value) (e:Ending) (W:World):Prop :=
  e = .returned v∧lU (fun _=>True) base M An ln cn W s∧Below base w0 W∧yT W0 W
set_option maxHeartbeats 400000 in
theorem vS (h:lU (fun _=>True) base M An ln cn W s) (hM:base≤M) (hb:Below base w0 W) (hr:Room s 1):Calls Try.prog 68 #[.pointer (some ⟨M,0,none⟩)] W (MW base M An ln cn w0 W (BN s) (.int .i64 s.1)):=by
  obtain ⟨h0,h1,_⟩:=hr;have HK:=aA.mk h;have HB:=aA.mk hb;have HM:=aA.mk hM;obtain ⟨v,hB,hR⟩:=h;have HS:=aA.mk hB;have hc0:W.cell? ⟨M,0,none⟩=some (.int .i64 s.1):=(aD hB 0).trans rfl;have hf0:=bF hB 0;have hc1:(W.setCell ⟨M,0,none⟩ (.int .i64 (s.1+1))).cell? ⟨M,0,none⟩=some (.int .i64 (s.1+1)):=(aD (lN hB 0 _) 0).trans rfl;clear hB hR hb hM;go_enter Try.func68,Try.ntmps68;go_wp2;go_ret;exact ⟨rfl,FW HK.out (BN s) 0 _ rfl (fun _=>rfl),HB.out.setCell HM.out _,zS HS.out _⟩
set_option maxHeartbeats 400000 in
theorem rarc_ok (fr y tt:Int) (h:lU P base M An ln cn W s) (hP : ∀ k,W.heap.size≤k→P k) (hM:base≤M) (hb:Below base w0 W) (hr:s.2.1.length≤1000000000000) :
    Calls Try.prog 88 #[.pointer (some ⟨M,0,none⟩),.int .i64 fr,.int .i64 y,.int .i64 tt] W fun e W'=>e = .returned (.tuple #[])∧lU P base M An ln cn W' (nL s fr y tt)∧Below base w0 W'∧yT W W'∧∀ k,k<W.heap.size→k≠M→¬ P k→W'.heap[k]?=W.heap[k]?:=by
  obtain ⟨v,hB,hR⟩:=h;have HB:=aA.mk hb;have HK:=aA.mk hB;have HR:=aA.mk hR;have HM:=aA.mk hM;have HP:=aA.mk hP;obtain ⟨A,c,rfl⟩:=Kd.dY hR;have hc0:W.cell? ⟨M,1,none⟩=some (.slice A s.2.1.length c):=(aD hB 1).trans rfl;have hf0:=bF hB 1;have H1:=aA.mk hr;clear hB hR hb hr hM hP;go_enter Try.func88,Try.ntmps88;go_wp2_with (at_builtin;refine Kd.wL xP (w0:=w0) base rfl (.tmp 12) (.tmp 17) 29 78 (.agg #[.int .i64 0,.int .i64 0,.int .i64 0]) 24 rfl Try.underlying29 info78 rfl (by decide) (by decide) _ s.2.1 ⟨fr,y,tt⟩ [.int .i64 fr,.int .i64 y,.int .i64 tt] P (fun _=>False) rfl rfl ?aP (fun _ hk=>hk.elim) ?aF ?aO ?aB ?aS ?aL ?_;(case aP=>exact k78_mkM _ _ _ _);(case aF=>exact HP.out);(case aO=>exact HR.out);(case aB=>exact HB.out);(case aS=>have:=gL HK.out;have:=HM.out;omega);(case aL=>have:=H1.out;omega);intro v1 w1 o5 hb1 hg hat;obtain ⟨A1,c1,rfl⟩:=Kd.dY o5;rw [List.length_append,List.length_singleton] at o5;rw [List.length_append,List.length_singleton];have iC:=aA.mk (eZ HK.out hg (Kd.lL HR.out HK.out (by decide)));have HR1:=aA.mk o5;have HB1:=aA.mk hb1;have HG1:=aA.mk hg;have hc1:w1.frozen? ⟨M,1,none⟩=false:=bF iC.out 1;have hc2:w1.cell? ⟨M,1,none⟩=some (.slice A s.2.1.length c):=(aD iC.out 1).trans rfl;clear o5 hb1 hg hat)
  go_end0
  refine ⟨rfl,⟨_,dF iC.out 1 _ rfl,?_⟩,HB1.out.setCell HM.out _,fB (aAY HR.out HG1.out) (zS iC.out _),fun k hk hkM hkP=>?_⟩
  · exact Kd.dH (Kd.eX (Kd.dN HR1.out iC.out (by decide)) (fun k hk=>hk.2) _) (fun _ hk=>hk.1)
  · exact (Below.heap_setCell w1 ⟨M,1,none⟩ _ k hkM).trans (HG1.out.block k hk (fun e=>hkP (HR.out.1 k e.symm)))
theorem wN (fr y tt:Int) (h:lU (fun _=>True) base M An ln cn W s) (hM:base≤M) (hb:Below base w0 W) (hr:Room s 1) :
    Calls Try.prog 88 #[.pointer (some ⟨M,0,none⟩),.int .i64 fr,.int .i64 y,.int .i64 tt] W (MW base M An ln cn w0 W (nL s fr y tt) (.tuple #[])) :=
  (rarc_ok fr y tt h (fun _ _=>trivial) hM hb (by have:=hr.2.2;omega)).mono fun _ _ k=>⟨k.1,k.2.1,k.2.2.1,k.2.2.2.1⟩
end
def pY (nm:List (List UInt8)) (rn:RS→Int→Int→RS→RS) (names:List ByteArray) (r:gB):Prop :=
  ∀ (base M:Nat) (w0 W:World) (An:Option Addr) (cn:Nat) (A:Option Addr) (c:Nat) (s:RS) (fr tt:Int),base≤M→w0.heap.size≤base→Kd.C Kd.string w0 An names.length names→names.length≤cn →
    Kd.C k25 w0 A r.f2.length r.f2→r.f2.length≤c→lU (fun _=>True) base M An names.length cn W s→Below base w0 W→Room s (5000000 * cnt r - 100) →
    Calls Try.prog 69 #[.pointer (some ⟨M,0,none⟩),.agg #[.int .i64 r.f0,.string r.f1,.slice A r.f2.length c],.int .i64 fr,.int .i64 tt] W (MW base M An names.length cn w0 W (zA nm rn r fr tt s) (.tuple #[]))
theorem vZ (r:gB):0<cnt r:=by obtain ⟨op,name,ks⟩:=r;rw [cnt];omega
variable {nm : List (List UInt8)} {rn : RS → Int → Int → RS → RS} {names : List ByteArray}
set_option maxHeartbeats 800000 in
theorem rmake_arc (op:Int) (name:ByteArray) (ks:List gB) (hop:op=2∨op=3):pY nm rn names ⟨op,name,ks⟩:=by
  intro base M w0 W An cn A c s fr tt hM hw hn hcn hr hc hK hb h0;have HK:=aA.mk (qA hK (.cells #[.int .i64 op,.string name,.slice A ks.length c] 25));have HB:=aA.mk (rU hM hK hb (.cells #[.int .i64 op,.string name,.slice A ks.length c] 25));have HM:=aA.mk hM;have HR:=aA.mk (room_le (m:=1) h0 (by have:=vZ ⟨op,name,ks⟩;omega));have HT:=aA.mk (nX W (.cells #[.int .i64 op,.string name,.slice A ks.length c] 25));have hm:ks.length≤9223372036854775807:=hr.2.1;show Calls Try.prog 69 #[.pointer (some ⟨M,0,none⟩),.agg #[.int .i64 op,.string name,.slice A ks.length c],.int .i64 fr,.int .i64 tt] W (MW base M An names.length cn w0 W (zA nm rn ⟨op,name,ks⟩ fr tt s) (.tuple #[]));rw [j6];clear hr hc hK hb hw hn h0 hM hcn;rcases hop with rfl|rfl
  · rw [if_neg (by decide),if_pos rfl]
    go_enter Try.func69,Try.ntmps69;go_wp2_with (fail)
    go_at_call 88;refine (wN _ _ _ HK.out HM.out HB.out HR.out).mono ?_;rintro e w1 ⟨rfl,hk1,hb1,ht1⟩;have iC:=aA.mk hk1;have HB1:=aA.mk hb1;have HT1:=aA.mk (fB HT.out ht1);clear hk1 hb1 ht1;go_wp2;go_end0
    exact ⟨rfl,iC.out,HB1.out,HT1.out⟩
  · rw [if_neg (by decide),if_neg (by decide),if_pos rfl]
    go_enter Try.func69,Try.ntmps69;go_wp2_with (fail)
    go_at_call 88;refine (wN _ _ _ HK.out HM.out HB.out HR.out).mono ?_;rintro e w1 ⟨rfl,hk1,hb1,ht1⟩;have iC:=aA.mk hk1;have HB1:=aA.mk hb1;have HT1:=aA.mk (fB HT.out ht1);clear hk1 hb1 ht1;go_wp2;go_end0
    exact ⟨rfl,iC.out,HB1.out,HT1.out⟩
set_option maxHeartbeats 800000 in
theorem rmake_none (op:Int) (name:ByteArray) (ks:List gB) (hop:op=4):pY nm rn names ⟨op,name,ks⟩:=by
  intro base M w0 W An cn A c s fr tt hM hw hn hcn hr hc hK hb h0;subst hop;have HK:=aA.mk (qA hK (.cells #[.int .i64 4,.string name,.slice A ks.length c] 25));have HB:=aA.mk (rU hM hK hb (.cells #[.int .i64 4,.string name,.slice A ks.length c] 25));have HT:=aA.mk (nX W (.cells #[.int .i64 4,.string name,.slice A ks.length c] 25));have hm:ks.length≤9223372036854775807:=hr.2.1;show Calls Try.prog 69 #[.pointer (some ⟨M,0,none⟩),.agg #[.int .i64 4,.string name,.slice A ks.length c],.int .i64 fr,.int .i64 tt] W (MW base M An names.length cn w0 W (zA nm rn ⟨4,name,ks⟩ fr tt s) (.tuple #[]));rw [j6,if_neg (by decide),if_neg (by decide),if_neg (by decide),if_neg (by decide),if_neg (by decide),if_neg (by decide),if_neg (by decide)];clear hr hc hK hb hw hn h0 hM hcn;go_enter Try.func69,Try.ntmps69;go_wp2;go_end0
  exact ⟨rfl,HK.out,HB.out,HT.out⟩
def KI (nm:List (List UInt8)) (s:List UInt8):Int:=if s∈nm then nameAt nm s else -1
set_option maxRecDepth 100000 in
set_option maxHeartbeats 1600000 in
theorem rmake_name (name:ByteArray) (ks:List gB) (kf:Nat) (hnum:dI.f kf names name=some (KI nm (nk name))):pY nm rn names ⟨1,name,ks⟩:=by
  intro base M w0 W An cn A c s fr tt hM hw hn hcn hr hc hK hb h0;have HK:=aA.mk (qA hK (.cells #[.int .i64 1,.string name,.slice A ks.length c] 25));have HB:=aA.mk (rU hM hK hb (.cells #[.int .i64 1,.string name,.slice A ks.length c] 25));have HM:=aA.mk hM;have HR:=aA.mk (room_le (m:=1) h0 (by have:=vZ ⟨1,name,ks⟩;omega));have HT:=aA.mk (nX W (.cells #[.int .i64 1,.string name,.slice A ks.length c] 25));have HNUM:=aA.mk hnum;have HCN:=aA.mk hcn;have hm:ks.length≤9223372036854775807:=hr.2.1;have BX:aA ((W.alloc (.cells #[.int .i64 1,.string name,.slice A ks.length c] 25)).heap[W.heap.size]?=some (.cells #[.int .i64 1,.string name,.slice A ks.length c] 25 (0,0))):=⟨dX _ _⟩;have HN:=aA.mk (Kd.dJ hn (hb.mono hw));show Calls Try.prog 69 #[.pointer (some ⟨M,0,none⟩),.agg #[.int .i64 1,.string name,.slice A ks.length c],.int .i64 fr,.int .i64 tt] W (MW base M An names.length cn w0 W (zA nm rn ⟨1,name,ks⟩ fr tt s) (.tuple #[]));rw [j6,if_pos rfl];obtain ⟨so,hso⟩ : ∃ so,(if nk name∈nm then nL s fr (nameAt nm (nk name)) tt else s)=so:=⟨_,rfl⟩;rw [hso];have HSO:=aA.mk hso;obtain ⟨vm,hvm,_⟩:=HK.out.out;have hx1:((W.alloc (.cells #[.int .i64 1,.string name,.slice A ks.length c] 25))).cell? ⟨M,2,none⟩=some (.slice An names.length cn):=(aD hvm 2).trans rfl;have hx2:((W.alloc (.cells #[.int .i64 1,.string name,.slice A ks.length c] 25))).cell? ⟨W.heap.size,1,none⟩=some (.string name):=(aD BX.out 1).trans rfl;clear hr hc hK hb hw hn h0 hM hcn hnum hvm hso;go_enter Try.func69,Try.ntmps69;go_upto_region 3 with (fail)
  go_cut [8] (fun v8 wc=>v8 = .int .i64 (KI nm (nk name))∧aA (lU (fun _=>True) base M An names.length cn wc s)∧aA (Below base w0 wc)∧aA (yT W wc))
  case first =>
    go_region_law (go_simp;go_at_call 87;refine (dI.calls kf An cn names name (KI nm (nk name)) ((W.alloc (.cells #[.int .i64 1,.string name,.slice A ks.length c] 25)).drew) (Kd.dJ HN.out (bX (aN (Below.refl _ _) _))) HCN.out HNUM.out).mono ?_;rintro e w5 ⟨rfl,hdr⟩;obtain ⟨nd,rfl⟩:=hdr)
    all_goals (go_wp2_with (fail);go_meet)
    all_goals
      have hb1:=bB (Below.refl (W.alloc (.cells #[.int .i64 1,.string name,.slice A ks.length c] 25)).heap.size (W.alloc (.cells #[.int .i64 1,.string name,.slice A ks.length c] 25))) (1+nd);exact ⟨rfl,⟨qZ HK.out hb1⟩,⟨bB HB.out (1+nd)⟩,⟨fB HT.out (oJ hb1)⟩⟩
  case rest =>
    obtain ⟨rfl,iC,HB1,HT1⟩:=hcut;clear hx1 hx2 BX HK HB HT;by_cases hin:nk name∈nm
    · have hv:KI nm (nk name)=nameAt nm (nk name):=by unfold KI;rw [if_pos hin]
      have hge:=(TB hin).1;have hso:=HSO.out;rw [if_pos hin] at hso;subst hso;rw [hv];clear hv hin HSO;go_wp2_with (fail)
      go_at_call 88;refine (wN _ _ _ iC.out HM.out HB1.out HR.out).mono ?_;rintro e w2 ⟨rfl,hk1,hb1,ht1⟩;have oQ:=aA.mk hk1;have HB2:=aA.mk hb1;have HT2:=aA.mk (fB HT1.out ht1);clear hk1 hb1 ht1;go_wp2;go_end0
      exact ⟨rfl,oQ.out,HB2.out,HT2.out⟩
    · have hv:KI nm (nk name) = -1:=by unfold KI;rw [if_neg hin]
      have hso:=HSO.out;rw [if_neg hin] at hso;subst hso;rw [hv];clear hv hin HSO;go_wp2;go_end0
      exact ⟨rfl,iC.out,HB1.out,HT1.out⟩
set_option maxHeartbeats 3200000 in
theorem rmake_star (name:ByteArray) (k:gB) (ks:List gB) (ih:pY nm rn names k) (hg:JG nm rn k):pY nm rn names ⟨7,name,k :: ks⟩:=by
  intro base M w0 W An cn A c s fr tt hM hw hn hcn hr hc hK hb h0;have hr':Kd.C k25 w0 A (k :: ks).length (k :: ks):=hr;have HC:=aA.mk hc;obtain ⟨ad,A2,c2,rfl,hx0,hx1,hx2,hl2,hg2⟩:=mE hr' 0 (by omega) (by simp);have hrd:bL (k :: ks) 0=k:=rfl;rw [hrd] at hx0 hx1 hx2 hl2 hg2;have ha:ad.add 0=ad:=(by unfold Addr.add;simp);simp only [Int.toNat_zero,Nat.zero_mul,ha] at hx0 hx1 hx2;have HG:=aA.mk hg2;have HL:=aA.mk hl2;have YC:=aA.mk ih;have HN:=aA.mk hn;have HCN:=aA.mk hcn;have zK:=aA.mk (qA hK (.cells #[.int .i64 7,.string name,.slice (some ad) (k :: ks).length c] 25));have HB0:=aA.mk (rU hM hK hb (.cells #[.int .i64 7,.string name,.slice (some ad) (k :: ks).length c] 25));have HT0:=aA.mk (nX W (.cells #[.int .i64 7,.string name,.slice (some ad) (k :: ks).length c] 25));have HM:=aA.mk hM;have HW:=aA.mk hw;have HX0:=aA.mk hx0;have HX1:=aA.mk hx1;have HX2:=aA.mk hx2;have O3:aA ((W.alloc (.cells #[.int .i64 7,.string name,.slice (some ad) (k :: ks).length c] 25)).heap[W.heap.size]?=some (.cells #[.int .i64 7,.string name,.slice (some ad) (k :: ks).length c] 25 (0,0))):=⟨dX _ _⟩;obtain ⟨n,hg1,hg3⟩:=hg s.1 (s.1+1) (nL (BN (BN s)) fr (-1) s.1);rw [wQ,kI] at h0;have hk:=vZ k;have R0:=aA.mk (room_le (m:=1) h0 (by omega));have R1:=aA.mk (nJ h0 (iW s) 1 (by omega));have R2:=aA.mk (nJ h0 (eY (iW s) (iW _)) 1 (by omega));have R3:=aA.mk (nJ h0 (eY (eY (iW s) (iW _)) (lG _ fr (-1) s.1)) (5000000 * cnt k - 100) (by omega));have R4:=aA.mk (nJ h0 (eY (eY (eY (iW s) (iW _)) (lG _ fr (-1) s.1)) hg1) 1 (by omega));have R5:=aA.mk (nJ h0 (eY (eY (eY (eY (iW s) (iW _)) (lG _ fr (-1) s.1)) hg1) (lG _ (s.1+1) (-1) s.1)) 1 (by omega));show Calls Try.prog 69 #[.pointer (some ⟨M,0,none⟩),.agg #[.int .i64 7,.string name,.slice (some ad) (k :: ks).length c],.int .i64 fr,.int .i64 tt] W (MW base M An names.length cn w0 W (zA nm rn ⟨7,name,k :: ks⟩ fr tt s) (.tuple #[]));rw [j6,if_neg (by omega),if_neg (by omega),if_neg (by omega),if_neg (by omega),if_neg (by omega),if_pos rfl,U0];clear hr hc hK hb hw hn h0 hM hr' hx0 hx1 hx2 hl2 hg2 ha hrd ih hg1 hg3 hk hcn hg;go_enter Try.func69,Try.ntmps69;go_wp2_with (fail)
  go_at_call 68;refine (vS zK.out HM.out HB0.out R0.out).mono ?_;rintro e w1 ⟨rfl,hk1,hb1,ht1⟩;have iC:=aA.mk hk1;have HB1:=aA.mk hb1;have HT1:=aA.mk (fB HT0.out ht1);have yH:=aA.mk (ht1.2 _ _ _ _ (by decide) (by decide) O3.out);clear hk1 hb1 ht1 HT0 O3 zK HB0;go_wp2_with (fail)
  go_at_call 68;refine (vS iC.out HM.out HB1.out R1.out).mono ?_;rintro e w2 ⟨rfl,hk1,hb1,ht1⟩;have oQ:=aA.mk hk1;have HB2:=aA.mk hb1;have HT2:=aA.mk (fB HT1.out ht1);have qJ:=aA.mk (ht1.2 _ _ _ _ (by decide) (by decide) yH.out);clear hk1 hb1 ht1 HT1 yH iC HB1;go_wp2_with (fail)
  go_at_call 88;refine (wN _ _ _ oQ.out HM.out HB2.out R2.out).mono ?_;rintro e w3 ⟨rfl,hk1,hb1,ht1⟩;have RI:=aA.mk hk1;have HB3:=aA.mk hb1;have HT3:=aA.mk (fB HT2.out ht1);have l5:=aA.mk (ht1.2 _ _ _ _ (by decide) (by decide) qJ.out);clear hk1 hb1 ht1 HT2 qJ oQ HB2;have hb2:=(aD l5.out 2);have hy0:=bJ (HB3.out.mono HW.out) HX0.out;have hy1:=bJ (HB3.out.mono HW.out) HX1.out;have hy2:=bJ (HB3.out.mono HW.out) HX2.out;go_wp2_with (fail)
  go_at_call 69;refine (YC.out base M w0 _ An cn A2 c2 _ _ _ HM.out HW.out HN.out HCN.out HG.out HL.out RI.out HB3.out R3.out).mono ?_;rintro e w4 ⟨rfl,hk1,hb1,ht1⟩;have XE:=aA.mk hk1;have wV:=aA.mk hb1;have HT4:=aA.mk (fB HT3.out ht1);have GV:=aA.mk (ht1.2 _ _ _ _ (by decide) (by decide) l5.out);clear hb2 hy0 hy1 hy2;clear hk1 hb1 ht1 HT3 l5 RI HB3;go_wp2_with (fail)
  go_at_call 88;refine (wN _ _ _ XE.out HM.out wV.out R4.out).mono ?_;rintro e w5 ⟨rfl,hk1,hb1,ht1⟩;have HK5:=aA.mk hk1;have DC:=aA.mk hb1;have HT5:=aA.mk (fB HT4.out ht1);have BX5:=aA.mk (ht1.2 _ _ _ _ (by decide) (by decide) GV.out);clear hk1 hb1 ht1 HT4 GV XE wV;go_wp2_with (fail)
  go_at_call 88;refine (wN _ _ _ HK5.out HM.out DC.out R5.out).mono ?_;rintro e w6 ⟨rfl,hk1,hb1,ht1⟩;have HK6:=aA.mk hk1;have SK:=aA.mk hb1;have HT6:=aA.mk (fB HT5.out ht1);have BX6:=aA.mk (ht1.2 _ _ _ _ (by decide) (by decide) BX5.out);clear hk1 hb1 ht1 HT5 BX5 HK5 DC;go_wp2;go_end0
  exact ⟨rfl,HK6.out,SK.out,HT6.out⟩
theorem FX (l:List gB) (k:Nat) (h:k<l.length):l.drop k=bL l k :: l.drop (k+1):=by
  rw [List.drop_eq_getElem_cons h];unfold bL;simp [List.getElem?_eq_getElem h]
set_option maxHeartbeats 6400000 in
theorem rmake_alt (name:ByteArray) (ks:List gB) (ih : ∀ k,k∈ks→pY nm rn names k) (hg : ∀ k,k∈ks→JG nm rn k):pY nm rn names ⟨6,name,ks⟩:=by
  intro base M w0 W An cn A c s fr tt hM hw hn hcn hr hc hK hb h0;have hr':Kd.C k25 w0 A ks.length ks:=hr;have hm:ks.length≤9223372036854775807:=hr'.2.1;have HC:=aA.mk hc;have HR:=aA.mk hr';have YC:=aA.mk ih;have HGR:=aA.mk hg;have HN:=aA.mk hn;have HCN:=aA.mk hcn;have HKs:=aA.mk (qA hK (.cells #[.int .i64 6,.string name,.slice A ks.length c] 25));have HBs:=aA.mk (rU hM hK hb (.cells #[.int .i64 6,.string name,.slice A ks.length c] 25));have HTs:=aA.mk (nX W (.cells #[.int .i64 6,.string name,.slice A ks.length c] 25));have HM:=aA.mk hM;have HW:=aA.mk hw;have BXs:aA ((W.alloc (.cells #[.int .i64 6,.string name,.slice A ks.length c] 25)).heap[W.heap.size]?=some (.cells #[.int .i64 6,.string name,.slice A ks.length c] 25 (0,0))):=⟨dX _ _⟩;rw [wQ] at h0;have HRM:=aA.mk (room_le (m:=5000000 * rT ks) h0 (by omega));show Calls Try.prog 69 #[.pointer (some ⟨M,0,none⟩),.agg #[.int .i64 6,.string name,.slice A ks.length c],.int .i64 fr,.int .i64 tt] W (MW base M An names.length cn w0 W (zA nm rn ⟨6,name,ks⟩ fr tt s) (.tuple #[]));rw [j6,if_neg (by omega),if_neg (by omega),if_neg (by omega),if_neg (by omega),if_pos rfl];obtain ⟨so,hso⟩ : ∃ so,uA nm rn ks fr tt s=so:=⟨_,rfl⟩;rw [hso];have HO:=aA.mk hso;clear hr hc hK hb hw hn h0 hM hr' ih hg hcn hso;go_enter Try.func69,Try.ntmps69;go_wp2;go_loopw [12] (fun i wr=>∃ (k:Nat) (sr:RS),k≤ks.length∧i = .int .i64 k∧aA (uA nm rn (ks.drop k) fr tt sr=so)∧aA (lU (fun _=>True) base M An names.length cn wr sr)∧aA (Below base w0 wr)∧aA (yT W wr)∧aA (Room sr (5000000 * rT (ks.drop k)))∧aA (wr.heap[W.heap.size]?=some (.cells #[.int .i64 6,.string name,.slice A ks.length c] 25 (0,0)))) (fun i _=>ks.length - (intOf i).toNat)
  case atStart=>exact ⟨0,s,Nat.zero_le _,rfl,HO,HKs,HBs,HTs,HRM,BXs⟩
  case round =>
    obtain ⟨k,sr,hk0,rfl,MO,zK,HB0,HT0,HRMr,O3⟩:=hrel;clear HKs HBs HTs HRM BXs HO;by_cases hlt:k<ks.length
    · have hbx:=(aD O3.out 2).trans rfl
      obtain ⟨ad,A2,c2,rfl,hx0,hx1,hx2,hl2,hg2⟩:=mE HR.out (k:Int) (by omega) (by omega);rw [Int.toNat_natCast] at hx0 hx1 hx2;have HG:=aA.mk hg2;have HL:=aA.mk hl2;have hmem:bL ks k∈ks:=(by unfold bL;simp [List.getElem?_eq_getElem hlt]);have HIK:=aA.mk (YC.out _ hmem);have HX0:=aA.mk hx0;have HX1:=aA.mk hx1;have HX2:=aA.mk hx2;have hk:=vZ (bL ks k);have h0:=HRMr.out;rw [FX ks k hlt,kI] at h0;have ho:=MO.out;rw [FX ks k hlt,uA] at ho;have PX:=aA.mk ho;obtain ⟨n,hg1,hg3⟩:=HGR.out _ hmem sr.1 (sr.1+1) (nL (BN (BN sr)) fr (-1) sr.1);have R0:=aA.mk (room_le (m:=1) h0 (by omega));have R1:=aA.mk (nJ h0 (iW sr) 1 (by omega));have R2:=aA.mk (nJ h0 (eY (iW sr) (iW _)) 1 (by omega));have R3:=aA.mk (nJ h0 (eY (eY (iW sr) (iW _)) (lG _ fr (-1) sr.1)) (5000000 * cnt (bL ks k) - 100) (by omega));have R4:=aA.mk (nJ h0 (eY (eY (eY (iW sr) (iW _)) (lG _ fr (-1) sr.1)) hg1) 1 (by omega));have G5:=eY (eY (eY (eY (iW sr) (iW _)) (lG _ fr (-1) sr.1)) hg1) (lG _ (sr.1+1) (-1) tt);obtain ⟨L,hL⟩ : ∃ L,L=rT (ks.drop (k+1)):=⟨_,rfl⟩;have R5:aA (Room (nL (zA nm rn (bL ks k) sr.1 (sr.1+1) (nL (BN (BN sr)) fr (-1) sr.1)) (sr.1+1) (-1) tt) (5000000 * rT (ks.drop (k+1)))):=⟨by rw [←hL] at h0 ⊢;exact nJ h0 G5 (5000000 * L) (by omega)⟩;clear hx0 hx1 hx2 hl2 hg2 hmem hk h0 ho hg1 hg3 MO HRMr G5 hL;go_wp2_with (fail)
      go_at_call 68;refine (vS zK.out HM.out HB0.out R0.out).mono ?_;rintro e w1 ⟨rfl,hk1,hb1,ht1⟩;have iC:=aA.mk hk1;have HB1:=aA.mk hb1;have HT1:=aA.mk (fB HT0.out ht1);have yH:=aA.mk (ht1.2 _ _ _ _ (by decide) (by decide) O3.out);clear hbx;clear hk1 hb1 ht1 HT0 O3 zK HB0;go_wp2_with (fail)
      go_at_call 68;refine (vS iC.out HM.out HB1.out R1.out).mono ?_;rintro e w2 ⟨rfl,hk1,hb1,ht1⟩;have oQ:=aA.mk hk1;have HB2:=aA.mk hb1;have HT2:=aA.mk (fB HT1.out ht1);have qJ:=aA.mk (ht1.2 _ _ _ _ (by decide) (by decide) yH.out);clear hk1 hb1 ht1 HT1 yH iC HB1;go_wp2_with (fail)
      go_at_call 88;refine (wN _ _ _ oQ.out HM.out HB2.out R2.out).mono ?_;rintro e w3 ⟨rfl,hk1,hb1,ht1⟩;have RI:=aA.mk hk1;have HB3:=aA.mk hb1;have HT3:=aA.mk (fB HT2.out ht1);have l5:=aA.mk (ht1.2 _ _ _ _ (by decide) (by decide) qJ.out);clear hk1 hb1 ht1 HT2 qJ oQ HB2;have hb2:=(aD l5.out 2);have hy0:=bJ (HB3.out.mono HW.out) HX0.out;have hy1:=bJ (HB3.out.mono HW.out) HX1.out;have hy2:=bJ (HB3.out.mono HW.out) HX2.out;go_wp2_with (fail)
      go_at_call 69;refine (HIK.out base M w0 _ An cn A2 c2 _ _ _ HM.out HW.out HN.out HCN.out HG.out HL.out RI.out HB3.out R3.out).mono ?_;rintro e w4 ⟨rfl,hk1,hb1,ht1⟩;have XE:=aA.mk hk1;have wV:=aA.mk hb1;have HT4:=aA.mk (fB HT3.out ht1);have GV:=aA.mk (ht1.2 _ _ _ _ (by decide) (by decide) l5.out);clear hb2 hy0 hy1 hy2;clear hk1 hb1 ht1 HT3 l5 RI HB3;go_wp2_with (fail)
      go_at_call 88;refine (wN _ _ _ XE.out HM.out wV.out R4.out).mono ?_;rintro e w5 ⟨rfl,hk1,hb1,ht1⟩;have HK5:=aA.mk hk1;have DC:=aA.mk hb1;have HT5:=aA.mk (fB HT4.out ht1);have BX5:=aA.mk (ht1.2 _ _ _ _ (by decide) (by decide) GV.out);clear hk1 hb1 ht1 HT4 GV XE wV;go_wp2;go_roundw
      case rel=>exact ⟨k+1,_,by omega,by go_num,PX,HK5,DC,HT5,R5,BX5⟩
      case measure=>simp [intOf];omega
    · have ho:=MO.out
      rw [List.drop_eq_nil_of_le (by omega),uA] at ho;subst ho;have hbx:=(aD O3.out 2).trans rfl;clear MO;go_wp2;go_end0
      exact ⟨rfl,zK.out,HB0.out,HT0.out⟩
set_option maxHeartbeats 6400000 in
theorem rmake_seq (name:ByteArray) (ks:List gB) (ih : ∀ k,k∈ks→pY nm rn names k) (hg : ∀ k,k∈ks→JG nm rn k):pY nm rn names ⟨5,name,ks⟩:=by
  intro base M w0 W An cn A c s fr tt hM hw hn hcn hr hc hK hb h0;have hr':Kd.C k25 w0 A ks.length ks:=hr;have hm:ks.length≤9223372036854775807:=hr'.2.1;have HC:=aA.mk hc;have HR:=aA.mk hr';have YC:=aA.mk ih;have HGR:=aA.mk hg;have HN:=aA.mk hn;have HCN:=aA.mk hcn;have HKs:=aA.mk (qA hK (.cells #[.int .i64 5,.string name,.slice A ks.length c] 25));have HBs:=aA.mk (rU hM hK hb (.cells #[.int .i64 5,.string name,.slice A ks.length c] 25));have HTs:=aA.mk (nX W (.cells #[.int .i64 5,.string name,.slice A ks.length c] 25));have HM:=aA.mk hM;have HW:=aA.mk hw;have BXs:aA ((W.alloc (.cells #[.int .i64 5,.string name,.slice A ks.length c] 25)).heap[W.heap.size]?=some (.cells #[.int .i64 5,.string name,.slice A ks.length c] 25 (0,0))):=⟨dX _ _⟩;rw [wQ] at h0;have HRM:=aA.mk (room_le (m:=5000000 * rT ks) h0 (by omega));show Calls Try.prog 69 #[.pointer (some ⟨M,0,none⟩),.agg #[.int .i64 5,.string name,.slice A ks.length c],.int .i64 fr,.int .i64 tt] W (MW base M An names.length cn w0 W (zA nm rn ⟨5,name,ks⟩ fr tt s) (.tuple #[]));rw [j6,if_neg (by omega),if_neg (by omega),if_neg (by omega),if_pos rfl];obtain ⟨so,hso⟩ : ∃ so,uZ nm rn ks fr tt s=so:=⟨_,rfl⟩;rw [hso];have HO:=aA.mk hso;clear hr hc hK hb hw hn h0 hM hr' ih hg hcn hso;go_enter Try.func69,Try.ntmps69;go_wp2;go_loopw [9,10] (fun f i wr=>∃ (k:Nat) (at_:Int) (sr:RS),k≤ks.length∧i = .int .i64 k∧f = .int .i64 at_∧aA (uZ nm rn (ks.drop k) at_ tt sr=so)∧aA (lU (fun _=>True) base M An names.length cn wr sr)∧aA (Below base w0 wr)∧aA (yT W wr)∧aA (Room sr (5000000 * rT (ks.drop k)))∧aA (wr.heap[W.heap.size]?=some (.cells #[.int .i64 5,.string name,.slice A ks.length c] 25 (0,0)))) (fun _ i _=>ks.length - (intOf i).toNat)
  case atStart=>exact ⟨0,fr,s,Nat.zero_le _,rfl,rfl,HO,HKs,HBs,HTs,HRM,BXs⟩
  case round =>
    obtain ⟨k,at_,sr,hk0,rfl,rfl,MO,zK,HB0,HT0,HRMr,O3⟩:=hrel;clear HKs HBs HTs HRM BXs HO;by_cases hlt:k<ks.length
    · have hbx:=(aD O3.out 2).trans rfl
      obtain ⟨ad,A2,c2,rfl,hx0,hx1,hx2,hl2,hg2⟩:=mE HR.out (k:Int) (by omega) (by omega);rw [Int.toNat_natCast] at hx0 hx1 hx2;have HG:=aA.mk hg2;have HL:=aA.mk hl2;have hmem:bL ks k∈ks:=(by unfold bL;simp [List.getElem?_eq_getElem hlt]);have HIK:=aA.mk (YC.out _ hmem);have HX0:=aA.mk hx0;have HX1:=aA.mk hx1;have HX2:=aA.mk hx2;have hk:=vZ (bL ks k);have h0:=HRMr.out;rw [FX ks k hlt,kI] at h0;have ho:=MO.out;rw [FX ks k hlt,uZ] at ho;by_cases hl:k+1<ks.length
      · have hne:(ks.drop (k+1)).isEmpty=false:=by rw [List.isEmpty_eq_false_iff];intro e;have:=List.drop_eq_nil_iff.mp e;omega
        have hd0:decide ((k:Int)<(ks.length:Int) - 1)=true:=decide_eq_true (by omega);rw [hne] at ho;simp only [Bool.false_eq_true,if_false] at ho;have PX:=aA.mk ho;obtain ⟨n,hg1,hg3⟩:=HGR.out _ hmem at_ sr.1 (BN sr);have R0:=aA.mk (room_le (m:=1) h0 (by omega));have R1:=aA.mk (nJ h0 (iW sr) (5000000 * cnt (bL ks k) - 100) (by omega));have G2:=eY (iW sr) hg1;obtain ⟨L,hL⟩ : ∃ L,L=rT (ks.drop (k+1)):=⟨_,rfl⟩;have R2:aA (Room (zA nm rn (bL ks k) at_ sr.1 (BN sr)) (5000000 * rT (ks.drop (k+1)))):=⟨by rw [←hL] at h0 ⊢;exact nJ h0 G2 (5000000 * L) (by omega)⟩;clear hx0 hx1 hx2 hl2 hg2 hmem hk h0 ho hg1 hg3 MO HRMr hne G2 hL;go_wp2_with (fail)
        go_at_call 68;refine (vS zK.out HM.out HB0.out R0.out).mono ?_;rintro e w1 ⟨rfl,hk1,hb1,ht1⟩;have iC:=aA.mk hk1;have HB1:=aA.mk hb1;have HT1:=aA.mk (fB HT0.out ht1);have yH:=aA.mk (ht1.2 _ _ _ _ (by decide) (by decide) O3.out);clear hbx hd0;clear hk1 hb1 ht1 HT0 O3 zK HB0;have hb2:=(aD yH.out 2);have hy0:=bJ (HB1.out.mono HW.out) HX0.out;have hy1:=bJ (HB1.out.mono HW.out) HX1.out;have hy2:=bJ (HB1.out.mono HW.out) HX2.out;go_wp2_with (fail)
        go_at_call 69;refine (HIK.out base M w0 _ An cn A2 c2 _ _ _ HM.out HW.out HN.out HCN.out HG.out HL.out iC.out HB1.out R1.out).mono ?_;rintro e w2 ⟨rfl,hk1,hb1,ht1⟩;have oQ:=aA.mk hk1;have HB2:=aA.mk hb1;have HT2:=aA.mk (fB HT1.out ht1);have qJ:=aA.mk (ht1.2 _ _ _ _ (by decide) (by decide) yH.out);clear hb2 hy0 hy1 hy2;clear hk1 hb1 ht1 HT1 yH iC HB1;go_wp2;go_roundw
        case rel=>exact ⟨k+1,sr.1,_,by omega,by go_num,rfl,PX,oQ,HB2,HT2,R2,qJ⟩
        case measure=>simp [intOf];omega
      · have hne:ks.drop (k+1)=[]:=List.drop_eq_nil_of_le (by omega)
        have hd0:decide ((k:Int)<(ks.length:Int) - 1)=false:=decide_eq_false (by omega);rw [hne] at ho;simp only [List.isEmpty_nil,if_true] at ho;have PX:aA (uZ nm rn (ks.drop (k+1)) tt tt (zA nm rn (bL ks k) at_ tt sr)=so):=⟨by rw [hne,uZ];exact ho⟩;obtain ⟨n,hg1,hg3⟩:=HGR.out _ hmem at_ tt sr;have R0:=aA.mk (room_le (m:=5000000 * cnt (bL ks k) - 100) h0 (by omega));have R1:=aA.mk (nJ h0 hg1 (5000000 * rT (ks.drop (k+1))) (by omega));have hy0:=bJ (HB0.out.mono HW.out) hx0;have hy1:=bJ (HB0.out.mono HW.out) hx1;have hy2:=bJ (HB0.out.mono HW.out) hx2;clear hx0 hx1 hx2 hl2 hg2 hmem hk h0 ho hg1 hg3 MO HRMr hne;go_wp2_with (fail)
        go_at_call 69;refine (HIK.out base M w0 _ An cn A2 c2 _ _ _ HM.out HW.out HN.out HCN.out HG.out HL.out zK.out HB0.out R0.out).mono ?_;rintro e w1 ⟨rfl,hk1,hb1,ht1⟩;have iC:=aA.mk hk1;have HB1:=aA.mk hb1;have HT1:=aA.mk (fB HT0.out ht1);have yH:=aA.mk (ht1.2 _ _ _ _ (by decide) (by decide) O3.out);clear hbx hd0 hy0 hy1 hy2;clear hk1 hb1 ht1 HT0 O3 zK HB0;go_wp2;go_roundw
        case rel=>exact ⟨k+1,tt,_,by omega,by go_num,rfl,PX,iC,HB1,HT1,R1,yH⟩
        case measure=>simp [intOf];omega
    · have ho:=MO.out
      rw [List.drop_eq_nil_of_le (by omega),uZ] at ho;subst ho;have hbx:=(aD O3.out 2).trans rfl;clear MO;go_wp2;go_end0
      exact ⟨rfl,zK.out,HB0.out,HT0.out⟩
end Go.Proofs.Ytapinbmkjkbkkaa.Mk
namespace Go.Proofs.Ytapinbmkjkbkkaa.Mk
open Go.RowKit Go.Proofs.aC.bE Go.Proofs.aC.bV Go.Proofs.aC.bY Lb Pu
def ZY (ns:Nat) (W0:World) (a:RS) (e:Ending) (W:World):Prop :=
  if Over a=true then e = .returned (.tuple #[.agg #[.int .i64 0,.int .i64 0,.int .i64 0,.int .i64 0,.slice none 0 0],.bool true])∧Below W0.heap.size W0 W
  else ∃ v,e = .returned (.tuple #[.agg #[.int .i64 a.1,.int .i64 (ns:Int),.int .i64 0,.int .i64 1,v],.bool false])∧xP.R 78 W W0.heap.size (fun _=>True) v a.2.1∧Below W0.heap.size W0 W
variable {nm : List (List UInt8)} {rn : RS → Int → Int → RS → RS} {names : List ByteArray}
theorem xQ {W:World} {base g:Nat} {v:Value} {l:List gV} (j:Nat) (u:Value) (h:xP.R 78 W base (fun _=>True) v l∧∃ cs,W.heap[g]?=some (.cells cs 31 (0,0))) :
    xP.R 78 (W.setCell ⟨g,j,none⟩ u) base (fun _=>True) v l∧∃ cs,(W.setCell ⟨g,j,none⟩ u).heap[g]?=some (.cells cs 31 (0,0)):=by
  obtain ⟨hR,cs,hB⟩:=h;exact ⟨Kd.dH (Kd.eX (Kd.dN hR hB (by decide)) (fun k hk=>hk.2) _) (fun _ _=>trivial),_,lN hB j u⟩
theorem BJ {base g:Nat} {w0 w:World} (h:Below base w0 w) (hg:base≤g) (x0 x1 x2 x3 x4:Value):Below base w0 (((((w.setCell ⟨g,0,none⟩ x0).setCell ⟨g,1,none⟩ x1).setCell ⟨g,2,none⟩ x2).setCell ⟨g,3,none⟩ x3).setCell ⟨g,4,none⟩ x4) :=
  ((((h.setCell hg _).setCell hg _).setCell hg _).setCell hg _).setCell hg _
set_option maxRecDepth 100000 in
set_option maxHeartbeats 6400000 in
theorem NF (k:gB) (ih:pY nm rn names k) (hcnt:cnt k≤100000) (w:World) (An:Option Addr) (cn:Nat) (A:Option Addr) (c:Nat) (hn:Kd.C Kd.string w An names.length names) (hcn:names.length≤cn) (hr:Kd.C k25 w A k.f2.length k.f2) (hc:k.f2.length≤c) :
    Calls Try.prog 38 #[.agg #[.int .i64 k.f0,.string k.f1,.slice A k.f2.length c],.slice An names.length cn] w (ZY names.length w (zA nm rn k 0 1 (2,[],false))):=by
  have hnl:names.length≤9223372036854775807:=hn.2.1;have HN:=aA.mk hn;have HCN:=aA.mk hcn;have HR:=aA.mk hr;have HC:=aA.mk hc;have YC:=aA.mk ih;have HCT:=aA.mk hcnt;obtain ⟨a,ha⟩ : ∃ a,zA nm rn k 0 1 (2,[],false)=a:=⟨_,rfl⟩;rw [ha];have HA:=aA.mk ha;obtain ⟨w2,hw2⟩ : ∃ w2,w2=(((w.alloc (.cells #[.int .i64 k.f0,.string k.f1,.slice A k.f2.length c] 25)).alloc (.cells #[.int .i64 0,.int .i64 0,.int .i64 0,.int .i64 0,.slice none 0 0] 31)).alloc (.cells #[.int .i64 0,.slice none 0 0,.slice An names.length cn,.bool false] 113)):=⟨_,rfl⟩;have hB2:Below w.heap.size w w2:=(by rw [hw2];exact aN (aN (aN (Below.refl _ _) _) _) _);have HB2:=aA.mk hB2;have BX:aA (w2.heap[w.heap.size]?=some (.cells #[.int .i64 k.f0,.string k.f1,.slice A k.f2.length c] 25 (0,0))):=⟨by rw [hw2];exact bH (bH (dX _ _) _) _⟩;have BZ:aA (w2.heap[w.heap.size+1]?=some (.cells #[.int .i64 0,.int .i64 0,.int .i64 0,.int .i64 0,.slice none 0 0] 31 (0,0))):=⟨by
    rw [hw2];have e:=dX (w.alloc (.cells #[.int .i64 k.f0,.string k.f1,.slice A k.f2.length c] 25)) (.cells #[.int .i64 0,.int .i64 0,.int .i64 0,.int .i64 0,.slice none 0 0] 31);exact bH (by simpa using e) _⟩
  have HM0:aA (lU (fun _=>True) w.heap.size (w.heap.size+1+1) An names.length cn w2 (0,[],false)):=⟨⟨.slice none 0 0,by
    rw [hw2];have e:=dX ((w.alloc (.cells #[.int .i64 k.f0,.string k.f1,.slice A k.f2.length c] 25)).alloc (.cells #[.int .i64 0,.int .i64 0,.int .i64 0,.int .i64 0,.slice none 0 0] 31)) (.cells #[.int .i64 0,.slice none 0 0,.slice An names.length cn,.bool false] 113);simpa using e,Kd.kJ _ _ _ _ _⟩⟩
  clear ih hn hcn hr hc hcnt ha hB2;go_enter Try.func38,Try.ntmps38;go_wp2_with (fail)
  rw [←hw2];clear hw2;go_at_call 68;refine (vS HM0.out (by omega) HB2.out ⟨Int.le_refl _,by decide,by decide⟩).mono ?_;rintro e w3 ⟨rfl,hk1,hb1,ht1⟩;have BC:=aA.mk hk1;have HB3:=aA.mk hb1;have HT3:=aA.mk ht1;clear hk1 hb1 ht1;go_wp2_with (fail)
  go_at_call 68;refine (vS BC.out (by omega) HB3.out ⟨by decide,by decide,by decide⟩).mono ?_;rintro e w4 ⟨rfl,hk1,hb1,ht1⟩;have IQ:=aA.mk hk1;have wV:=aA.mk hb1;have HT4:=aA.mk (fB HT3.out ht1);have GV:=aA.mk (HT4.out.2 _ _ _ _ (by decide) (by decide) BX.out);have BZ4:=aA.mk (HT4.out.2 _ _ _ _ (by decide) (by decide) BZ.out);have hx0:=(aD GV.out 0).trans rfl;have hx1:=(aD GV.out 1).trans rfl;have hx2:=(aD GV.out 2).trans rfl;clear hk1 hb1 ht1 BC HB3 HT3 BX BZ;go_wp2_with (fail)
  go_at_call 69;refine (YC.out w.heap.size (w.heap.size+1+1) w w4 An cn A c (2,[],false) 0 1 (by omega) (Nat.le_refl _) HN.out HCN.out HR.out HC.out IQ.out wV.out ⟨by decide,by have:=HCT.out;show (2:Int)+_≤_;omega,by have:=HCT.out;show (0:Nat)+_≤_;omega⟩).mono ?_;rintro e w5 ⟨rfl,hk1,hb1,ht1⟩;rw [HA.out] at hk1;have HM5:=aA.mk hk1;have DC:=aA.mk hb1;have X7:=aA.mk (ht1.2 _ _ _ _ (by decide) (by decide) BZ4.out);obtain ⟨v,hv,hR⟩:=hk1;have HV:=aA.mk hv;have HRV:=aA.mk hR;obtain ⟨Av,cv,rfl⟩:=Kd.dY hR;have hal:a.2.1.length≤9223372036854775807:=(Kd.cO hR).2.2.2.1;have hm0:w5.cell? ⟨w.heap.size+1+1,0,none⟩=some (.int .i64 a.1):=(aD HV.out 0).trans rfl;have hm1:w5.cell? ⟨w.heap.size+1+1,1,none⟩=some (.slice Av a.2.1.length cv):=(aD HV.out 1).trans rfl;have hm3:w5.cell? ⟨w.heap.size+1+1,3,none⟩=some (.bool a.2.2):=(aD HV.out 3).trans rfl;have hd0:w5.cell? ⟨w.heap.size+1,0,none⟩=some (.int .i64 0):=(aD X7.out 0).trans rfl;have hd1:w5.cell? ⟨w.heap.size+1,1,none⟩=some (.int .i64 0):=(aD X7.out 1).trans rfl;have hd2:w5.cell? ⟨w.heap.size+1,2,none⟩=some (.int .i64 0):=(aD X7.out 2).trans rfl;have hd3:w5.cell? ⟨w.heap.size+1,3,none⟩=some (.int .i64 0):=(aD X7.out 3).trans rfl;have hd4:w5.cell? ⟨w.heap.size+1,4,none⟩=some (.slice none 0 0):=(aD X7.out 4).trans rfl;have hf0:=bF X7.out 0;have hf1:=bF X7.out 1;have hf2:=bF X7.out 2;have hf3:=bF X7.out 3;have hf4:=bF X7.out 4;clear hx0 hx1 hx2 hb1 ht1 hv hR IQ wV HT4 GV BZ4 HM0 HB2;have hbad : ∀ w',w'=((((w5.setCell ⟨w.heap.size+1,0,none⟩ (.int .i64 0)).setCell ⟨w.heap.size+1,1,none⟩ (.int .i64 0)).setCell ⟨w.heap.size+1,2,none⟩ (.int .i64 0)).setCell ⟨w.heap.size+1,3,none⟩ (.int .i64 0)).setCell ⟨w.heap.size+1,4,none⟩ (.slice none 0 0)→Over a=true→ZY names.length w a (.returned (.tuple #[.agg #[.int .i64 0,.int .i64 0,.int .i64 0,.int .i64 0,.slice none 0 0],.bool true])) w':=by
    rintro w' rfl ho;unfold ZY;rw [if_pos ho];exact ⟨rfl,((((DC.out.setCell (by simp) _).setCell (by simp) _).setCell (by simp) _).setCell (by simp) _).setCell (by simp) _⟩
  have HBAD:=aA.mk hbad;clear hbad;cases jM:a.2.2 with
  |true =>
    have hov:=aA.mk (show Over a=true by unfold Over;rw [jM];rfl);rw [jM] at hm3;clear jM;go_wp2;exact bodyPost_ret (v:=.tuple #[.agg #[.int .i64 0,.int .i64 0,.int .i64 0,.int .i64 0,.slice none 0 0],.bool true]) (by simp [results,Try.results38,go_sem,hd0,hd1,hd2,hd3,hd4]) rfl (HBAD.out _ rfl hov.out)
  |false =>
    rw [jM] at hm3;by_cases hN:4096<a.1
    · have hov:=aA.mk (show Over a=true by unfold Over;rw [jM,decide_eq_true hN];rfl)
      have hd:decide (4096<a.1)=true:=decide_eq_true hN;clear jM;go_wp2;exact bodyPost_ret (v:=.tuple #[.agg #[.int .i64 0,.int .i64 0,.int .i64 0,.int .i64 0,.slice none 0 0],.bool true]) (by simp [results,Try.results38,go_sem,hd0,hd1,hd2,hd3,hd4]) rfl (HBAD.out _ rfl hov.out)
    · by_cases hL:65536<a.2.1.length
      · have hov:=aA.mk (show Over a=true by unfold Over;rw [decide_eq_true hL,Bool.or_true])
        have hd:decide (4096<a.1)=false:=decide_eq_false hN;have hd':decide ((65536:Int)<(a.2.1.length:Int))=true:=decide_eq_true (by omega);have hd'':decide (65536<a.2.1.length)=true:=decide_eq_true hL;clear jM;go_wp2;exact bodyPost_ret (v:=.tuple #[.agg #[.int .i64 0,.int .i64 0,.int .i64 0,.int .i64 0,.slice none 0 0],.bool true]) (by simp [results,Try.results38,go_sem,hd0,hd1,hd2,hd3,hd4]) rfl (HBAD.out _ rfl hov.out)
      · have hov:=aA.mk (show Over a=false by unfold Over;rw [jM,decide_eq_false hN,decide_eq_false hL];rfl)
        have hd:decide (4096<a.1)=false:=decide_eq_false hN;have hd':decide ((65536:Int)<(a.2.1.length:Int))=false:=decide_eq_false (by omega);have hd'':decide (65536<a.2.1.length)=false:=decide_eq_false hL;clear jM HBAD;go_wp2_with (fail)
        go_region
        all_goals (go_wp2)
        all_goals
          refine bodyPost_ret (v:=.tuple #[.agg #[.int .i64 a.1,.int .i64 (names.length:Int),.int .i64 0,.int .i64 1,.slice Av a.2.1.length cv],.bool false]) (by simp [results,Try.results38,go_sem,hd0,hd1,hd2,hd3,hd4,BN]) rfl ?_;unfold ZY;rw [if_neg (by rw [hov.out];simp)];refine ⟨_,rfl,?_,?_⟩
          · exact (xQ _ _ (xQ _ _ (xQ _ _ (xQ _ _ (xQ _ _ ⟨HRV.out,_,X7.out⟩))))).1
          · first|exact bX (BJ DC.out (Nat.le_succ _) _ _ _ _ _)|exact BJ DC.out (Nat.le_succ _) _ _ _ _ _
end Go.Proofs.Ytapinbmkjkbkkaa.Mk
namespace Go.Proofs.Ytapinbmkjkbkkaa.Mk
open Go.RowKit Go.Proofs.aC.bE Go.Proofs.aC.bV Go.Proofs.aC.bY Lb Pu
theorem aAZ {w w1 w2:World} (h:Below w.heap.size w w1) (hb:Below w1.heap.size w1 w2):Below w.heap.size w w2:=bU h h.size hb
structure MI (base M:Nat) (An:Option Addr) (ln cn:Nat) (w0 W0 wr:World) (lo hi D:Nat) (ns:Int) (v v':Value) (next:List (List Int)) (acc:List Bool) (s:RS):Prop where
  mm:lU (fun k=>k<lo∨hi≤k) base M An ln cn wr s
  bl:Below base w0 wr
  kt:yT W0 wr
  sz:hi≤wr.heap.size
  bd:wr.heap[D]?=some (.cells #[.int .i64 ns,v,v'] 46 (0,0))
  nx:Kd.N (Kd.slice 3 (Kd.int .i64)) 27 wr 0 (fun k=>lo≤k∧k<hi) v next
  ac:Kd.R Kd.bool 4 wr 0 (fun k=>lo≤k∧k<hi) v' acc
theorem mi_arc {base M:Nat} {An:Option Addr} {ln cn:Nat} {w0 W0 wr:World} {lo hi D:Nat} {ns:Int} {v v':Value} {next:List (List Int)} {acc:List Bool} {s:RS} (hMlo:M<lo) (hM:base≤M) (h:MI base M An ln cn w0 W0 wr lo hi D ns v v' next acc s) (hr:s.2.1.length≤1000000000000) (fr y tt:Int) :
    Calls Try.prog 88 #[.pointer (some ⟨M,0,none⟩),.int .i64 fr,.int .i64 y,.int .i64 tt] wr fun e W'=>e = .returned (.tuple #[])∧MI base M An ln cn w0 W0 W' lo hi D ns v v' next acc (nL s fr y tt):=by
  refine (rarc_ok fr y tt h.mm (fun k hk=>.inr (Nat.le_trans h.sz hk)) hM h.bl hr).mono ?_;rintro e W' ⟨he,h1,h2,h3,h4⟩;have hst : ∀ k,(lo≤k∧k<hi)→k<wr.heap.size→W'.heap[k]?=wr.heap[k]?:=fun k hk hlt=>h4 k hlt (by omega) (by omega);exact ⟨he,h1,h2,fB h.kt h3,Nat.le_trans h.sz h3.1,h3.2 _ _ _ _ (by decide) (by decide) h.bd,Kd.PY h.nx hst,Kd.vT h.ac hst⟩
theorem aAa {base M:Nat} {An:Option Addr} {ln cn:Nat} {w0 W0 wr w2:World} {lo hi D:Nat} {ns:Int} {v v':Value} {next:List (List Int)} {acc:List Bool} {s s':RS} (h:MI base M An ln cn w0 W0 wr lo hi D ns v v' next acc s) (hm:lU (fun k=>k<lo∨hi≤k) base M An ln cn w2 s') (hb:Below base w0 w2) (hk:yT wr w2)
    (hst : ∀ k,lo≤k→k<hi→w2.heap[k]?=wr.heap[k]?):MI base M An ln cn w0 W0 w2 lo hi D ns v v' next acc s' :=
  ⟨hm,hb,fB h.kt hk,Nat.le_trans h.sz hk.1,hk.2 _ _ _ _ (by decide) (by decide) h.bd,Kd.PY h.nx (fun k hk _=>hst k hk.1 hk.2),Kd.vT h.ac (fun k hk _=>hst k hk.1 hk.2)⟩
theorem mi_set {base M:Nat} {An:Option Addr} {ln cn:Nat} {w0 W0 wr:World} {lo hi D:Nat} {ns:Int} {v v':Value} {next:List (List Int)} {acc:List Bool} {s:RS} (hMlo:M<lo) (hM:base≤M) (h:MI base M An ln cn w0 W0 wr lo hi D ns v v' next acc s) (s':RS) (j:Nat) (u:Value) (hs:s'.2.1=s.2.1) (he : ∀ v,(#[.int .i64 s.1,v,.slice An ln cn,.bool s.2.2]:Array Value).setIfInBounds j u = #[.int .i64 s'.1,v,.slice An ln cn,.bool s'.2.2]) :
    MI base M An ln cn w0 W0 (wr.setCell ⟨M,j,none⟩ u) lo hi D ns v v' next acc s':=by
  obtain ⟨vm,hvm,_⟩:=h.mm.out;exact aAa h (FW h.mm s' j u hs he) (h.bl.setCell hM _) (zS hvm _) (fun k h1 _=>Below.heap_setCell wr ⟨M,j,none⟩ u k (by show k≠M;omega))
theorem mi_below {base M:Nat} {An:Option Addr} {ln cn:Nat} {w0 W0 wr w2:World} {lo hi D:Nat} {ns:Int} {v v':Value} {next:List (List Int)} {acc:List Bool} {s:RS} (hM:base≤M) (h:MI base M An ln cn w0 W0 wr lo hi D ns v v' next acc s) (hb:Below wr.heap.size wr w2):MI base M An ln cn w0 W0 w2 lo hi D ns v v' next acc s :=
  aAa h (qZ h.mm hb) (bU h.bl (Nat.le_trans hM (Nat.le_of_lt (FV h.mm))) hb) (oJ hb) (fun k _ h2=>hb.block k (Nat.lt_of_lt_of_le h2 h.sz))
structure RT (s s':RS) (n:Nat) (L rest:List gV):Prop where
  h1:s'.1=s.1+(n:Int)
  h2:s'.2.2=s.2.2
  h3:s'.2.1 ++ rest=L
theorem rt_arc {s s':RS} {n:Nat} {L rest:List gV} {x:gV} (h:RT s s' n L (x :: rest)):RT s (nL s' x.f0 x.f1 x.f2) n L rest:=⟨h.h1,h.h2,by show (s'.2.1 ++ [⟨x.f0,x.f1,x.f2⟩]) ++ rest=L;rw [List.append_assoc];exact h.h3⟩
theorem YD {s s':RS} {n:Nat} {L rest:List gV} (h:RT s s' n L rest) (hl:L.length≤1000000000000):s'.2.1.length≤1000000000000:=by
  have:=congrArg List.length h.h3;rw [List.length_append] at this;omega
theorem rt_end {s s':RS} {n:Nat} {L:List gV} (h:RT s s' n L []):((s.1+(n:Int),L,Over (s.1+(n:Int),L,s.2.2)):RS)=(s'.1,s'.2.1,Over s'):=by
  obtain ⟨h1,h2,h3⟩:=h;rw [List.append_nil] at h3;rw [←h1,← h2,← h3]
theorem lU.all {P:Nat→Prop} {base M:Nat} {An:Option Addr} {ln cn:Nat} {W:World} {s:RS} (h:lU P base M An ln cn W s):lU (fun _=>True) base M An ln cn W s:=by
  obtain ⟨v,h1,h2⟩:=h.out;exact ⟨v,h1,Kd.dH h2 (fun _ _=>trivial)⟩
theorem aAb (first:Int) (next:List (List Int)) (i:Nat) (row:List Int) (h:next[i]?=some row):pO first i (next.drop i)=yI first (first+(i:Int)) 0 row ++ pO first (i+1) (next.drop (i+1)):=by
  obtain ⟨hl,rfl⟩:=List.getElem?_eq_some_iff.mp h;rw [List.drop_eq_getElem_cons hl,pO]
theorem symA_step' (first fr:Int) (row:List Int) (j:Nat) (x:Int) (h:row[j]?=some x):yI first fr j (row.drop j)=⟨fr,(j:Int),first+x⟩ :: yI first fr (j+1) (row.drop (j+1)):=by
  obtain ⟨hl,rfl⟩:=List.getElem?_eq_some_iff.mp h;rw [List.drop_eq_getElem_cons hl,yI]
theorem accA_step' (first tt:Int) (acc:List Bool) (i:Nat) (b:Bool) (h:acc[i]?=some b):sU first tt i (acc.drop i)=(if b=true then [] else [⟨first+(i:Int),-1,tt⟩]) ++ sU first tt (i+1) (acc.drop (i+1)):=by
  obtain ⟨hl,rfl⟩:=List.getElem?_eq_some_iff.mp h;rw [List.drop_eq_getElem_cons hl,sU]
def dAns (ns:Nat) (o:Option (List (List Int) × List Bool)):Int × List (List Int) × List Bool × Int:=match o with
  |none=>(0,[],[],3)
  |some p=>((ns:Int),p.1,p.2,0)
theorem notOk_rx {ns:Nat} {a:St} {o:Option (List (List Int) × List Bool)} (h:Q9 ns a o) : ∃ k,aH.f k a.1 ns 0 1 a.2=some (dAns ns o):=by
  obtain ⟨_,_,⟨k,hk⟩,_⟩:=h;exact ⟨k,hk.trans (by cases o <;> rfl)⟩
variable {nm : List (List UInt8)} {names : List ByteArray} {d : St → Option (List (List Int) × List Bool)}
set_option maxRecDepth 100000 in
set_option maxHeartbeats 12800000 in
theorem rnot_calls (k:gB) (ih:pY nm (wW d) names k) (hcnt:cnt k≤100000) (a:RS) (ha:zA nm (wW d) k 0 1 (2,[],false)=a) (hok:Over a=false→Q9 names.length (a.1,a.2.1) (d (a.1,a.2.1)))
    (base M:Nat) (w0 W:World) (An:Option Addr) (cn:Nat) (A:Option Addr) (c:Nat) (s:RS) (fr tt:Int) (hM:base≤M) (hw:w0.heap.size≤base) (hn:Kd.C Kd.string w0 An names.length names) (hcn:names.length≤cn)
    (hr:Kd.C k25 w0 A k.f2.length k.f2) (hc:k.f2.length≤c) (hK:lU (fun _=>True) base M An names.length cn W s) (hb:Below base w0 W) (h0:Room s 4500000) :
    Calls Try.prog 89 #[.pointer (some ⟨M,0,none⟩),.agg #[.int .i64 k.f0,.string k.f1,.slice A k.f2.length c],.int .i64 fr,.int .i64 tt] W (MW base M An names.length cn w0 W (wW d a fr tt s) (.tuple #[])):=by
  obtain ⟨W1,hW1⟩ : ∃ W1,W1=W.alloc (.cells #[.int .i64 k.f0,.string k.f1,.slice A k.f2.length c] 25):=⟨_,rfl⟩;have HN:=aA.mk (Kd.dJ hn (hb.mono hw));have HG:=aA.mk (Kd.dJ hr (hb.mono hw));have HCN:=aA.mk hcn;have HC:=aA.mk hc;have HM:=aA.mk hM;have H0:=aA.mk h0;have vG:aA (Below W.heap.size W W1):=⟨by rw [hW1];exact aN (Below.refl _ _) _⟩;have iC:aA (lU (fun _=>True) base M An names.length cn W1 s):=⟨qZ hK vG.out⟩;have HB1:aA (Below base w0 W1):=⟨by rw [hW1];exact rU hM hK hb _⟩;have HS1:aA (base≤W1.heap.size):=⟨Nat.le_trans hM (Nat.le_of_lt (FV iC.out))⟩;have HMC:=aA.mk (fun (w:World) hn hr=>NF k ih hcnt w An cn A c hn hcn hr hc);have HOK:=aA.mk hok;have HML:aA (M<W1.heap.size):=⟨FV iC.out⟩;have BX:aA (W1.heap[W.heap.size]?=some (.cells #[.int .i64 k.f0,.string k.f1,.slice A k.f2.length c] 25 (0,0))):=⟨by rw [hW1];exact dX _ _⟩;obtain ⟨vm,hvm,_⟩:=iC.out.out;have hx1:W1.cell? ⟨M,2,none⟩=some (.slice An names.length cn):=(aD hvm 2).trans rfl;have hy0:W1.cell? ⟨W.heap.size,0,none⟩=some (.int .i64 k.f0):=(aD BX.out 0).trans rfl;have hy1:W1.cell? ⟨W.heap.size,1,none⟩=some (.string k.f1):=(aD BX.out 1).trans rfl;have hy2:W1.cell? ⟨W.heap.size,2,none⟩=some (.slice A k.f2.length c):=(aD BX.out 2).trans rfl;have hx1a : ∀ o:Obj,(W1.alloc o).cell? ⟨M,2,none⟩=some (.slice An names.length cn):=fun o=>(aD (bH hvm o) 2).trans rfl;have hy0a : ∀ o:Obj,(W1.alloc o).cell? ⟨W.heap.size,0,none⟩=some (.int .i64 k.f0):=fun o=>(aD (bH BX.out o) 0).trans rfl;have hy1a : ∀ o:Obj,(W1.alloc o).cell? ⟨W.heap.size,1,none⟩=some (.string k.f1):=fun o=>(aD (bH BX.out o) 1).trans rfl;have hy2a : ∀ o:Obj,(W1.alloc o).cell? ⟨W.heap.size,2,none⟩=some (.slice A k.f2.length c):=fun o=>(aD (bH BX.out o) 2).trans rfl;obtain ⟨so,hso⟩ : ∃ so,wW d a fr tt s=so:=⟨_,rfl⟩;rw [hso];have HSO:=aA.mk hso;clear hn hcn hr hc hM hw hb h0 hK hok hvm ih hcnt hso;go_enter Try.func89,Try.ntmps89;go_upto_region 1 with (fail)
  rw [←hW1];clear hW1;cases hov:Over a with
  |true =>
    have HOV:=aA.mk hov;clear hov;go_cut [8,9] (fun v8 v9 wc=>v9 = .bool true∧aA (Below W1.heap.size W1 wc))
    case first =>
      go_region_law (go_simp;go_at_call 38;refine (HMC.out _ (Kd.dJ HN.out (by repeat (first|exact vG.out|apply aN|apply bB|apply bX))) (Kd.dJ HG.out (by repeat (first|exact vG.out|apply aN|apply bB|apply bX)))).mono ?_;rintro e w5 hf;rw [ha] at hf;unfold ZY at hf;rw [if_pos HOV.out] at hf;obtain ⟨rfl,hb5⟩:=hf;have DC:=aA.mk (aAZ (show Below W1.heap.size W1 _ by repeat (first|exact Below.refl _ _|apply aN|apply bB|apply bX)) hb5);(first|(have hz:w5.heap[W1.heap.size]?=some (.cells #[.int .i64 0,.int .i64 0,.int .i64 0,.int .i64 0,.slice none 0 0] 31 (0,0)):=bK (dX W1.drew (.cells #[.int .i64 0,.int .i64 0,.int .i64 0,.int .i64 0,.slice none 0 0] 31)) hb5;have hz0:=(aD hz 0).trans rfl;have hz1:=(aD hz 1).trans rfl;have hz2:=(aD hz 2).trans rfl;have hz3:=(aD hz 3).trans rfl;have hz4:=(aD hz 4).trans rfl;have hg0:=bF hz 0;have hg1:=bF hz 1;have hg2:=bF hz 2;have hg3:=bF hz 3;have hg4:=bF hz 4;have HZ:=aA.mk hz;clear hz)|skip);clear hb5)
      all_goals (go_wp2_with (fail);go_meet)
      all_goals first
        |exact ⟨rfl,⟨BJ DC.out (Nat.le_refl _) _ _ _ _ _⟩⟩
        |exact ⟨rfl,⟨aN DC.out _⟩⟩
    case rest =>
      obtain ⟨rfl,HBc⟩:=hcut;have HKc:=aA.mk (qZ iC.out HBc.out);obtain ⟨vc,hvc,_⟩:=HKc.out.out;have hm3:wc.cell? ⟨M,3,none⟩=some (.bool s.2.2):=(aD hvc 3).trans rfl;have hf3:=bF hvc 3;have HV:=aA.mk hvc;have hso:=HSO.out;rw [A_ HOV.out] at hso;subst hso;clear hx1 hy0 hy1 hy2 hx1a hy0a hy1a hy2a hvc HSO;go_wp2;go_end0
      exact ⟨rfl,FW HKc.out (s.1,s.2.1,true) 3 _ rfl (fun _=>rfl),(bU HB1.out HS1.out HBc.out).setCell HM.out _,fB (oJ vG.out) (fB (oJ HBc.out) (zS HV.out _))⟩
  |false =>
    have HOV:=aA.mk hov;clear hov;go_cut [8,9] (fun v8 v9 wc=>∃ (Z:Nat) (Av:Option Addr) (cv:Nat),v8 = .pointer (some ⟨Z,0,none⟩)∧v9 = .bool false∧aA (Below W1.heap.size W1 wc)∧aA (wc.heap[Z]?=some (.cells #[.int .i64 a.1,.int .i64 (names.length:Int),.int .i64 0,.int .i64 1,.slice Av a.2.1.length cv] 31 (0,0)))∧aA (xP.R 78 wc W1.heap.size (fun _=>True) (.slice Av a.2.1.length cv) a.2.1))
    case first =>
      go_region_law (go_simp;go_at_call 38;refine (HMC.out _ (Kd.dJ HN.out (by repeat (first|exact vG.out|apply aN|apply bB|apply bX))) (Kd.dJ HG.out (by repeat (first|exact vG.out|apply aN|apply bB|apply bX)))).mono ?_;rintro e w5 hf;rw [ha] at hf;unfold ZY at hf;rw [if_neg (by rw [HOV.out];simp)] at hf;obtain ⟨v5,rfl,hR5,hb5⟩:=hf;have DC:=aA.mk (aAZ (show Below W1.heap.size W1 _ by repeat (first|exact Below.refl _ _|apply aN|apply bB|apply bX)) hb5);obtain ⟨Av,cv,rfl⟩:=Kd.dY hR5;have HR5:=aA.mk (show xP.R 78 w5 W1.heap.size (fun _=>True) (.slice Av a.2.1.length cv) a.2.1 from Kd.iH hR5 (by first|exact Nat.le_refl _|(simp;done)|(simp;omega)));(first|(have hz:w5.heap[W1.heap.size]?=some (.cells #[.int .i64 0,.int .i64 0,.int .i64 0,.int .i64 0,.slice none 0 0] 31 (0,0)):=bK (dX W1.drew (.cells #[.int .i64 0,.int .i64 0,.int .i64 0,.int .i64 0,.slice none 0 0] 31)) hb5;have hz0:=(aD hz 0).trans rfl;have hz1:=(aD hz 1).trans rfl;have hz2:=(aD hz 2).trans rfl;have hz3:=(aD hz 3).trans rfl;have hz4:=(aD hz 4).trans rfl;have hg0:=bF hz 0;have hg1:=bF hz 1;have hg2:=bF hz 2;have hg3:=bF hz 3;have hg4:=bF hz 4;have HZ:=aA.mk hz;clear hz)|skip);clear hb5 hR5)
      all_goals (go_wp2_with (fail);go_meet)
      all_goals first
        |exact ⟨W1.heap.size,Av,cv,rfl,rfl,⟨BJ DC.out (Nat.le_refl _) _ _ _ _ _⟩,⟨dF (dF (dF (dF (dF HZ.out 0 _ rfl) 1 _ rfl) 2 _ rfl) 3 _ rfl) 4 _ rfl⟩,⟨(xQ _ _ (xQ _ _ (xQ _ _ (xQ _ _ (xQ _ _ ⟨HR5.out,_,HZ.out⟩))))).1⟩⟩
        |exact ⟨w5.heap.size,Av,cv,rfl,rfl,⟨aN DC.out _⟩,⟨dX _ _⟩,⟨Kd.nY HR5.out _⟩⟩
    case rest =>
      obtain ⟨Z,Av,cv,rfl,rfl,HBc,HZc,HRc⟩:=hcut;have HKc:=aA.mk (qZ iC.out HBc.out);have HBBc:=aA.mk (bU HB1.out HS1.out HBc.out);have HTc:=aA.mk (fB (oJ vG.out) (oJ HBc.out));have HSc:aA (base≤wc.heap.size):=⟨Nat.le_trans HS1.out HBc.out.size⟩;have HMc:aA (M<wc.heap.size):=⟨FV HKc.out⟩;have hz0:=(aD HZc.out 0).trans rfl;have hz1:=(aD HZc.out 1).trans rfl;have hz2:=(aD HZc.out 2).trans rfl;have hz3:=(aD HZc.out 3).trans rfl;have hz4:=(aD HZc.out 4).trans rfl;have hokk:=HOK.out HOV.out;have KM:=hokk.dim;have hrl:=hokk.rl;have hrx:=notOk_rx hokk;clear hokk;obtain ⟨kk,hkk⟩:=hrx;have hso:=HSO.out;obtain ⟨_,hl5,hC5⟩:=Kd.cO HRc.out;have HL5:=aA.mk hl5;have HC5:=aA.mk hC5;clear hx1 hy0 hy1 hy2 hx1a hy0a hy1a hy2a HSO HOK hl5 hC5;go_wp2_with (fail)
      go_at_call 18;cases hdd:d (a.1,a.2.1) with
      |none =>
        rw [hdd] at hkk;rw [B_ HOV.out hdd] at hso;subst hso;refine (aH.calls kk a.1 names.length 0 1 Av cv a.2.1 0 [] [] 3 _ HC5.out HL5.out hkk).mono ?_;rintro e w6 ⟨v1,v2,rfl,hN,hA,hb6⟩;obtain ⟨A1,c1,rfl⟩:=Kd.uI hN;obtain ⟨A2,c2,rfl⟩:=Kd.dY hA;have HK6:=aA.mk (qZ HKc.out hb6);have SK:=aA.mk (bU HBBc.out HSc.out hb6);have HT6:=aA.mk (fB HTc.out (oJ hb6));obtain ⟨vc,hvc,_⟩:=HK6.out.out;have HV:=aA.mk hvc;have hm3 : ∀ o:Obj,(w6.alloc o).cell? ⟨M,3,none⟩=some (.bool s.2.2):=fun o=>(aD (bH hvc o) 3).trans rfl;have hf3 : ∀ o:Obj,(w6.alloc o).frozen? ⟨M,3,none⟩=false:=fun o=>bF (bH hvc o) 3;clear hN hA hb6 hz0 hz1 hz2 hz3 hz4 hvc hkk KM hrl hdd;go_wp2;go_end0
        exact ⟨rfl,FW (qA HK6.out _) (s.1,s.2.1,true) 3 _ rfl (fun _=>rfl),(rU HM.out HK6.out SK.out _).setCell HM.out _,fB HT6.out (fB (nX _ _) (zS (bH HV.out _) _))⟩
      |some p =>
        obtain ⟨next,acc⟩:=p;rw [hdd] at hkk KM hrl;rw [C_ HOV.out hdd] at hso;obtain ⟨hd1,hd2,hd3⟩:=KM _ rfl;have hd4:=hrl _ rfl;simp only at hd1 hd2 hd3 hd4 hso;have HD3:=aA.mk hd3;have HD4:=aA.mk hd4;have HD2:=aA.mk hd2;have HSO:=aA.mk hso;refine (aH.calls kk a.1 names.length 0 1 Av cv a.2.1 names.length next acc 0 _ HC5.out HL5.out hkk).mono ?_;rintro e w6 ⟨v1,v2,rfl,hN,hA,hb6⟩;have HNX:=aA.mk (Kd.N_lower (Kd.jH (ok':=fun k=>wc.heap.size≤k∧k<w6.heap.size) (Kd.YE hN) (fun k hk=>⟨hk.1.1,hk.2⟩)) (Nat.zero_le _));have HAC:=aA.mk (Kd.iH (Kd.dH (ok':=fun k=>wc.heap.size≤k∧k<w6.heap.size) (Kd.lZ hA) (fun k hk=>⟨hk.1,hk.2.2.1⟩)) (Nat.zero_le _));have HK6:=aA.mk (qZ HKc.out hb6);have SK:=aA.mk (bU HBBc.out HSc.out hb6);have HT6:=aA.mk (fB HTc.out (oJ hb6));have HSZ6:=aA.mk hb6.size;have HMM6:aA (lU (fun k=>k<wc.heap.size∨w6.heap.size≤k) base M An names.length cn w6 s):=⟨by
          obtain ⟨v,h1,h2⟩:=HKc.out;exact ⟨v,bK h1 hb6,Kd.dH (Kd.fE (Kd.lZ h2) hb6) (fun k hk=>.inl hk.2.2.1)⟩⟩
        have HMI:aA (MI base M An names.length cn w0 W (w6.alloc (.cells #[.int .i64 (names.length:Int),v1,v2] 46)) wc.heap.size w6.heap.size w6.heap.size (names.length:Int) v1 v2 next acc s):=⟨qA HMM6.out _,rU HM.out HK6.out SK.out _,fB HT6.out (nX _ _),by simp,dX _ _,Kd.N_alloc HNX.out _,Kd.nY HAC.out _⟩;obtain ⟨A1,c1,rfl⟩:=Kd.uI hN;obtain ⟨A2,c2,rfl⟩:=Kd.dY hA;obtain ⟨w7,hw7⟩ : ∃ w7,w7=w6.alloc (.cells #[.int .i64 (names.length:Int),.slice A1 next.length c1,.slice A2 acc.length c2] 46):=⟨_,rfl⟩;rw [←hw7] at HMI;obtain ⟨vc,hvc,hRc⟩:=HMI.out.mm.out;have HV:=aA.mk hvc;have hm0:w7.cell? ⟨M,0,none⟩=some (.int .i64 s.1):=(aD hvc 0).trans rfl;have hf0:=bF hvc 0;have hn1:w7.cell? ⟨w6.heap.size,1,none⟩=some (.slice A1 next.length c1):=(aD HMI.out.bd 1).trans rfl;have hr0:=H0.out.1;have hr1:=H0.out.2.1;have HLEN:aA (s.2.1.length+(wR s.1 fr tt next acc).length≤1000000000000):=⟨by
          have:(wR s.1 fr tt next acc).length≤4200000:=x_ (p:=(next,acc)) KM;have:=H0.out.2.2;omega⟩
        rw [hw7] at hm0 hf0 hn1;have hd1':=hd1;clear hN hA hb6 hz0 hz1 hz2 hz3 hz4 hkk KM hrl hdd hd3 hd4 hvc hRc HNX HAC HMM6 hso hd2;go_upto_region 8 with (fail)
        rw [←hw7];rw [←hw7] at hm0 hf0 hn1;clear hw7;have HMc':=HMc.out;obtain ⟨lo,hlo⟩ : ∃ lo,lo=wc.heap.size:=⟨_,rfl⟩;rw [←hlo] at HMI;rw [←hlo] at HMc';have HLO:=aA.mk HMc';try clear hlo
        clear HMc';go_cut [43] (fun _ wd=>aA (MI base M An names.length cn w0 W wd lo w6.heap.size w6.heap.size (names.length:Int) (.slice A1 next.length c1) (.slice A2 acc.length c2) next acc (s.1+(next.length:Int),s.2)))
        case first =>
          go_region
          all_goals (go_wp2_with (fail);go_meet)
          all_goals first
            |exact ⟨mi_set HLO.out HM.out HMI.out (s.1+(next.length:Int),s.2) 0 _ rfl (fun _=>rfl)⟩
            |exact ⟨mi_set HLO.out HM.out (mi_below HM.out HMI.out (bX (Below.refl _ _))) (s.1+(next.length:Int),s.2) 0 _ rfl (fun _=>rfl)⟩
        case rest =>
          clear hm0 hf0 hn1 HMI HV;obtain ⟨L,hL⟩ : ∃ L,L=s.2.1 ++ wR s.1 fr tt next acc:=⟨_,rfl⟩;have HLL:aA (L.length≤1000000000000):=⟨by rw [hL,List.length_append];exact HLEN.out⟩;have P6:aA (RT s (s.1+(next.length:Int),s.2) next.length L (⟨fr,-1,s.1⟩ :: (pO s.1 0 (next.drop 0) ++ sU s.1 tt 0 (acc.drop 0)))):=⟨rfl,rfl,hL.symm⟩;rw [←hL] at HSO;have HI0:=hcut;have hq0:=YD P6.out HLL.out;clear hL hcut HLEN;go_wp2_with (fail)
          go_at_call 88;refine (mi_arc HLO.out HM.out HI0.out hq0 fr (-1) s.1).mono ?_;rintro e w8 ⟨rfl,h8⟩;have HI8:=aA.mk h8;have HR8:=aA.mk (rt_arc P6.out);clear h8 hq0 HI0 P6;go_wp2_with (fail)
          go_loopg [13] next.length (fun q v13 wr=>∃ (i:Nat) (s':RS),i≤next.length∧v13 = .int .i64 i∧q=next.length - i∧aA (RT s s' next.length L (pO s.1 i (next.drop i) ++ sU s.1 tt 0 (acc.drop 0)))∧aA (MI base M An names.length cn w0 W wr lo w6.heap.size w6.heap.size (names.length:Int) (.slice A1 next.length c1) (.slice A2 acc.length c2) next acc s'))
          case atStart=>exact ⟨0,_,Nat.zero_le _,rfl,rfl,HR8,HI8⟩
          case round =>
            obtain ⟨i2,s2,hi2,rfl,rfl,HR2,HI2⟩:=hrel;clear HR8 HI8;have hc1:wr.cell? ⟨w6.heap.size,1,none⟩=some (.slice A1 next.length c1):=(aD HI2.out.bd 1).trans rfl;by_cases hlt2:i2<next.length
            · obtain ⟨row,hrow⟩ : ∃ row,next[i2]?=some row:=⟨next[i2],List.getElem?_eq_getElem hlt2⟩
              have HROW:=aA.mk hrow;have HRL:=aA.mk (HD4.out row (List.mem_of_getElem? hrow));have hnl:names.length≤4096:=(by have h:=(HD3.out row (List.mem_of_getElem? hrow)).1;rw [HRL.out] at h;exact h);have hr2:=HR2.out;rw [aAb s.1 next i2 row hrow,List.append_assoc] at hr2;have HR3:aA (RT s s2 next.length L (yI s.1 (s.1+(i2:Int)) 0 (row.drop 0) ++ (pO s.1 (i2+1) (next.drop (i2+1)) ++ sU s.1 tt 0 (acc.drop 0)))):=⟨hr2⟩;clear hr2 hrow HR2;go_wp2_with (fail)
              clear hc1;go_loopg [14] names.length (fun q v14 wr=>∃ (j:Nat) (s':RS),j≤names.length∧v14 = .int .i64 j∧q=names.length - j∧aA (RT s s' next.length L (yI s.1 (s.1+(i2:Int)) j (row.drop j) ++ (pO s.1 (i2+1) (next.drop (i2+1)) ++ sU s.1 tt 0 (acc.drop 0))))∧aA (MI base M An names.length cn w0 W wr lo w6.heap.size w6.heap.size (names.length:Int) (.slice A1 next.length c1) (.slice A2 acc.length c2) next acc s'))
              case atStart=>exact ⟨0,s2,Nat.zero_le _,rfl,rfl,HR3,HI2⟩
              case round =>
                obtain ⟨j,s4,hj,rfl,rfl,HR4,HI4⟩:=hrel;clear HR3 HI2;have hc0:wr.cell? ⟨w6.heap.size,0,none⟩=some (.int .i64 (names.length:Int)):=(aD HI4.out.bd 0).trans rfl;have hc1:wr.cell? ⟨w6.heap.size,1,none⟩=some (.slice A1 next.length c1):=(aD HI4.out.bd 1).trans rfl;by_cases hlt3:j<names.length
                · obtain ⟨ad,A0,c0,had,hx,hlc,hxC⟩:=at_L8 (Kd.uJ HI4.out.nx).2.2 (i2:Int) (by omega) (by omega)
                  have hrd:SS next (i2:Int)=row:=(by unfold SS;simp [HROW.out]);rw [hrd] at hx hxC hlc;rw [Int.toNat_natCast] at hx;have hjr:j<row.length:=(by rw [HRL.out];exact hlt3);obtain ⟨ad4,had4,hx4⟩:=Kd.qP hxC (j:Int) (by omega) (by omega);rw [Int.toNat_natCast] at hx4;subst had4;obtain ⟨hx0,hx1⟩:=(HD3.out row (List.mem_of_getElem? HROW.out)).2 (rd row j) (by unfold rd;simp [List.getElem?_eq_getElem hjr]);have hr4:=HR4.out;rw [symA_step' s.1 (s.1+(i2:Int)) row j (rd row j) (by unfold rd;simp [List.getElem?_eq_getElem hjr])] at hr4;have hq4:=YD hr4 HLL.out;have HR5:=aA.mk (rt_arc hr4);clear hr4 hxC hlc hrd HR4;subst had;go_wp2_with (fail)
                  go_at_call 88;refine (mi_arc HLO.out HM.out HI4.out hq4 (s.1+(i2:Int)) (j:Int) (s.1+rd row j)).mono ?_;rintro e w5 ⟨rfl,h5⟩;have HI5:=aA.mk h5;clear h5 HI4 hx4 hx0 hx1 hx hc0 hc1;go_wp2;go_roundg (names.length - (j+1))
                  case measure=>omega
                  case rel=>exact ⟨j+1,_,by omega,by go_num,rfl,HR5,HI5⟩
                · have hr4:=HR4.out
                  rw [List.drop_eq_nil_of_le (by have:=HRL.out;omega),yI,List.nil_append] at hr4;have HR5:=aA.mk hr4;clear hr4 HR4;go_wp2;go_roundg (next.length - (i2+1))
                  case measure=>omega
                  case rel=>exact ⟨i2+1,s4,by omega,by go_num,rfl,HR5,HI4⟩
            · have hr2:=HR2.out
              rw [List.drop_eq_nil_of_le (by omega),pO,List.nil_append] at hr2;have HR3:=aA.mk hr2;clear hr2 HR2;go_wp2_with (fail)
              clear hc1;go_loopg [15] next.length (fun q v15 wr=>∃ (i:Nat) (s':RS),i≤next.length∧v15 = .int .i64 i∧q=next.length - i∧aA (RT s s' next.length L (sU s.1 tt i (acc.drop i)))∧aA (MI base M An names.length cn w0 W wr lo w6.heap.size w6.heap.size (names.length:Int) (.slice A1 next.length c1) (.slice A2 acc.length c2) next acc s'))
              case atStart=>exact ⟨0,s2,Nat.zero_le _,rfl,rfl,HR3,HI2⟩
              case round =>
                obtain ⟨i3,s3,hi3,rfl,rfl,HR4,HI3⟩:=hrel;clear HR3 HI2;have hc1:wr.cell? ⟨w6.heap.size,1,none⟩=some (.slice A1 next.length c1):=(aD HI3.out.bd 1).trans rfl;have hc2:wr.cell? ⟨w6.heap.size,2,none⟩=some (.slice A2 acc.length c2):=(aD HI3.out.bd 2).trans rfl;by_cases hlt3:i3<next.length
                · have hla:i3<acc.length:=by have:=HD2.out;omega
                  obtain ⟨ad4,hab,hx4⟩:=Kd.nZ (Kd.cO HI3.out.ac).2.2 (i3:Int) (by omega) (by omega);subst hab;rw [Int.toNat_natCast] at hx4;have hr4:=HR4.out;rw [accA_step' s.1 tt acc i3 (fF false acc i3) (by unfold fF;simp [List.getElem?_eq_getElem hla])] at hr4;cases hb:fF false acc (i3:Int) with
                  |true =>
                    rw [hb,if_pos rfl,List.nil_append] at hr4;rw [hb] at hx4;have HR5:=aA.mk hr4;clear hr4 hb HR4;go_wp2;go_roundg (next.length - (i3+1))
                    case measure=>omega
                    case rel=>exact ⟨i3+1,s3,by omega,by go_num,rfl,HR5,HI3⟩
                  |false =>
                    rw [hb,if_neg (by simp)] at hr4;rw [hb] at hx4;have hr4:RT s s3 next.length L (⟨s.1+(i3:Int),-1,tt⟩ :: sU s.1 tt (i3+1) (acc.drop (i3+1))):=hr4;have hq4:=YD hr4 HLL.out;have HR5:=aA.mk (rt_arc hr4);clear hr4 hb HR4;go_wp2_with (fail)
                    go_at_call 88;refine (mi_arc HLO.out HM.out HI3.out hq4 (s.1+(i3:Int)) (-1) tt).mono ?_;rintro e w5 ⟨rfl,h5⟩;have HI5:=aA.mk h5;clear h5 HI3 hx4 hc1 hc2;go_wp2;go_roundg (next.length - (i3+1))
                    case measure=>omega
                    case rel=>exact ⟨i3+1,_,by omega,by go_num,rfl,HR5,HI5⟩
                · have hr4:=HR4.out
                  rw [List.drop_eq_nil_of_le (by have:=HD2.out;omega),sU] at hr4;have hso:=HSO.out;rw [rt_end hr4] at hso;subst hso;obtain ⟨vm,hvm,hRm⟩:=HI3.out.mm.out;obtain ⟨Am,cm,rfl⟩:=Kd.dY hRm;have hm0:wr.cell? ⟨M,0,none⟩=some (.int .i64 s3.1):=(aD hvm 0).trans rfl;have hm1:wr.cell? ⟨M,1,none⟩=some (.slice Am s3.2.1.length cm):=(aD hvm 1).trans rfl;have hf3:=bF hvm 3;have hm3:wr.cell? ⟨M,3,none⟩=some (.bool s3.2.2):=(aD hvm 3).trans rfl;have hq3:=YD hr4 HLL.out;have HE:aA (∀ b:Bool,Over s3=b→MI base M An names.length cn w0 W (wr.setCell ⟨M,3,none⟩ (.bool b)) lo w6.heap.size w6.heap.size (names.length:Int) (.slice A1 next.length c1) (.slice A2 acc.length c2) next acc (s3.1,s3.2.1,Over s3)):=⟨by
                    rintro b rfl;exact mi_set HLO.out HM.out HI3.out (s3.1,s3.2.1,Over s3) 3 _ rfl (fun _=>rfl)⟩
                  clear HR4 hr4 hvm hRm HSO;cases jM:s3.2.2 with
                  |true =>
                    have hov:=aA.mk (show Over s3=true by unfold Over;rw [jM];rfl);rw [jM] at hm3;clear jM;go_wp2;go_end0
                    have h:=HE.out _ hov.out;exact ⟨rfl,h.mm.all,h.bl,h.kt⟩
                  |false =>
                    rw [jM] at hm3;by_cases hN:4096<s3.1
                    · have hov:=aA.mk (show Over s3=true by unfold Over;rw [jM,decide_eq_true hN];rfl)
                      have hd:decide (4096<s3.1)=true:=decide_eq_true hN;clear jM;go_wp2;go_end0
                      have h:=HE.out _ hov.out;exact ⟨rfl,h.mm.all,h.bl,h.kt⟩
                    · by_cases hL:65536<s3.2.1.length
                      · have hov:=aA.mk (show Over s3=true by unfold Over;rw [decide_eq_true hL,Bool.or_true])
                        have hd:decide (4096<s3.1)=false:=decide_eq_false hN;have hd':decide ((65536:Int)<(s3.2.1.length:Int))=true:=decide_eq_true (by omega);have hd'':decide (65536<s3.2.1.length)=true:=decide_eq_true hL;clear jM;go_wp2;go_end0
                        have h:=HE.out _ hov.out;exact ⟨rfl,h.mm.all,h.bl,h.kt⟩
                      · have hov:=aA.mk (show Over s3=false by unfold Over;rw [jM,decide_eq_false hN,decide_eq_false hL];rfl)
                        have hd:decide (4096<s3.1)=false:=decide_eq_false hN;have hd':decide ((65536:Int)<(s3.2.1.length:Int))=false:=decide_eq_false (by omega);have hd'':decide (65536<s3.2.1.length)=false:=decide_eq_false hL;clear jM;go_wp2;go_end0
                        have h:=HE.out _ hov.out;exact ⟨rfl,h.mm.all,h.bl,h.kt⟩
end Go.Proofs.Ytapinbmkjkbkkaa.Mk
namespace Go.Proofs.Ytapinbmkjkbkkaa.Mk
open Go.RowKit Go.Proofs.aC.bE Go.Proofs.aC.bV Go.Proofs.aC.bY Lb
def JU (a0 a1 a2 a3:Int) (A:Option Addr) (n c:Nat):Array Value:=#[.int .i64 a0,.int .i64 a1,.int .i64 a2,.int .i64 a3,.slice A n c]
set_option maxHeartbeats 400000 in
theorem PZ (B:Nat) (a0 a1 a2 a3:Int) (A:Option Addr) (ln c:Nat) (n:Int) (w:World) (hB:w.heap[B]?=some (.cells (JU a0 a1 a2 a3 A ln c) 31 (0,0))) :
    Calls Try.prog 46 #[.int .i64 n,.pointer (some ⟨B,0,none⟩)] w fun e w'=>(e=if qQ a1 n=true then xL else .returned (.tuple #[]))∧w'=w:=by
  have hc1:w.cell? ⟨B,1,none⟩=some (.int .i64 a1):=(aD hB 1).trans rfl;clear hB;unfold qQ;by_cases h1:1024<n
  · have d1:decide (1024<n)=true:=decide_eq_true h1
    rw [d1];go_enter Try.func46,Try.ntmps46;go_wp2;exact ⟨rfl,rfl,rfl⟩
  · have d1:decide (1024<n)=false:=decide_eq_false h1
    rw [d1];by_cases h2:65536<wrap64 (n * a1)
    · have d2:decide (65536<wrap64 (n * a1))=true:=decide_eq_true h2
      rw [d2];go_enter Try.func46,Try.ntmps46;go_wp2;exact ⟨rfl,rfl,rfl⟩
    · have d2:decide (65536<wrap64 (n * a1))=false:=decide_eq_false h2
      rw [d2];go_enter Try.func46,Try.ntmps46;go_wp2;go_end0
      exact ⟨rfl,rfl⟩
structure uR (W:World) (base g:Nat) (xs:List Int) (ns:Nat):Prop where
  ge:base≤g
  le:xs.length≤ns
  hb:W.heap[g]?=some (.cells (nums .i64 (xs ++ List.replicate (ns - xs.length) 0)).toArray 3 (0,0))
structure yB (W:World) (base:Nat) (vn:Value) (gs:List Nat) (next:List (List Int)) (ns:Nat):Prop where
  own:(Kd.raw 1).R 27 W base (fun _=>True) vn ((gs.zip next).map fun p=>[.slice (some ⟨p.1,0,none⟩) p.2.length ns])
  len:gs.length=next.length
  rows : ∀ (j g:Nat) (xs:List Int),gs[j]?=some g→next[j]?=some xs→uR W base g xs ns
  nodup:gs.Nodup
theorem yU {W W1:World} {base g ns:Nat} {xs:List Int} (h:uR W base g xs ns) (hm:W1.heap[g]?=W.heap[g]?):uR W1 base g xs ns:=⟨h.ge,h.le,hm.trans h.hb⟩
theorem zT {W:World} {base g ns:Nat} {xs:List Int} (h:uR W base g xs ns):g<W.heap.size:=gL h.hb
theorem nums_made (m:Nat):madeCells #[.int .i64 0] m=(nums .i64 (([]:List Int) ++ List.replicate (m - ([]:List Int).length) 0)).toArray:=Ls.IU m
theorem AB {W W1:World} {base ns:Nat} {vn:Value} {gs:List Nat} {next:List (List Int)} (h:yB W base vn gs next ns) (ho:(Kd.raw 1).R 27 W1 base (fun _=>True) vn ((gs.zip next).map fun p=>[.slice (some ⟨p.1,0,none⟩) p.2.length ns]))
    (hm : ∀ g∈gs,W1.heap[g]?=W.heap[g]?):yB W1 base vn gs next ns :=
  ⟨ho,h.len,fun j g xs h1 h2=>yU (h.rows j g xs h1 h2) (hm g (List.mem_of_getElem? h1)),h.nodup⟩
theorem FY {W:World} {base ns:Nat} {vn:Value} {gs:List Nat} {next:List (List Int)} (h:yB W base vn gs next ns) {g:Nat} (hg:g∈gs) : ∃ xs,uR W base g xs ns:=by
  obtain ⟨j,hj,rfl⟩:=List.mem_iff_getElem.mp hg;have hj2:j<next.length:=(by rw [←h.len];exact hj);exact ⟨next[j],h.rows j gs[j] next[j] (List.getElem?_eq_getElem hj) (List.getElem?_eq_getElem hj2)⟩
theorem met_mid {w w3:World} {base O ns:Nat} {vn va v1:Value} {gs:List Nat} {next:List (List Int)} (hO:w.heap[O]?=some (.cells #[.int .i64 (ns:Int),vn,va] 46 (0,0))) (hN:yB w base vn gs next ns) (hOB:base≤O)
    (hR:(Kd.raw 1).R 27 w3 base (fun _=>True) v1 (((gs.zip next).map fun p=>[.slice (some ⟨p.1,0,none⟩) p.2.length ns]) ++ [[.slice (some ⟨w.heap.size,0,none⟩) 0 ns]]))
    (hO3:w3.heap[O]?=some (.cells #[.int .i64 (ns:Int),vn,va] 46 (0,0))) (hg:(w.drew.alloc (.cells (madeCells #[.int .i64 0] ns) 3)).grownBy w3 vn.ownBlock) :
    (w3.setCell ⟨O,1,none⟩ v1).heap[O]?=some (.cells #[.int .i64 (ns:Int),v1,va] 46 (0,0))∧yB (w3.setCell ⟨O,1,none⟩ v1) base v1 (gs ++ [w.heap.size]) (next ++ [[]]) ns ∧
      ∀ k,k<w.heap.size→k≠O→some k≠vn.ownBlock→(w3.setCell ⟨O,1,none⟩ v1).heap[k]?=w.heap[k]?:=by
  have hlt:=gL hO;have hkeep : ∀ k,k<w.heap.size→k≠O→some k≠vn.ownBlock→(w3.setCell ⟨O,1,none⟩ v1).heap[k]?=w.heap[k]?:=fun k hk hkO hkv=>by
    refine (Below.heap_setCell w3 ⟨O,1,none⟩ v1 k hkO).trans ((hg.block k ?_ hkv).trans (Below.heap_alloc w.drew _ k hk));show k<(w.heap.push _).size;rw [Array.size_push];omega
  have hne27 : ∀ g xs,uR w base g xs ns→some g≠vn.ownBlock:=fun g xs hb=>Kd.lL hN.own hb.hb (by decide);have hneO : ∀ g xs,uR w base g xs ns→g≠O:=fun g xs hb=>mZ hb.hb hO (by decide);have hgs : ∀ g∈gs,(w3.setCell ⟨O,1,none⟩ v1).heap[g]?=w.heap[g]?∧g<w.heap.size:=fun g hgm=>by
    obtain ⟨xs,hb⟩:=FY hN hgm;exact ⟨hkeep g (zT hb) (hneO g xs hb) (hne27 g xs hb),zT hb⟩
  refine ⟨dF hO3 1 _ rfl,⟨?_,by simp [hN.len],fun j g xs h1 h2=>?_,?_⟩,hkeep⟩
  · rw [List.zip_append hN.len]
    simp only [List.zip_cons_cons,List.zip_nil_right,List.map_append,List.map_cons,List.map_nil,List.length_nil];exact Kd.dH (Kd.eX (Kd.dN hR hO3 (by decide)) (fun k hk=>hk.2) _) (fun _ _=>trivial)
  · by_cases hj:j<gs.length
    · rw [List.getElem?_append_left hj] at h1
      rw [List.getElem?_append_left (by rw [←hN.len];exact hj)] at h2;exact yU (hN.rows j g xs h1 h2) (hgs g (List.mem_of_getElem? h1)).1
    · have hjl:j=gs.length:=by
        have:=(List.getElem?_eq_some_iff.mp h1).1;rw [List.length_append,List.length_singleton] at this;omega
      subst hjl;obtain rfl:w.heap.size=g:=(by simpa using h1);obtain rfl:[]=xs:=by
        rw [hN.len] at h2;simpa using h2
      refine ⟨by omega,Nat.zero_le _,?_⟩;have hnew:(w.drew.alloc (.cells (madeCells #[.int .i64 0] ns) 3)).heap[w.heap.size]?=some (.cells (madeCells #[.int .i64 0] ns) 3 (0,0)):=dX w.drew _;have hv:some w.heap.size≠vn.ownBlock:=fun e=>by
        have:=Kd.AU hN.own _ e.symm;omega
      have:=bR (eZ hnew hg hv) (p:=⟨O,1,none⟩) (by show w.heap.size≠O;omega) v1;rw [nums_made] at this;exact this
  · rw [List.nodup_append]
    refine ⟨hN.nodup,by simp,fun a ha b hb e=>?_⟩;have h1:=(hgs a ha).2;have h2:b=w.heap.size:=(by simpa using hb);omega
theorem R_hold {α:Type} {d:Kd α} {e base:Nat} {w wc:World} {v:Value} {xs:List α} (hE:d.E=[]) (h:d.R e w base (fun _=>True) v xs) {O:Nat} {t:TypeId} {co:Array Value} (hO:w.heap[O]?=some (.cells co t (0,0))) (ht:e≠t) {vn:Value}
    (hn : ∀ k,v.ownBlock=some k→some k≠vn.ownBlock) (hk : ∀ k,k<w.heap.size→k≠O→some k≠vn.ownBlock→wc.heap[k]?=w.heap[k]?):d.R e wc base (fun _=>True) v xs :=
  Kd.dH (Kd.vT (Kd.nR hE h) (fun k hkv hlt=>hk k hlt (fun e'=>Kd.lL h hO ht (by rw [←e'];exact hkv)) (hn k hkv.symm))) (fun _ _=>trivial)
theorem vU {e base:Nat} {W:World} {ok:Nat→Prop} {v:Value} {α:Type} {d:Kd α} {xs:List α} (h:d.R e W base ok v xs) : ∃ A n c,v = .slice A n c:=by
  obtain ⟨A,c,hv⟩:=Kd.dY h;exact ⟨A,_,c,hv⟩
theorem made_buf (ns:Nat) (hns:ns≤4096) (W:World):(Instr.makeSlice 27 (.int .i64 0) (.int .i64 (ns:Int))).run Try.prog W = .ok (.slice (some ⟨W.heap.size,0,none⟩) 0 ns) (W.alloc (.cells (madeCells #[.int .i64 0] ns) 3)):=by
  obtain ⟨i,hi,hzz⟩:=Option.map_eq_some_iff.1 info3;simp only [Prod.mk.injEq] at hzz;obtain ⟨hz,hs,hb⟩:=hzz;have hr:=run_make (P:=Try.prog) W 27 3 i (.int .i64 0) Try.underlying27 hi hz .i64 .i64 0 (ns:Int) (Int.le_refl _) (by omega) (by rw [hb];omega) (by omega);simp only [Int.toNat_zero,Int.toNat_natCast,hs,Nat.mul_one] at hr;exact hr
set_option maxHeartbeats 2000000 in
theorem met_calls (base O B:Nat) (a0 a2 a3:Int) (A:Option Addr) (ln c ns:Nat) (vn va:Value) (gs:List Nat) (next:List (List Int)) (acc:List Bool) (As:Option Addr) (cs:Nat) (s:List Int) (b:Bool) (i:Int) (w0 w:World)
    (hO:w.heap[O]?=some (.cells #[.int .i64 (ns:Int),vn,va] 46 (0,0))) (hB:w.heap[B]?=some (.cells (JU a0 (ns:Int) a2 a3 A ln c) 31 (0,0))) (hN:yB w base vn gs next ns) (hacc:Kd.R Kd.bool 4 w base (fun _=>True) va acc)
    (hs:Kd.R (Kd.int .u64) 115 w base (fun _=>True) (.slice As s.length cs) s) (has:fI.f s a3=some b) (hOB:base≤O) (hbw:Below base w0 w) (hns:ns≤4096) (hln:next.length≤1024) (hla:acc.length≤1024) :
    Calls Try.prog 48 #[.int .i64 i,.slice As s.length cs,.pointer (some ⟨O,0,none⟩),.pointer (some ⟨B,0,none⟩)] w fun e w'=>e = .returned (.bool true)∧∃ g vn' va',w.heap.size≤g∧w'.heap[O]?=some (.cells #[.int .i64 (ns:Int),vn',va'] 46 (0,0))∧yB w' base vn' (gs ++ [g]) (next ++ [[]]) ns ∧
      Kd.R Kd.bool 4 w' base (fun _=>True) va' (acc ++ [b])∧Below base w0 w'∧(∀ k,k<w.heap.size→k≠O→some k≠vn.ownBlock→some k≠va.ownBlock→w'.heap[k]?=w.heap[k]?)∧w.heap.size≤w'.heap.size:=by
  have HO:=aA.mk hO;have HBX:=aA.mk hB;have HN:=aA.mk hN;have HA:=aA.mk hacc;have HS:=aA.mk hs;have HAS:=aA.mk has;have HB:=aA.mk hbw;have hc1:w.cell? ⟨O,1,none⟩=some vn:=(aD hO 1).trans rfl;have hb1:w.cell? ⟨B,1,none⟩=some (.int .i64 (ns:Int)):=(aD hB 1).trans rfl;have hz1:=bF hO 1;have hO1 : ∀ o:Obj,(w.alloc o).cell? ⟨O,1,none⟩=some vn:=fun o=>(aD (bH hO o) 1).trans rfl;have hO2 : ∀ o o':Obj,((w.alloc o).alloc o').cell? ⟨O,1,none⟩=some vn:=fun o o'=>(aD (bH (bH hO o) o') 1).trans rfl;have hmk:=made_buf ns hns;clear hO hB hN hacc hs has hbw;go_enter Try.func48,Try.ntmps48;have hV:=Kd.nY (Kd.U6 HN.out.own) (.cells (madeCells #[.int .i64 0] ns) 3);have hVs:base≤(w.drew.alloc (.cells (madeCells #[.int .i64 0] ns) 3)).heap.size:=by
    have h1:base≤w.heap.size:=(by have:=gL HO.out;omega);show base≤(w.heap.push _).size;rw [Array.size_push];omega
  have hVl:(((gs.zip next).map fun p=>([.slice (some ⟨p.1,0,none⟩) p.2.length ns]:List Value)).length+1) * 24≤140737488355328:=by
    rw [List.length_map,List.length_zip];omega
  have YF:=aA.mk (Below.alloc (w:=w.drew) HB.out.drew (show base≤w.heap.size by have:=gL HO.out;omega) (.cells (madeCells #[.int .i64 0] ns) 3));have HV:=aA.mk hV;have HVS:=aA.mk hVs;have HVL:=aA.mk hVl;clear hV hVs hVl;go_upto_region 1 with (fail)
  go_cut [7,8,9,10,11,12,13,14] (fun _ _ _ _ _ _ _ _ wc=>∃ v1:Value,aA (wc.heap[O]?=some (.cells #[.int .i64 (ns:Int),v1,va] 46 (0,0)))∧aA (yB wc base v1 (gs ++ [w.heap.size]) (next ++ [[]]) ns)∧aA (Below base w0 wc) ∧
    aA (Kd.R Kd.bool 4 wc base (fun _=>True) va acc)∧aA (w.heap.size≤wc.heap.size)∧aA (∀ k,k<w.heap.size→k≠O→some k≠vn.ownBlock→wc.heap[k]?=w.heap[k]?))
  case first =>
    go_region_law (refine Kd.zC (W:=(w.drew.alloc (.cells (madeCells #[.int .i64 0] ns) 3))) (Kd.raw 1) (w0:=w0) base (by rfl) (.tmp 8) (.tmp 12) 43 27 (.slice none 0 0) 24 rfl Try.underlying43 info27 rfl (by decide) (by omega) vn _ [.slice (some ⟨w.heap.size,0,none⟩) 0 ns] [.slice (some ⟨w.heap.size,0,none⟩) 0 ns] (fun _=>True) (fun _=>False) (by simp [Act.eval,Act.put]) (by simp [Act.eval,Act.put]) ⟨rfl,rfl,by simp [Value.oneCell']⟩ (fun _ hk=>hk.elim) (fun _ _=>trivial) HV.out YF.out HVS.out HVL.out ?_;intro v1 w3 o5 hb1 hg hat;obtain ⟨A1,L1,c1,rfl⟩:=vU o5;have PX:=aA.mk (eZ (bH (mK HO.out) (.cells (madeCells #[.int .i64 0] ns) 3)) hg (Kd.lL HV.out (bH (mK HO.out) (.cells (madeCells #[.int .i64 0] ns) 3)) (by decide)));have HR3:=aA.mk o5;have HB3:=aA.mk hb1;have HG3:=aA.mk hg;have HAT:=aA.mk hat;have hc3:w3.cell? ⟨O,1,none⟩=some vn:=(aD PX.out 1).trans rfl;have hz3:=bF PX.out 1;clear o5 hb1 hg hat)
    all_goals (go_wp2_with (fail);go_meet)
    all_goals
      have hmid:=met_mid HO.out HN.out hOB HR3.out PX.out HG3.out;refine ⟨_,⟨hmid.1⟩,⟨hmid.2.1⟩,⟨HB3.out.setCell hOB _⟩,⟨?_⟩,⟨?_⟩,⟨hmid.2.2⟩⟩
      · have hd:Kd.R Kd.bool 4 (w.drew.alloc (.cells (madeCells #[.int .i64 0] ns) 3)) base (fun _=>True) va acc:=Kd.nY (Kd.U6 HA.out) _
        have h1:=Kd.uK hd (Kd.jE HV.out) (by decide) HG3.out;exact Kd.dH (Kd.eX (Kd.dN h1 PX.out (by decide)) (fun k hk=>hk.2) _) (fun _ _=>trivial)
      · have h1:=HG3.out.size
        have h2:(w.drew.alloc (.cells (madeCells #[.int .i64 0] ns) 3)).heap.size=w.heap.size+1:=(by show (w.heap.push _).size=_;rw [Array.size_push]);have h3:=((Below.refl 0 w3).setCell (p:=⟨O,1,none⟩) (Nat.zero_le _) (.slice A1 L1 c1)).size;omega
  case rest =>
    obtain ⟨v1,HO1,HN1,HB1,HA1,HS1,iC⟩:=hcut;have hc2:wc.cell? ⟨O,2,none⟩=some va:=(aD HO1.out 2).trans rfl;have hc2a : ∀ (n:Nat) (o:Obj),((wc.drewN n).alloc o).cell? ⟨O,2,none⟩=some va:=fun n o=>(aD (bH (nI HO1.out n) o) 2).trans rfl;have hBX:wc.heap[B]?=some (.cells (JU a0 (ns:Int) a2 a3 A ln c) 31 (0,0)):=(iC.out B (gL HBX.out) (mZ HBX.out HO.out (by decide)) (Kd.lL HN.out.own HBX.out (by decide))).trans HBX.out;have hb3:wc.cell? ⟨B,3,none⟩=some (.int .i64 a3):=(aD hBX 3).trans rfl;have hsn : ∀ k,(Value.slice As s.length cs).ownBlock=some k→some k≠vn.ownBlock:=fun k hk e=>by
      obtain ⟨c2,h2⟩:=Kd.jE HS.out k hk;obtain ⟨c3,h3⟩:=Kd.jE HN.out.own k e.symm;rw [h2] at h3;injection h3 with h3;injection h3 with _ h3;exact absurd h3 (by decide)
    have HSC:=aA.mk (R_hold rfl HS.out HO.out (by decide) hsn iC.out);have HSR:=aA.mk (Kd.cO HSC.out);clear hsn;go_wp2_with (fail)
    have IV:aA (base≤wc.heap.size):=⟨by have:=HB1.out.size;have:=gL HO1.out;omega⟩;have HLA:aA ((acc.length+1) * 1≤140737488355328):=⟨by omega⟩;go_region_law (first|(go_simp;go_at_call 43;refine (fI.calls As cs s a3 b wc.drew (Kd.dJ HSR.out.2.2 (Below.refl _ _).drew) HSR.out.2.1 HAS.out).mono ?_;rintro e w5 ⟨rfl,hdr⟩;obtain ⟨nd,rfl⟩:=hdr)|(refine Kd.zC Kd.bool (w0:=w0) base ?_ (.tmp 16) (.tmp 21) 44 4 (.bool false) 1 rfl Try.underlying44 X_ rfl (by decide) (by omega) va acc b [.bool b] (fun _=>True) (fun _=>False) ?_ ?_ rfl (fun _ hk=>hk.elim) (fun _ _=>trivial) ?_ ?_ ?_ HLA.out ?_;rfl;(first|(simp [Act.eval,Act.put];done)|rfl);(first|(simp [Act.eval,Act.put];done)|rfl);(exact (by (with_reducible repeat (first|exact HA1.out|apply Kd.YG|apply Kd.U6))));(exact (by (with_reducible repeat (first|exact HB1.out|apply bB|apply bX))));(exact IV.out);intro v2 w3 o5 hb1 hg hat;obtain ⟨A1,L1,c1,rfl⟩:=vU o5;have PX:aA (w3.heap[O]?=some (.cells #[.int .i64 (ns:Int),v1,va] 46 (0,0))):=⟨(hg.block O (gL HO1.out) (Kd.lL HA1.out HO1.out (by decide))).trans HO1.out⟩;have HR3:=aA.mk o5;have HB3:=aA.mk hb1;have HG3:=aA.mk hg;have hc3:w3.cell? ⟨O,2,none⟩=some va:=(aD PX.out 2).trans rfl;have hz3:=bF PX.out 2;clear o5 hb1 hg hat))
    all_goals (go_wp2)
    all_goals (go_ret)
    all_goals
      have hneO : ∀ g∈gs ++ [w.heap.size],some g≠va.ownBlock∧g≠O∧g<wc.heap.size:=fun g hgm=>by
        obtain ⟨xs,hb⟩:=FY HN1.out hgm;exact ⟨Kd.lL HA1.out hb.hb (by decide),mZ hb.hb HO1.out (by decide),zT hb⟩
      refine ⟨rfl,w.heap.size,v1,_,Nat.le_refl _,dF PX.out 2 _ rfl,AB HN1.out ?_ ?_,?_,HB3.out.setCell hOB _,fun k hk hkO hkv hka=>?_,Nat.le_trans HS1.out (Nat.le_trans HG3.out.size ((Below.refl 0 w3).setCell (Nat.zero_le _) _).size)⟩
      · have h1:=Kd.vT (w1:=w3) (Kd.nR rfl HN1.out.own) (fun k hk hlt=>HG3.out.block k hlt (fun e=>by
          obtain ⟨c2,h2⟩:=Kd.jE HN1.out.own k hk.symm;obtain ⟨c3,h3⟩:=Kd.jE HA1.out k e.symm;rw [h2] at h3;injection h3 with h3;injection h3 with _ h3;exact absurd h3 (by decide)))
        exact Kd.dH (Kd.eX (Kd.dN (Kd.dH h1 (fun _ _=>trivial)) PX.out (by decide)) (fun k hk=>hk.2) _) (fun _ _=>trivial)
      · exact fun g hgm=>(Below.heap_setCell w3 ⟨O,2,none⟩ _ g (hneO g hgm).2.1).trans (HG3.out.block g (hneO g hgm).2.2 (hneO g hgm).1)
      · exact Kd.dH (Kd.eX (Kd.dN HR3.out PX.out (by decide)) (fun k hk=>hk.2) _) (fun _ _=>trivial)
      · exact (Below.heap_setCell w3 ⟨O,2,none⟩ _ k hkO).trans ((HG3.out.block k (Nat.lt_of_lt_of_le hk HS1.out) hka).trans (iC.out k hk hkO hkv))
end Go.Proofs.Ytapinbmkjkbkkaa.Mk
namespace Go.Proofs.Ytapinbmkjkbkkaa.Mk
open Go.RowKit Go.Proofs.aC.bE Go.Proofs.aC.bV Go.Proofs.aC.bY Lb
def RQ (ns:Nat) (p:Nat × Nat):Value:=.slice (some ⟨p.1,0,none⟩) p.2 ns
theorem aAc (ns:Nat) (p:Nat × Nat):(RQ ns p).oneCell'=true:=rfl
theorem CQ {e base:Nat} {W:World} {ok:Nat→Prop} {v:Value} {ns:Nat} {ps:List (Nat × Nat)}:(Kd.raw 1).R e W base ok v (ps.map fun p=>[RQ ns p])↔(Kd.scalar (RQ ns) (aAc ns)).R e W base ok v ps:=by
  unfold Kd.R kX;rw [List.length_map];refine and_congr Iff.rfl ⟨?_,?_⟩
  · rintro ⟨inner,ho,h1,h2⟩
    refine ⟨inner,ho,by rw [List.length_map] at h1;exact h1,fun j p hp=>?_⟩;have:=h2 j [RQ ns p] (by rw [List.getElem?_map,hp];rfl);exact this.1
  · rintro ⟨inner,ho,h1,h2⟩
    refine ⟨inner,ho,by rw [List.length_map];exact h1,fun j p hp=>?_⟩;rw [List.getElem?_map] at hp;obtain ⟨q,hq,rfl⟩:=Option.map_eq_some_iff.mp hp;have h3:(inner.drop (j * (Kd.raw 1).sz)).take (Kd.raw 1).sz=[RQ ns q]:=h2 j q hq;exact ⟨h3,by rw [h3];rfl,fun u hu=>by rw [h3] at hu;rw [List.mem_singleton.mp hu];rfl⟩
def V9 (gs:List Nat) (next:List (List Int)):List (Nat × Nat):=(gs.zip next).map fun p=>(p.1,p.2.length)
theorem IW (ns:Nat) (gs:List Nat) (next:List (List Int)):((gs.zip next).map fun p=>([.slice (some ⟨p.1,0,none⟩) p.2.length ns]:List Value))=(V9 gs next).map fun p=>[RQ ns p]:=by
  unfold V9 RQ;rw [List.map_map];rfl
theorem rowPs_get {gs:List Nat} {next:List (List Int)} {i g:Nat} {xs:List Int} (h1:gs[i]?=some g) (h2:next[i]?=some xs):(V9 gs next)[i]?=some (g,xs.length):=by
  unfold V9;rw [List.getElem?_map,(List.getElem?_zip_eq_some (z:=(g,xs))).mpr ⟨h1,h2⟩];rfl
theorem rowPs_set {gs:List Nat} {next:List (List Int)} {i g:Nat} {xs:List Int} (h1:gs[i]?=some g):(V9 gs next).set i (g,xs.length)=V9 gs (next.set i xs):=by
  unfold V9;apply List.ext_getElem?;intro j;rw [List.getElem?_map];by_cases hj:j=i
  · subst hj
    by_cases hl:j<next.length
    · have hg:j<gs.length:=(List.getElem?_eq_some_iff.mp h1).1
      rw [List.getElem?_set_self (by rw [List.length_map,List.length_zip];omega),(List.getElem?_zip_eq_some (z:=(g,xs))).mpr ⟨h1,List.getElem?_set_self hl⟩];rfl
    · rw [List.set_eq_of_length_le (by rw [List.length_map,List.length_zip];omega),List.set_eq_of_length_le (by omega),List.getElem?_map]
  · rw [List.getElem?_set_ne (by omega),List.getElem?_map]
    congr 1
    rw [List.zip_eq_zipWith,List.zip_eq_zipWith,List.getElem?_zipWith,List.getElem?_zipWith,List.getElem?_set_ne (by omega)]
def zU (W W':World):Prop:=W.heap.size≤W'.heap.size∧∀ (g:Nat) (o:Obj),W.heap[g]?=some o→(∀ cs t fr,o = .cells cs t fr→t≠46∧t≠27∧t≠4∧t≠3)→W'.heap[g]?=some o
theorem aAd {W W1 W2:World} (h:zU W W1) (k:zU W1 W2):zU W W2:=⟨Nat.le_trans h.1 k.1,fun g o hg ht=>k.2 g o (h.2 g o hg ht) ht⟩
theorem tT {W W1:World} (h:zU W W1) {g:Nat} {cs:Array Value} {t:TypeId} {fr:Nat × Nat} (hg:W.heap[g]?=some (.cells cs t fr)) (ht:t≠46∧t≠27∧t≠4∧t≠3):W1.heap[g]?=some (.cells cs t fr) :=
  h.2 g _ hg (fun _ _ _ e=>by injection e with _ e _;subst e;exact ht)
theorem QA {W W1:World} (hs:W.heap.size≤W1.heap.size) (S:Nat→Prop) (hS : ∀ g,S g→∃ cs t fr,W.heap[g]?=some (.cells cs t fr)∧(t=46∨t=27∨t=4∨t=3)) (hk : ∀ g,g<W.heap.size→¬ S g→W1.heap[g]?=W.heap[g]?):zU W W1:=by
  refine ⟨hs,fun g o hg ht=>(hk g (gL hg) fun hSg=>?_).trans hg⟩;obtain ⟨cs,t,fr,h1,h2⟩:=hS g hSg;rw [hg] at h1;injection h1 with h1;have h3:=ht cs t fr h1;rcases h2 with h2|h2|h2|h2
  · exact absurd h2 h3.1
  · exact absurd h2 h3.2.1
  · exact absurd h2 h3.2.2.1
  · exact absurd h2 h3.2.2.2
theorem YH {α:Type} {d:Kd α} {e base:Nat} {W W1:World} {ok:Nat→Prop} {v:Value} {xs:List α} (h:d.R e W base ok v xs) (hk:zU W W1) (ht : ∀ q,q∈e :: d.E→q≠46∧q≠27∧q≠4∧q≠3):d.R e W1 base ok v xs:=by
  refine Kd.dH (Kd.N8 (Kd.lZ h) fun k hk1=>?_) (fun _ hk=>hk.1);obtain ⟨_,_,_,q,hq,cells,hc⟩:=hk1;rw [hc];exact tT hk hc (ht q hq)
structure DS (W:World) (base O Sb Mb B ns:Nat) (ac:Array Value) (next:List (List Int)) (acc:List Bool) (n:Int):Prop where
  out : ∃ vn va gs,W.heap[O]?=some (.cells #[.int .i64 (ns:Int),vn,va] 46 (0,0))∧yB W base vn gs next ns∧Kd.R Kd.bool 4 W base (fun _=>True) va acc∧∀ g∈gs,Sb<g
  st:W.heap[Sb]?=some (.cells #[.int .i64 n] 3 (0,0))
  mb:W.heap[Mb]?=some (.cells #[.func (.func 46) #[] #[.pointer (some ⟨B,0,none⟩)]] 83 (0,0))
  bb:W.heap[B]?=some (.cells ac 31 (0,0))
theorem aAe {W W1:World} {base O Sb Mb B ns:Nat} {ac:Array Value} {next:List (List Int)} {acc:List Bool} {n:Int} (h:DS W base O Sb Mb B ns ac next acc n) (hb:Below W.heap.size W W1):DS W1 base O Sb Mb B ns ac next acc n:=by
  obtain ⟨⟨vn,va,gs,h1,h2,h3,h4⟩,h5,h6,h7⟩:=h;exact ⟨⟨vn,va,gs,bK h1 hb,AB h2 (Kd.fE h2.own hb) (fun g hg=>by obtain ⟨xs,hx⟩:=FY h2 hg;exact hb.block g (zT hx)),Kd.fE h3 hb,h4⟩,bK h5 hb,bK h6 hb,bK h7 hb⟩
theorem met_ds {W w0:World} {base O Sb Mb B ns:Nat} {a0 a2 a3:Int} {A:Option Addr} {ln c:Nat} {next:List (List Int)} {acc:List Bool} {n:Int} (h:DS W base O Sb Mb B ns (JU a0 (ns:Int) a2 a3 A ln c) next acc n) (As:Option Addr) (cs:Nat) (s:List Int) (b:Bool) (i:Int)
    (hs:Kd.R (Kd.int .u64) 115 W base (fun _=>True) (.slice As s.length cs) s) (has:fI.f s a3=some b) (hOB:base≤O) (hbw:Below base w0 W) (hns:ns≤4096) (hln:next.length≤1024) (hla:acc.length≤1024) :
    Calls Try.prog 48 #[.int .i64 i,.slice As s.length cs,.pointer (some ⟨O,0,none⟩),.pointer (some ⟨B,0,none⟩)] W fun e w'=>e = .returned (.bool true)∧DS w' base O Sb Mb B ns (JU a0 (ns:Int) a2 a3 A ln c) (next ++ [[]]) (acc ++ [b]) n∧Below base w0 w'∧zU W w':=by
  obtain ⟨⟨vn,va,gs,h1,h2,h3,h4⟩,h5,h6,h7⟩:=h;refine (met_calls base O B a0 a2 a3 A ln c ns vn va gs next acc As cs s b i w0 W h1 h7 h2 h3 hs has hOB hbw hns hln hla).mono ?_;rintro e w' ⟨he,g,vn',va',hg,g1,g2,g3,g4,g5,hsz⟩;have hty27:=Kd.jE h2.own;have hty4:=Kd.jE h3;have hkeep:zU W w':=QA hsz (fun k=>k=O∨some k=vn.ownBlock∨some k=va.ownBlock) (fun k hk=>by
    rcases hk with rfl|hk|hk
    · exact ⟨_,_,_,h1,.inl rfl⟩
    · obtain ⟨c1,e1⟩:=hty27 k hk.symm
      exact ⟨_,_,_,e1,.inr (.inl rfl)⟩
    · obtain ⟨c1,e1⟩:=hty4 k hk.symm
      exact ⟨_,_,_,e1,.inr (.inr (.inl rfl))⟩) (fun k hk hn=>g5 k hk (fun e=>hn (.inl e)) (fun e=>hn (.inr (.inl e))) (fun e=>hn (.inr (.inr e))))
  have hst:w'.heap[Sb]?=some (.cells #[.int .i64 n] 3 (0,0)):=(g5 Sb (gL h5) (mZ h5 h1 (by decide)) (Kd.lL h2.own h5 (by decide)) (Kd.lL h3 h5 (by decide))).trans h5;refine ⟨he,⟨⟨vn',va',gs ++ [g],g1,g2,g3,fun q hq=>?_⟩,hst,tT hkeep h6 (by decide),tT hkeep h7 (by decide)⟩,g4,hkeep⟩;rcases List.mem_append.mp hq with hq|hq
  · exact h4 q hq
  · rw [List.mem_singleton.mp hq]
    exact Nat.lt_of_lt_of_le (gL h5) hg
end Go.Proofs.Ytapinbmkjkbkkaa.Mk
namespace Go.Proofs.Ytapinbmkjkbkkaa.Mk
open Go.RowKit Go.Proofs.aC.bE Go.Proofs.aC.bV Go.Proofs.aC.bY Lb
def ArcPost (base O Sb Mb B ns:Nat) (ac:Array Value) (next:List (List Int)) (acc:List Bool) (n:Int) (bad:Bool) (w0 w:World) (e:Ending) (w':World):Prop :=
  Below base w0 w'∧zU w w'∧(if bad=true then e=xL else e = .returned (.tuple #[])∧DS w' base O Sb Mb B ns ac next acc n)
structure Arc1 (w w3:World) (base g ns:Nat) (xs:List Int) (w0:World):Prop where
  row:uR w3 base g xs ns
  keep : ∀ k,k<w.heap.size→k≠g→w3.heap[k]?=w.heap[k]?
  below:Below base w0 w3
  size:w.heap.size≤w3.heap.size
theorem nums_fill (xs:List Int) (ns:Nat) (tt:Int) (h:xs.length<ns):((nums .i64 (xs ++ List.replicate (ns - xs.length) 0)).toArray).setIfInBounds xs.length (.int .i64 tt)=(nums .i64 ((xs ++ [tt]) ++ List.replicate (ns - (xs ++ [tt]).length) 0)).toArray:=by
  obtain ⟨d,rfl⟩ : ∃ d,ns=xs.length+1+d:=⟨ns - (xs.length+1),by omega⟩;have e1:xs.length+1+d - xs.length=d+1:=(by omega);have e2:xs.length+1+d - (xs ++ [tt]).length=d:=(by simp);rw [e1,e2];apply Array.ext';rw [Array.toList_setIfInBounds];simp only [nums,List.map_append,List.map_cons,List.map_nil,List.map_replicate];rw [List.set_append_right _ _ (by simp),List.length_map,Nat.sub_self,List.replicate_succ,List.set_cons_zero,List.append_assoc];rfl
theorem arc_mid {w w0:World} {base g ns:Nat} {xs:List Int} (tt:Int) (h:uR w base g xs ns) (hlt:xs.length<ns) (hb:Below base w0 w) (hs:base≤w.heap.size) :
    Arc1 w ((w.drew.alloc (.cells #[.int .i64 tt] 3)).setCells g (0+xs.length * 1) [.int .i64 tt]) base g ns (xs ++ [tt]) w0:=by
  have e:(w.drew.alloc (.cells #[.int .i64 tt] 3)).setCells g (0+xs.length * 1) [.int .i64 tt]=(w.drew.alloc (.cells #[.int .i64 tt] 3)).setCell ⟨g,xs.length,none⟩ (.int .i64 tt):=by
    rw [Nat.zero_add,Nat.mul_one];rfl
  rw [e];refine ⟨⟨h.ge,by rw [List.length_append,List.length_singleton];omega,?_⟩,fun k hk hkg=>?_,?_,?_⟩
  · rw [←nums_fill xs ns tt hlt]
    exact dF (bH (mK h.hb) _) xs.length _ rfl
  · exact (Below.heap_setCell _ ⟨g,xs.length,none⟩ _ k hkg).trans (Below.heap_alloc w.drew _ k hk)
  · exact (hb.drew.alloc (show base≤w.drew.heap.size from hs) _).setCell h.ge _
  · have h2:=((Below.refl 0 (w.drew.alloc (.cells #[.int .i64 tt] 3))).setCell (p:=⟨g,xs.length,none⟩) (Nat.zero_le _) (.int .i64 tt)).size
    have h3:(w.drew.alloc (.cells #[.int .i64 tt] 3)).heap.size=w.heap.size+1:=(by show (w.heap.push _).size=_;rw [Array.size_push]);omega
theorem IX {w:World} {base g ns:Nat} {xs:List Int} (h:uR w base g xs ns) (o:Obj):uR (w.drew.alloc o) base g xs ns:=⟨h.ge,h.le,bH (mK h.hb) o⟩
theorem row_room {w:World} {base g ns:Nat} {xs:List Int} (h:uR w base g xs ns) (hlt:xs.length<ns):(w.cell? ⟨g,0+xs.length * 1+0,none⟩).isSome=true∧w.frozen? ⟨g,0+xs.length * 1+0,none⟩=false:=by
  refine ⟨?_,bF h.hb _⟩;have hc:=aD h.hb (0+xs.length * 1+0);rw [hc];have hl:(nums .i64 (xs ++ List.replicate (ns - xs.length) 0)).toArray.size=ns:=(by simp [nums];omega);simp [nums];omega
theorem arc_done {w w3 w0:World} {base O Sb Mb B ns G cap g i:Nat} {ac:Array Value} {va:Value} {gs:List Nat} {next:List (List Int)} {acc:List Bool} {n:Int} {xs:List Int} {tt:Int}
    (hO:w.heap[O]?=some (.cells #[.int .i64 (ns:Int),.slice (some ⟨G,0,none⟩) next.length cap,va] 46 (0,0))) (hN:yB w base (.slice (some ⟨G,0,none⟩) next.length cap) gs next ns) (hA:Kd.R Kd.bool 4 w base (fun _=>True) va acc) (hSg : ∀ g∈gs,Sb<g)
    (hS:w.heap[Sb]?=some (.cells #[.int .i64 n] 3 (0,0))) (hM:w.heap[Mb]?=some (.cells #[.func (.func 46) #[] #[.pointer (some ⟨B,0,none⟩)]] 83 (0,0))) (hB:w.heap[B]?=some (.cells ac 31 (0,0)))
    (hg:gs[i]?=some g) (hi:next[i]?=some xs) (h3:Arc1 w w3 base g ns (xs ++ [tt]) w0) :
    DS (w3.setCell ⟨G,i,none⟩ (.slice (some ⟨g,0,none⟩) (xs.length+1) ns)) base O Sb Mb B ns ac (next.set i (xs ++ [tt])) acc n∧Below base w0 (w3.setCell ⟨G,i,none⟩ (.slice (some ⟨g,0,none⟩) (xs.length+1) ns))∧zU w (w3.setCell ⟨G,i,none⟩ (.slice (some ⟨g,0,none⟩) (xs.length+1) ns)):=by
  have hgb:=(hN.rows i g xs hg hi);obtain ⟨cG,hG⟩:=Kd.jE hN.own G rfl;have hGb:base≤G:=Kd.sW hN.own G rfl;have hgG:g≠G:=mZ hgb.hb hG (by decide);have hkeep : ∀ k,k<w.heap.size→k≠g→k≠G→(w3.setCell ⟨G,i,none⟩ (.slice (some ⟨g,0,none⟩) (xs.length+1) ns)).heap[k]?=w.heap[k]?:=fun k h1 h2 h4=>(Below.heap_setCell _ ⟨G,i,none⟩ _ k h4).trans (h3.keep k h1 h2);have hown:=hN.own;rw [IW,CQ] at hown;have hown3:(Kd.scalar (RQ ns) (aAc ns)).R 27 w3 base (fun _=>True) (.slice (some ⟨G,0,none⟩) next.length cap) (V9 gs next) :=
    Kd.dH (Kd.vT (Kd.nR rfl hown) (fun k hk hlt=>h3.keep k hlt (fun e=>by
      have:G=k:=(by simpa [Value.ownBlock] using hk.symm);omega))) (fun _ _=>trivial)
  have hput:=Kd.R_putn hown3 (i:Int) (g,(xs ++ [tt]).length);rw [Int.toNat_natCast,rowPs_set hg,← CQ,← IW,show RQ ns (g,(xs ++ [tt]).length) = .slice (some ⟨g,0,none⟩) (xs.length+1) ns by simp [RQ]] at hput;refine ⟨⟨⟨_,va,gs,(hkeep O (gL hO) (mZ hgb.hb hO (by decide)).symm (mZ hO hG (by decide))).trans hO,⟨hput,by rw [hN.len,List.length_set],fun j g' xs' h1 h2=>?_,hN.nodup⟩,?_,hSg⟩,?_,?_,?_⟩,h3.below.setCell hGb _,?_⟩
  · by_cases hj:j=i
    · subst hj
      rw [hg] at h1;obtain rfl:=Option.some.inj h1;rw [List.getElem?_set_self (List.getElem?_eq_some_iff.mp hi).1] at h2;obtain rfl:=Option.some.inj h2;exact yU h3.row (Below.heap_setCell _ ⟨G,j,none⟩ _ g hgG)
    · rw [List.getElem?_set_ne (by omega)] at h2
      have hb:=hN.rows j g' xs' h1 h2;have hne:g'≠g:=by
        rintro rfl;obtain ⟨l1,e1⟩:=List.getElem?_eq_some_iff.mp h1;obtain ⟨l2,e2⟩:=List.getElem?_eq_some_iff.mp hg;exact hj ((List.getElem_inj hN.nodup).mp (e1.trans e2.symm))
      exact yU hb (hkeep g' (zT hb) hne (mZ hb.hb hG (by decide)))
  · refine Kd.dH (Kd.vT (Kd.nR rfl hA) (fun k hk hlt=>hkeep k hlt (fun e=>?_) (fun e=>?_))) (fun _ _=>trivial)
    · exact Kd.lL hA hgb.hb (by decide) (by rw [←e];exact hk)
    · exact Kd.lL hA hG (by decide) (by rw [←e];exact hk)
  · exact (hkeep Sb (gL hS) (by have:=hSg g (List.mem_of_getElem? hg);omega) (mZ hS hG (by decide))).trans hS
  · exact (hkeep Mb (gL hM) (mZ hgb.hb hM (by decide)).symm (mZ hM hG (by decide))).trans hM
  · exact (hkeep B (gL hB) (mZ hgb.hb hB (by decide)).symm (mZ hB hG (by decide))).trans hB
  · refine QA (Nat.le_trans h3.size ((Below.refl 0 w3).setCell (Nat.zero_le _) _).size) (fun k=>k=g∨k=G) (fun k hk=>?_) (fun k h1 h2=>hkeep k h1 (fun e=>h2 (.inl e)) (fun e=>h2 (.inr e)))
    rcases hk with rfl|rfl
    · exact ⟨_,_,_,hgb.hb,.inr (.inr (.inr rfl))⟩
    · exact ⟨_,_,_,hG,.inr (.inl rfl)⟩
theorem ds_count {w w0:World} {base O Sb Mb B ns:Nat} {ac:Array Value} {next:List (List Int)} {acc:List Bool} {n n':Int} (h:DS w base O Sb Mb B ns ac next acc n) (hSB:base≤Sb) (hb:Below base w0 w) :
    DS (w.setCell ⟨Sb,0,none⟩ (.int .i64 n')) base O Sb Mb B ns ac next acc n'∧Below base w0 (w.setCell ⟨Sb,0,none⟩ (.int .i64 n'))∧zU w (w.setCell ⟨Sb,0,none⟩ (.int .i64 n')):=by
  obtain ⟨⟨vn,va,gs,hO,hN,hA,hSg⟩,hS,hM,hB⟩:=h;refine ⟨⟨⟨vn,va,gs,bR hO (mZ hO hS (by decide)) _,AB hN ?_ (fun g hg=>Below.heap_setCell _ ⟨Sb,0,none⟩ _ g (by have:=hSg g hg;show g≠Sb;omega)),?_,hSg⟩,dF hS 0 _ rfl,bR hM (mZ hM hS (by decide)) _,bR hB (mZ hB hS (by decide)) _⟩,hb.setCell hSB _,?_⟩
  · exact Kd.dH (Kd.eX (Kd.dN hN.own hS (by decide)) (fun k hk=>hk.2) _) (fun _ _=>trivial)
  · exact Kd.dH (Kd.eX (Kd.dN hA hS (by decide)) (fun k hk=>hk.2) _) (fun _ _=>trivial)
  · refine QA ((Below.refl 0 w).setCell (Nat.zero_le _) _).size (fun k=>k=Sb) (fun k hk=>?_) (fun k _ h2=>Below.heap_setCell _ ⟨Sb,0,none⟩ _ k h2)
    subst hk;exact ⟨_,_,_,hS,.inr (.inr (.inr rfl))⟩
theorem arc_law {w w0:World} {base g ns:Nat} {xs:List Int} {tt:Int} {ops:Array Oper} {o:Oper} {a:Act} {K:Act→World→Prop} {Q:Exit→Act→World→Prop} {E:Prop} (hgd:o.guard=none) (s x:Operand) (hop:o.op=Op.call { callee:=Callee.builtin Builtin.append,args:=#[s,x],argTypes:=#[27,27] })
    (hs:a.eval s = .slice (some ⟨g,0,none⟩) xs.length ns) (hx:a.eval x = .slice (some ⟨w.heap.size,0,none⟩) 1 1) (hbuf:uR w base g xs ns) (hlt:xs.length<ns) (hb:Below base w0 w) (hbs:base≤w.heap.size)
    (hK : ∀ w3,Arc1 w w3 base g ns (xs ++ [tt]) w0→K (a.put o.dst (.slice (some ⟨g,0,none⟩) (xs.length+1) ns)) w3) :
    if Region.wanted o (yielded ops a.tmps)=true then Oper.wp Try.prog o a (w.drew.alloc (.cells #[.int .i64 tt] 3)) K Q else E:=by
  obtain ⟨i3,hi3,hzz⟩:=Option.map_eq_some_iff.1 info3;simp only [Prod.mk.injEq] at hzz;refine step_append_room hgd s x 27 hop 3 i3 1 Try.underlying27 hi3 hzz.2.1 g 0 xs.length ns hs ⟨w.heap.size,0,none⟩ 1 1 [.int .i64 tt] hx rfl (fun j u hj=>?_) (fun u hu=>by rw [List.mem_singleton.mp hu];rfl) (by omega) (fun j hj=>?_) (hK _ (arc_mid tt hbuf hlt hb hbs))
  · have e:=dX w.drew (.cells #[.int .i64 tt] 3)
    obtain ⟨hj1,hj2⟩:=List.getElem?_eq_some_iff.mp hj;obtain rfl:j=0:=(by simpa using hj1);rw [add_plain];exact (aD e 0).trans (by simpa using hj2)
  · obtain rfl:j=0:=by simpa using hj
    exact row_room (IX hbuf (.cells #[.int .i64 tt] 3)) hlt
set_option maxHeartbeats 4000000 in
theorem TK (base O Sb Mb B ns:Nat) (a0 a2 a3:Int) (A:Option Addr) (ln c:Nat) (next:List (List Int)) (acc:List Bool) (n:Int) (i:Nat) (xs:List Int) (sy tt:Int) (anew:Bool) (w0 w:World)
    (h:DS w base O Sb Mb B ns (JU a0 (ns:Int) a2 a3 A ln c) next acc n) (hi:next[i]?=some xs) (hlt:xs.length<ns) (hSB:base≤Sb) (hbw:Below base w0 w) (hns:ns≤4096) (hln:next.length≤1024) (hn0:0≤n) (hn1:n≤1024) :
    Calls Try.prog 49 #[.int .i64 (i:Int),.int .i64 sy,.int .i64 tt,.bool anew,.pointer (some ⟨O,0,none⟩),.pointer (some ⟨Sb,0,none⟩),.pointer (some ⟨Mb,0,none⟩)] w
      (ArcPost base O Sb Mb B ns (JU a0 (ns:Int) a2 a3 A ln c) (next.set i (xs ++ [tt])) acc (if anew=true then n+1 else n) (anew && qQ ns (n+1)) w0 w):=by
  obtain ⟨⟨vn,va,gs,hO,hN,hA,hSg⟩,hS,hM,hB⟩:=h;have hil:i<next.length:=(List.getElem?_eq_some_iff.mp hi).1;have hig:i<gs.length:=(by rw [hN.len];exact hil);obtain ⟨g,hg⟩ : ∃ g,gs[i]?=some g:=⟨gs[i],List.getElem?_eq_getElem hig⟩;have hbuf:=hN.rows i g xs hg hi;have hown:=hN.own;rw [IW,CQ] at hown;have hpl:(V9 gs next).length=next.length:=(by simp [V9,List.length_zip,hN.len]);obtain ⟨G,cap,rfl,hG1,hG2,cells,hG3⟩:=Kd.uL hown (by rw [hpl];omega);have hcell:=Kd.rE (0,0) hown (i:Int) (by omega) (by rw [hpl];omega);rw [Int.toNat_natCast,show fF (0,0) (V9 gs next) (i:Int)=(g,xs.length) by unfold fF;rw [Int.toNat_natCast,List.getD_eq_getElem?_getD,rowPs_get hg hi];rfl] at hcell;rw [hpl] at hO hN;have hc1:w.cell? ⟨O,1,none⟩=some (.slice (some ⟨G,0,none⟩) next.length cap):=(aD hO 1).trans rfl;have hc2:w.cell? ⟨G,i,none⟩=some (.slice (some ⟨g,0,none⟩) xs.length ns):=hcell.1;have hz2:=hcell.2;have hO1 : ∀ o:Obj,(w.alloc o).cell? ⟨O,1,none⟩=some (.slice (some ⟨G,0,none⟩) next.length cap):=fun o=>(aD (bH hO o) 1).trans rfl;have hO2 : ∀ o:Obj,(w.alloc o).cell? ⟨G,i,none⟩=some (.slice (some ⟨g,0,none⟩) xs.length ns):=fun o=>bJ (aN (Below.refl _ _) o) hc2;have HBS:=aA.mk (show base≤w.heap.size by omega);have HD1:aA (∀ w3,Arc1 w w3 base g ns (xs ++ [tt]) w0→w3.cell? ⟨O,1,none⟩=some (.slice (some ⟨G,0,none⟩) next.length cap)):=⟨fun w3 h3=>(aD ((h3.keep O (gL hO) (mZ hbuf.hb hO (by decide)).symm).trans hO) 1).trans rfl⟩;have HD2:aA (∀ w3,Arc1 w w3 base g ns (xs ++ [tt]) w0→w3.cell? ⟨G,i,none⟩=some (.slice (some ⟨g,0,none⟩) xs.length ns)∧w3.frozen? ⟨G,i,none⟩=false):=⟨fun w3 h3=>by
    have e:=(h3.keep G hG2 (mZ hbuf.hb hG3 (by decide)).symm).trans hG3;exact ⟨((aD e i).trans (aD hG3 i).symm).trans hcell.1,bF e i⟩⟩
  have HBF:=aA.mk hbuf;have HLT:=aA.mk hlt;have HO:=aA.mk hO;have HN:=aA.mk hN;have HA:=aA.mk hA;have HSG:=aA.mk hSg;have HS:=aA.mk hS;have HM:=aA.mk hM;have HB:=aA.mk hB;have HG:=aA.mk hg;have HI:=aA.mk hi;have HBW:=aA.mk hbw;have HSB:=aA.mk hSB;clear hO hN hA hSg hS hM hB hg hi hbw hSB hbuf hlt hcell hown hpl hig hG1 hG2 hG3;go_enter Try.func49,Try.ntmps49;go_upto_region 0 with (fail)
  go_cut [11,12,13,14,15,16,17,18,19,20,21,22] (fun _ _ _ _ _ _ _ _ _ _ _ _ wc=>aA (DS wc base O Sb Mb B ns (JU a0 (ns:Int) a2 a3 A ln c) (next.set i (xs ++ [tt])) acc n)∧aA (Below base w0 wc)∧aA (zU w wc))
  case first =>
    go_region_law (refine arc_law (w:=w) (w0:=w0) (base:=base) (g:=g) (ns:=ns) (xs:=xs) (tt:=tt) rfl (.tmp 18) (.tmp 20) rfl ?_ ?_ HBF.out HLT.out HBW.out HBS.out ?_;rfl;rfl;intro w3 hA3;have HA3:=aA.mk hA3;clear hA3;have hd1:w3.cell? ⟨O,1,none⟩=some (.slice (some ⟨G,0,none⟩) next.length cap):=HD1.out w3 HA3.out;have hd2:w3.cell? ⟨G,i,none⟩=some (.slice (some ⟨g,0,none⟩) xs.length ns):=(HD2.out w3 HA3.out).1;have hd3:w3.frozen? ⟨G,i,none⟩=false:=(HD2.out w3 HA3.out).2)
    all_goals (go_wp2_with (fail);go_meet)
    all_goals
      have hdone:=arc_done HO.out HN.out HA.out HSG.out HS.out HM.out HB.out HG.out HI.out HA3.out;exact ⟨⟨hdone.1⟩,⟨hdone.2.1⟩,⟨hdone.2.2⟩⟩
  case rest =>
    obtain ⟨HD,HBW2,HK⟩:=hcut;clear hc1 hc2 hz2 hO1 hO2 hil HD1 HD2 HO HN HA HSG HS HM HB HG HI HBF HLT HBS;cases anew with
    |false =>
      go_wp2;go_end0
      exact ⟨HBW2.out,HK.out,rfl,HD.out⟩
    |true =>
      have hs0:wc.cell? ⟨Sb,0,none⟩=some (.int .i64 n):=(aD HD.out.st 0).trans rfl;have hs1:=bF HD.out.st 0;have hcnt:=ds_count (n':=n+1) HD.out HSB.out HBW2.out;have HD2:=aA.mk hcnt.1;have HBW3:=aA.mk hcnt.2.1;have RI:=aA.mk (aAd HK.out hcnt.2.2);have hm0:(wc.setCell ⟨Sb,0,none⟩ (.int .i64 (n+1))).cell? ⟨Mb,0,none⟩=some (.func (.func 46) #[] #[.pointer (some ⟨B,0,none⟩)]):=(aD HD2.out.mb 0).trans rfl;have hs2:(wc.setCell ⟨Sb,0,none⟩ (.int .i64 (n+1))).cell? ⟨Sb,0,none⟩=some (.int .i64 (n+1)):=(aD HD2.out.st 0).trans rfl;clear hcnt;go_wp2_with (fail)
      go_at_call 46;refine (PZ B a0 ns a2 a3 A ln c (n+1) _ HD2.out.bb).mono ?_;rintro e w5 ⟨he,rfl⟩;cases jM:qQ ns (n+1) with
      |true =>
        rw [jM] at he;obtain rfl:e=xL:=he;clear jM;go_wp2;exact ⟨rfl,HBW3.out,RI.out,rfl⟩
      |false =>
        rw [jM] at he;obtain rfl:e = .returned (.tuple #[]):=he;have HMN:=aA.mk jM;clear jM;go_wp2;go_end0
        refine ⟨HBW3.out,RI.out,?_⟩;rw [if_neg (by simp [HMN.out])];exact ⟨rfl,HD2.out⟩
end Go.Proofs.Ytapinbmkjkbkkaa.Mk
namespace Go.Proofs.Ytapinbmkjkbkkaa.Mk
open Go.RowKit Go.Proofs.aC.bE Go.Proofs.aC.bV Go.Proofs.aC.bY Lb
theorem info80_:(Try.prog.info? 80).map (fun i=>(i.zero,i.size,i.bytes))=some (some (.slice none 0 0),1,24):=by kernel_rfl
abbrev BD:Kd (List Int):=Kd.slice 115 (Kd.int .u64)
theorem W9 {w w':World} {b:Nat} {l:List (List UInt8)} (h:jU w b l) (hk:zU w w'):jU w' b l:=by
  obtain ⟨D,⟨es,clock,h1,h2⟩,h3⟩:=h;exact ⟨D,⟨es,clock,hk.2 b _ h1 (fun _ _ _ e=>by cases e),h2⟩,h3⟩
theorem QB {w:World} {b:Nat} {l:List (List UInt8)} (h:jU w b l) {g:Nat} {cs:Array Value} {t:TypeId} {fr:Nat × Nat} (hg:w.heap[g]?=some (.cells cs t fr)):g≠b:=by
  obtain ⟨D,⟨es,clock,h1,h2⟩,h3⟩:=h;rintro rfl;rw [h1] at hg;cases hg
theorem QC {α:Type} {d:Kd α} {e base:Nat} {W W1:World} {ok:Nat→Prop} {v:Value} {xs:List α} {b:Nat} {l:List (List UInt8)} (h:d.R e W base ok v xs) (hn:jU W b l) (hg:W.grownBy W1 (some b)):d.R e W1 base ok v xs :=
  Kd.dH (Kd.R_grown (Kd.lZ h) hg (fun k hk e=>by
    obtain ⟨_,_,_,q,hq,cells,hc⟩:=hk;exact QB hn hc (Option.some.inj e))) (fun _ hk=>hk.1)
def aAf (W W1:World):Prop:=W.heap.size≤W1.heap.size∧∀ (g:Nat) (cs:Array Value) (t:TypeId) (fr:Nat × Nat),t≠80→W.heap[g]?=some (.cells cs t fr)→W1.heap[g]?=some (.cells cs t fr)
theorem aAg {W W1:World} (h:Below W.heap.size W W1):aAf W W1:=⟨h.size,fun g _ _ _ _ hg=>(h.block g (gL hg)).trans hg⟩
theorem moveC_map {W W1:World} {b:Nat} {l:List (List UInt8)} (hn:jU W b l) (hg:W.grownBy W1 (some b)):aAf W W1 :=
  ⟨hg.size,fun _ _ _ _ _ h=>eZ h hg (fun e=>QB hn h (Option.some.inj e))⟩
theorem moveC_sets {W W1:World} {base:Nat} {v:Value} {sets:List (List Int)} (hR:BD.R 80 W base (fun _=>True) v sets) (hg:W.grownBy W1 v.ownBlock):aAf W W1 :=
  ⟨hg.size,fun g cs t fr ht h=>eZ h hg (fun e=>by
    obtain ⟨c,hc⟩:=Kd.jE hR g e.symm;rw [h] at hc;injection hc with hc;injection hc with _ hc;exact ht hc)⟩
theorem ds_move {W W1:World} {base O Sb Mb B ns:Nat} {ac:Array Value} {next:List (List Int)} {acc:List Bool} {n:Int} (h:DS W base O Sb Mb B ns ac next acc n) (hm:aAf W W1):DS W1 base O Sb Mb B ns ac next acc n:=by
  obtain ⟨⟨vn,va,gs,h1,h2,h3,h4⟩,h5,h6,h7⟩:=h;refine ⟨⟨vn,va,gs,hm.2 _ _ _ _ (by decide) h1,AB h2 ?_ (fun g hg=>?_),?_,h4⟩,hm.2 _ _ _ _ (by decide) h5,hm.2 _ _ _ _ (by decide) h6,hm.2 _ _ _ _ (by decide) h7⟩
  · refine Kd.dH (Kd.N8 (Kd.lZ h2.own) fun k hk=>?_) (fun _ hk=>hk.1)
    obtain ⟨_,_,_,q,hq,cells,hc⟩:=hk;rw [hc];obtain rfl:q=27:=(by simpa [Kd.raw] using hq);exact hm.2 _ _ _ _ (by decide) hc
  · obtain ⟨xs,hx⟩:=FY h2 hg
    rw [hx.hb];exact hm.2 _ _ _ _ (by decide) hx.hb
  · refine Kd.dH (Kd.N8 (Kd.lZ h3) fun k hk=>?_) (fun _ hk=>hk.1)
    obtain ⟨_,_,_,q,hq,cells,hc⟩:=hk;rw [hc];obtain rfl:q=4:=(by simpa [Kd.bool,Kd.scalar] using hq);exact hm.2 _ _ _ _ (by decide) hc
structure SI (w0 wr:World) (base X O Sb Mb B ns:Nat) (ac:Array Value) (next:List (List Int)) (acc:List Bool) (n:Int):Prop where
  bx:wr.heap[X]?=some (.cells ac 31 (0,0))
  ds:DS wr base O Sb Mb B ns ac next acc n
  bl:Below base w0 wr
  sz:base≤wr.heap.size
section
variable {w0 wr w2 : World} {base X O Sb Mb B ns : Nat} {ac : Array Value} {next : List (List Int)} {acc : List Bool} {n : Int}
theorem YI (h:SI w0 wr base X O Sb Mb B ns ac next acc n) (hm:aAf wr w2) (hb:Below base w0 w2):SI w0 w2 base X O Sb Mb B ns ac next acc n :=
  ⟨hm.2 _ _ _ _ (by decide) h.bx,ds_move h.ds hm,hb,Nat.le_trans h.sz hm.1⟩
theorem yC (h:SI w0 wr base X O Sb Mb B ns ac next acc n) (hb:Below wr.heap.size wr w2):SI w0 w2 base X O Sb Mb B ns ac next acc n :=
  YI h (aAg hb) (bU h.bl h.sz hb)
theorem si_map {b:Nat} {l:List (List UInt8)} (h:SI w0 wr base X O Sb Mb B ns ac next acc n) (hn:jU wr b l) (hg:wr.grownBy w2 (some b)) (hb:base≤b):SI w0 w2 base X O Sb Mb B ns ac next acc n :=
  YI h (moveC_map hn hg) (yD h.bl (some b) h.sz hg (fun q hq=>by injection hq;omega))
end
theorem R_single {w:World} {base:Nat} {v:Value} {s:List Int} (hR:Kd.R (Kd.int .u64) 115 w base (fun _=>True) v s) (hb:base≤w.heap.size):BD.R 80 (w.alloc (.cells #[v] 80)) base (fun _=>True) (.slice (some ⟨w.heap.size,0,none⟩) 1 1) [s]:=by
  refine ⟨fun _ _=>trivial,[v],⟨rfl,.inr ⟨w.heap.size,1,#[v],rfl,hb,dX _ _,Nat.le_refl _,by unfold maxLen;omega,rfl,rfl⟩⟩,rfl,fun j p hj=>?_⟩;obtain ⟨hj1,hj2⟩:=List.getElem?_eq_some_iff.mp hj;obtain rfl:j=0:=(by simpa using hj1);obtain rfl:s=p:=(by simpa using hj2);refine ⟨v,rfl,Kd.dH (Kd.nY (Kd.lZ hR) _) (fun k hk=>⟨trivial,fun e=>?_⟩)⟩;have h1:=hk.2.2.1;have:k=w.heap.size:=(by simpa [Value.ownBlock] using e);omega
def SubPost (base O Sb Mb B ns:Nat) (ac:Array Value) (w0:World) (o:Option (List (List Int) × List Bool)) (e:Ending) (W:World):Prop :=
  match o with
  |none=>e=xL∧Below base w0 W
  |some p=>e = .returned (.tuple #[])∧(∃ n,DS W base O Sb Mb B ns ac p.1 p.2 n)∧Below base w0 W
structure SZ (i:Nat) (sets:List (List Int)) (ks:List (List UInt8)) (next:List (List Int)) (acc:List Bool) (n:Int):Prop where
  hk:ks.length=sets.length
  hi:i≤sets.length
  hs:sets.length≤1024
  hn:n=(sets.length:Int)
  hne:next.length=i
  hac:acc.length=i
theorem YJ {α:Type} {l:List α} {i:Nat} {x z:α} (h:l[i]?=some x):l.getD i z=x:=by rw [List.getD_eq_getElem?_getD,h];rfl
theorem set_at {W:World} {base:Nat} {g cap i:Nat} {n:Nat} {sets:List (List Int)} {S:List Int} (h:BD.R 80 W base (fun _=>True) (.slice (some ⟨g,0,none⟩) n cap) sets) (hi:sets[i]?=some S) :
    ∃ As cs,W.cell? ⟨g,i,none⟩=some (.slice As S.length cs)∧S.length≤cs∧Kd.R (Kd.int .u64) 115 W base (fun _=>True) (.slice As S.length cs) S:=by
  obtain ⟨hn,_,_⟩:=Kd.cO h;have hl:=(List.getElem?_eq_some_iff.mp hi).1;obtain ⟨c,hc1,⟨v,rfl,hv⟩,hc2,_⟩:=Kd.QD h ([]:List Int) (i:Int) (by omega) (by omega);rw [Int.toNat_natCast,YJ hi] at hv;obtain ⟨As,cs,rfl⟩:=Kd.dY hv;have:=hc2 0 _ rfl;rw [Int.toNat_natCast] at this;have e:i * BD.sz+0=i:=(by show i * 1+0=i;omega);rw [e] at this;exact ⟨As,cs,this,(Kd.cO hv).2.1,Kd.dH hv (fun _ _=>trivial)⟩
structure SZ2 (ns i j:Nat) (sets:List (List Int)) (ks:List (List UInt8)) (S row:List Int) (n:Int):Prop where
  hk:ks.length=sets.length
  hi:sets[i]?=some S
  hs:sets.length≤1024
  hn:n=(sets.length:Int)
  hr:row.length=j
  hj:j≤ns
theorem aAh {α:Type} {l:List α} {i:Nat} (h:l.length=i) (x y:α):(l ++ [x]).set i y=l ++ [y]:=by subst h;simp
set_option maxRecDepth 100000 in
set_option maxHeartbeats 12800000 in
theorem RU (k base O Sb Mb B ns:Nat) (a0 a2 a3:Int) (A:Option Addr) (c:Nat) (l:List gV) (w0 W:World)
    (hD:DS W base O Sb Mb B ns (JU a0 (ns:Int) a2 a3 A l.length c) [] [] 1) (hb:Below base w0 W) (hOB:base≤O) (hSB:base≤Sb) (hw0:w0.heap.size≤base) (hr:Kd.C xP w0 A l.length l) (hc:l.length≤c) (hns:ns≤4096)
    (b0 b1 s0:List Int) (key:ByteArray) (h1:jZ.f a0=some b0) (h2:dM.f b0 a2=some b1) (h3:bP.f k a0 ns a2 a3 l b1=some s0) (h4:fD.f k s0=some key) (hks:key.size≤4096)
    (o:Option (List (List Int) × List Bool)) (h5:l9 k a0 ns a2 a3 l k 0 [s0] [nk key] [] []=some o) :
    Calls Try.prog 47 #[.agg #[.int .i64 a0,.int .i64 (ns:Int),.int .i64 a2,.int .i64 a3,.slice A l.length c],.func (.func 48) #[] #[.pointer (some ⟨O,0,none⟩),.pointer (some ⟨B,0,none⟩)],.func (.func 49) #[] #[.pointer (some ⟨O,0,none⟩),.pointer (some ⟨Sb,0,none⟩),.pointer (some ⟨Mb,0,none⟩)]] W
      (SubPost base O Sb Mb B ns (JU a0 (ns:Int) a2 a3 A l.length c) w0 o):=by
  have hm:l.length≤9223372036854775807:=hr.2.1;have hsz:base≤W.heap.size:=(by have:=gL hD.st;omega);have HR:=aA.mk hr;have HC:=aA.mk hc;have HB:=aA.mk hb;have HD:=aA.mk hD;have HW:=aA.mk hw0;have H1:=aA.mk h1;have H2:=aA.mk h2;have H3:=aA.mk h3;have H4:=aA.mk h4;have H5:=aA.mk h5;have HKS:=aA.mk hks;have HNS:=aA.mk hns;have HOB:=aA.mk hOB;have HSB:=aA.mk hSB;have HSI0:aA (SI w0 (W.alloc (.cells #[.int .i64 a0,.int .i64 (ns:Int),.int .i64 a2,.int .i64 a3,.slice A l.length c] 31)) base W.heap.size O Sb Mb B ns (JU a0 (ns:Int) a2 a3 A l.length c) [] [] 1) :=
    ⟨⟨dX _ _,aAe hD (aN (Below.refl _ _) _),hb.alloc hsz _,by simp;omega⟩⟩
  clear hr hc hb hD hw0 h1 h2 h3 h4 h5 hks hns hOB hSB;go_enter Try.func47,Try.ntmps47;go_wp2_with (fail)
  go_at_call 54;refine (jZ.calls a0 b0 _ H1.out).mono ?_;rintro e w1 ⟨v0,rfl,o5,hb1⟩;have HSI1:=aA.mk (yC HSI0.out hb1);have HBW1:aA (Below W.heap.size W w1):=⟨bU (aN (Below.refl _ _) _) (by simp) hb1⟩;have HR1:=aA.mk (Kd.iH o5 (show W.heap.size≤_ by simp));have HGT1:aA (W.heap.size<w1.heap.size):=⟨gL HSI1.out.bx⟩;obtain ⟨A0,c0,rfl⟩:=Kd.dY o5;have hc2:w1.cell? ⟨W.heap.size,2,none⟩=some (.int .i64 a2):=(aD HSI1.out.bx 2).trans rfl;clear o5 hb1 HSI0;go_wp2_with (fail)
  go_at_call 40;refine (dM.calls (fun k_=>some k_=(Value.slice A0 b0.length c0).ownBlock) (.slice A0 b0.length c0) b0 a2 b1 W _ HBW1.out (Kd.nR rfl HR1.out) H2.out).mono ?_;rintro e w2 ⟨rfl,hR2,hb2,hk2⟩;have qJ:=aA.mk (oH HSI1.out.bx hk2 (Kd.lL HR1.out HSI1.out.bx (by decide)));have YK:aA (SI w0 w2 base W.heap.size O Sb Mb B ns (JU a0 (ns:Int) a2 a3 A l.length c) [] [] 1):=⟨⟨qJ.out,aAe HD.out hb2,bU HB.out hsz hb2,Nat.le_trans hsz hb2.size⟩⟩;have hlen:b1.length=b0.length:=(by obtain ⟨_,_,e⟩:=Kd.dY hR2;injection e with _ e _;exact e.symm);obtain ⟨hrd1,aAi,aAj⟩:=Kd.cO hR2;have OO:=aA.mk aAj;have HL2:=aA.mk aAi;rw [←hlen] at HL2;rw [←hlen];have hd0:w2.cell? ⟨W.heap.size,0,none⟩=some (.int .i64 a0):=(aD YK.out.bx 0).trans rfl;have hd1:w2.cell? ⟨W.heap.size,1,none⟩=some (.int .i64 (ns:Int)):=(aD YK.out.bx 1).trans rfl;have hd2:w2.cell? ⟨W.heap.size,2,none⟩=some (.int .i64 a2):=(aD YK.out.bx 2).trans rfl;have hd3:w2.cell? ⟨W.heap.size,3,none⟩=some (.int .i64 a3):=(aD YK.out.bx 3).trans rfl;have hd4:w2.cell? ⟨W.heap.size,4,none⟩=some (.slice A l.length c):=(aD YK.out.bx 4).trans rfl;clear hR2 hb2 hk2 hrd1 aAi aAj hc2 HSI1 HBW1 HR1 hlen qJ;go_wp2_with (fail)
  go_at_call 41;refine (bP.calls k a0 ns a2 a3 A c l A0 c0 b1 s0 _ (Kd.dJ HR.out (YK.out.bl.mono HW.out)) HC.out OO.out HL2.out H3.out).mono ?_;rintro e w3 ⟨v3,rfl,hR3,hb3⟩;have HSI3:=aA.mk (yC YK.out hb3);have HR3:=aA.mk (Kd.iH hR3 YK.out.sz);obtain ⟨A3,c3,rfl⟩:=Kd.dY hR3;have HGT3:aA (W.heap.size<w3.heap.size):=⟨gL HSI3.out.bx⟩;clear hR3 hb3 hd0 hd1 hd2 hd3 hd4 OO HL2 YK;obtain ⟨w4,hw4⟩ : ∃ w4,w4=(w3.alloc (.cells #[.slice A3 s0.length c3] 80)).alloc (.map #[] 0):=⟨_,rfl⟩;have hB4:Below w3.heap.size w3 w4:=(by rw [hw4];exact aN (aN (Below.refl _ _) _) _);have HSI4:=aA.mk (yC HSI3.out hB4);have HR4:=aA.mk (Kd.fE HR3.out hB4);have HSE4:aA (BD.R 80 w4 base (fun _=>True) (.slice (some ⟨w3.heap.size,0,none⟩) 1 1) [s0]):=⟨by rw [hw4];exact Kd.nY (R_single HR3.out HSI3.out.sz) _⟩;have HN4:aA (jU w4 (w3.heap.size+1) []):=⟨by have e:=TL (w3.alloc (.cells #[.slice A3 s0.length c3] 80));rw [←hw4] at e;simpa using e⟩;have hx4:w4.cell? ⟨w3.heap.size,0,none⟩=some (.slice A3 s0.length c3):=(by obtain ⟨A',c',e,_,hR'⟩:=set_at (i:=0) (S:=s0) HSE4.out rfl;rw [hw4];exact (aD (bH (dX w3 _) _) 0).trans rfl);obtain ⟨_,hL4,hC4⟩:=Kd.cO HR4.out;have HC4:=aA.mk hC4;have HL4:=aA.mk hL4;have HSZ3:=aA.mk HSI3.out.sz;have hmm:(Instr.makeMap 69 none).run Try.prog (w3.alloc (.cells #[.slice A3 s0.length c3] 80)) = .ok (.map (some (w3.heap.size+1))) w4:=(by rw [run_makeMap,hw4];simp);clear HSI3 HR3 hB4 hL4 hC4 HR4 hw4;go_wp2_with (fail)
  go_at_call 77;refine (fD.calls k A3 c3 s0 key _ HC4.out HL4.out H4.out).mono ?_;rintro e w5 ⟨rfl,hb5⟩;have HSI5:=aA.mk (yC HSI4.out hb5);have HSE5:=aA.mk (Kd.fE HSE4.out hb5);have HN5:=aA.mk (pW HN4.out hb5);obtain ⟨w6,hrun,hn6,hg6⟩:=IY HN5.out key (by have:=HKS.out;unfold maxLen;omega) (by simp) (by simp);have HSI6:=aA.mk (si_map HSI5.out HN5.out hg6 (by have:=HSZ3.out;omega));have HSE6:=aA.mk (QC HSE5.out HN5.out hg6);have HN6:aA (jU w6 (w3.heap.size+1) [nk key]):=⟨hn6⟩;have hrun':(Instr.mapUpdate 69 (.map (some (w3.heap.size+1))) (.string key) (.int .i64 0)).run Try.prog w5 = .ok () w6:=hrun;clear hrun hn6 hg6 hb5 hx4 hmm HSI4 HSE4 HN4 HC4 HL4 HSI5 HSE5 HN5;have HMB:aA (base≤w3.heap.size+1):=⟨by have:=HSZ3.out;omega⟩;go_wp2_with (fail)
  clear hrun';obtain ⟨mb,hmb⟩ : ∃ mb,mb=w3.heap.size+1:=⟨_,rfl⟩;rw [←hmb] at HN6 HMB;rw [←hmb];obtain ⟨X,hX⟩ : ∃ X,X=W.heap.size:=⟨_,rfl⟩;rw [←hX] at HSI6;rw [←hX];obtain ⟨g0,hg0⟩ : ∃ g0,g0=w3.heap.size:=⟨_,rfl⟩;rw [←hg0] at HSE6;rw [←hg0];clear hmb hX hg0 HSZ3 HGT3 HGT1 hsz H1 H2 H3 H4 HKS HD HB;go_loopg [7,9] k (fun q v7 v9 wr=>∃ (i:Nat) (sets:List (List Int)) (ks:List (List UInt8)) (next:List (List Int)) (acc:List Bool) (n:Int),v9 = .int .i64 i∧aA (l9 k a0 ns a2 a3 l q i sets ks next acc=some o)∧aA (SZ i sets ks next acc n)∧aA (SI w0 wr base X O Sb Mb B ns (JU a0 (ns:Int) a2 a3 A l.length c) next acc n)∧aA (BD.R 80 wr base (fun _=>True) v7 sets)∧aA (jU wr mb ks))
  case atStart=>exact ⟨0,[s0],[nk key],[],[],1,rfl,H5,⟨⟨rfl,by simp,by simp,rfl,rfl,rfl⟩⟩,HSI6,HSE6,HN6⟩
  case round =>
    obtain ⟨i,sets,ks,next,acc,n,rfl,HL,IV,ZG,HSE,HN⟩:=hrel;clear HSI6 HSE6 HN6 H5;cases gk with
    |zero=>exact absurd HL.out (by simp [l9])
    |succ J =>
      have hL:=HL.out;clear HL;rw [l9] at hL;by_cases hlt:i<sets.length
      · rw [if_pos hlt] at hL
        obtain ⟨b,hb,hL⟩:=Option.bind_eq_some_iff.mp hL;obtain ⟨o2,ho2,hL⟩:=Option.bind_eq_some_iff.mp hL;obtain ⟨S,hS⟩ : ∃ S,sets[i]?=some S:=⟨sets[i],List.getElem?_eq_getElem hlt⟩;rw [YJ hS] at hb ho2;rw [Int.toNat_natCast] at ho2;have HL:=aA.mk hL;have MO:=aA.mk ho2;have HS:=aA.mk hS;obtain ⟨g7,cap7,rfl,hg7,_⟩:=Kd.uL HSE.out (by omega);obtain ⟨As,cs,hcell,hcs,hRS⟩:=set_at HSE.out hS;have hmet:=met_ds ZG.out.ds As cs S b i hRS hb HOB.out ZG.out.bl HNS.out (by have:=IV.out.hne;have:=IV.out.hs;omega) (by have:=IV.out.hac;have:=IV.out.hs;omega);have HMET:=aA.mk hmet;clear hL ho2 hS hb hcs hRS hg7 hmet;go_wp2_with (fail)
        go_at_call 48;refine HMET.out.mono ?_;rintro e w8 ⟨rfl,hD8,hb8,hk8⟩;have HSI8:aA (SI w0 w8 base X O Sb Mb B ns (JU a0 (ns:Int) a2 a3 A l.length c) (next ++ [[]]) (acc ++ [b]) n):=⟨⟨tT hk8 ZG.out.bx (by decide),hD8,hb8,Nat.le_trans ZG.out.sz hk8.1⟩⟩;have HSE8:aA (BD.R 80 w8 base (fun _=>True) (.slice (some ⟨g7,0,none⟩) sets.length cap7) sets):=⟨YH HSE.out hk8 (by decide)⟩;have HN8:=aA.mk (W9 HN.out hk8);have hx1:w8.cell? ⟨X,1,none⟩=some (.int .i64 (ns:Int)):=(aD HSI8.out.bx 1).trans rfl;clear hD8 hb8 hk8 hcell ZG HSE HN HMET;go_wp2;go_loopg [7,47] ns (fun q v7 v47 wr=>∃ (j:Nat) (rA:List (List Int)) (ks2:List (List UInt8)) (row:List Int) (n2:Int),v47 = .int .i64 j∧q=ns - j∧aA (xS k a0 ns a2 a3 l S (ns - j) j rA ks2 row=some o2)∧aA (SZ2 ns i j rA ks2 S row n2)∧aA (SI w0 wr base X O Sb Mb B ns (JU a0 (ns:Int) a2 a3 A l.length c) (next ++ [row]) (acc ++ [b]) n2)∧aA (BD.R 80 wr base (fun _=>True) v7 rA)∧aA (jU wr mb ks2))
        case atStart=>exact ⟨0,sets,ks,[],n,rfl,rfl,MO,⟨⟨IV.out.hk,HS.out,IV.out.hs,IV.out.hn,rfl,Nat.zero_le _⟩⟩,HSI8,HSE8,HN8⟩
        case round =>
          obtain ⟨j,rA,ks2,row,n2,rfl,rfl,HRF,HZ2,ZG,HSE,HN⟩:=hrel;clear HSI8 HSE8 HN8 hx1 MO HS;have hjle:=HZ2.out.hj;have hns4:=HNS.out;by_cases hj:j<ns
          · obtain ⟨d,hd⟩ : ∃ d,ns - j=d+1:=⟨ns - j - 1,by omega⟩
            have hrf:=HRF.out;rw [hd,xS] at hrf;obtain ⟨t,ht,hrf⟩:=Option.bind_eq_some_iff.mp hrf;obtain ⟨IZ,hkey,hrf⟩:=Option.bind_eq_some_iff.mp hrf;by_cases hksz:IZ.size≤4096
            · rw [if_pos hksz] at hrf
              have HT:=aA.mk ht;have HKEY:=aA.mk hkey;have HRF2:=aA.mk hrf;have HKSZ:=aA.mk (show IZ.size≤maxLen by unfold maxLen;omega);have HDD:=aA.mk hd;obtain ⟨g7,cap7,rfl,hg7,_⟩:=Kd.uL HSE.out (by have:=(List.getElem?_eq_some_iff.mp HZ2.out.hi).1;omega);obtain ⟨As,cs,hcell,hcs,hRS⟩:=set_at HSE.out HZ2.out.hi;have hilt:i<rA.length:=(List.getElem?_eq_some_iff.mp HZ2.out.hi).1;have HCS:=aA.mk hcs;have HRS:=aA.mk (Kd.dJ (Kd.cO hRS).2.2 (bX (Below.refl _ wr)));have HRC:=aA.mk (Kd.dJ HR.out ((bX ZG.out.bl).mono HW.out));have hd0:wr.cell? ⟨X,0,none⟩=some (.int .i64 a0):=(aD ZG.out.bx 0).trans rfl;have hd1:wr.cell? ⟨X,1,none⟩=some (.int .i64 (ns:Int)):=(aD ZG.out.bx 1).trans rfl;have hd2:wr.cell? ⟨X,2,none⟩=some (.int .i64 a2):=(aD ZG.out.bx 2).trans rfl;have hd3:wr.cell? ⟨X,3,none⟩=some (.int .i64 a3):=(aD ZG.out.bx 3).trans rfl;have hd4:wr.cell? ⟨X,4,none⟩=some (.slice A l.length c):=(aD ZG.out.bx 4).trans rfl;clear ht hkey hrf hksz hd hg7 hcs hRS;go_upto_region 12 with (fail)
              go_cut [11] (fun v11 wc=>∃ At ct,v11 = .slice At t.length ct∧aA (Kd.R (Kd.int .u64) 115 wc base (fun _=>True) (.slice At t.length ct) t)∧aA (SI w0 wc base X O Sb Mb B ns (JU a0 (ns:Int) a2 a3 A l.length c) (next ++ [row]) (acc ++ [b]) n2)∧aA (BD.R 80 wc base (fun _=>True) (.slice (some ⟨g7,0,none⟩) rA.length cap7) rA)∧aA (jU wc mb ks2))
              case first =>
                go_region_law (go_simp;go_at_call 42;refine (eT.calls k a0 ns a2 a3 A c l (j:Int) As cs S t _ HRC.out HC.out HRS.out HCS.out HT.out).mono ?_;rintro e w9 ⟨v9,rfl,hR9,hb9⟩;have HR9:=aA.mk hR9;have HB9:=aA.mk hb9;clear hR9 hb9)
                all_goals (go_wp2_with (fail);go_meet)
                all_goals
                  have YL:=bU (bX (Below.refl wr.heap.size wr)) (Nat.le_refl _) HB9.out;obtain ⟨At,ct,rfl⟩:=Kd.dY HR9.out;exact ⟨At,ct,rfl,⟨Kd.iH HR9.out ZG.out.sz⟩,⟨yC ZG.out YL⟩,⟨Kd.fE HSE.out YL⟩,⟨pW HN.out YL⟩⟩
              case rest =>
                obtain ⟨At,ct,rfl,HRT,HSI9,HSE9,HN9⟩:=hcut;clear hd0 hd1 hd2 hd3 hd4 HRS HRC HCS ZG HSE HN hcell HRF HT;obtain ⟨_,hct,hCt⟩:=Kd.cO HRT.out;have HCT:=aA.mk hct;have HRCT:=aA.mk hCt;clear hct hCt;go_wp2_with (fail)
                go_at_call 77;refine (fD.calls k At ct t IZ _ HRCT.out HCT.out HKEY.out).mono ?_;rintro e w10 ⟨rfl,YL⟩;have QE:=aA.mk (yC HSI9.out YL);have HSE10:=aA.mk (Kd.fE HSE9.out YL);have HRT10:=aA.mk (Kd.fE HRT.out YL);have HN10:=aA.mk (pW HN9.out YL);have hlk:=CR HN10.out IZ HKSZ.out;clear YL HSI9 HSE9 HRT HN9 HRCT;by_cases hin:nk IZ∈ks2
                · rw [decide_eq_true hin] at hlk
                  have hrf:=HRF2.out;rw [if_pos hin] at hrf;have HRF3:aA (xS k a0 ns a2 a3 l S (ns - (j+1)) (j+1) rA ks2 (row ++ [nameAt ks2 (nk IZ)])=some o2):=⟨by rw [show ns - (j+1)=d by have:=HDD.out;omega];exact hrf⟩;clear hrf hin HRF2;go_wp2_with (fail)
                  go_at_call 49;refine (TK base O Sb Mb B ns a0 a2 a3 A l.length c (next ++ [row]) (acc ++ [b]) n2 i row (j:Int) (nameAt ks2 (nk IZ)) false w0 w10 QE.out.ds (by rw [List.getElem?_append_right (by rw [IV.out.hne];omega),IV.out.hne];simp) (by rw [HZ2.out.hr];exact hj) HSB.out QE.out.bl HNS.out (by rw [List.length_append,IV.out.hne];have:=IV.out.hi;have:=IV.out.hs;simp;omega) (by rw [HZ2.out.hn];omega) (by rw [HZ2.out.hn];have:=HZ2.out.hs;omega)).mono ?_;rintro e w11 ⟨hb11,hk11,he⟩;rw [if_neg (by simp)] at he;obtain ⟨rfl,hD11⟩:=he;rw [if_neg (by simp),aAh IV.out.hne] at hD11;have HSI11:aA (SI w0 w11 base X O Sb Mb B ns (JU a0 (ns:Int) a2 a3 A l.length c) (next ++ [row ++ [nameAt ks2 (nk IZ)]]) (acc ++ [b]) n2):=⟨⟨tT hk11 QE.out.bx (by decide),hD11,hb11,Nat.le_trans QE.out.sz hk11.1⟩⟩;have HSE11:=aA.mk (YH HSE10.out hk11 (by decide));have HN11:=aA.mk (W9 HN10.out hk11);clear hb11 hk11 hD11 hlk QE HSE10 HN10 HRT10;go_wp2;go_roundg (ns - (j+1))
                  case measure=>omega
                  case rel=>exact ⟨j+1,rA,ks2,row ++ [nameAt ks2 (nk IZ)],n2,by go_num,rfl,HRF3,⟨⟨HZ2.out.hk,HZ2.out.hi,HZ2.out.hs,HZ2.out.hn,by rw [List.length_append,HZ2.out.hr];rfl,by omega⟩⟩,HSI11,HSE11,HN11⟩
                · rw [decide_eq_false hin] at hlk
                  have HIN:=aA.mk hin;have hrf:=HRF2.out;rw [if_neg hin] at hrf;have HRF3:=aA.mk hrf;clear hrf hin HRF2;go_wp2_with (fail)
                  go_at_call 77;refine (fD.calls k At ct t IZ _ (Kd.cO HRT10.out).2.2 HCT.out HKEY.out).mono ?_;rintro e w11 ⟨rfl,hb11⟩;have HSI11:=aA.mk (yC QE.out hb11);have HSE11:=aA.mk (Kd.fE HSE10.out hb11);have HRT11:=aA.mk (Kd.fE HRT10.out hb11);have HN11:=aA.mk (pW HN10.out hb11);obtain ⟨w12,hrun,hn12,hg12⟩:=IY HN11.out IZ HKSZ.out HIN.out (by have:=HZ2.out.hk;have:=HZ2.out.hs;omega);rw [HZ2.out.hk] at hrun;have HSI12:=aA.mk (si_map HSI11.out HN11.out hg12 HMB.out);have HSE12:=aA.mk (QC HSE11.out HN11.out hg12);have HRT12:=aA.mk (QC HRT11.out HN11.out hg12);have HN12:=aA.mk hn12;clear hb11 hlk hn12 hg12 QE HSE10 HRT10 HN10 HSI11 HSE11 HRT11 HN11;have HLS:=aA.mk (show (rA.length+1) * 24≤140737488355328 by have:=HZ2.out.hs;omega);go_wp2_with (at_builtin;refine Kd.wL BD (w0:=w0) base rfl (.tmp 72) (.tmp 74) 121 80 (.slice none 0 0) 24 rfl Try.underlying121 info80_ rfl (by decide) (by decide) _ rA t [.slice At t.length ct] (fun _=>True) (fun q=>some q=(Value.slice At t.length ct).ownBlock) rfl rfl ?aP ?aK ?aF ?aO ?aB ?aS ?aL ?_;(case aP=>exact ⟨_,rfl,Kd.nR rfl HRT12.out⟩);(case aK=>exact (fun q hq=>⟨trivial,fun e=>by obtain ⟨c1,e1⟩:=Kd.jE HRT12.out q hq.symm;obtain ⟨c2,e2⟩:=Kd.jE HSE12.out q e.symm;rw [e1] at e2;injection e2 with e2;injection e2 with _ e2;exact absurd e2 (by decide)⟩));(case aF=>exact (fun _ _=>trivial));(case aO=>exact HSE12.out);(case aB=>exact HSI12.out.bl);(case aS=>exact HSI12.out.sz);(case aL=>exact HLS.out);intro v13 w13 hR13 hb13 hg13 hat13;obtain ⟨A13,L13,c13,rfl⟩:=vU hR13;have TM:=aA.mk (YI HSI12.out (moveC_sets HSE12.out hg13) hb13);have HSE13:=aA.mk hR13;have HN13:=aA.mk (QF HN12.out (hg13.block mb (names_lt HN12.out) (fun e=>by obtain ⟨c2,e2⟩:=Kd.jE HSE12.out mb e.symm;exact QB HN12.out e2 rfl)));clear hR13 hb13 hg13 hat13)
                  go_at_call 49;refine (TK base O Sb Mb B ns a0 a2 a3 A l.length c (next ++ [row]) (acc ++ [b]) n2 i row (j:Int) (rA.length:Int) true w0 w13 TM.out.ds (by rw [List.getElem?_append_right (by rw [IV.out.hne];omega),IV.out.hne];simp) (by rw [HZ2.out.hr];exact hj) HSB.out TM.out.bl HNS.out (by rw [List.length_append,IV.out.hne];have:=IV.out.hi;have:=IV.out.hs;simp;omega) (by rw [HZ2.out.hn];omega) (by rw [HZ2.out.hn];have:=HZ2.out.hs;omega)).mono ?_;rintro e w14 ⟨hb14,hk14,he⟩;rw [HZ2.out.hn,Bool.true_and] at he;cases jM:qQ ns ((rA.length:Int)+1) with
                  |true =>
                    rw [if_pos jM] at he;subst he;have hrf:=HRF3.out;rw [if_pos jM] at hrf;obtain rfl:=Option.some.inj hrf;obtain rfl:=Option.some.inj HL.out;have HB14:=aA.mk hb14;clear hrf jM hb14 hk14 TM HSE13 HN13;go_wp2;exact ⟨rfl,rfl,HB14.out⟩
                  |false =>
                    rw [if_neg (by rw [jM];simp)] at he;obtain ⟨rfl,hD14⟩:=he;rw [if_pos rfl,aAh IV.out.hne] at hD14;have hrf:=HRF3.out;rw [if_neg (by rw [jM];simp)] at hrf;have HRF4:aA (xS k a0 ns a2 a3 l S (ns - (j+1)) (j+1) (rA ++ [t]) (ks2 ++ [nk IZ]) (row ++ [(rA.length:Int)])=some o2):=⟨by rw [show ns - (j+1)=d by have:=HDD.out;omega];exact hrf⟩;have JV:aA (rA.length+1≤1024):=⟨by
                      have:=jM;unfold qQ at this;rw [Bool.or_eq_false_iff] at this;have:=of_decide_eq_false this.1;omega⟩
                    have HSI14:aA (SI w0 w14 base X O Sb Mb B ns (JU a0 (ns:Int) a2 a3 A l.length c) (next ++ [row ++ [(rA.length:Int)]]) (acc ++ [b]) ((rA.length:Int)+1)):=⟨⟨tT hk14 TM.out.bx (by decide),hD14,hb14,Nat.le_trans TM.out.sz hk14.1⟩⟩;have HSE14:=aA.mk (YH HSE13.out hk14 (by decide));have HN14:=aA.mk (W9 HN13.out hk14);clear hb14 hk14 hD14 hrf jM TM HSE13 HN13 HRF3;go_wp2;go_roundg (ns - (j+1))
                    case measure=>omega
                    case rel=>exact ⟨j+1,rA ++ [t],ks2 ++ [nk IZ],row ++ [(rA.length:Int)],_,by go_num,rfl,HRF4,⟨⟨by rw [List.length_append,List.length_append,HZ2.out.hk];rfl,by rw [List.getElem?_append_left hilt];exact HZ2.out.hi,by rw [List.length_append];exact JV.out,by simp,by rw [List.length_append,HZ2.out.hr];rfl,by omega⟩⟩,HSI14,HSE14,HN14⟩
            · rw [if_neg hksz] at hrf
              exact absurd hrf (by simp)
          · obtain rfl:j=ns:=by omega
            have hrf:=HRF.out;rw [Nat.sub_self,xS] at hrf;obtain rfl:=Option.some.inj hrf;have HL2:=aA.mk (show l9 k a0 j a2 a3 l J (i+1) rA ks2 (next ++ [row]) (acc ++ [b])=some o from HL.out);have hi2:=(List.getElem?_eq_some_iff.mp HZ2.out.hi).1;have HZ3:=aA.mk (SZ.mk (i:=i+1) HZ2.out.hk hi2 HZ2.out.hs HZ2.out.hn (by rw [List.length_append,IV.out.hne];rfl) (by rw [List.length_append,IV.out.hac];rfl):SZ (i+1) rA ks2 (next ++ [row]) (acc ++ [b]) n2);have hlim:i+1≤1024:=(by have:=HZ2.out.hs;omega);clear hrf HL HRF HZ2 IV;go_wp2;go_roundg J
            case measure=>omega
            case rel=>exact ⟨i+1,rA,ks2,next ++ [row],acc ++ [b],n2,by go_num,HL2,HZ3,ZG,HSE,HN⟩
      · rw [if_neg hlt] at hL
        obtain rfl:=Option.some.inj hL;obtain ⟨L7,c7,rfl⟩:=Kd.dY HSE.out;clear hL;go_wp2;go_end0
        exact ⟨rfl,⟨n,ZG.out.ds⟩,ZG.out.bl⟩
end Go.Proofs.Ytapinbmkjkbkkaa.Mk
namespace Go.Proofs.Ytapinbmkjkbkkaa.Mk
open Go.RowKit Go.Proofs.aC.bE Go.Proofs.aC.bV Go.Proofs.aC.bY Lb
theorem row_R {W:World} {base g ns:Nat} {xs:List Int} (h:uR W base g xs ns) (hns:ns≤4096) {ok:Nat→Prop} (hok:ok g):Kd.R (Kd.int .i64) 3 W base ok (.slice (some ⟨g,0,none⟩) xs.length ns) xs:=by
  refine Kd.R_of_own (enc:=Value.int .i64) ⟨by simp [encs],.inr ⟨g,ns,_,rfl,h.ge,h.hb,h.le,by unfold maxLen;omega,?_,?_⟩⟩ (fun k hk=>?_)
  · have:=h.le
    simp [nums];omega
  · simp [nums,encs,List.map_append]
  · have:g=k:=by simpa [Value.ownBlock] using hk
    exact this ▸ hok
theorem next_S {W:World} {base ns:Nat} {vn:Value} {gs:List Nat} {next:List (List Int)} (h:yB W base vn gs next ns) (hns:ns≤4096):Kd.S (Kd.slice 3 (Kd.int .i64)) 27 W base (fun _=>True) vn next:=by
  obtain ⟨h0,inner,ho,hr1,hr2⟩:=h.own;rw [List.length_map,List.length_zip,h.len,Nat.min_self] at ho hr1;refine ⟨fun k=>gs.idxOf k,fun _ _=>trivial,inner,by rw [List.length_zipIdx];exact ho,by rw [List.length_zipIdx];exact hr1,fun j p hp=>?_⟩;rw [List.getElem?_zipIdx,Nat.zero_add] at hp;obtain ⟨xs,hxs,rfl⟩:=Option.map_eq_some_iff.mp hp;have hj:j<next.length:=(List.getElem?_eq_some_iff.mp hxs).1;have hjg:j<gs.length:=(by rw [h.len];exact hj);have hg:gs[j]?=some gs[j]:=List.getElem?_eq_getElem hjg;have hrow:=h.rows j gs[j] xs hg hxs;have h3:(inner.drop (j * 1)).take 1=[.slice (some ⟨gs[j],0,none⟩) xs.length ns]:=(hr2 j [.slice (some ⟨gs[j],0,none⟩) xs.length ns] (by
    rw [List.getElem?_map,(List.getElem?_zip_eq_some (z:=(gs[j],xs))).mpr ⟨hg,hxs⟩];rfl)).1
  refine ⟨_,h3,row_R hrow hns ⟨⟨trivial,fun e=>?_⟩,?_⟩⟩
  · obtain ⟨c1,e1⟩:=Kd.jE h.own _ e.symm
    rw [hrow.hb] at e1;injection e1 with e1;injection e1 with _ e1;exact absurd e1 (by decide)
  · exact List.Nodup.idxOf_getElem h.nodup j hjg
def FinD (W0:World) (r1:Int) (r2:List (List Int)) (r3:List Bool) (r4:Int) (e:Ending) (W:World):Prop :=
  ∃ v v',e = .returned (.tuple #[.agg #[.int .i64 r1,v,v'],.int .i64 r4])∧Kd.S (Kd.slice 3 (Kd.int .i64)) 27 W W0.heap.size (fun _=>True) v r2∧Kd.R Kd.bool 4 W W0.heap.size (fun _=>True) v' r3∧Below W0.heap.size W0 W
def FinDO (W0:World) (ns:Nat) (o:Option (List (List Int) × List Bool)) (e:Ending) (W:World):Prop :=
  match o with
  |none=>FinD W0 0 [] [] 3 e W
  |some p=>FinD W0 ns p.1 p.2 0 e W
theorem QG (tmps:Array Value) (w:World) (g g':Nat) (cs:Array Value) (x:Value) (hp:tmps.getD 2 undef = .pointer (some ⟨g,0,none⟩)) (hg:w.heap[g]?=some (.cells cs 46 (0,0))) (hs:cs.size=3)
    (hp':tmps.getD 3 undef = .pointer (some ⟨g',0,none⟩)) (hc':w.cell? ⟨g',0,none⟩=some x):(results Try.f17 tmps).run Try.prog w = .ok (.tuple #[.agg cs,x]) w:=by
  have h1:tmps[2]?.getD undef = .pointer (some ⟨g,0,none⟩):=(by simpa using hp);have h2:tmps[3]?.getD undef = .pointer (some ⟨g',0,none⟩):=(by simpa using hp');have hi:(Try.prog.info? 46).map (·.size)=some 3:=(by kernel_rfl);have hrow:=run_loadVar_row (P:=Try.prog) w g 46 46 cs (0,0) _ hg Try.underlying46 rfl (by rw [hi,hs]);have hrow2:(loadVar 32 ⟨g',0,none⟩).run Try.prog w = .ok x w:=(by simp [go_sem,hc']);simp [results,Try.results17,h1,h2,asAddr,hrow,hrow2]
theorem QH (tmps:Array Value) (w:World) (g g':Nat) (cs:Array Value) (x:Value) (hp:tmps.getD 2 undef = .pointer (some ⟨g,0,none⟩)) (hg:w.heap[g]?=some (.cells cs 46 (0,0))) (hs:cs.size=3)
    (hp':tmps.getD 3 undef = .pointer (some ⟨g',0,none⟩)) (hc':w.cell? ⟨g',0,none⟩=some x) (R:Ending→World→Prop) (hK:R (.returned (.tuple #[.agg cs,x])) w) :
    bodyPostD Try.prog Try.f17 R Exit.ret { tmps:=tmps,defers:=[{ target:=Target.fn (Fn.func 34) #[],args:=#[.pointer (some ⟨g',0,none⟩)] }] } w:=by
  refine leaves_cons (f:=34) (args:=#[.pointer (some ⟨g',0,none⟩)]) (by simp) (by simp [go_sem]) ?_;refine (JW ⟨g',0,none⟩ _).mono ?_;rintro e u' w'' ⟨rfl,rfl,rfl⟩;exact ⟨_,QG tmps _ g g' cs x hp hg hs hp' hc',hK⟩
theorem doorD_many (tmps:Array Value) (w:World) (g g':Nat) (cs:Array Value) (x:Int) (hp:tmps.getD 2 undef = .pointer (some ⟨g,0,none⟩)) (hg:w.heap[g]?=some (.cells cs 46 (0,0))) (hs:cs.size=3)
    (hp':tmps.getD 3 undef = .pointer (some ⟨g',0,none⟩)) (hc':w.heap[g']?=some (.cells #[.int .i64 x] 32 (0,0))) (R:Ending→World→Prop) (hK:R (.returned (.tuple #[.agg cs,.int .i64 3])) (w.setCell ⟨g',0,none⟩ (.int .i64 3))) :
    bodyPostD Try.prog Try.f17 R (Exit.panic [{ v:=.iface 32 (.int .i64 3),recovered:=false }]) { tmps:=tmps,defers:=[{ target:=Target.fn (Fn.func 34) #[],args:=#[.pointer (some ⟨g',0,none⟩)] }] } w:=by
  refine leaves_cons (f:=34) (args:=#[.pointer (some ⟨g',0,none⟩)]) (by simp) (by simp [go_sem]) ?_;refine (JX ⟨g',0,none⟩ x [] _ ((aD hc' 0).trans rfl) (bF hc' 0)).mono ?_;rintro e u' w'' ⟨rfl,rfl,rfl⟩;have hne:g≠g':=mZ hg hc' (by decide);refine ⟨_,QG tmps _ g g' cs (.int .i64 3) hp (bR hg hne _) hs hp' ?_,hK⟩;exact (aD (lN hc' 0 _) 0).trans rfl
def X0 (W:World) (o1:Obj):World:=((W.alloc o1).alloc (.cells #[.int .i64 0,.slice none 0 0,.slice none 0 0] 46)).alloc (.cells #[.int .i64 0] 32)
theorem varsD_1 (W:World) (o1:Obj):(X0 W o1).heap[W.heap.size]?=some o1:=bH (bH (dX _ _) _) _
theorem varsD_2 (W:World) (o1:Obj):(X0 W o1).heap[W.heap.size+1]?=some (.cells #[.int .i64 0,.slice none 0 0,.slice none 0 0] 46 (0,0)):=by
  have e:=dX (W.alloc o1) (.cells #[.int .i64 0,.slice none 0 0,.slice none 0 0] 46);exact bH (by simpa using e) _
theorem varsD_3 (W:World) (o1:Obj):(X0 W o1).heap[W.heap.size+1+1]?=some (.cells #[.int .i64 0] 32 (0,0)):=by
  have e:=dX ((W.alloc o1).alloc (.cells #[.int .i64 0,.slice none 0 0,.slice none 0 0] 46)) (.cells #[.int .i64 0] 32);simpa [X0] using e
theorem JY (W:World) (o1:Obj):Below W.heap.size W (X0 W o1):=aN (aN (aN (Below.refl _ _) _) _) _
theorem varsD_size (W:World) (o1:Obj):(X0 W o1).heap.size=W.heap.size+1+1+1:=by simp [X0]
def setD (w:World) (g:Nat) (x0 x1 x2:Value):World:=((w.setCell ⟨g,0,none⟩ x0).setCell ⟨g,1,none⟩ x1).setCell ⟨g,2,none⟩ x2
theorem setD_blk {w:World} {g:Nat} {a0 a1 a2:Value} (h:w.heap[g]?=some (.cells #[a0,a1,a2] 46 (0,0))) (x0 x1 x2:Value):(setD w g x0 x1 x2).heap[g]?=some (.cells #[x0,x1,x2] 46 (0,0)) :=
  dF (dF (dF h 0 x0 rfl) 1 x1 rfl) 2 x2 rfl
theorem FZ {w:World} {g g':Nat} {cs:Array Value} {t:TypeId} (h:w.heap[g']?=some (.cells cs t (0,0))) (hne:g'≠g) (x0 x1 x2:Value):(setD w g x0 x1 x2).heap[g']?=some (.cells cs t (0,0)) :=
  bR (bR (bR h hne _) hne _) hne _
theorem QI {B g:Nat} {w W:World} (h:Below B W w) (hg:B≤g) (x0 x1 x2:Value):Below B W (setD w g x0 x1 x2):=((h.setCell hg _).setCell hg _).setCell hg _
set_option maxHeartbeats 1600000 in
theorem dfa_bad (a0 a1 a2 a3:Int) (A:Option Addr) (c:Nat) (l:List gV) (err:Int) (W:World) (hr:Kd.C xP W A l.length l) (hc:l.length≤c) (h:jI.f a0 a1 a2 a3 l=some err) (hne:err≠0) :
    Calls Try.prog 17 #[.agg #[.int .i64 a0,.int .i64 a1,.int .i64 a2,.int .i64 a3,.slice A l.length c]] W (FinD W 0 [] [] err):=by
  have hm:l.length≤9223372036854775807:=hr.2.1;have HC:=aA.mk hc;have HR:=aA.mk hr;have HH:=aA.mk h;have hb:(err != 0)=true:=(by simp [hne]);have HV1:=aA.mk (varsD_1 W (.cells #[.int .i64 a0,.int .i64 a1,.int .i64 a2,.int .i64 a3,.slice A l.length c] 31));have HV2:=aA.mk (varsD_2 W (.cells #[.int .i64 a0,.int .i64 a1,.int .i64 a2,.int .i64 a3,.slice A l.length c] 31));have HV3:=aA.mk (varsD_3 W (.cells #[.int .i64 a0,.int .i64 a1,.int .i64 a2,.int .i64 a3,.slice A l.length c] 31));have YF:=aA.mk (JY W (.cells #[.int .i64 a0,.int .i64 a1,.int .i64 a2,.int .i64 a3,.slice A l.length c] 31));clear hr hc h hne;go_enter_defers Try.func17,Try.ntmps17
  go_wp2_with (fail)
  go_at_call 31;refine (jI.calls a0 a1 a2 a3 A c l err _ (Kd.dJ HR.out YF.out) HC.out HH.out).mono ?_;rintro e w1 ⟨rfl,hb1⟩;have hb1':Below (X0 W (.cells #[.int .i64 a0,.int .i64 a1,.int .i64 a2,.int .i64 a3,.slice A l.length c] 31)).heap.size (X0 W (.cells #[.int .i64 a0,.int .i64 a1,.int .i64 a2,.int .i64 a3,.slice A l.length c] 31)) w1:=hb1;have B2:=aA.mk (bK HV2.out hb1');have B3:=aA.mk (bK HV3.out hb1');have HB1:=aA.mk (bU YF.out YF.out.size hb1');clear hb1 hb1';have hc40:w1.cell? ⟨W.heap.size+1,0,none⟩=some (.int .i64 0):=(aD B2.out 0).trans rfl;have hc41:w1.cell? ⟨W.heap.size+1,1,none⟩=some (.slice none 0 0):=(aD B2.out 1).trans rfl;have hc42:w1.cell? ⟨W.heap.size+1,2,none⟩=some (.slice none 0 0):=(aD B2.out 2).trans rfl;have hc50:w1.cell? ⟨W.heap.size+1+1,0,none⟩=some (.int .i64 0):=(aD B3.out 0).trans rfl;have hf0:=bF B2.out 0;have hf1:=bF B2.out 1;have hf2:=bF B2.out 2;have hf5:=bF B3.out 0;go_wp2;have hne:W.heap.size+1+1≠W.heap.size+1:=(by omega);refine QH _ _ (W.heap.size+1) (W.heap.size+1+1) #[.int .i64 0,.slice none 0 0,.slice none 0 0] (.int .i64 err) rfl ?_ rfl rfl ?_ _ ?_
  · exact bR (setD_blk B2.out _ _ _) hne.symm _
  · exact (aD (lN (FZ B3.out hne _ _ _) 0 _) 0).trans rfl
  · exact ⟨.slice none 0 0,.slice none 0 0,rfl,Kd.rO _ _ _ _ _,Kd.kJ _ _ _ _ _,(QI HB1.out (by omega) _ _ _).setCell (by simp;omega) _⟩
set_option maxRecDepth 100000 in
set_option maxHeartbeats 3200000 in
theorem dfa_ok (k ns:Nat) (a0 a2 a3:Int) (A:Option Addr) (c:Nat) (l:List gV) (W:World) (hr:Kd.C xP W A l.length l) (hc:l.length≤c) (h:jI.f a0 ns a2 a3 l=some 0) (hns:ns≤4096)
    (b0 b1 s0:List Int) (key:ByteArray) (h1:jZ.f a0=some b0) (h2:dM.f b0 a2=some b1) (h3:bP.f k a0 ns a2 a3 l b1=some s0) (h4:fD.f k s0=some key) (hks:key.size≤4096)
    (o:Option (List (List Int) × List Bool)) (h5:l9 k a0 ns a2 a3 l k 0 [s0] [nk key] [] []=some o) :
    Calls Try.prog 17 #[.agg #[.int .i64 a0,.int .i64 (ns:Int),.int .i64 a2,.int .i64 a3,.slice A l.length c]] W (FinDO W ns o):=by
  have hm:l.length≤9223372036854775807:=hr.2.1;have HC:=aA.mk hc;have HR:=aA.mk hr;have HH:=aA.mk h;have HV1:=aA.mk (varsD_1 W (.cells (JU a0 ns a2 a3 A l.length c) 31));have HV2:=aA.mk (varsD_2 W (.cells (JU a0 ns a2 a3 A l.length c) 31));have HV3:=aA.mk (varsD_3 W (.cells (JU a0 ns a2 a3 A l.length c) 31));have YF:=aA.mk (JY W (.cells (JU a0 ns a2 a3 A l.length c) 31));have HVZ:=aA.mk (varsD_size W (.cells (JU a0 ns a2 a3 A l.length c) 31));have HSUB:=aA.mk (fun (base O Sb Mb B:Nat) (w0 w:World) hD hb hOB hSB hw0 hr=>RU k base O Sb Mb B ns a0 a2 a3 A c l w0 w hD hb hOB hSB hw0 hr hc hns b0 b1 s0 key h1 h2 h3 h4 hks o h5);have HNS:=aA.mk hns;have GA:aA (qQ ns 1=false):=⟨by
    unfold qQ;rw [Bool.or_eq_false_iff];refine ⟨by decide,?_⟩;rw [Int.one_mul,decide_eq_false_iff_not];have:wrap64 (ns:Int)=ns:=(by unfold wrap64;omega);omega⟩
  clear hr hc h hns h1 h2 h3 h4 hks h5;go_enter_defers Try.func17,Try.ntmps17
  go_wp2_with (fail)
  go_at_call 31;refine (jI.calls a0 ns a2 a3 A c l 0 _ (Kd.dJ HR.out YF.out) HC.out HH.out).mono ?_;rintro e w1 ⟨rfl,hb1⟩;have hb1':Below (X0 W (.cells (JU a0 ns a2 a3 A l.length c) 31)).heap.size (X0 W (.cells (JU a0 ns a2 a3 A l.length c) 31)) w1:=hb1;have B1:=aA.mk (bK HV1.out hb1');have B2:=aA.mk (bK HV2.out hb1');have B3:=aA.mk (bK HV3.out hb1');have HB1:=aA.mk (bU YF.out YF.out.size hb1');have ZH:aA (W.heap.size+1+1+1≤w1.heap.size):=⟨by have:=hb1'.size;rw [HVZ.out] at this;exact this⟩;clear hb1 hb1' HV1 HV2 HV3 YF HVZ;have hx1:w1.cell? ⟨W.heap.size,1,none⟩=some (.int .i64 (ns:Int)):=(aD B1.out 1).trans rfl;have hmf : ∀ (fn:Fn) (first cap:Array Value) (w:World),(Instr.makeFunc fn first cap).run Try.prog w = .ok (.func fn first cap) w:=fun _ _ _ _=>rfl;go_wp2_with (fail)
  go_at_call 46;refine (PZ W.heap.size a0 ns a2 a3 A l.length c 1 _ (bH (bH B1.out _) _)).mono ?_;rintro e w5 ⟨he,rfl⟩;rw [GA.out] at he;obtain rfl:e = .returned (.tuple #[]):=he;obtain ⟨w3,hw3⟩ : ∃ w3,w3=(((w1.alloc (.cells #[.int .i64 (ns:Int),.slice none 0 0,.slice none 0 0] 46)).alloc (.cells #[.func (.func 46) #[] #[.pointer (some ⟨W.heap.size,0,none⟩)]] 83)).alloc (.cells #[.int .i64 1] 3)):=⟨_,rfl⟩;have HB3:aA (Below w1.heap.size w1 w3):=⟨by rw [hw3];exact aN (aN (aN (Below.refl _ _) _) _) _⟩;have E1:=aA.mk (bK B1.out HB3.out);have E2:=aA.mk (bK B2.out HB3.out);have E3:=aA.mk (bK B3.out HB3.out);have HDS:aA (DS w3 w1.heap.size w1.heap.size (w1.heap.size+1+1) (w1.heap.size+1) W.heap.size ns (JU a0 ns a2 a3 A l.length c) [] [] 1):=⟨by
    refine ⟨⟨.slice none 0 0,.slice none 0 0,[],?_,⟨Kd.kJ _ _ _ _ _,rfl,fun _ _ _ h _=>absurd h (by simp),List.nodup_nil⟩,Kd.kJ _ _ _ _ _,fun _ h=>absurd h (by simp)⟩,?_,?_,E1.out⟩
    · rw [hw3]
      exact bH (bH (dX _ _) _) _
    · rw [hw3]
      have e:=dX ((w1.alloc (.cells #[.int .i64 (ns:Int),.slice none 0 0,.slice none 0 0] 46)).alloc (.cells #[.func (.func 46) #[] #[.pointer (some ⟨W.heap.size,0,none⟩)]] 83)) (.cells #[.int .i64 1] 3);simpa using e
    · rw [hw3]
      have e:=dX (w1.alloc (.cells #[.int .i64 (ns:Int),.slice none 0 0,.slice none 0 0] 46)) (.cells #[.func (.func 46) #[] #[.pointer (some ⟨W.heap.size,0,none⟩)]] 83);exact bH (by simpa using e) _⟩
  have hy0:w3.cell? ⟨W.heap.size,0,none⟩=some (.int .i64 a0):=(aD E1.out 0).trans rfl;have hy1:w3.cell? ⟨W.heap.size,1,none⟩=some (.int .i64 (ns:Int)):=(aD E1.out 1).trans rfl;have hy2:w3.cell? ⟨W.heap.size,2,none⟩=some (.int .i64 a2):=(aD E1.out 2).trans rfl;have hy3:w3.cell? ⟨W.heap.size,3,none⟩=some (.int .i64 a3):=(aD E1.out 3).trans rfl;have hy4:w3.cell? ⟨W.heap.size,4,none⟩=some (.slice A l.length c):=(aD E1.out 4).trans rfl;rw [hw3] at hy0 hy1 hy2 hy3 hy4;clear hx1;go_wp2_with (fail)
  rw [←hw3];clear hy0 hy1 hy2 hy3 hy4 hw3;go_at_call 47;refine (HSUB.out w1.heap.size w1.heap.size (w1.heap.size+1+1) (w1.heap.size+1) W.heap.size w1 w3 HDS.out HB3.out (Nat.le_refl _) (by omega) (Nat.le_refl _) (Kd.dJ HR.out HB1.out)).mono ?_;rintro e w6 hsub;cases o with
  |none =>
    obtain ⟨rfl,hb6⟩:=hsub;have F2:=aA.mk (bK B2.out hb6);have F3:=aA.mk (bK B3.out hb6);have SK:=aA.mk (bU HB1.out HB1.out.size hb6);clear hb6;go_wp2;refine doorD_many _ _ (W.heap.size+1) (W.heap.size+1+1) #[.int .i64 0,.slice none 0 0,.slice none 0 0] 0 rfl F2.out rfl rfl F3.out _ ?_;exact ⟨.slice none 0 0,.slice none 0 0,rfl,Kd.rO _ _ _ _ _,Kd.kJ _ _ _ _ _,SK.out.setCell (by simp;omega) _⟩
  |some p =>
    obtain ⟨rfl,⟨n,hD⟩,hb6⟩:=hsub;have F2:=aA.mk (bK B2.out hb6);have F3:=aA.mk (bK B3.out hb6);have SK:=aA.mk (bU HB1.out HB1.out.size hb6);obtain ⟨vn,va,gs,hO,hN,hA,_⟩:=hD.out;have HSN:=aA.mk (Kd.XI (next_S hN HNS.out) HB1.out.size);have HRA:=aA.mk (Kd.iH hA HB1.out.size);obtain ⟨An,Ln,cn,rfl⟩:=vU hN.own;obtain ⟨Aa,La,ca,rfl⟩:=vU hA;have hc0:w6.cell? ⟨w1.heap.size,0,none⟩=some (.int .i64 (ns:Int)):=(aD hO 0).trans rfl;have hc1:w6.cell? ⟨w1.heap.size,1,none⟩=some (.slice An Ln cn):=(aD hO 1).trans rfl;have hc2:w6.cell? ⟨w1.heap.size,2,none⟩=some (.slice Aa La ca):=(aD hO 2).trans rfl;have hc40:w6.cell? ⟨W.heap.size+1,0,none⟩=some (.int .i64 0):=(aD F2.out 0).trans rfl;have hc41:w6.cell? ⟨W.heap.size+1,1,none⟩=some (.slice none 0 0):=(aD F2.out 1).trans rfl;have hc42:w6.cell? ⟨W.heap.size+1,2,none⟩=some (.slice none 0 0):=(aD F2.out 2).trans rfl;have hc50:w6.cell? ⟨W.heap.size+1+1,0,none⟩=some (.int .i64 0):=(aD F3.out 0).trans rfl;have hf0:=bF F2.out 0;have hf1:=bF F2.out 1;have hf2:=bF F2.out 2;have hf5:=bF F3.out 0;clear hb6 hD hN hA hO;go_wp2;have hne:W.heap.size+1+1≠W.heap.size+1:=(by omega);refine QH _ _ (W.heap.size+1) (W.heap.size+1+1) #[.int .i64 (ns:Int),.slice An Ln cn,.slice Aa La ca] (.int .i64 0) rfl ?_ rfl rfl ?_ _ ?_
    · exact bR (setD_blk F2.out _ _ _) hne.symm _
    · exact (aD (lN (FZ F3.out hne _ _ _) 0 _) 0).trans rfl
    · refine ⟨.slice An Ln cn,.slice Aa La ca,rfl,?_,?_,(QI SK.out (by omega) _ _ _).setCell (by simp;omega) _⟩
      · exact Kd.S_set (Kd.S_set (Kd.S_set (Kd.S_set HSN.out F2.out (by decide) 0 _) (lN F2.out 0 _) (by decide) 1 _) (lN (lN F2.out 0 _) 1 _) (by decide) 2 _) (FZ F3.out hne _ _ _) (by decide) 0 _
      · exact Kd.R_set (Kd.R_set (Kd.R_set (Kd.R_set HRA.out F2.out (by decide) 0 _) (lN F2.out 0 _) (by decide) 1 _) (lN (lN F2.out 0 _) 1 _) (by decide) 2 _) (FZ F3.out hne _ _ _) (by decide) 0 _
end Go.Proofs.Ytapinbmkjkbkkaa.Mk
namespace Go.Proofs.Ytapinbmkjkbkkaa.Mk
open Go.RowKit Go.Proofs.aC.bE Go.Proofs.aC.bV Go.Proofs.aC.bY Lb
theorem check_ns {a0 a1 a2 a3:Int} {l:List gV} (h:jI.f a0 a1 a2 a3 l=some 0):0≤a1∧a1≤4096:=by
  unfold jI.f at h;have h:=Option.some.inj h;by_cases b1:65536<l.length
  · rw [if_pos b1] at h;exact absurd h (by decide)
  · rw [if_neg b1] at h
    by_cases b2:mF a0 a1 a2 a3=true
    · have:=of_decide_eq_true b2
      omega
    · rw [if_neg b2] at h;exact absurd h (by decide)
theorem oV.calls (k:Nat) (aM aJ aV aW:Int) (A:Option Addr) (c:Nat) (l:List gV) (r1:Int) (r2:List (List Int)) (r3:List Bool) (r4:Int) (w:World) (hr:Kd.C xP w A l.length l) (hc:l.length≤c) (h:oV.f k aM aJ aV aW l=some (r1,r2,r3,r4)) :
    Calls Try.prog 17 #[.agg #[.int .i64 aM,.int .i64 aJ,.int .i64 aV,.int .i64 aW,.slice A l.length c]] w fun e w'=>∃ v v',e = .returned (.tuple #[.agg #[.int .i64 r1,v,v'],.int .i64 r4])∧Kd.S (Kd.slice 3 (Kd.int .i64)) 27 w' w.heap.size (fun _=>True) v r2∧Kd.R Kd.bool 4 w' w.heap.size (fun _=>True) v' r3∧Below w.heap.size w w':=by
  unfold oV.f at h;obtain ⟨cc,hcc,h⟩:=Option.bind_eq_some_iff.mp h;by_cases hz:cc=0
  · subst hz
    rw [if_pos rfl] at h;obtain ⟨b0,h1,h⟩:=Option.bind_eq_some_iff.mp h;obtain ⟨b1,h2,h⟩:=Option.bind_eq_some_iff.mp h;obtain ⟨s0,h3,h⟩:=Option.bind_eq_some_iff.mp h;obtain ⟨key,h4,h⟩:=Option.bind_eq_some_iff.mp h;by_cases hks:key.size≤4096
    · rw [if_pos hks] at h
      obtain ⟨o,h5,he⟩:=Option.map_eq_some_iff.mp h;obtain ⟨hn0,hn1⟩:=check_ns hcc;obtain ⟨ns,rfl⟩:=Int.eq_ofNat_of_zero_le hn0;have hd:=dfa_ok k ns aM aV aW A c l w hr hc hcc (by omega) b0 b1 s0 key h1 h2 h3 h4 hks o h5;cases o with
      |none =>
        injection he with e1 e2;injection e2 with e2 e3;injection e3 with e3 e4;subst e1;subst e2;subst e3;subst e4;exact hd
      |some p =>
        injection he with e1 e2;injection e2 with e2 e3;injection e3 with e3 e4;subst e1;subst e2;subst e3;subst e4;exact hd
    · rw [if_neg hks] at h
      exact absurd h (by simp)
  · rw [if_neg hz] at h
    have e:=Option.some.inj h;injection e with e1 e2;injection e2 with e2 e3;injection e3 with e3 e4;subst e1;subst e2;subst e3;subst e4;exact dfa_bad aM aJ aV aW A c l cc w hr hc hcc hz
end Go.Proofs.Ytapinbmkjkbkkaa.Mk
namespace Go.Proofs.Ytapinbmkjkbkkaa.Mk
open Go.RowKit Go.Proofs.aC.bE Go.Proofs.aC.bV Go.Proofs.aC.bY Lb Pu
theorem keepT_R {α:Type} {d:Kd α} {e base:Nat} {W W1:World} {ok:Nat→Prop} {v:Value} {xs:List α} (h:d.R e W base ok v xs) (hk:vD W W1) (ht : ∀ q,q∈e :: d.E→q≠71∧q≠78):d.R e W1 base ok v xs:=by
  refine Kd.dH (Kd.N8 (Kd.lZ h) fun k hk1=>?_) (fun _ hk=>hk.1);obtain ⟨_,_,_,q,hq,cells,hc⟩:=hk1;rw [hc];exact hk.2 _ _ _ _ (ht q hq).1 (ht q hq).2 hc
theorem RV {n:Nat} {s s':St} (h:lW n s=some s'):s'=(s.1+n,s.2)∧(0<n→s.1+n≤4096):=by
  induction n generalizing s with
  |zero =>
    obtain rfl:=Option.some.inj h;exact ⟨by simp,fun h=>absurd h (by decide)⟩
  |succ n ih =>
    rw [lW] at h;obtain ⟨p,hp,h⟩:=Option.bind_eq_some_iff.mp h;unfold kP at hp;by_cases h1:s.1<4096
    · rw [if_pos h1] at hp
      obtain rfl:=Option.some.inj hp;obtain ⟨rfl,h2⟩:=ih h;refine ⟨by simp only [Prod.mk.injEq,and_true];omega,fun _=>?_⟩;by_cases h0:0<n
      · have:=h2 h0
        simp only at this;omega
      · omega
    · rw [if_neg h1] at hp
      exact absurd hp (by simp)
theorem rowsA_step (first:Int) (next:List (List Int)) (i:Nat) (row:List Int) (h:next[i]?=some row):pO first i (next.drop i)=yI first (first+(i:Int)) 0 row ++ pO first (i+1) (next.drop (i+1)):=by
  obtain ⟨hl,rfl⟩:=List.getElem?_eq_some_iff.mp h;rw [List.drop_eq_getElem_cons hl,pO]
theorem symA_step (first fr:Int) (row:List Int) (j:Nat) (x:Int) (h:row[j]?=some x):yI first fr j (row.drop j)=⟨fr,(j:Int),first+x⟩ :: yI first fr (j+1) (row.drop (j+1)):=by
  obtain ⟨hl,rfl⟩:=List.getElem?_eq_some_iff.mp h;rw [List.drop_eq_getElem_cons hl,yI]
theorem accA_step (first tt:Int) (acc:List Bool) (i:Nat) (b:Bool) (h:acc[i]?=some b):sU first tt i (acc.drop i)=(if b=true then [] else [⟨first+(i:Int),-1,tt⟩]) ++ sU first tt (i+1) (acc.drop (i+1)):=by
  obtain ⟨hl,rfl⟩:=List.getElem?_eq_some_iff.mp h;rw [List.drop_eq_getElem_cons hl,sU]
structure NI (base M:Nat) (ns:Int) (mp:Value) (w0 W0 wr:World) (D:Nat) (v v':Value) (next:List (List Int)) (acc:List Bool) (s:St):Prop where
  mm:pI base M ns mp wr s.1 s.2
  bl:Below base w0 wr
  kt:vD W0 wr
  h0:0≤s.1
  bd:wr.heap[D]?=some (.cells #[.int .i64 ns,v,v'] 46 (0,0))
  nx:(Kd.slice 3 (Kd.int .i64)).R 27 wr 0 (fun _=>True) v next
  ac:Kd.bool.R 4 wr 0 (fun _=>True) v' acc
theorem MP {base M:Nat} {ns:Int} {mp:Value} {w0 W0 wr w2:World} {D:Nat} {v v':Value} {next:List (List Int)} {acc:List Bool} {s s':St} (h:NI base M ns mp w0 W0 wr D v v' next acc s) (hm:pI base M ns mp w2 s'.1 s'.2) (hb:Below base w0 w2) (hk:vD wr w2) (h0:0≤s'.1):NI base M ns mp w0 W0 w2 D v v' next acc s' :=
  ⟨hm,hb,fZ h.kt hk,h0,hk.2 _ _ _ _ (by decide) (by decide) h.bd,keepT_R h.nx hk (by decide),keepT_R h.ac hk (by decide)⟩
theorem row_at {W:World} {base g cap i n:Nat} {next:List (List Int)} {row:List Int} (h:(Kd.slice 3 (Kd.int .i64)).R 27 W base (fun _=>True) (.slice (some ⟨g,0,none⟩) n cap) next) (hi:next[i]?=some row) :
    ∃ As cs,W.cell? ⟨g,i,none⟩=some (.slice As row.length cs)∧Kd.C (Kd.int .i64) W As row.length row:=by
  obtain ⟨hn,_,_⟩:=Kd.cO h;have hl:=(List.getElem?_eq_some_iff.mp hi).1;obtain ⟨c,hc1,⟨v,rfl,hv⟩,hc2,_⟩:=Kd.QD h ([]:List Int) (i:Int) (by omega) (by omega);rw [Int.toNat_natCast,YJ hi] at hv;obtain ⟨As,cs,rfl⟩:=Kd.dY hv;have:=hc2 0 _ rfl;rw [Int.toNat_natCast] at this;have e:i * (Kd.slice 3 (Kd.int .i64)).sz+0=i:=(by show i * 1+0=i;omega);rw [e] at this;exact ⟨As,cs,this,(Kd.cO hv).2.2⟩
theorem cell_keep {W W1:World} {base g n cap:Nat} {next:List (List Int)} (h:(Kd.slice 3 (Kd.int .i64)).R 27 W base (fun _=>True) (.slice (some ⟨g,0,none⟩) n cap) next) (hk:vD W W1) (i:Nat):W1.cell? ⟨g,i,none⟩=W.cell? ⟨g,i,none⟩:=by
  obtain ⟨c,hc⟩:=Kd.jE h g rfl;exact (aD (hk.2 _ _ _ _ (by decide) (by decide) hc) i).trans (aD hc i).symm
variable {nm : List (List UInt8)} {nn : St → Int → Int → St → Option St}
set_option maxRecDepth 100000 in
set_option maxHeartbeats 12800000 in
theorem not_calls (k:gB) (ih:rP nm nn k) (hnn : ∀ a,qO nm nn k=some a→∃ o,Q9 nm.length a o∧∀ fr tt s,nn a fr tt s=MU o fr tt s) (base M mb:Nat) (w0 W:World) (A:Option Addr) (c:Nat) (s:St) (fr tt:Int)
    (hM:base≤M) (hw:w0.heap.size≤base) (hn:jU w0 mb nm) (hr:Kd.C k25 w0 A k.f2.length k.f2) (hc:k.f2.length≤c) (hK:pI base M (nm.length:Int) (.map (some mb)) W s.1 s.2) (hb:Below base w0 W) (h0:0≤s.1) :
    Calls Try.prog 85 #[.pointer (some ⟨M,0,none⟩),.agg #[.int .i64 k.f0,.string k.f1,.slice A k.f2.length c],.int .i64 fr,.int .i64 tt] W (Fin base M (nm.length:Int) (.map (some mb)) w0 W ((qO nm nn k).bind fun a=>nn a fr tt s)):=by
  have HC:=aA.mk hc;have HG:=aA.mk hr;have HN:=aA.mk hn;have vG:=aA.mk (R8 k ih);have HNN:=aA.mk hnn;have hal0:=aN (Below.refl W.heap.size W) (.cells #[.int .i64 k.f0,.string k.f1,.slice A k.f2.length c] 25);have zK:=aA.mk (lQ hK (.cells #[.int .i64 k.f0,.string k.f1,.slice A k.f2.length c] 25));have HB0:=aA.mk (qW hM hK hb (.cells #[.int .i64 k.f0,.string k.f1,.slice A k.f2.length c] 25));have HT0:=aA.mk (kV W (.cells #[.int .i64 k.f0,.string k.f1,.slice A k.f2.length c] 25));have HM:=aA.mk hM;have H0:=aA.mk h0;have HW:=aA.mk hw;obtain ⟨oo,hoo⟩ : ∃ oo,((qO nm nn k).bind fun a=>nn a fr tt s)=oo:=⟨_,rfl⟩;rw [hoo];have HO:=aA.mk hoo;clear hr hc hK hb hw hn h0 hM ih hnn hal0 hoo;go_enter Try.func85,Try.ntmps85;go_wp2_with (fail)
  go_at_call 36;obtain ⟨v0,hv0,hr0⟩:=zK.out.out;refine (vG.out M mb _ A c (pW HN.out (HB0.out.mono HW.out)) (Kd.dJ HG.out (HB0.out.mono HW.out)) HC.out ((aD hv0 1).trans rfl) ((aD hv0 5).trans rfl)).mono ?_;rintro e w1 h1;clear hv0 hr0;cases hal:qO nm nn k with
  |none =>
    rw [hal] at h1;obtain ⟨rfl,hb1⟩:=h1;have HB1:=aA.mk (show Below base w0 w1 from bU HB0.out (Nat.le_trans HM.out (Nat.le_of_lt (QJ zK.out))) hb1);have ho:=HO.out;rw [hal,Option.bind_none] at ho;subst ho;clear hb1 hal HO;go_wp2;exact ⟨rfl,rfl,HB1.out⟩
  |some a =>
    rw [hal] at h1;obtain ⟨v,rfl,hR,hb1⟩:=h1;have hbs:base≤(W.alloc (.cells #[.int .i64 k.f0,.string k.f1,.slice A k.f2.length c] 25)).heap.size:=Nat.le_trans HM.out (Nat.le_of_lt (QJ zK.out));have HB1:=aA.mk (show Below base w0 w1 from bU HB0.out hbs hb1);have iC:aA (pI base M (nm.length:Int) (.map (some mb)) w1 s.1 s.2):=⟨by obtain ⟨v,h1,h2⟩:=zK.out;exact ⟨v,bK h1 hb1,Kd.fE h2 hb1⟩⟩;have HT1:=aA.mk (fZ HT0.out (yV hb1));obtain ⟨A1,c1,rfl⟩:=Kd.dY hR;obtain ⟨_,hl1,hC1⟩:=Kd.cO hR;have HL1:=aA.mk hl1;have SH:=aA.mk hC1;have HS1:aA (base≤w1.heap.size):=⟨Nat.le_trans hbs hb1.size⟩;obtain ⟨o,hok,hno⟩:=HNN.out a hal;obtain ⟨kk,hkk⟩:=hok.ex;have KM:=hok.dim;clear hok;have ho:=HO.out;rw [hal,Option.bind_some,hno] at ho;have HO:=aA.mk ho;have HDIM:=aA.mk KM;have HKK:=aA.mk hkk;clear hb1 hR hl1 hC1 hbs hal hno KM hkk zK HB0 HT0 ho;go_wp2_with (fail)
    go_at_call 17;cases o with
    |none =>
      refine (oV.calls kk a.1 nm.length 0 1 A1 c1 a.2 0 [] [] 3 _ SH.out HL1.out HKK.out).mono ?_;rintro e w2 ⟨v,v',rfl,hS,hA,hb2⟩;have HB2:=aA.mk (show Below base w0 w2 from bU HB1.out HS1.out hb2);have HS2:aA (base≤w2.heap.size):=⟨Nat.le_trans HS1.out hb2.size⟩;obtain ⟨Av,Lv,cv,rfl⟩:=vU (Kd.S_R hS);obtain ⟨Ab,Lb,cb,rfl⟩:=vU hA;obtain rfl:none=oo:=HO.out;clear hS hA hb2 HO;go_wp2;exact ⟨rfl,rfl,HB2.out.alloc HS2.out _⟩
    |some p =>
      obtain ⟨next,acc⟩:=p;refine (oV.calls kk a.1 nm.length 0 1 A1 c1 a.2 nm.length next acc 0 _ SH.out HL1.out HKK.out).mono ?_;rintro e w2 ⟨v,v',rfl,hS,hA,hb2⟩;have HB2:=aA.mk (show Below base w0 w2 from bU HB1.out HS1.out hb2);have HS2:aA (base≤w2.heap.size):=⟨Nat.le_trans HS1.out hb2.size⟩;obtain ⟨hd1,hd2,hd3⟩:=HDIM.out _ rfl;simp only at hd1 hd2 hd3;have HD3:=aA.mk hd3;have hd4:acc.length≤1024:=(by omega);have HD2:=aA.mk hd2;have HNI:aA (NI base M (nm.length:Int) (.map (some mb)) w0 W (w2.alloc (.cells #[.int .i64 (nm.length:Int),v,v'] 46)) w2.heap.size v v' next acc s):=⟨by
        refine ⟨?_,HB2.out.alloc HS2.out _,fZ HT1.out (fZ (yV hb2) (kV _ _)),H0.out,dX _ _,Kd.iH (Kd.nY (Kd.S_R hS) _) (Nat.zero_le _),Kd.iH (Kd.nY hA _) (Nat.zero_le _)⟩;obtain ⟨vm,e1,e2⟩:=iC.out;exact ⟨vm,bH (bK e1 hb2) _,Kd.nY (Kd.fE e2 hb2) _⟩⟩
      obtain ⟨Av,cv,rfl⟩:=Kd.dY (Kd.S_R hS);obtain ⟨Ab,cb,rfl⟩:=Kd.dY hA;have ho:=HO.out;obtain ⟨os,hos⟩ : ∃ os,lW next.length s=os:=⟨_,rfl⟩;have ho:os.bind (tF (wR s.1 fr tt next acc))=oo:=(by rw [←hos];exact ho);have HOS:=aA.mk hos;have MO:=aA.mk ho;have hcm : ∀ o:Obj,(w2.alloc o).cell? ⟨M,0,none⟩=some (.int .i64 s.1):=fun o=>by
        obtain ⟨vm,e1,e2⟩:=iC.out;exact (aD (bH (bK e1 hb2) o) 0).trans rfl
      clear hS hA hb2 HO ho hos hd3 hd2 HDIM HNN iC HT1 HB1 SH HL1 HKK HS1;go_wp2_with (fail)
      clear hcm;go_loopg [36] next.length (fun q v36 wr=>∃ (i:Nat) (s':St),i≤next.length∧v36 = .int .i64 i∧q=next.length - i∧aA (lW (next.length - i) s'=os)∧aA (NI base M (nm.length:Int) (.map (some mb)) w0 W wr w2.heap.size (.slice Av next.length cv) (.slice Ab acc.length cb) next acc s'))
      case atStart=>exact ⟨0,s,Nat.zero_le _,rfl,rfl,HOS,HNI⟩
      case round =>
        obtain ⟨i,s',hi,rfl,rfl,HSF,HI⟩:=hrel;clear HNI;by_cases hlt:i<next.length
        · obtain ⟨d,hd⟩ : ∃ d,next.length - i=d+1:=⟨next.length - i - 1,by omega⟩
          have Q8:=HSF.out;rw [hd,lW] at Q8;have HSF2:=aA.mk Q8;have HD:=aA.mk hd;clear Q8 hd;go_wp2_with (fail)
          go_at_call 84;refine (xM HI.out.h0 HM.out HI.out.mm HI.out.bl).mono ?_;rintro e w3 h1;cases hs1:kP s' with
          |none =>
            rw [hs1] at h1;obtain ⟨rfl,hb3⟩:=h1;have HB3:=aA.mk hb3;have Q8:=HSF2.out;rw [hs1,Option.bind_none] at Q8;subst Q8;obtain rfl:none=oo:=MO.out;clear hs1 hb3 MO HOS HSF2 HSF;go_wp2;exact ⟨rfl,rfl,HB3.out⟩
          |some p1 =>
            rw [hs1] at h1;obtain ⟨rfl,hk3,hb3,ht3,hp3⟩:=h1;have HI3:=aA.mk (MP HI.out hk3 hb3 ht3 hp3);have Q8:=HSF2.out;rw [hs1,Option.bind_some] at Q8;have HSF3:aA (lW (next.length - (i+1)) p1.2=os):=⟨by rw [show next.length - (i+1)=d by have:=HD.out;omega];exact Q8⟩;clear hs1 hk3 hb3 ht3 hp3 Q8 HSF2 HSF HI;go_wp2;go_roundg (next.length - (i+1))
            case measure=>omega
            case rel=>exact ⟨i+1,p1.2,by omega,by go_num,rfl,HSF3,HI3⟩
        · have Q8:=HSF.out
          rw [show next.length - i=0 by omega,lW] at Q8;obtain rfl:some s'=os:=Q8;have hbd:=RV HOS.out;have HBD:=aA.mk hbd;have ho2:=MO.out;rw [Option.bind_some] at ho2;have ho2:(qB s' fr (-1) s.1).bind (tF (pO s.1 0 next ++ sU s.1 tt 0 acc))=oo:=ho2;have PX:=aA.mk ho2;clear hbd ho2 MO HSF;go_wp2_with (fail)
          go_at_call 83;refine (wG _ _ _ HI.out.h0 HM.out HI.out.mm HI.out.bl).mono ?_;rintro e w3 h1;cases hs1:qB s' fr (-1) s.1 with
          |none =>
            rw [hs1] at h1;obtain ⟨rfl,hb3⟩:=h1;have HB3:=aA.mk hb3;have ho3:=PX.out;rw [hs1,Option.bind_none] at ho3;subst ho3;clear hs1 hb3 PX HOS;go_wp2;exact ⟨rfl,rfl,HB3.out⟩
          |some s1 =>
            rw [hs1] at h1;obtain ⟨rfl,hk3,hb3,ht3,hp3⟩:=h1;have HI3:=aA.mk (MP HI.out hk3 hb3 ht3 hp3);have ho3:=PX.out;rw [hs1,Option.bind_some] at ho3;have HO4:aA (tF (pO s.1 0 (next.drop 0) ++ sU s.1 tt 0 acc) s1=oo):=⟨ho3⟩;have hc1:w3.cell? ⟨w2.heap.size,1,none⟩=some (.slice Av next.length cv):=(aD HI3.out.bd 1).trans rfl;clear hs1 hk3 hb3 ht3 hp3 ho3 PX HI HOS;go_wp2_with (fail)
            clear hc1;go_loopg [48] next.length (fun q v48 wr=>∃ (i:Nat) (s':St),i≤next.length∧v48 = .int .i64 i∧q=next.length - i∧aA (tF (pO s.1 i (next.drop i) ++ sU s.1 tt 0 acc) s'=oo)∧aA (NI base M (nm.length:Int) (.map (some mb)) w0 W wr w2.heap.size (.slice Av next.length cv) (.slice Ab acc.length cb) next acc s'))
            case atStart=>exact ⟨0,s1,Nat.zero_le _,rfl,rfl,HO4,HI3⟩
            case round =>
              obtain ⟨i2,s2,hi2,rfl,rfl,HA2,HI2⟩:=hrel;clear HO4 HI3;by_cases hlt2:i2<next.length
              · obtain ⟨row,hrow⟩ : ∃ row,next[i2]?=some row:=⟨next[i2],List.getElem?_eq_getElem hlt2⟩
                obtain ⟨hrl,hrx⟩:=HD3.out row (List.mem_of_getElem? hrow);have ha2:=HA2.out;rw [rowsA_step s.1 next i2 row hrow,List.append_assoc] at ha2;have HA3:aA (tF (yI s.1 (s.1+(i2:Int)) 0 (row.drop 0) ++ (pO s.1 (i2+1) (next.drop (i2+1)) ++ sU s.1 tt 0 acc)) s2=oo):=⟨ha2⟩;have HRX:=aA.mk hrx;have HROW:=aA.mk hrow;obtain ⟨G,cg,hve,_⟩:=Kd.uL HI2.out.nx (by omega);injection hve with hv1 hv2 hv3;subst hv1;subst hv3;clear hv2;obtain ⟨A0,c0,hcell,hC0⟩:=row_at HI2.out.nx hrow;have HCELL:=aA.mk hcell;clear ha2 hrx hrow hC0 HA2;go_wp2_with (fail)
                clear hcell;go_loopg [55] row.length (fun q v55 wr=>∃ (j:Nat) (s':St),j≤row.length∧v55 = .int .i64 j∧q=row.length - j∧aA (tF (yI s.1 (s.1+(i2:Int)) j (row.drop j) ++ (pO s.1 (i2+1) (next.drop (i2+1)) ++ sU s.1 tt 0 acc)) s'=oo)∧aA (NI base M (nm.length:Int) (.map (some mb)) w0 W wr w2.heap.size (.slice (some ⟨G,0,none⟩) next.length cv) (.slice Ab acc.length cb) next acc s')∧aA (wr.cell? ⟨G,i2,none⟩=some (.slice A0 row.length c0)))
                case atStart=>exact ⟨0,s2,Nat.zero_le _,rfl,rfl,HA3,HI2,HCELL⟩
                case round =>
                  obtain ⟨j,s4,hj,rfl,rfl,HA4,HI4,HCELL4⟩:=hrel;clear HA3 HI2 HCELL;by_cases hlt3:j<row.length
                  · obtain ⟨A0',c0',hcell4,hC4⟩:=row_at HI4.out.nx HROW.out
                    have he:=hcell4.symm.trans HCELL4.out;injection he with he;injection he with he1 he2 he3;subst he1;obtain ⟨ad4,rfl,hx4⟩:=Kd.qP hC4 (j:Int) (by omega) (by omega);rw [Int.toNat_natCast] at hx4;obtain ⟨hx0,hx1⟩:=HRX.out (rd row j) (by unfold rd;simp [List.getElem?_eq_getElem hlt3]);have MQ:=HA4.out;rw [symA_step s.1 (s.1+(i2:Int)) row j (rd row j) (by unfold rd;simp [List.getElem?_eq_getElem hlt3])] at MQ;have MQ:(qB s4 (s.1+(i2:Int)) (j:Int) (s.1+rd row j)).bind (tF (yI s.1 (s.1+(i2:Int)) (j+1) (row.drop (j+1)) ++ (pO s.1 (i2+1) (next.drop (i2+1)) ++ sU s.1 tt 0 acc)))=oo:=MQ;have HA5:=aA.mk MQ;have hs0:=H0.out;have hs1:=HBD.out.2 (by omega);clear MQ he2 he3 hcell4 hC4 HA4;go_wp2_with (fail)
                    go_at_call 83;refine (wG _ _ _ HI4.out.h0 HM.out HI4.out.mm HI4.out.bl).mono ?_;rintro e w5 h1;cases hs5:qB s4 (s.1+(i2:Int)) (j:Int) (s.1+rd row j) with
                    |none =>
                      rw [hs5] at h1;obtain ⟨rfl,hb5⟩:=h1;have DC:=aA.mk hb5;have ha5:=HA5.out;rw [hs5,Option.bind_none] at ha5;subst ha5;clear hs5 hb5 HA5;go_wp2;exact ⟨rfl,rfl,DC.out⟩
                    |some s5 =>
                      rw [hs5] at h1;obtain ⟨rfl,hk5,hb5,ht5,hp5⟩:=h1;have HI5:=aA.mk (MP HI4.out hk5 hb5 ht5 hp5);have HCELL5:=aA.mk ((cell_keep HI4.out.nx ht5 i2).trans HCELL4.out);have ha5:=HA5.out;rw [hs5,Option.bind_some] at ha5;have HA6:=aA.mk ha5;clear hs5 hk5 hb5 ht5 hp5 ha5 HA5 HI4 HCELL4 hx4 hs0 hs1 hx0 hx1;go_wp2;go_roundg (row.length - (j+1))
                      case measure=>omega
                      case rel=>exact ⟨j+1,s5,by omega,by go_num,rfl,HA6,HI5,HCELL5⟩
                  · have MQ:=HA4.out
                    rw [List.drop_eq_nil_of_le (by omega),yI,List.nil_append] at MQ;have HA5:=aA.mk MQ;clear MQ HA4;go_wp2;go_roundg (next.length - (i2+1))
                    case measure=>omega
                    case rel=>exact ⟨i2+1,s4,by omega,by go_num,rfl,HA5,HI4⟩
              · have ha2:=HA2.out
                rw [List.drop_eq_nil_of_le (by omega),pO,List.nil_append] at ha2;have HA3:aA (tF (sU s.1 tt 0 (acc.drop 0)) s2=oo):=⟨ha2⟩;have hc2:wr.cell? ⟨w2.heap.size,2,none⟩=some (.slice Ab acc.length cb):=(aD HI2.out.bd 2).trans rfl;clear ha2 HA2;go_wp2_with (fail)
                clear hc2;go_loopg [74] acc.length (fun q v74 wr=>∃ (i:Nat) (s':St),i≤acc.length∧v74 = .int .i64 i∧q=acc.length - i∧aA (tF (sU s.1 tt i (acc.drop i)) s'=oo)∧aA (NI base M (nm.length:Int) (.map (some mb)) w0 W wr w2.heap.size (.slice Av next.length cv) (.slice Ab acc.length cb) next acc s'))
                case atStart=>exact ⟨0,s2,Nat.zero_le _,rfl,rfl,HA3,HI2⟩
                case round =>
                  obtain ⟨i3,s3,hi3,rfl,rfl,HA4,HI3⟩:=hrel;clear HA3 HI2;by_cases hlt3:i3<acc.length
                  · obtain ⟨ad4,hab,hx4⟩:=Kd.nZ (Kd.cO HI3.out.ac).2.2 (i3:Int) (by omega) (by omega)
                    subst hab;rw [Int.toNat_natCast] at hx4;have hs0:=H0.out;have hs1:=HBD.out.2 (by have:=HD2.out;omega);have MQ:=HA4.out;rw [accA_step s.1 tt acc i3 (fF false acc i3) (by unfold fF;simp [List.getElem?_eq_getElem hlt3])] at MQ;cases hb:fF false acc (i3:Int) with
                    |true =>
                      rw [hb,if_pos rfl,List.nil_append] at MQ;rw [hb] at hx4;have HA5:=aA.mk MQ;clear MQ hb HA4;go_wp2;go_roundg (acc.length - (i3+1))
                      case measure=>omega
                      case rel=>exact ⟨i3+1,s3,by omega,by go_num,rfl,HA5,HI3⟩
                    |false =>
                      rw [hb,if_neg (by simp)] at MQ;rw [hb] at hx4;have MQ:(qB s3 (s.1+(i3:Int)) (-1) tt).bind (tF (sU s.1 tt (i3+1) (acc.drop (i3+1))))=oo:=MQ;have HA5:=aA.mk MQ;clear MQ hb HA4;go_wp2_with (fail)
                      go_at_call 83;refine (wG _ _ _ HI3.out.h0 HM.out HI3.out.mm HI3.out.bl).mono ?_;rintro e w5 h1;cases hs5:qB s3 (s.1+(i3:Int)) (-1) tt with
                      |none =>
                        rw [hs5] at h1;obtain ⟨rfl,hb5⟩:=h1;have DC:=aA.mk hb5;have ha5:=HA5.out;rw [hs5,Option.bind_none] at ha5;subst ha5;clear hs5 hb5 HA5;go_wp2;exact ⟨rfl,rfl,DC.out⟩
                      |some s5 =>
                        rw [hs5] at h1;obtain ⟨rfl,hk5,hb5,ht5,hp5⟩:=h1;have HI5:=aA.mk (MP HI3.out hk5 hb5 ht5 hp5);have ha5:=HA5.out;rw [hs5,Option.bind_some] at ha5;have HA6:=aA.mk ha5;clear hs5 hk5 hb5 ht5 hp5 ha5 HA5 HI3 hx4 hs0 hs1;go_wp2;go_roundg (acc.length - (i3+1))
                        case measure=>omega
                        case rel=>exact ⟨i3+1,s5,by omega,by go_num,rfl,HA6,HI5⟩
                  · have MQ:=HA4.out
                    rw [List.drop_eq_nil_of_le (by omega),sU] at MQ;obtain rfl:some s3=oo:=MQ;clear HA4;go_wp2;go_end0
                    exact ⟨rfl,HI3.out.mm,HI3.out.bl,HI3.out.kt,HI3.out.h0⟩
end Go.Proofs.Ytapinbmkjkbkkaa.Mk
