import Derived.Test.YtapinbmkjkbkkaaBuVi
import Derived.Test.YtapinbmkjkbkkaaBuLbe
import Derived.Test.YtapinbmkjkbkkaaBuLbf
import Derived.Test.YtapinbmkjkbkkaaBuLbx30
import Derived.Test.YtapinbmkjkbkkaaBuLbx31
import Derived.Test.YtapinbmkjkbkkaaBuLbx32
namespace Go.Proofs.Ytapinbmkjkbkkaa.Lb
open Go.RowKit Go.Proofs.aC.bE Go.Proofs.aC.bV Go.Proofs.aC.bY
attribute [local go_sem] kY kZ nO nP kC kD lC lD
set_option linter.unusedVariables false
set_option linter.unusedSimpArgs false
private theorem cZ {P:Prop} (h:P:=by repeat (first|(with_reducible first|exact HB.out|apply aN|apply bB|apply bX|refine eB ?_ GE549.out|refine eB ?_ GE553.out|refine eB ?_ GE562.out)|exact HB.out)):P:=h
mutual
def dD.l0:Nat→Int→Int→ByteArray→List (gB)→Option (Bool)
  |0,_,_,_,_=>none
  |k+1,x3,x550000,x550001,Z4=>if x3<(Z4.length:Int) then (if 0≤x3 then ((dD.f k ((bL Z4 x3).f0) ((bL Z4 x3).f1) ((bL Z4 x3).f2)).bind fun t551=>(if t551=true then (dD.l0 k (wrap64 (x3+1)) x550000 x550001 Z4) else (some false))) else (none)) else ((bC.f k x550000 x550001 Z4).bind fun t552=>(some t552))
def dD.f:Nat→Int→ByteArray→List (gB)→Option (Bool)
  |0,_,_,_=>none
  |k+1,aM,aJ,bQ=>dD.l0 k 0 aM aJ bQ
end
set_option maxHeartbeats 8000000 in
set_option maxRecDepth 100000 in
theorem dD.calls (k:Nat) : ∀ (aM:Int) (aJ:ByteArray) (jF:Option Addr) (iY:Nat) (bQ:List (gB)) (r:Bool) (w:World) (mI:Kd.C k25 w jF bQ.length bQ) (mJ:bQ.length≤iY) (h:dD.f k aM aJ bQ=some r),
    Calls Try.prog 73 #[.agg #[.int .i64 aM,.string aJ,.slice jF bQ.length iY]] w fun e w'=>e = .returned (.bool r)∧Below w.heap.size w w':=by
  induction k using Nat.strongRecOn with
  |_ k ih =>
  intro aM aJ jF iY bQ r w mI mJ h;cases k with
  |zero=>exact absurd h (by simp [dD.f])
  |succ k =>
  simp only [dD.f] at h;have hu25:=Try.underlying25;have qI:=bA mI;have xZ:=bA mJ;clear mI mJ;have HB:=bA (Below.refl w.heap.size w);have H:(dD.l0 k 0 aM aJ bQ)=some r:=h;clear h;have H':=bA H;clear H;go_enter Try.func73,Try.ntmps73;go_wp2_with (first|((with_reducible refine dB (N:=1) rfl ?_);refine dA ?hg (N:=1) ?hd (cs:=#[.int .i64 aM,.string aJ,.slice jF bQ.length iY]) (t:=25) ?hr ?_;(case hd=>rfl);(case hg=>rfl);(case hr=>first|(go_simp;done)|(go_simp;rfl));intro gb549 hg w2 dL hb;have pG:=bA (dL);have GW549:=bw (w:=w) hg cZ;have GE549:=bw (w:=w) hg cZ;replace HB:=bA (aU cZ hb);clear hb dL hg))
  go_loopg [3] k (fun kq v3 w'=>∃ (fG:Int),v3 = .int .i64 fG∧aA (dD.l0 kq fG aM aJ bQ=some r)∧aA (kq≤k)∧aA (w'.heap[gb549]?=some (.cells #[.int .i64 aM,.string aJ,(.slice jF bQ.length iY)] 25 (0,0)))∧aA (Below w.heap.size w w'))
  case atStart=>exact ⟨(0),be,H',⟨Nat.le_refl _⟩,⟨dV pG.out⟩,⟨cZ⟩⟩
  case round =>
    clear H';obtain ⟨fG,rfl,HA,iC,pG,HB⟩:=hrel;cases gk with
    |zero=>exact absurd HA.out (by simp [dD.l0])
    |succ k1 =>
      have H:=HA.out;clear HA;simp only [dD.l0] at H;by_cases c3:fG<(bQ.length:Int)
      · rw [if_pos c3] at H
        have mG:decide (fG<(bQ.length:Int))=true:=decide_eq_true c3;clear c3;by_cases c4:0≤fG
        · rw [if_pos c4] at H
          have qX:decide (0≤fG)=true:=decide_eq_true c4;clear c4;replace H:=Option.bind_eq_some_iff.mp H;obtain ⟨t551,A50,H⟩:=H;replace H:(if t551=true then (dD.l0 k1 (wrap64 (fG+1)) aM aJ bQ) else (some false))=some r:=H;have A5:=bA A50;clear A50;by_cases c6:t551=true
          · subst c6
            have H1:(dD.l0 k1 (wrap64 (fG+1)) aM aJ bQ)=some r:=(by rw [if_pos rfl] at H;exact H);clear H;have H:=H1;clear H1;have H':=bA H;clear H;have zD:=bc0 pG;have zF:=bc1 pG;have zG:=bc2 pG;have zH:=bz pG 0;have zI:=bz pG 1;have zJ:=bz pG 2;have p550:0≤(fG:Int):=gQ;have q550:fG<(bQ.length:Int):=gQ;obtain ⟨ad550,A550_2,c550_2,e550,L6,L8,L9,EZ,FB⟩:=mE qI.out fG p550 q550;cases e550;replace L6:=(HB.out.cell (World.block_lt_of_cell? w _ L6)).trans L6;replace L8:=(HB.out.cell (World.block_lt_of_cell? w _ L8)).trans L8;replace L9:=(HB.out.cell (World.block_lt_of_cell? w _ L9)).trans L9;have XF:=bA FB;have XG:=bA EZ;clear FB EZ;replace p550:=eq_true p550;replace q550:=eq_true q550;go_wp2_with (first|((with_reducible refine cK (f:=73) rfl ?_);refine gJ (some 16) rfl rfl Try.func73 (by kernel_rfl) rfl #[.agg #[.int .i64 ((bL bQ fG).f0),.string ((bL bQ fG).f1),.slice A550_2 ((bL bQ fG).f2).length c550_2]] rfl bm ?_;(with_reducible refine (ih k1 (by have:=iC.out;omega) ((bL bQ fG).f0) ((bL bQ fG).f1) _ _ ((bL bQ fG).f2) true _ ?side1 ?side2 A5.out).mono ?_);(case side1=>exact bs XF HB);(case side2=>exact XG.out);rintro e w8 ⟨rfl,hb⟩;refine ⟨_,rfl,?_⟩;replace pG:=bb pG hb;replace HB:=bA (aU cZ hb);(try clear hb);(try clear hb2);(try clear hk);(try clear hi)))
            go_roundg k1
            case measure=>have:=iC.out;omega
            case rel=>exact ⟨(wrap64 (fG+1)),be,H',⟨by have:=iC.out;omega⟩,⟨dV pG.out⟩,⟨cZ⟩⟩
          · replace c6:=Bool.eq_false_iff.mpr c6
            subst c6;have H1:(some false)=some r:=(by rw [if_neg (show ¬ (false=true) by decide)] at H;exact H);clear H;have H:=H1;clear H1;obtain rfl:=Option.some.inj H;have OY:=bc0 pG;have OZ:=bc1 pG;have PD:=bc2 pG;have PE:=bz pG 0;have PG:=bz pG 1;have PH:=bz pG 2;have p550:0≤(fG:Int):=gQ;have q550:fG<(bQ.length:Int):=gQ;obtain ⟨ad550,A550_2,c550_2,e550,L6,L8,L9,EZ,FB⟩:=mE qI.out fG p550 q550;cases e550;replace L6:=(HB.out.cell (World.block_lt_of_cell? w _ L6)).trans L6;replace L8:=(HB.out.cell (World.block_lt_of_cell? w _ L8)).trans L8;replace L9:=(HB.out.cell (World.block_lt_of_cell? w _ L9)).trans L9;have XF:=bA FB;have XG:=bA EZ;clear FB EZ;replace p550:=eq_true p550;replace q550:=eq_true q550;go_wp2_with (first|((with_reducible refine cK (f:=73) rfl ?_);refine gJ (some 16) rfl rfl Try.func73 (by kernel_rfl) rfl #[.agg #[.int .i64 ((bL bQ fG).f0),.string ((bL bQ fG).f1),.slice A550_2 ((bL bQ fG).f2).length c550_2]] rfl bm ?_;(with_reducible refine (ih k1 (by have:=iC.out;omega) ((bL bQ fG).f0) ((bL bQ fG).f1) _ _ ((bL bQ fG).f2) false _ ?side1 ?side2 A5.out).mono ?_);(case side1=>exact bs XF HB);(case side2=>exact XG.out);rintro e w10 ⟨rfl,hb⟩;refine ⟨_,rfl,?_⟩;replace pG:=bb pG hb;replace HB:=bA (aU cZ hb);(try clear hb);(try clear hb2);(try clear hk);(try clear hi)))
            go_ret;exact ⟨by first|rfl|(simp [aX,aY] <;> rfl)|(simp [*,aX,aY] <;> rfl),cZ⟩
        · rw [if_neg c4] at H
          exact absurd H (by simp)
      · rw [if_neg c3] at H
        have mG:decide (fG<(bQ.length:Int))=false:=decide_eq_false c3;clear c3;replace H:=Option.bind_eq_some_iff.mp H;obtain ⟨t552,A110,H⟩:=H;replace H:(some t552)=some r:=H;have A11:=bA A110;clear A110;obtain rfl:=Option.some.inj H;have hcz12_0:=bc0 pG;have hcz12_1:=bc1 pG;have hcz12_2:=bc2 pG;have hfz12_0:=bz pG 0;have hfz12_1:=bz pG 1;have hfz12_2:=bz pG 2;go_wp2_with (first|((with_reducible refine cK (f:=90) rfl ?_);refine gJ (some 19) rfl rfl Try.func90 (by kernel_rfl) rfl #[.agg #[.int .i64 aM,.string aJ,.slice jF bQ.length iY]] rfl bm ?_;(with_reducible refine (bC.calls k1 aM aJ _ _ bQ t552 _ ?side1 ?side2 A11.out).mono ?_);(case side1=>exact bs qI HB);(case side2=>exact xZ.out);rintro e w13 ⟨rfl,hb⟩;refine ⟨_,rfl,?_⟩;replace pG:=bb pG hb;replace HB:=bA (aU cZ hb);(try clear hb);(try clear hb2);(try clear hk);(try clear hi)))
        go_ret;exact ⟨by first|rfl|(simp [aX,aY] <;> rfl)|(simp [*,aX,aY] <;> rfl),cZ⟩
def bT.j0:Nat→Bool→Int→ByteArray→List (gB)→Option (Int)
  |0,_,_,_,_=>none
  |k+1,x10,x554000,x554001,x554002=>if x10=true then (some 71) else ((dD.f k x554000 x554001 x554002).bind fun t556=>(if t556=true then (some 0) else (some 70)))
def bT.f (k:Nat) (aM:Int) (aJ:ByteArray) (bQ:List (gB)):Option (Int):=(bS.f k aM aJ bQ).bind fun RN=>(if RN > 500 then (bT.j0 k true aM aJ bQ) else ((bN.f k aM aJ bQ 50).bind fun XH=>(bT.j0 k (!XH) aM aJ bQ)))
set_option maxHeartbeats 8000000 in
set_option maxRecDepth 100000 in
theorem bT.calls (k:Nat) (aM:Int) (aJ:ByteArray) (jF:Option Addr) (iY:Nat) (bQ:List (gB)) (r:Int) (w:World) (mI:Kd.C k25 w jF bQ.length bQ) (mJ:bQ.length≤iY) (h:bT.f k aM aJ bQ=some r) :
    Calls Try.prog 44 #[.agg #[.int .i64 aM,.string aJ,.slice jF bQ.length iY]] w fun e w'=>e = .returned (.int .i64 r)∧Below w.heap.size w w':=by
  have hu25:=Try.underlying25;have qI:=bA mI;have xZ:=bA mJ;clear mI mJ;have HB:=bA (Below.refl w.heap.size w);have H:((bS.f k aM aJ bQ).bind fun RN=>(if RN > 500 then (bT.j0 k true aM aJ bQ) else ((bN.f k aM aJ bQ 50).bind fun XH=>(bT.j0 k (!XH) aM aJ bQ))))=some r:=h;clear h;have OO:=bA H;clear H;go_enter Try.func44,Try.ntmps44;go_upto_region 1 with (first|((with_reducible refine dB (N:=1) rfl ?_);refine dA ?hg (N:=1) ?hd (cs:=#[.int .i64 aM,.string aJ,.slice jF bQ.length iY]) (t:=25) ?hr ?_;(case hd=>rfl);(case hg=>rfl);(case hr=>first|(go_simp;done)|(go_simp;rfl));intro gb553 hg w3 dL hb;have kG:=bA (dL);have GW553:=bw (w:=w) hg cZ;have GE553:=bw (w:=w) hg cZ;replace HB:=bA (aU cZ hb);clear hb dL hg))
  (try simp only [Act.put,List.setIfInBounds_toArray,List.set_cons_zero,List.set_cons_succ]);go_cut [10] (fun v10 wc=>∃ (kq:Nat) (x10_1:Bool),v10 = .bool x10_1∧aA (bT.j0 kq x10_1 aM aJ bQ=some r)∧aA (kq≤k)∧aA (wc.heap[gb553]?=some (.cells #[.int .i64 aM,.string aJ,(.slice jF bQ.length iY)] 25 (0,0)))∧aA (Below w.heap.size w wc))
  case first =>
    have H:=OO.out;clear OO;replace H:=Option.bind_eq_some_iff.mp H;obtain ⟨RN,A40,H⟩:=H;replace H:(if RN > 500 then (bT.j0 k true aM aJ bQ) else ((bN.f k aM aJ bQ 50).bind fun XH=>(bT.j0 k (!XH) aM aJ bQ)))=some r:=H;have A4:=bA A40;clear A40;by_cases c5:RN > 500
    · rw [if_pos c5] at H
      have uB:decide (500<RN)=true:=decide_eq_true c5;clear c5
      (first|rw [uB]|(simp only [iP,jB];rw [uB])|skip)
      have H':=bA H;clear H;have BS:=bc0 kG;have BU:=bc1 kG;have BV:=bc2 kG;have CE:=bz kG 0;have CF:=bz kG 1;have CG:=bz kG 2;go_wp2_with (first|((with_reducible refine cK (f:=71) rfl ?_);refine gJ (some 4) rfl rfl Try.func71 (by kernel_rfl) rfl #[.agg #[.int .i64 aM,.string aJ,.slice jF bQ.length iY]] rfl bm ?_;(with_reducible refine (bS.calls k aM aJ _ _ bQ RN _ ?side1 ?side2 A4.out).mono ?_);(case side1=>exact bs qI HB);(case side2=>exact xZ.out);rintro e w7 ⟨rfl,hb⟩;refine ⟨_,rfl,?_⟩;replace kG:=bb kG hb;replace HB:=bA (aU cZ hb);(try clear hb);(try clear hb2);(try clear hk);(try clear hi)))
      go_meet
      case rel=>exact ⟨_,(true),be,H',⟨by first|omega|exact Nat.le_refl _⟩,⟨dV kG.out⟩,⟨cZ⟩⟩
    · rw [if_neg c5] at H
      have uB:decide (500<RN)=false:=decide_eq_false c5;clear c5
      (first|rw [uB]|(simp only [iP,jB];rw [uB])|skip)
      replace H:=Option.bind_eq_some_iff.mp H;obtain ⟨XH,A80,H⟩:=H;replace H:(bT.j0 k (!XH) aM aJ bQ)=some r:=H;have A8:=bA A80;clear A80;have H':=bA H;clear H;have OY:=bc0 kG;have OZ:=bc1 kG;have PD:=bc2 kG;have PE:=bz kG 0;have PG:=bz kG 1;have PH:=bz kG 2;go_wp2_with (first|((with_reducible refine cK (f:=71) rfl ?_);refine gJ (some 4) rfl rfl Try.func71 (by kernel_rfl) rfl #[.agg #[.int .i64 aM,.string aJ,.slice jF bQ.length iY]] rfl bm ?_;(with_reducible refine (bS.calls k aM aJ _ _ bQ RN _ ?side1 ?side2 A4.out).mono ?_);(case side1=>exact bs qI HB);(case side2=>exact xZ.out);rintro e w10 ⟨rfl,hb⟩;refine ⟨_,rfl,?_⟩;replace kG:=bb kG hb;replace HB:=bA (aU cZ hb);(try clear hb);(try clear hb2);(try clear hk);(try clear hi);have rY:=bc0 kG;have rZ:=bc1 kG;have sD:=bc2 kG;have sF:=bz kG 0;have sG:=bz kG 1;have sH:=bz kG 2)|(go_at_call 72;(with_reducible refine (bN.calls k aM aJ _ _ bQ 50 XH _ ?side1 ?side2 A8.out).mono ?_);(case side1=>exact bs qI HB);(case side2=>exact xZ.out);rintro e w12 ⟨rfl,hb⟩;replace kG:=bb kG hb;replace HB:=bA (aU cZ hb);(try clear hb);(try clear hb2);(try clear hk);(try clear hi)))
      go_meet
      case rel=>exact ⟨_,(!XH),be,H',⟨by first|omega|exact Nat.le_refl _⟩,⟨dV kG.out⟩,⟨cZ⟩⟩
  case rest =>
    clear OO;obtain ⟨kq,x10_1,rfl,HA,HJ1,kG,HB⟩:=hcut;cases kq with
    |zero=>exact absurd HA.out (by simp [bT.j0])
    |succ kj1 =>
      have H:=HA.out;clear HA;simp only [bT.j0] at H;by_cases c13:x10_1=true
      · subst c13
        have H1:(some 71)=some r:=(by rw [if_pos rfl] at H;exact H);clear H;have H:=H1;clear H1;obtain rfl:=Option.some.inj H;go_wp2;go_ret;exact ⟨by first|rfl|(simp [aX,aY] <;> rfl)|(simp [*,aX,aY] <;> rfl),cZ⟩
      · replace c13:=Bool.eq_false_iff.mpr c13
        subst c13;have H1:((dD.f kj1 aM aJ bQ).bind fun t556=>(if t556=true then (some 0) else (some 70)))=some r:=(by rw [if_neg (show ¬ (false=true) by decide)] at H;exact H);clear H;have H:=H1;clear H1;replace H:=Option.bind_eq_some_iff.mp H;obtain ⟨t556,A140,H⟩:=H;replace H:(if t556=true then (some 0) else (some 70))=some r:=H;have A14:=bA A140;clear A140;by_cases c15:t556=true
        · subst c15
          have H1:(some 0)=some r:=(by rw [if_pos rfl] at H;exact H);clear H;have H:=H1;clear H1;obtain rfl:=Option.some.inj H;have hcz16_0:=bc0 kG;have hcz16_1:=bc1 kG;have hcz16_2:=bc2 kG;have hfz16_0:=bz kG 0;have hfz16_1:=bz kG 1;have hfz16_2:=bz kG 2;go_wp2_with (first|((with_reducible refine cK (f:=73) rfl ?_);refine gJ (some 12) rfl rfl Try.func73 (by kernel_rfl) rfl #[.agg #[.int .i64 aM,.string aJ,.slice jF bQ.length iY]] rfl bm ?_;(with_reducible refine (dD.calls kj1 aM aJ _ _ bQ true _ ?side1 ?side2 A14.out).mono ?_);(case side1=>exact bs qI HB);(case side2=>exact xZ.out);rintro e w17 ⟨rfl,hb⟩;refine ⟨_,rfl,?_⟩;replace kG:=bb kG hb;replace HB:=bA (aU cZ hb);(try clear hb);(try clear hb2);(try clear hk);(try clear hi)))
          go_ret;exact ⟨by first|rfl|(simp [aX,aY] <;> rfl)|(simp [*,aX,aY] <;> rfl),cZ⟩
        · replace c15:=Bool.eq_false_iff.mpr c15
          subst c15;have H1:(some 70)=some r:=(by rw [if_neg (show ¬ (false=true) by decide)] at H;exact H);clear H;have H:=H1;clear H1;obtain rfl:=Option.some.inj H;have hcz18_0:=bc0 kG;have hcz18_1:=bc1 kG;have hcz18_2:=bc2 kG;have hfz18_0:=bz kG 0;have hfz18_1:=bz kG 1;have hfz18_2:=bz kG 2;go_wp2_with (first|((with_reducible refine cK (f:=73) rfl ?_);refine gJ (some 12) rfl rfl Try.func73 (by kernel_rfl) rfl #[.agg #[.int .i64 aM,.string aJ,.slice jF bQ.length iY]] rfl bm ?_;(with_reducible refine (dD.calls kj1 aM aJ _ _ bQ false _ ?side1 ?side2 A14.out).mono ?_);(case side1=>exact bs qI HB);(case side2=>exact xZ.out);rintro e w19 ⟨rfl,hb⟩;refine ⟨_,rfl,?_⟩;replace kG:=bb kG hb;replace HB:=bA (aU cZ hb);(try clear hb);(try clear hb2);(try clear hk);(try clear hi)))
          go_ret;exact ⟨by first|rfl|(simp [aX,aY] <;> rfl)|(simp [*,aX,aY] <;> rfl),cZ⟩
def dI.l0:Nat→List ByteArray→ByteArray→Int→Option (Int)
  |0,_,_,_=>none
  |k+1,x0,x1,x5=>if x5<(x0.length:Int) then (if 0≤x5 then (if (fF ByteArray.empty x0 x5).toList=x1.toList then (some x5) else (dI.l0 k x0 x1 (wrap64 (x5+1)))) else (none)) else (some (-1))
def dI.f (k:Nat) (l0:List ByteArray) (a1:ByteArray):Option (Int):=dI.l0 k l0 a1 0
set_option maxHeartbeats 8000000 in
set_option maxRecDepth 100000 in
theorem dI.calls (k:Nat) (A0:Option Addr) (c0:Nat) (l0:List ByteArray) (a1:ByteArray) (r:Int) (w:World) (hr0:Kd.C Kd.string w A0 l0.length l0) (hc0:l0.length≤c0) (h:dI.f k l0 a1=some r) :
    Calls Try.prog 87 #[.slice A0 l0.length c0,.string a1] w fun e w'=>e = .returned (.int .i64 r)∧jN w w':=by
  have P6:=bA hr0;have HC0:=bA hc0;clear hr0 hc0;have H:(dI.l0 k l0 a1 0)=some r:=h;clear h;have H':=bA H;clear H;go_enter Try.func87,Try.ntmps87;go_wp2;go_loopg [5] k (fun kq v5 w'=>∃ (fU:Int),v5 = .int .i64 fU∧aA (dI.l0 kq l0 a1 fU=some r)∧aA (kq≤k)∧jN w w')
  case atStart=>exact ⟨(0),be,H',⟨Nat.le_refl _⟩,bd⟩
  case round =>
    clear H';obtain ⟨fU,rfl,HA,iC,⟨m1,rfl⟩⟩:=hrel;cases gk with
    |zero=>exact absurd HA.out (by simp [dI.l0])
    |succ k1 =>
      have H:=HA.out;clear HA;simp only [dI.l0] at H;by_cases c3:fU<(l0.length:Int)
      · rw [if_pos c3] at H
        have mG:decide (fU<(l0.length:Int))=true:=decide_eq_true c3;clear c3;by_cases c4:0≤fU
        · rw [if_pos c4] at H
          have qX:decide (0≤fU)=true:=decide_eq_true c4;clear c4;by_cases c5:(fF ByteArray.empty l0 fU).toList=a1.toList
          · rw [if_pos c5] at H
            have uB:((fF ByteArray.empty l0 fU).toList==a1.toList)=true:=beq_iff_eq.mpr c5;have WT:((fF ByteArray.empty l0 fU).toList != a1.toList)=false:=bne_eq_false_iff_eq.mpr c5;clear c5;obtain rfl:=Option.some.inj H;have p557:0≤(fU:Int):=gQ;have q557:fU<(l0.length:Int):=gQ;obtain ⟨ad557,e557,hx557_0⟩:=Kd.qN P6.out fU p557 q557;cases e557;replace p557:=eq_true p557;replace q557:=eq_true q557;go_wp2;go_ret;exact ⟨be,bd⟩
          · rw [if_neg c5] at H
            have uB:((fF ByteArray.empty l0 fU).toList==a1.toList)=false:=beq_eq_false_iff_ne.mpr c5;have WT:((fF ByteArray.empty l0 fU).toList != a1.toList)=true:=bne_iff_ne.mpr c5;have H':=bA H;clear H;have p557:0≤(fU:Int):=gQ;have q557:fU<(l0.length:Int):=gQ;obtain ⟨ad557,e557,hx557_0⟩:=Kd.qN P6.out fU p557 q557;cases e557;replace p557:=eq_true p557;replace q557:=eq_true q557;go_wp2;go_roundg k1
            case measure=>have:=iC.out;omega
            case rel=>exact ⟨(wrap64 (fU+1)),be,H',⟨by have:=iC.out;omega⟩,bd⟩
        · rw [if_neg c4] at H
          exact absurd H (by simp)
      · rw [if_neg c3] at H
        have mG:decide (fU<(l0.length:Int))=false:=decide_eq_false c3;clear c3;obtain rfl:=Option.some.inj H;go_wp2;go_ret;exact ⟨be,bd⟩
def dK.l0:Nat→List ByteArray→Int→Option (Int)
  |0,_,_=>none
  |k+1,x0,x3=>if x3<(x0.length:Int) then (if 0≤x3 then ((bD.f k (fF ByteArray.empty x0 x3)).bind fun t559=>(if t559=true then ((dI.f k x0 (fF ByteArray.empty x0 x3)).bind fun FC=>(if FC=x3 then (dK.l0 k x0 (wrap64 (x3+1))) else (some 80))) else (some 80))) else (none)) else (some 0)
def dK.f (k:Nat) (l0:List ByteArray):Option (Int):=if (l0.length:Int) > 4096 then (some 80) else (dK.l0 k l0 0)
set_option maxHeartbeats 8000000 in
set_option maxRecDepth 100000 in
theorem dK.calls (k:Nat) (A0:Option Addr) (c0:Nat) (l0:List ByteArray) (r:Int) (w:World) (hr0:Kd.C Kd.string w A0 l0.length l0) (hc0:l0.length≤c0) (h:dK.f k l0=some r) :
    Calls Try.prog 67 #[.slice A0 l0.length c0] w fun e w'=>e = .returned (.int .i64 r)∧jN w w':=by
  have P6:=bA hr0;have HC0:=bA hc0;clear hr0 hc0;have H:(if (l0.length:Int) > 4096 then (some 80) else (dK.l0 k l0 0))=some r:=h;clear h;by_cases c2:(l0.length:Int) > 4096
  · rw [if_pos c2] at H
    have vP:decide (4096<(l0.length:Int))=true:=decide_eq_true c2;have KO:decide (4096<l0.length)=true:=decide_eq_true (by omega);clear c2;obtain rfl:=Option.some.inj H;go_enter Try.func67,Try.ntmps67;go_wp2;go_ret;exact ⟨be,bd⟩
  · rw [if_neg c2] at H
    have vP:decide (4096<(l0.length:Int))=false:=decide_eq_false c2;have KO:decide (4096<l0.length)=false:=decide_eq_false (by omega);clear c2;have H':=bA H;clear H;go_enter Try.func67,Try.ntmps67;go_wp2;go_loopg [3] k (fun kq v3 w'=>∃ (fG:Int),v3 = .int .i64 fG∧aA (dK.l0 kq l0 fG=some r)∧aA (kq≤k)∧jN w w')
    case atStart=>exact ⟨(0),be,H',⟨Nat.le_refl _⟩,bd⟩
    case round =>
      clear H';(try clear c2);(try clear vP);(try clear KO);obtain ⟨fG,rfl,HA,iC,⟨m1,rfl⟩⟩:=hrel;cases gk with
      |zero=>exact absurd HA.out (by simp [dK.l0])
      |succ k1 =>
        have H:=HA.out;clear HA;simp only [dK.l0] at H;by_cases c3:fG<(l0.length:Int)
        · rw [if_pos c3] at H
          have mG:decide (fG<(l0.length:Int))=true:=decide_eq_true c3;clear c3;by_cases c4:0≤fG
          · rw [if_pos c4] at H
            have qX:decide (0≤fG)=true:=decide_eq_true c4;clear c4;replace H:=Option.bind_eq_some_iff.mp H;obtain ⟨t559,A50,H⟩:=H;replace H:(if t559=true then ((dI.f k1 l0 (fF ByteArray.empty l0 fG)).bind fun FC=>(if FC=fG then (dK.l0 k1 l0 (wrap64 (fG+1))) else (some 80))) else (some 80))=some r:=H;have A5:=bA A50;clear A50;by_cases c6:t559=true
            · subst c6
              have H1:((dI.f k1 l0 (fF ByteArray.empty l0 fG)).bind fun FC=>(if FC=fG then (dK.l0 k1 l0 (wrap64 (fG+1))) else (some 80)))=some r:=(by rw [if_pos rfl] at H;exact H);clear H;have H:=H1;clear H1;replace H:=Option.bind_eq_some_iff.mp H;obtain ⟨FC,A70,H⟩:=H;replace H:(if FC=fG then (dK.l0 k1 l0 (wrap64 (fG+1))) else (some 80))=some r:=H;have A7:=bA A70;clear A70;by_cases c8:FC=fG
              · rw [if_pos c8] at H
                have o9:(FC==fG)=true:=beq_iff_eq.mpr c8;have c8b1:(FC != fG)=false:=bne_eq_false_iff_eq.mpr c8;clear c8;have H':=bA H;clear H;have PL:0≤(fG:Int):=gQ;have PM:fG<(l0.length:Int):=gQ;obtain ⟨ad558,e558,hx558_0⟩:=Kd.qN P6.out fG PL PM;cases e558;replace PL:=eq_true PL;replace PM:=eq_true PM;go_wp2_with (first|((with_reducible refine cK (f:=86) rfl ?_);refine gJ (some 17) rfl rfl Try.func86 (by kernel_rfl) rfl #[.string (fF ByteArray.empty l0 fG)] rfl bm ?_;(with_reducible refine (bD.calls k1 (fF ByteArray.empty l0 fG) true _ A5.out).mono ?_);rintro e w' ⟨rfl,⟨nd,rfl⟩⟩;refine ⟨_,rfl,?_⟩;have p560:0≤(fG:Int):=gQ;have q560:fG<(l0.length:Int):=gQ;obtain ⟨ad560,e560,hx560_0⟩:=Kd.qN P6.out fG p560 q560;obtain rfl:ad558=ad560:=(by injection e560);replace p560:=eq_true p560;replace q560:=eq_true q560)|(go_at_call 87;(with_reducible refine (dI.calls k1 _ _ l0 (fF ByteArray.empty l0 fG) FC _ ?side1 ?side2 A7.out).mono ?_);(case side1=>repeat (first|exact P6.out|(with_reducible refine Kd.jQ ?_ _)|(with_reducible refine Kd.jR ?_ _)|(with_reducible refine Kd.lI ?_)));(case side2=>exact HC0.out);rintro e w' ⟨rfl,⟨nd,rfl⟩⟩))
                go_roundg k1
                case measure=>have:=iC.out;omega
                case rel=>exact ⟨(wrap64 (fG+1)),be,H',⟨by have:=iC.out;omega⟩,bd⟩
              · rw [if_neg c8] at H
                have o9:(FC==fG)=false:=beq_eq_false_iff_ne.mpr c8;have c8b1:(FC != fG)=true:=bne_iff_ne.mpr c8;obtain rfl:=Option.some.inj H;have PL:0≤(fG:Int):=gQ;have PM:fG<(l0.length:Int):=gQ;obtain ⟨ad558,e558,hx558_0⟩:=Kd.qN P6.out fG PL PM;cases e558;replace PL:=eq_true PL;replace PM:=eq_true PM;go_wp2_with (first|((with_reducible refine cK (f:=86) rfl ?_);refine gJ (some 17) rfl rfl Try.func86 (by kernel_rfl) rfl #[.string (fF ByteArray.empty l0 fG)] rfl bm ?_;(with_reducible refine (bD.calls k1 (fF ByteArray.empty l0 fG) true _ A5.out).mono ?_);rintro e w' ⟨rfl,⟨nd,rfl⟩⟩;refine ⟨_,rfl,?_⟩;have p560:0≤(fG:Int):=gQ;have q560:fG<(l0.length:Int):=gQ;obtain ⟨ad560,e560,hx560_0⟩:=Kd.qN P6.out fG p560 q560;obtain rfl:ad558=ad560:=(by injection e560);replace p560:=eq_true p560;replace q560:=eq_true q560)|(go_at_call 87;(with_reducible refine (dI.calls k1 _ _ l0 (fF ByteArray.empty l0 fG) FC _ ?side1 ?side2 A7.out).mono ?_);(case side1=>repeat (first|exact P6.out|(with_reducible refine Kd.jQ ?_ _)|(with_reducible refine Kd.jR ?_ _)|(with_reducible refine Kd.lI ?_)));(case side2=>exact HC0.out);rintro e w' ⟨rfl,⟨nd,rfl⟩⟩))
                go_ret;exact ⟨be,bd⟩
            · replace c6:=Bool.eq_false_iff.mpr c6
              subst c6;have H1:(some 80)=some r:=(by rw [if_neg (show ¬ (false=true) by decide)] at H;exact H);clear H;have H:=H1;clear H1;obtain rfl:=Option.some.inj H;have PL:0≤(fG:Int):=gQ;have PM:fG<(l0.length:Int):=gQ;obtain ⟨ad558,e558,hx558_0⟩:=Kd.qN P6.out fG PL PM;cases e558;replace PL:=eq_true PL;replace PM:=eq_true PM;go_wp2_with (first|((with_reducible refine cK (f:=86) rfl ?_);refine gJ (some 17) rfl rfl Try.func86 (by kernel_rfl) rfl #[.string (fF ByteArray.empty l0 fG)] rfl bm ?_;(with_reducible refine (bD.calls k1 (fF ByteArray.empty l0 fG) false _ A5.out).mono ?_);rintro e w' ⟨rfl,⟨nd,rfl⟩⟩;refine ⟨_,rfl,?_⟩))
              go_ret;exact ⟨be,bd⟩
          · rw [if_neg c4] at H
            exact absurd H (by simp)
        · rw [if_neg c3] at H
          have mG:decide (fG<(l0.length:Int))=false:=decide_eq_false c3;clear c3;obtain rfl:=Option.some.inj H;go_wp2;go_ret;exact ⟨be,bd⟩
def jL.f (k:Nat) (aM:Int) (aJ:ByteArray) (bQ:List (gB)) (l1:List ByteArray):Option (Int):=(bT.f k aM aJ bQ).bind fun AY=>(if AY=0 then ((dK.f k l1).bind fun P8=>(if P8=0 then (some 0) else (some P8))) else (some AY))
set_option maxHeartbeats 8000000 in
set_option maxRecDepth 100000 in
theorem jL.calls (k:Nat) (aM:Int) (aJ:ByteArray) (jF:Option Addr) (iY:Nat) (bQ:List (gB)) (A1:Option Addr) (c1:Nat) (l1:List ByteArray) (r:Int) (w:World) (mI:Kd.C k25 w jF bQ.length bQ) (mJ:bQ.length≤iY) (hr1:Kd.C Kd.string w A1 l1.length l1) (hc1:l1.length≤c1) (h:jL.f k aM aJ bQ l1=some r) :
    Calls Try.prog 37 #[.agg #[.int .i64 aM,.string aJ,.slice jF bQ.length iY],.slice A1 l1.length c1] w fun e w'=>e = .returned (.int .i64 r)∧Below w.heap.size w w':=by
  have hu25:=Try.underlying25;have qI:=bA mI;have xZ:=bA mJ;clear mI mJ;have HR1:=bA hr1;have SH:=bA hc1;clear hr1 hc1;have HB:=bA (Below.refl w.heap.size w);have H:((bT.f k aM aJ bQ).bind fun AY=>(if AY=0 then ((dK.f k l1).bind fun P8=>(if P8=0 then (some 0) else (some P8))) else (some AY)))=some r:=h;clear h;replace H:=Option.bind_eq_some_iff.mp H;obtain ⟨AY,A30,H⟩:=H;replace H:(if AY=0 then ((dK.f k l1).bind fun P8=>(if P8=0 then (some 0) else (some P8))) else (some AY))=some r:=H;have A3:=bA A30;clear A30;by_cases c4:AY=0
  · rw [if_pos c4] at H
    have qX:(AY==0)=true:=beq_iff_eq.mpr c4;have CJ:(AY != 0)=false:=bne_eq_false_iff_eq.mpr c4;clear c4;replace H:=Option.bind_eq_some_iff.mp H;obtain ⟨P8,A50,H⟩:=H;replace H:(if P8=0 then (some 0) else (some P8))=some r:=H;have A5:=bA A50;clear A50;by_cases c6:P8=0
    · rw [if_pos c6] at H
      have zB:(P8==0)=true:=beq_iff_eq.mpr c6;have E_:(P8 != 0)=false:=bne_eq_false_iff_eq.mpr c6;clear c6;obtain rfl:=Option.some.inj H;go_enter Try.func37,Try.ntmps37;go_wp2_with (first|((with_reducible refine dB (N:=2) rfl ?_);refine dA ?hg (N:=2) ?hd (cs:=#[.int .i64 aM,.string aJ,.slice jF bQ.length iY]) (t:=25) ?hr ?_;(case hd=>rfl);(case hg=>rfl);(case hr=>first|(go_simp;done)|(go_simp;rfl));intro gb562 hg w7 dL hb;have pU:=bA (dL);have GW562:=bw (w:=w) hg cZ;have GE562:=bw (w:=w) hg cZ;replace HB:=bA (aU cZ hb);clear hb dL hg;have vI:=bc0 pU;have vJ:=bc1 pU;have vK:=bc2 pU;have vL:=bz pU 0;have vM:=bz pU 1;have vN:=bz pU 2)|((with_reducible refine cK (f:=44) rfl ?_);refine gJ (some 8) rfl rfl Try.func44 (by kernel_rfl) rfl #[.agg #[.int .i64 aM,.string aJ,.slice jF bQ.length iY]] rfl bm ?_;(with_reducible refine (bT.calls k aM aJ _ _ bQ AY _ ?side1 ?side2 A3.out).mono ?_);(case side1=>exact bs qI HB);(case side2=>exact xZ.out);rintro e w9 ⟨rfl,hb⟩;refine ⟨_,rfl,?_⟩;replace pU:=bb pU hb;replace HB:=bA (aU cZ hb);(try clear hb);(try clear hb2);(try clear hk);(try clear hi))|((with_reducible refine cK (f:=67) rfl ?_);refine gJ (some 13) rfl rfl Try.func67 (by kernel_rfl) rfl #[.slice A1 l1.length c1] rfl bm ?_;(with_reducible refine (dK.calls k _ _ l1 P8 _ ?side1 ?side2 A5.out).mono ?_);(case side1=>exact bs HR1 HB);(case side2=>exact SH.out);rintro e w' ⟨rfl,⟨nd,rfl⟩⟩;refine ⟨_,rfl,?_⟩))
      go_ret;exact ⟨by first|rfl|(simp [aX,aY] <;> rfl)|(simp [*,aX,aY] <;> rfl),cZ⟩
    · rw [if_neg c6] at H
      have zB:(P8==0)=false:=beq_eq_false_iff_ne.mpr c6;have E_:(P8 != 0)=true:=bne_iff_ne.mpr c6;obtain rfl:=Option.some.inj H;go_enter Try.func37,Try.ntmps37;go_wp2_with (first|((with_reducible refine dB (N:=2) rfl ?_);refine dA ?hg (N:=2) ?hd (cs:=#[.int .i64 aM,.string aJ,.slice jF bQ.length iY]) (t:=25) ?hr ?_;(case hd=>rfl);(case hg=>rfl);(case hr=>first|(go_simp;done)|(go_simp;rfl));intro gb562 hg w10 dL hb;have pU:=bA (dL);have GW562:=bw (w:=w) hg cZ;have GE562:=bw (w:=w) hg cZ;replace HB:=bA (aU cZ hb);clear hb dL hg;have rY:=bc0 pU;have rZ:=bc1 pU;have sD:=bc2 pU;have sF:=bz pU 0;have sG:=bz pU 1;have sH:=bz pU 2)|((with_reducible refine cK (f:=44) rfl ?_);refine gJ (some 8) rfl rfl Try.func44 (by kernel_rfl) rfl #[.agg #[.int .i64 aM,.string aJ,.slice jF bQ.length iY]] rfl bm ?_;(with_reducible refine (bT.calls k aM aJ _ _ bQ AY _ ?side1 ?side2 A3.out).mono ?_);(case side1=>exact bs qI HB);(case side2=>exact xZ.out);rintro e w12 ⟨rfl,hb⟩;refine ⟨_,rfl,?_⟩;replace pU:=bb pU hb;replace HB:=bA (aU cZ hb);(try clear hb);(try clear hb2);(try clear hk);(try clear hi))|((with_reducible refine cK (f:=67) rfl ?_);refine gJ (some 13) rfl rfl Try.func67 (by kernel_rfl) rfl #[.slice A1 l1.length c1] rfl bm ?_;(with_reducible refine (dK.calls k _ _ l1 P8 _ ?side1 ?side2 A5.out).mono ?_);(case side1=>exact bs HR1 HB);(case side2=>exact SH.out);rintro e w' ⟨rfl,⟨nd,rfl⟩⟩;refine ⟨_,rfl,?_⟩))
      go_ret;exact ⟨by first|rfl|(simp [aX,aY] <;> rfl)|(simp [*,aX,aY] <;> rfl),cZ⟩
  · rw [if_neg c4] at H
    have qX:(AY==0)=false:=beq_eq_false_iff_ne.mpr c4;have CJ:(AY != 0)=true:=bne_iff_ne.mpr c4;obtain rfl:=Option.some.inj H;go_enter Try.func37,Try.ntmps37;go_wp2_with (first|((with_reducible refine dB (N:=2) rfl ?_);refine dA ?hg (N:=2) ?hd (cs:=#[.int .i64 aM,.string aJ,.slice jF bQ.length iY]) (t:=25) ?hr ?_;(case hd=>rfl);(case hg=>rfl);(case hr=>first|(go_simp;done)|(go_simp;rfl));intro gb562 hg w13 dL hb;have pU:=bA (dL);have GW562:=bw (w:=w) hg cZ;have GE562:=bw (w:=w) hg cZ;replace HB:=bA (aU cZ hb);clear hb dL hg;have p9:=bc0 pU;have q9:=bc1 pU;have r9:=bc2 pU;have u7:=bz pU 0;have z8:=bz pU 1;have A9:=bz pU 2)|((with_reducible refine cK (f:=44) rfl ?_);refine gJ (some 8) rfl rfl Try.func44 (by kernel_rfl) rfl #[.agg #[.int .i64 aM,.string aJ,.slice jF bQ.length iY]] rfl bm ?_;(with_reducible refine (bT.calls k aM aJ _ _ bQ AY _ ?side1 ?side2 A3.out).mono ?_);(case side1=>exact bs qI HB);(case side2=>exact xZ.out);rintro e w15 ⟨rfl,hb⟩;refine ⟨_,rfl,?_⟩;replace pU:=bb pU hb;replace HB:=bA (aU cZ hb);(try clear hb);(try clear hb2);(try clear hk);(try clear hi)))
    go_ret;exact ⟨by first|rfl|(simp [aX,aY] <;> rfl)|(simp [*,aX,aY] <;> rfl),cZ⟩
end Go.Proofs.Ytapinbmkjkbkkaa.Lb
