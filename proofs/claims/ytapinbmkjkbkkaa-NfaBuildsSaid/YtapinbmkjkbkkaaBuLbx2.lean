import Derived.Test.YtapinbmkjkbkkaaBuVi
namespace Go.Proofs.Ytapinbmkjkbkkaa.Lb
open Go.RowKit Go.Proofs.aC.bE Go.Proofs.aC.bV Go.Proofs.aC.bY
attribute [local go_sem] kY kZ nO nP kC kD lC lD
set_option linter.unusedVariables false
set_option linter.unusedSimpArgs false
private theorem cZ {P:Prop} (h:P:=by repeat (first|(with_reducible first|exact HB.out|apply aN|apply bB|apply bX|refine eB ?_ GE101.out|refine eB ?_ GE103.out)|exact HB.out)):P:=h
mutual
def dQ.l0:Nat→Int→Int→List (gB)→Int→Int→Option (Int × Bool)
  |0,_,_,_,_,_=>none
  |k+1,x1,x6,x14,x15,x16=>if x16<x15 then (if 0≤x16 then (if x16<(x14.length:Int) then ((dQ.f k ((bL x14 x16).f0) ((bL x14 x16).f1) ((bL x14 x16).f2) (wrap64 (x1+1))).bind fun Y_=>(if Y_.2=true then (if (wrap64 (x6+Y_.1)) > 500 then (some (wrap64 (x6+Y_.1),false)) else (dQ.l0 k x1 (wrap64 (x6+Y_.1)) x14 x15 (wrap64 (x16+1)))) else (some (wrap64 (x6+Y_.1),false)))) else (none)) else (none)) else (some (x6,true))
def dQ.f:Nat→Int→ByteArray→List (gB)→Int→Option (Int × Bool)
  |0,_,_,_,_=>none
  |k+1,aM,aJ,bQ,a1=>if a1 > 50 then (some (1,false)) else (dQ.l0 k a1 1 bQ (bQ.length:Int) 0)
end
set_option maxHeartbeats 8000000 in
set_option maxRecDepth 100000 in
theorem dQ.calls (k:Nat) : ∀ (aM:Int) (aJ:ByteArray) (jF:Option Addr) (iY:Nat) (bQ:List (gB)) (a1:Int) (r1:Int) (r2:Bool) (w:World) (mI:Kd.C k25 w jF bQ.length bQ) (mJ:bQ.length≤iY) (h:dQ.f k aM aJ bQ a1=some (r1,r2)),
    Calls Try.prog 64 #[.agg #[.int .i64 aM,.string aJ,.slice jF bQ.length iY],.int .i64 a1] w fun e w'=>e = .returned (.tuple #[.int .i64 r1,.bool r2])∧Below w.heap.size w w':=by
  induction k using Nat.strongRecOn with
  |_ k ih =>
  intro aM aJ jF iY bQ a1 r1 r2 w mI mJ h;cases k with
  |zero=>exact absurd h (by simp [dQ.f])
  |succ k =>
  simp only [dQ.f] at h;have hu25:=Try.underlying25;have qI:=bA mI;have xZ:=bA mJ;clear mI mJ;have HB:=bA (Below.refl w.heap.size w);have H:(if a1 > 50 then (some (1,false)) else (dQ.l0 k a1 1 bQ (bQ.length:Int) 0))=some (r1,r2):=h;clear h;by_cases c3:a1 > 50
  · rw [if_pos c3] at H
    have mG:decide (50<a1)=true:=decide_eq_true c3;clear c3;simp only [Option.some.injEq,Prod.mk.injEq] at H;obtain ⟨rfl,rfl⟩:=H;go_enter Try.func64,Try.ntmps64;go_wp2_with (first|((with_reducible refine dB (N:=2) rfl ?_);refine dA ?hg (N:=2) ?hd (cs:=#[.int .i64 aM,.string aJ,.slice jF bQ.length iY]) (t:=25) ?hr ?_;(case hd=>rfl);(case hg=>rfl);(case hr=>first|(go_simp;done)|(go_simp;rfl));intro Z_ hg w4 dL hb;have oN:=bA (dL);have GW101:=bw (w:=w) hg cZ;have GE101:=bw (w:=w) hg cZ;replace HB:=bA (aU cZ hb);clear hb dL hg))
    go_ret2
    exact ⟨by first|rfl|(simp [aX,aY] <;> rfl)|(simp [*,aX,aY] <;> rfl),cZ⟩
  · rw [if_neg c3] at H
    have mG:decide (50<a1)=false:=decide_eq_false c3;clear c3;have H':=bA H;clear H;go_enter Try.func64,Try.ntmps64;go_wp2_with (first|((with_reducible refine dB (N:=2) rfl ?_);refine dA ?hg (N:=2) ?hd (cs:=#[.int .i64 aM,.string aJ,.slice jF bQ.length iY]) (t:=25) ?hr ?_;(case hd=>rfl);(case hg=>rfl);(case hr=>first|(go_simp;done)|(go_simp;rfl));intro Z_ hg w5 dL hb;have oN:=bA (dL);have GW101:=bw (w:=w) hg cZ;have GE101:=bw (w:=w) hg cZ;replace HB:=bA (aU cZ hb);clear hb dL hg;have BS:=bc0 oN;have BU:=bc1 oN;have BV:=bc2 oN;have CE:=bz oN 0;have CF:=bz oN 1;have CG:=bz oN 2))
    go_loopg [6,16] k (fun kq v6 v16 w'=>∃ (iO:Int) (gU:Int),v6 = .int .i64 iO∧v16 = .int .i64 gU∧aA (dQ.l0 kq a1 iO bQ (bQ.length:Int) gU=some (r1,r2))∧aA (kq≤k)∧aA (w'.heap[Z_]?=some (.cells #[.int .i64 aM,.string aJ,(.slice jF bQ.length iY)] 25 (0,0)))∧aA (Below w.heap.size w w'))
    case atStart=>exact ⟨(1),(0),be,be,H',⟨Nat.le_refl _⟩,⟨dV oN.out⟩,⟨cZ⟩⟩
    case round =>
      clear H';(try clear c3);(try clear mG);(try clear BS);(try clear BU);(try clear BV);(try clear CE);(try clear CF);(try clear CG);obtain ⟨iO,gU,rfl,rfl,HA,iC,oN,HB⟩:=hrel;cases gk with
      |zero=>exact absurd HA.out (by simp [dQ.l0])
      |succ k1 =>
        have H:=HA.out;clear HA;simp only [dQ.l0] at H;by_cases c7:gU<(bQ.length:Int)
        · rw [if_pos c7] at H
          have DX:decide (gU<(bQ.length:Int))=true:=decide_eq_true c7;clear c7;by_cases c8:0≤gU
          · rw [if_pos c8] at H
            have o9:decide (0≤gU)=true:=decide_eq_true c8;clear c8;by_cases c9:gU<(bQ.length:Int)
            · rw [if_pos c9] at H
              have OA:decide (gU<(bQ.length:Int))=true:=decide_eq_true c9;clear c9;replace H:=Option.bind_eq_some_iff.mp H;obtain ⟨⟨t104,t105⟩,A100,H⟩:=H;replace H:(if t105=true then (if (wrap64 (iO+t104)) > 500 then (some (wrap64 (iO+t104),false)) else (dQ.l0 k1 a1 (wrap64 (iO+t104)) bQ (bQ.length:Int) (wrap64 (gU+1)))) else (some (wrap64 (iO+t104),false)))=some (r1,r2):=H;have A10:=bA A100;clear A100;by_cases c11:t105=true
              · subst c11
                have H1:(if (wrap64 (iO+t104)) > 500 then (some (wrap64 (iO+t104),false)) else (dQ.l0 k1 a1 (wrap64 (iO+t104)) bQ (bQ.length:Int) (wrap64 (gU+1))))=some (r1,r2):=(by rw [if_pos rfl] at H;exact H);clear H;have H:=H1;clear H1;by_cases c12:(wrap64 (iO+t104)) > 500
                · rw [if_pos c12] at H
                  have rX:decide (500<(wrap64 (iO+t104)))=true:=decide_eq_true c12;clear c12;simp only [Option.some.injEq,Prod.mk.injEq] at H;obtain ⟨rfl,rfl⟩:=H;have OL:0≤(gU:Int):=gQ;have OM:gU<(bQ.length:Int):=gQ;obtain ⟨Y',U7,U8,e102,uM,uN,uO,yP,yQ⟩:=mE qI.out gU OL OM;cases e102;replace uM:=(HB.out.cell (World.block_lt_of_cell? w _ uM)).trans uM;replace uN:=(HB.out.cell (World.block_lt_of_cell? w _ uN)).trans uN;replace uO:=(HB.out.cell (World.block_lt_of_cell? w _ uO)).trans uO;have EN:=bA yQ;have EO:=bA yP;clear yQ yP;replace OL:=eq_true OL;replace OM:=eq_true OM;go_wp2_with (first|((with_reducible refine dB (N:=8) rfl ?_);refine dA ?hg (N:=8) ?hd (cs:=#[.int .i64 0,.string (⟨#[]⟩:ByteArray),.slice none 0 0]) (t:=25) ?hr ?_;(case hd=>rfl);(case hg=>rfl);(case hr=>first|(go_simp;done)|(go_simp;rfl));intro Z' hg w13 dL hb;have pQ:=bA (dL);have GW103:=bw (w:=w) hg cZ;have GE103:=bw (w:=w) hg cZ;replace HB:=bA (aU cZ hb);have lX:=bl hg oN;have zO:=bg hg oN;replace oN:=bb oN hb;clear hb dL hg;have hnb14:=zO.out;have hnc14:=lX.out;have C8:=bc0 pQ;have C9:=bc1 pQ;have D6:=bc2 pQ;have D7:=bz pQ 0;have D8:=bz pQ 1;have D9:=bz pQ 2)|((with_reducible refine cK (f:=64) rfl ?_);refine gJ (some 24) rfl rfl Try.func64 (by kernel_rfl) rfl #[.agg #[.int .i64 ((bL bQ gU).f0),.string ((bL bQ gU).f1),.slice U7 ((bL bQ gU).f2).length U8],.int .i64 (wrap64 (a1+1))] rfl bm ?_;(with_reducible refine (ih k1 (by have:=iC.out;omega) ((bL bQ gU).f0) ((bL bQ gU).f1) _ _ ((bL bQ gU).f2) (wrap64 (a1+1)) t104 true _ ?side1 ?side2 A10.out).mono ?_);(case side1=>exact Kd.dJ EN.out cZ);(case side2=>exact EO.out);rintro e w16 ⟨rfl,hb⟩;refine ⟨_,rfl,?_⟩;replace oN:=bA (bK (g:=Z_) (o:=.cells #[.int .i64 aM,.string aJ,.slice (some Y') bQ.length iY] 25 (0,0)) (by refine dV ?_;refine bR ?_ lX.out _;refine dV ?_;refine bR ?_ lX.out _;refine dV ?_;refine bR ?_ lX.out _;refine dV ?_;exact oN.out) hb);replace pQ:=bA (bK (g:=Z') (o:=.cells #[.int .i64 ((bL bQ gU).f0),.string ((bL bQ gU).f1),.slice U7 ((bL bQ gU).f2).length U8] 25 (0,0)) (by refine dV ?_;refine dF (cs:=#[.int .i64 ((bL bQ gU).f0),.string ((bL bQ gU).f1),.slice none 0 0]) ?_ 2 _ rfl;refine dV ?_;refine dF (cs:=#[.int .i64 ((bL bQ gU).f0),.string (⟨#[]⟩:ByteArray),.slice none 0 0]) ?_ 1 _ rfl;refine dV ?_;refine dF (cs:=#[.int .i64 0,.string (⟨#[]⟩:ByteArray),.slice none 0 0]) ?_ 0 _ rfl;refine dV ?_;exact pQ.out) hb);replace HB:=bA (aU cZ hb);(try clear hb);(try clear hb2);(try clear hk);(try clear hi)))
                  go_ret2
                  exact ⟨by first|rfl|(simp [aX,aY] <;> rfl)|(simp [*,aX,aY] <;> rfl),cZ⟩
                · rw [if_neg c12] at H
                  have rX:decide (500<(wrap64 (iO+t104)))=false:=decide_eq_false c12;clear c12;have H':=bA H;clear H;have OL:0≤(gU:Int):=gQ;have OM:gU<(bQ.length:Int):=gQ;obtain ⟨Y',U7,U8,e102,uM,uN,uO,yP,yQ⟩:=mE qI.out gU OL OM;cases e102;replace uM:=(HB.out.cell (World.block_lt_of_cell? w _ uM)).trans uM;replace uN:=(HB.out.cell (World.block_lt_of_cell? w _ uN)).trans uN;replace uO:=(HB.out.cell (World.block_lt_of_cell? w _ uO)).trans uO;have EN:=bA yQ;have EO:=bA yP;clear yQ yP;replace OL:=eq_true OL;replace OM:=eq_true OM;go_wp2_with (first|((with_reducible refine dB (N:=8) rfl ?_);refine dA ?hg (N:=8) ?hd (cs:=#[.int .i64 0,.string (⟨#[]⟩:ByteArray),.slice none 0 0]) (t:=25) ?hr ?_;(case hd=>rfl);(case hg=>rfl);(case hr=>first|(go_simp;done)|(go_simp;rfl));intro Z' hg w17 dL hb;have pQ:=bA (dL);have GW103:=bw (w:=w) hg cZ;have GE103:=bw (w:=w) hg cZ;replace HB:=bA (aU cZ hb);have lX:=bl hg oN;have zO:=bg hg oN;replace oN:=bb oN hb;clear hb dL hg;have hnb18:=zO.out;have hnc18:=lX.out;have LM:=bc0 pQ;have LP:=bc1 pQ;have LQ:=bc2 pQ;have LU:=bz pQ 0;have LV:=bz pQ 1;have LW:=bz pQ 2)|((with_reducible refine cK (f:=64) rfl ?_);refine gJ (some 24) rfl rfl Try.func64 (by kernel_rfl) rfl #[.agg #[.int .i64 ((bL bQ gU).f0),.string ((bL bQ gU).f1),.slice U7 ((bL bQ gU).f2).length U8],.int .i64 (wrap64 (a1+1))] rfl bm ?_;(with_reducible refine (ih k1 (by have:=iC.out;omega) ((bL bQ gU).f0) ((bL bQ gU).f1) _ _ ((bL bQ gU).f2) (wrap64 (a1+1)) t104 true _ ?side1 ?side2 A10.out).mono ?_);(case side1=>exact Kd.dJ EN.out cZ);(case side2=>exact EO.out);rintro e w20 ⟨rfl,hb⟩;refine ⟨_,rfl,?_⟩;replace oN:=bA (bK (g:=Z_) (o:=.cells #[.int .i64 aM,.string aJ,.slice (some Y') bQ.length iY] 25 (0,0)) (by refine dV ?_;refine bR ?_ lX.out _;refine dV ?_;refine bR ?_ lX.out _;refine dV ?_;refine bR ?_ lX.out _;refine dV ?_;exact oN.out) hb);replace pQ:=bA (bK (g:=Z') (o:=.cells #[.int .i64 ((bL bQ gU).f0),.string ((bL bQ gU).f1),.slice U7 ((bL bQ gU).f2).length U8] 25 (0,0)) (by refine dV ?_;refine dF (cs:=#[.int .i64 ((bL bQ gU).f0),.string ((bL bQ gU).f1),.slice none 0 0]) ?_ 2 _ rfl;refine dV ?_;refine dF (cs:=#[.int .i64 ((bL bQ gU).f0),.string (⟨#[]⟩:ByteArray),.slice none 0 0]) ?_ 1 _ rfl;refine dV ?_;refine dF (cs:=#[.int .i64 0,.string (⟨#[]⟩:ByteArray),.slice none 0 0]) ?_ 0 _ rfl;refine dV ?_;exact pQ.out) hb);replace HB:=bA (aU cZ hb);(try clear hb);(try clear hb2);(try clear hk);(try clear hi)))
                  go_roundg k1
                  case measure=>have:=iC.out;omega
                  case rel=>exact ⟨(wrap64 (iO+t104)),(wrap64 (gU+1)),be,be,H',⟨by have:=iC.out;omega⟩,⟨dV oN.out⟩,⟨cZ⟩⟩
              · replace c11:=Bool.eq_false_iff.mpr c11
                subst c11;have H1:(some (wrap64 (iO+t104),false))=some (r1,r2):=(by rw [if_neg (show ¬ (false=true) by decide)] at H;exact H);clear H;have H:=H1;clear H1;simp only [Option.some.injEq,Prod.mk.injEq] at H;obtain ⟨rfl,rfl⟩:=H;have OL:0≤(gU:Int):=gQ;have OM:gU<(bQ.length:Int):=gQ;obtain ⟨Y',U7,U8,e102,uM,uN,uO,yP,yQ⟩:=mE qI.out gU OL OM;cases e102;replace uM:=(HB.out.cell (World.block_lt_of_cell? w _ uM)).trans uM;replace uN:=(HB.out.cell (World.block_lt_of_cell? w _ uN)).trans uN;replace uO:=(HB.out.cell (World.block_lt_of_cell? w _ uO)).trans uO;have EN:=bA yQ;have EO:=bA yP;clear yQ yP;replace OL:=eq_true OL;replace OM:=eq_true OM;go_wp2_with (first|((with_reducible refine dB (N:=8) rfl ?_);refine dA ?hg (N:=8) ?hd (cs:=#[.int .i64 0,.string (⟨#[]⟩:ByteArray),.slice none 0 0]) (t:=25) ?hr ?_;(case hd=>rfl);(case hg=>rfl);(case hr=>first|(go_simp;done)|(go_simp;rfl));intro Z' hg w21 dL hb;have pQ:=bA (dL);have GW103:=bw (w:=w) hg cZ;have GE103:=bw (w:=w) hg cZ;replace HB:=bA (aU cZ hb);have lX:=bl hg oN;have zO:=bg hg oN;replace oN:=bb oN hb;clear hb dL hg;have hnb22:=zO.out;have hnc22:=lX.out;have E8:=bc0 pQ;have E9:=bc1 pQ;have F4:=bc2 pQ;have F5:=bz pQ 0;have F6:=bz pQ 1;have F7:=bz pQ 2)|((with_reducible refine cK (f:=64) rfl ?_);refine gJ (some 24) rfl rfl Try.func64 (by kernel_rfl) rfl #[.agg #[.int .i64 ((bL bQ gU).f0),.string ((bL bQ gU).f1),.slice U7 ((bL bQ gU).f2).length U8],.int .i64 (wrap64 (a1+1))] rfl bm ?_;(with_reducible refine (ih k1 (by have:=iC.out;omega) ((bL bQ gU).f0) ((bL bQ gU).f1) _ _ ((bL bQ gU).f2) (wrap64 (a1+1)) t104 false _ ?side1 ?side2 A10.out).mono ?_);(case side1=>exact Kd.dJ EN.out cZ);(case side2=>exact EO.out);rintro e w24 ⟨rfl,hb⟩;refine ⟨_,rfl,?_⟩;replace oN:=bA (bK (g:=Z_) (o:=.cells #[.int .i64 aM,.string aJ,.slice (some Y') bQ.length iY] 25 (0,0)) (by refine dV ?_;refine bR ?_ lX.out _;refine dV ?_;refine bR ?_ lX.out _;refine dV ?_;refine bR ?_ lX.out _;refine dV ?_;exact oN.out) hb);replace pQ:=bA (bK (g:=Z') (o:=.cells #[.int .i64 ((bL bQ gU).f0),.string ((bL bQ gU).f1),.slice U7 ((bL bQ gU).f2).length U8] 25 (0,0)) (by refine dV ?_;refine dF (cs:=#[.int .i64 ((bL bQ gU).f0),.string ((bL bQ gU).f1),.slice none 0 0]) ?_ 2 _ rfl;refine dV ?_;refine dF (cs:=#[.int .i64 ((bL bQ gU).f0),.string (⟨#[]⟩:ByteArray),.slice none 0 0]) ?_ 1 _ rfl;refine dV ?_;refine dF (cs:=#[.int .i64 0,.string (⟨#[]⟩:ByteArray),.slice none 0 0]) ?_ 0 _ rfl;refine dV ?_;exact pQ.out) hb);replace HB:=bA (aU cZ hb);(try clear hb);(try clear hb2);(try clear hk);(try clear hi)))
                go_ret2
                exact ⟨by first|rfl|(simp [aX,aY] <;> rfl)|(simp [*,aX,aY] <;> rfl),cZ⟩
            · rw [if_neg c9] at H
              exact absurd H (by simp)
          · rw [if_neg c8] at H
            exact absurd H (by simp)
        · rw [if_neg c7] at H
          have DX:decide (gU<(bQ.length:Int))=false:=decide_eq_false c7;clear c7;simp only [Option.some.injEq,Prod.mk.injEq] at H;obtain ⟨rfl,rfl⟩:=H;go_wp2;go_ret2
          exact ⟨by first|rfl|(simp [aX,aY] <;> rfl)|(simp [*,aX,aY] <;> rfl),cZ⟩
def kT.f (a0:Int):Option (Bool):=if a0 ≥ 97 then (if a0≤122 then (some true) else (if a0 ≥ 65 then (if a0≤90 then (some true) else (some (a0==95))) else (some (a0==95)))) else (if a0 ≥ 65 then (if a0≤90 then (some true) else (some (a0==95))) else (some (a0==95)))
set_option maxHeartbeats 8000000 in
set_option maxRecDepth 100000 in
theorem kT.calls (a0:Int) (r:Bool) (w:World) (h:kT.f a0=some r) :
    Calls Try.prog 91 #[.int .u8 a0] w fun e w'=>e = .returned (.bool r)∧jN w w':=by
  have H:(if a0 ≥ 97 then (if a0≤122 then (some true) else (if a0 ≥ 65 then (if a0≤90 then (some true) else (some (a0==95))) else (some (a0==95)))) else (if a0 ≥ 65 then (if a0≤90 then (some true) else (some (a0==95))) else (some (a0==95))))=some r:=h;clear h;by_cases c2:a0 ≥ 97
  · rw [if_pos c2] at H
    have vP:decide (97≤a0)=true:=decide_eq_true c2;clear c2;by_cases c3:a0≤122
    · rw [if_pos c3] at H
      have mG:decide (a0≤122)=true:=decide_eq_true c3;clear c3;obtain rfl:=Option.some.inj H;go_enter Try.func91,Try.ntmps91;go_wp2;go_ret;exact ⟨be,bd⟩
    · rw [if_neg c3] at H
      have mG:decide (a0≤122)=false:=decide_eq_false c3;clear c3;by_cases c4:a0 ≥ 65
      · rw [if_pos c4] at H
        have qX:decide (65≤a0)=true:=decide_eq_true c4;clear c4;by_cases c5:a0≤90
        · rw [if_pos c5] at H
          have uB:decide (a0≤90)=true:=decide_eq_true c5;clear c5;obtain rfl:=Option.some.inj H;go_enter Try.func91,Try.ntmps91;go_wp2;go_ret;exact ⟨be,bd⟩
        · rw [if_neg c5] at H
          have uB:decide (a0≤90)=false:=decide_eq_false c5;clear c5;obtain rfl:=Option.some.inj H;go_enter Try.func91,Try.ntmps91;go_wp2;go_ret;exact ⟨be,bd⟩
      · rw [if_neg c4] at H
        have qX:decide (65≤a0)=false:=decide_eq_false c4;clear c4;obtain rfl:=Option.some.inj H;go_enter Try.func91,Try.ntmps91;go_wp2;go_ret;exact ⟨be,bd⟩
  · rw [if_neg c2] at H
    have vP:decide (97≤a0)=false:=decide_eq_false c2;clear c2;by_cases c6:a0 ≥ 65
    · rw [if_pos c6] at H
      have zB:decide (65≤a0)=true:=decide_eq_true c6;clear c6;by_cases c7:a0≤90
      · rw [if_pos c7] at H
        have DX:decide (a0≤90)=true:=decide_eq_true c7;clear c7;obtain rfl:=Option.some.inj H;go_enter Try.func91,Try.ntmps91;go_wp2;go_ret;exact ⟨be,bd⟩
      · rw [if_neg c7] at H
        have DX:decide (a0≤90)=false:=decide_eq_false c7;clear c7;obtain rfl:=Option.some.inj H;go_enter Try.func91,Try.ntmps91;go_wp2;go_ret;exact ⟨be,bd⟩
    · rw [if_neg c6] at H
      have zB:decide (65≤a0)=false:=decide_eq_false c6;clear c6;obtain rfl:=Option.some.inj H;go_enter Try.func91,Try.ntmps91;go_wp2;go_ret;exact ⟨be,bd⟩
def oG.f (a0:Int):Option (Bool):=if a0 ≥ 48 then (some (decide (a0≤57))) else (some false)
set_option maxHeartbeats 8000000 in
set_option maxRecDepth 100000 in
theorem oG.calls (a0:Int) (r:Bool) (w:World) (h:oG.f a0=some r) :
    Calls Try.prog 92 #[.int .u8 a0] w fun e w'=>e = .returned (.bool r)∧jN w w':=by
  have H:(if a0 ≥ 48 then (some (decide (a0≤57))) else (some false))=some r:=h;clear h;by_cases c2:a0 ≥ 48
  · rw [if_pos c2] at H
    have vP:decide (48≤a0)=true:=decide_eq_true c2;clear c2;obtain rfl:=Option.some.inj H;go_enter Try.func92,Try.ntmps92;go_wp2;go_ret;exact ⟨be,bd⟩
  · rw [if_neg c2] at H
    have vP:decide (48≤a0)=false:=decide_eq_false c2;clear c2;obtain rfl:=Option.some.inj H;go_enter Try.func92,Try.ntmps92;go_wp2;go_ret;exact ⟨be,bd⟩
mutual
def dE.j0:Nat→ByteArray→Bool→Option (Bool)
  |0,_,_=>none
  |k+1,x0,x16=>if x16=true then (some false) else (dE.l0 k x0 (x0.size:Int) 0)
def dE.l0:Nat→ByteArray→Int→Int→Option (Bool)
  |0,_,_,_=>none
  |k+1,x0,x18,QZ=>if QZ<x18 then (if 0≤QZ then (if QZ<(x0.size:Int) then ((kT.f (bt x0 QZ)).bind fun t107=>(if t107=true then (dE.l0 k x0 x18 (wrap64 (QZ+1))) else ((oG.f (bt x0 QZ)).bind fun t108=>(if t108=true then (dE.l0 k x0 x18 (wrap64 (QZ+1))) else (some false))))) else (none)) else (none)) else (some true)
end
def dE.f (k:Nat) (a0:ByteArray):Option (Bool):=if a0.toList=([]:List UInt8) then (dE.j0 k a0 true) else (if (a0.size:Int) > 64 then (dE.j0 k a0 true) else (if 0<(a0.size:Int) then ((kT.f (bt a0 0)).bind fun t106=>(dE.j0 k a0 (!t106))) else (none)))
set_option maxHeartbeats 8000000 in
set_option maxRecDepth 100000 in
theorem dE.calls (k:Nat) (a0:ByteArray) (r:Bool) (w:World) (h:dE.f k a0=some r) :
    Calls Try.prog 80 #[.string a0] w fun e w'=>e = .returned (.bool r)∧jN w w':=by
  have H:(if a0.toList=([]:List UInt8) then (dE.j0 k a0 true) else (if (a0.size:Int) > 64 then (dE.j0 k a0 true) else (if 0<(a0.size:Int) then ((kT.f (bt a0 0)).bind fun t106=>(dE.j0 k a0 (!t106))) else (none))))=some r:=h;clear h;have OO:=bA H;clear H;go_enter Try.func80,Try.ntmps80;go_upto_region 1 with (fail)
  go_cut [16] (fun v16 wc=>∃ (kq:Nat) (gU:Bool),v16 = .bool gU∧aA (dE.j0 kq a0 gU=some r)∧aA (kq≤k)∧jN w wc)
  case first =>
    have H:=OO.out;clear OO;by_cases c3:a0.toList=([]:List UInt8)
    · rw [if_pos c3] at H
      have mG:(a0.toList==([]:List UInt8))=true:=beq_iff_eq.mpr c3;have U4:(a0.toList != ([]:List UInt8))=false:=bne_eq_false_iff_eq.mpr c3;clear c3
      (first|rw [mG]|(simp only [iP,jB];rw [mG])|skip)
      have H':=bA H;clear H;go_wp2;go_meet
      case rel=>exact ⟨_,(true),be,H',⟨by first|omega|exact Nat.le_refl _⟩,bd⟩
    · rw [if_neg c3] at H
      have mG:(a0.toList==([]:List UInt8))=false:=beq_eq_false_iff_ne.mpr c3;have U4:(a0.toList != ([]:List UInt8))=true:=bne_iff_ne.mpr c3
      (first|rw [mG]|(simp only [iP,jB];rw [mG])|skip)
      by_cases c4:(a0.size:Int) > 64
      · rw [if_pos c4] at H
        have qX:decide (64<(a0.size:Int))=true:=decide_eq_true c4;have CJ:decide (64<a0.size)=true:=decide_eq_true (by omega);clear c4;have H':=bA H;clear H;go_wp2;go_meet
        case rel=>exact ⟨_,(true),be,H',⟨by first|omega|exact Nat.le_refl _⟩,bd⟩
      · rw [if_neg c4] at H
        have qX:decide (64<(a0.size:Int))=false:=decide_eq_false c4;have CJ:decide (64<a0.size)=false:=decide_eq_false (by omega);clear c4;by_cases c5:0<(a0.size:Int)
        · rw [if_pos c5] at H
          have uB:decide (0<(a0.size:Int))=true:=decide_eq_true c5;have WT:decide (0<a0.size)=true:=decide_eq_true (by omega);clear c5;replace H:=Option.bind_eq_some_iff.mp H;obtain ⟨t106,A70,H⟩:=H;replace H:(dE.j0 k a0 (!t106))=some r:=H;have A7:=bA A70;clear A70;have H':=bA H;clear H;have p6:0≤(0:Int):=(by omega);have q6:0<a0.size:=(by have:(0:Int)<(a0.size:Int):=gQ;omega);have hx6 : ∀ h:0<a0.size,((a0[0]'h).toNat:Int)=bt a0 0:=O6 a0 0;clear p6;have qi6:(0<(a0.size:Int))=True:=eq_true gQ;replace q6:=eq_true q6;go_wp2_with (first|(go_at_call 91;(with_reducible refine (kT.calls (bt a0 0) t106 _ A7.out).mono ?_);rintro e w' ⟨rfl,⟨nd,rfl⟩⟩))
          go_meet
          case rel=>exact ⟨_,(!t106),be,H',⟨by first|omega|exact Nat.le_refl _⟩,bd⟩
        · rw [if_neg c5] at H
          exact absurd H (by simp)
  case rest =>
    clear OO;obtain ⟨kq,gU,rfl,HA,HJ1,⟨mc1,rfl⟩⟩:=hcut;cases kq with
    |zero=>exact absurd HA.out (by simp [dE.j0])
    |succ kj1 =>
      have H:=HA.out;clear HA;simp only [dE.j0] at H;by_cases c8:gU=true
      · subst c8
        have H1:(some false)=some r:=(by rw [if_pos rfl] at H;exact H);clear H;have H:=H1;clear H1;obtain rfl:=Option.some.inj H;go_wp2;go_ret;exact ⟨be,bd⟩
      · replace c8:=Bool.eq_false_iff.mpr c8
        subst c8;have H1:(dE.l0 kj1 a0 (a0.size:Int) 0)=some r:=(by rw [if_neg (show ¬ (false=true) by decide)] at H;exact H);clear H;have H:=H1;clear H1;have H':=bA H;clear H;go_wp2;go_loopg [19] kj1 (fun kq v19 w'=>∃ (kE:Int),v19 = .int .i64 kE∧aA (dE.l0 kq a0 (a0.size:Int) kE=some r)∧aA (kq≤kj1)∧jN w w')
        case atStart=>exact ⟨(0),be,H',⟨Nat.le_refl _⟩,bd⟩
        case round =>
          clear H';(try clear c8);obtain ⟨kE,rfl,HA,oQ,⟨m2,rfl⟩⟩:=hrel;cases gk with
          |zero=>exact absurd HA.out (by simp [dE.l0])
          |succ k2 =>
            have H:=HA.out;clear HA;simp only [dE.l0] at H;by_cases c9:kE<(a0.size:Int)
            · rw [if_pos c9] at H
              have OA:decide (kE<(a0.size:Int))=true:=decide_eq_true c9;clear c9;by_cases c10:0≤kE
              · rw [if_pos c10] at H
                have EP:decide (0≤kE)=true:=decide_eq_true c10;clear c10;by_cases c11:kE<(a0.size:Int)
                · rw [if_pos c11] at H
                  have aA0:decide (kE<(a0.size:Int))=true:=decide_eq_true c11;clear c11;replace H:=Option.bind_eq_some_iff.mp H;obtain ⟨t107,A130,H⟩:=H;replace H:(if t107=true then (dE.l0 k2 a0 (a0.size:Int) (wrap64 (kE+1))) else ((oG.f (bt a0 kE)).bind fun t108=>(if t108=true then (dE.l0 k2 a0 (a0.size:Int) (wrap64 (kE+1))) else (some false))))=some r:=H;have A13:=bA A130;clear A130;by_cases c14:t107=true
                  · subst c14
                    have H1:(dE.l0 k2 a0 (a0.size:Int) (wrap64 (kE+1)))=some r:=(by rw [if_pos rfl] at H;exact H);clear H;have H:=H1;clear H1;have H':=bA H;clear H;have p12:0≤(kE:Int):=gQ;have q12:kE<(a0.size:Int):=gQ;have hx12:=O6 a0 kE;replace p12:=eq_true p12;replace q12:=eq_true q12;go_wp2_with (first|((with_reducible refine cK (f:=91) rfl ?_);refine gJ (some 25) rfl rfl Try.func91 (by kernel_rfl) rfl #[.int .u8 (bt a0 kE)] rfl bm ?_;(with_reducible refine (kT.calls (bt a0 kE) true _ A13.out).mono ?_);rintro e w' ⟨rfl,⟨nd,rfl⟩⟩;refine ⟨_,rfl,?_⟩))
                    go_roundg k2
                    case measure=>have:=HJ1.out;have:=oQ.out;omega
                    case rel=>exact ⟨(wrap64 (kE+1)),be,H',⟨by have:=HJ1.out;have:=oQ.out;omega⟩,bd⟩
                  · replace c14:=Bool.eq_false_iff.mpr c14
                    subst c14;have H1:((oG.f (bt a0 kE)).bind fun t108=>(if t108=true then (dE.l0 k2 a0 (a0.size:Int) (wrap64 (kE+1))) else (some false)))=some r:=(by rw [if_neg (show ¬ (false=true) by decide)] at H;exact H);clear H;have H:=H1;clear H1;replace H:=Option.bind_eq_some_iff.mp H;obtain ⟨t108,OP,H⟩:=H;replace H:(if t108=true then (dE.l0 k2 a0 (a0.size:Int) (wrap64 (kE+1))) else (some false))=some r:=H;have A16:=bA OP;clear OP;by_cases c17:t108=true
                    · subst c17
                      have H1:(dE.l0 k2 a0 (a0.size:Int) (wrap64 (kE+1)))=some r:=(by rw [if_pos rfl] at H;exact H);clear H;have H:=H1;clear H1;have H':=bA H;clear H;have p12:0≤(kE:Int):=gQ;have q12:kE<(a0.size:Int):=gQ;have hx12:=O6 a0 kE;replace p12:=eq_true p12;replace q12:=eq_true q12;go_wp2_with (first|((with_reducible refine cK (f:=91) rfl ?_);refine gJ (some 25) rfl rfl Try.func91 (by kernel_rfl) rfl #[.int .u8 (bt a0 kE)] rfl bm ?_;(with_reducible refine (kT.calls (bt a0 kE) false _ A13.out).mono ?_);rintro e w' ⟨rfl,⟨nd,rfl⟩⟩;refine ⟨_,rfl,?_⟩;have p15:0≤(kE:Int):=gQ;have q15:kE<(a0.size:Int):=gQ;have hx15:=O6 a0 kE;replace p15:=eq_true p15;replace q15:=eq_true q15)|(go_at_call 92;(with_reducible refine (oG.calls (bt a0 kE) true _ A16.out).mono ?_);rintro e w' ⟨rfl,⟨nd,rfl⟩⟩))
                      go_roundg k2
                      case measure=>have:=HJ1.out;have:=oQ.out;omega
                      case rel=>exact ⟨(wrap64 (kE+1)),be,H',⟨by have:=HJ1.out;have:=oQ.out;omega⟩,bd⟩
                    · replace c17:=Bool.eq_false_iff.mpr c17
                      subst c17;have H1:(some false)=some r:=(by rw [if_neg (show ¬ (false=true) by decide)] at H;exact H);clear H;have H:=H1;clear H1;obtain rfl:=Option.some.inj H;have p12:0≤(kE:Int):=gQ;have q12:kE<(a0.size:Int):=gQ;have hx12:=O6 a0 kE;replace p12:=eq_true p12;replace q12:=eq_true q12;go_wp2_with (first|((with_reducible refine cK (f:=91) rfl ?_);refine gJ (some 25) rfl rfl Try.func91 (by kernel_rfl) rfl #[.int .u8 (bt a0 kE)] rfl bm ?_;(with_reducible refine (kT.calls (bt a0 kE) false _ A13.out).mono ?_);rintro e w' ⟨rfl,⟨nd,rfl⟩⟩;refine ⟨_,rfl,?_⟩;have p15:0≤(kE:Int):=gQ;have q15:kE<(a0.size:Int):=gQ;have hx15:=O6 a0 kE;replace p15:=eq_true p15;replace q15:=eq_true q15)|(go_at_call 92;(with_reducible refine (oG.calls (bt a0 kE) false _ A16.out).mono ?_);rintro e w' ⟨rfl,⟨nd,rfl⟩⟩))
                      go_ret;exact ⟨be,bd⟩
                · rw [if_neg c11] at H
                  exact absurd H (by simp)
              · rw [if_neg c10] at H
                exact absurd H (by simp)
            · rw [if_neg c9] at H
              have OA:decide (kE<(a0.size:Int))=false:=decide_eq_false c9;clear c9;obtain rfl:=Option.some.inj H;go_wp2;go_ret;exact ⟨be,bd⟩
set_option maxHeartbeats 400000 in
theorem I6 (s st:Int) (w:World) (h0:0≤s) (h1:s<st) {B:Nat} (hc:w.cell? ⟨B,0,none⟩=some (.int .i64 st)) :
    Calls Try.prog 62 #[.int .i64 s,.pointer (some ⟨B,0,none⟩)] w fun e w'=>e = .returned (.bool true)∧jN w w':=by
  go_enter Try.func62,Try.ntmps62;go_wp2;go_ret;exact ⟨rfl,bd⟩
set_option maxHeartbeats 400000 in
theorem IP (s st:Int) (w:World) (h : ¬ (0≤s∧s<st)) {B:Nat} (hc:w.cell? ⟨B,0,none⟩=some (.int .i64 st)) :
    Calls Try.prog 62 #[.int .i64 s,.pointer (some ⟨B,0,none⟩)] w fun e w'=>e = .returned (.bool false)∧jN w w':=by
  by_cases h0:0≤s
  · have h1 : ¬ s<st:=fun q=>h ⟨h0,q⟩
    clear h;go_enter Try.func62,Try.ntmps62;go_wp2;go_ret;exact ⟨rfl,bd⟩
  · clear h
    go_enter Try.func62,Try.ntmps62;go_wp2;go_ret;exact ⟨rfl,bd⟩
def mF (st sy s e:Int):Bool:=decide (1≤st∧st≤4096∧0≤sy∧sy≤4096∧(0≤s∧s<st)∧(0≤e∧e<st))
def iQ (st sy:Int) (x:gV):Bool:=decide ((0≤x.f0∧x.f0<st)∧(0≤x.f2∧x.f2<st)∧-2≤x.f1∧x.f1<sy)
def jI.f (aM aJ aV aW:Int) (aI:List gV):Option Int :=
  some (if 65536<aI.length then 3 else if mF aM aJ aV aW=true then (if aI.all (iQ aM aJ)=true then 0 else 81) else 81)
def U9 (aM aJ aV aW:Int) (A:Option Addr) (n c:Nat):Obj:=.cells #[.int .i64 aM,.int .i64 aJ,.int .i64 aV,.int .i64 aW,.slice A n c] 31 (0,0)
set_option maxHeartbeats 1600000 in
theorem OQ (aM aJ aV aW:Int) (A:Option Addr) (c n:Nat) (w:World) (hn:n≤65536) (h:mF aM aJ aV aW=false) :
    Calls Try.prog 31 #[.agg #[.int .i64 aM,.int .i64 aJ,.int .i64 aV,.int .i64 aW,.slice A n c]] w fun e w'=>e = .returned (.int .i64 81)∧Below w.heap.size w w':=by
  have hmf : ∀ (fn:Fn) (first cap:Array Value) (w:World),(Instr.makeFunc fn first cap).run Try.prog w = .ok (.func fn first cap) w:=fun _ _ _ _=>rfl;have hd0:decide ((65536:Int)<(n:Int))=false:=decide_eq_false (by omega);have hd1:decide (65536<n)=false:=decide_eq_false (by omega);have h:=of_decide_eq_false h;have HX:aA ((w.alloc (U9 aM aJ aV aW A n c)).cell? ⟨w.heap.size,0,none⟩=some (.int .i64 aM)):=⟨(aD (dX _ _) 0).trans rfl⟩;unfold U9 at HX;clear hn;by_cases c1:aM<1
  · have b1:decide (aM<1)=true:=decide_eq_true c1
    clear c1 h HX;go_enter Try.func31,Try.ntmps31;go_wp2;go_ret;exact ⟨rfl,by repeat (first|exact Below.refl _ _|apply aN|apply bB)⟩
  · have b1:decide (aM<1)=false:=decide_eq_false c1
    by_cases c2:4096<aM
    · have b2:decide (4096<aM)=true:=decide_eq_true c2
      clear c1 c2 h HX;go_enter Try.func31,Try.ntmps31;go_wp2;go_ret;exact ⟨rfl,by repeat (first|exact Below.refl _ _|apply aN|apply bB)⟩
    · have b2:decide (4096<aM)=false:=decide_eq_false c2
      by_cases c3:aJ<0
      · have b3:decide (aJ<0)=true:=decide_eq_true c3
        clear c1 c2 c3 h HX;go_enter Try.func31,Try.ntmps31;go_wp2;go_ret;exact ⟨rfl,by repeat (first|exact Below.refl _ _|apply aN|apply bB)⟩
      · have b3:decide (aJ<0)=false:=decide_eq_false c3
        by_cases c4:4096<aJ
        · have b4:decide (4096<aJ)=true:=decide_eq_true c4
          clear c1 c2 c3 c4 h HX;go_enter Try.func31,Try.ntmps31;go_wp2;go_ret;exact ⟨rfl,by repeat (first|exact Below.refl _ _|apply aN|apply bB)⟩
        · have b4:decide (4096<aJ)=false:=decide_eq_false c4
          by_cases c5:0≤aV∧aV<aM
          · have HY:=bA (I6 aV aM _ c5.1 c5.2 HX.out)
            have c6 : ¬ (0≤aW∧aW<aM):=(by omega);have HN:=fun W=>IP aW aM W c6 (B:=w.heap.size);have HN:=bA HN;clear c1 c2 c3 c4 c5 c6 h HX;go_enter Try.func31,Try.ntmps31;go_wp2_with (first|(go_at_call 62;refine HY.out.mono ?_;rintro e w1 ⟨rfl,⟨nd,rfl⟩⟩;clear HY)|(go_at_call 62;refine (HN.out _ ((aD (nI (dX _ _) nd) 0).trans rfl)).mono ?_;rintro e w1 ⟨rfl,⟨nd2,rfl⟩⟩))
            go_ret;exact ⟨rfl,by repeat (first|exact Below.refl _ _|apply aN|apply bB)⟩
          · have HN:=bA (IP aV aM _ c5 HX.out)
            clear c1 c2 c3 c4 c5 h HX;go_enter Try.func31,Try.ntmps31;go_wp2_with (first|(go_at_call 62;refine HN.out.mono ?_;rintro e w1 ⟨rfl,⟨nd,rfl⟩⟩))
            go_ret;exact ⟨rfl,by repeat (first|exact Below.refl _ _|apply aN|apply bB)⟩
set_option maxHeartbeats 1600000 in
theorem OT (aM aJ aV aW:Int) (A:Option Addr) (c n:Nat) (w:World) (hn:65536<n) :
    Calls Try.prog 31 #[.agg #[.int .i64 aM,.int .i64 aJ,.int .i64 aV,.int .i64 aW,.slice A n c]] w fun e w'=>e = .returned (.int .i64 3)∧Below w.heap.size w w':=by
  have hd0:decide ((65536:Int)<(n:Int))=true:=decide_eq_true (by omega);have hd1:decide (65536<n)=true:=decide_eq_true (by omega);clear hn;go_enter Try.func31,Try.ntmps31;go_wp2;go_ret;exact ⟨rfl,by repeat (first|exact Below.refl _ _|apply aN|apply bB)⟩
theorem WU {f:gV→Bool} {l:List gV} {k:Nat} (h:k<l.length):(l.drop k).all f=(f (aG l k) && (l.drop (k+1)).all f):=by
  rw [List.drop_eq_getElem_cons h,List.all_cons];unfold aG;simp [List.getElem?_eq_getElem h]
theorem aA1 {f:gV→Bool} {l:List gV} {k:Nat} (h:l.length≤k):(l.drop k).all f=true:=by
  rw [List.drop_eq_nil_of_le h];rfl
set_option maxHeartbeats 3200000 in
theorem OU (aM aJ aV aW:Int) (A:Option Addr) (c:Nat) (l:List gV) (r:Int) (w:World) (hrr:(if l.all (iQ aM aJ)=true then (0:Int) else 81)=r) (hn:l.length≤65536) (h:mF aM aJ aV aW=true) (hr:Kd.C xP w A l.length l) :
    Calls Try.prog 31 #[.agg #[.int .i64 aM,.int .i64 aJ,.int .i64 aV,.int .i64 aW,.slice A l.length c]] w fun e w'=>e = .returned (.int .i64 r)∧Below w.heap.size w w':=by
  have hmf : ∀ (fn:Fn) (first cap:Array Value) (w:World),(Instr.makeFunc fn first cap).run Try.prog w = .ok (.func fn first cap) w:=fun _ _ _ _=>rfl;have hd0:decide ((65536:Int)<(l.length:Int))=false:=decide_eq_false (by omega);have hd1:decide (65536<l.length)=false:=decide_eq_false (by omega);obtain ⟨c1,c2,c3,c4,c5,c6⟩:=of_decide_eq_true h;have b1:decide (aM<1)=false:=decide_eq_false (by omega);have b2:decide (4096<aM)=false:=decide_eq_false (by omega);have b3:decide (aJ<0)=false:=decide_eq_false (by omega);have b4:decide (4096<aJ)=false:=decide_eq_false (by omega);have HR:=bA hr;have HRR:=bA hrr;have hm:l.length≤9223372036854775807:=hr.2.1;have HX:aA ((w.alloc (U9 aM aJ aV aW A l.length c)).heap[w.heap.size]?=some (U9 aM aJ aV aW A l.length c)):=⟨dX _ _⟩;unfold U9 at HX;have HY:=bA (I6 aV aM _ c5.1 c5.2 ((aD HX.out 0).trans rfl));have HZ:=bA (fun W=>I6 aW aM W c6.1 c6.2 (B:=w.heap.size));have HT:=bA (fun (s:Int) (W:World) (hs:0≤s∧s<aM) (hW:W.heap[w.heap.size]?=some (.cells #[.int .i64 aM,.int .i64 aJ,.int .i64 aV,.int .i64 aW,.slice A l.length c] 31 (0,0)))=>I6 s aM W hs.1 hs.2 (B:=w.heap.size) ((aD hW 0).trans rfl));have HF:=bA (fun (s:Int) (W:World) (hs : ¬ (0≤s∧s<aM)) (hW:W.heap[w.heap.size]?=some (.cells #[.int .i64 aM,.int .i64 aJ,.int .i64 aV,.int .i64 aW,.slice A l.length c] 31 (0,0)))=>IP s aM W hs (B:=w.heap.size) ((aD hW 0).trans rfl));clear h c1 c2 c3 c4 c5 c6 hr hn hrr;go_enter Try.func31,Try.ntmps31;go_wp2_with (first|(go_at_call 62;refine HY.out.mono ?_;rintro e w1 ⟨rfl,⟨nd,rfl⟩⟩;clear HY)|(go_at_call 62;refine (HZ.out _ ((aD (nI (dX _ _) nd) 0).trans rfl)).mono ?_;rintro e w1 ⟨rfl,⟨nd2,rfl⟩⟩))
  go_loopw [5,46] (fun _ i wr=>∃ k:Nat,k≤l.length∧i = .int .i64 k∧aA (l.all (iQ aM aJ)=(l.drop k).all (iQ aM aJ))∧aA (Below w.heap.size w wr)∧aA (wr.heap[w.heap.size]?=some (.cells #[.int .i64 aM,.int .i64 aJ,.int .i64 aV,.int .i64 aW,.slice A l.length c] 31 (0,0)))) (fun _ i _=>l.length - (intOf i).toNat)
  case atStart=>exact ⟨0,Nat.zero_le _,rfl,⟨rfl⟩,⟨by repeat (first|exact Below.refl _ _|apply aN|apply bB)⟩,⟨by repeat (first|exact dX _ _|refine nI ?_ _)⟩⟩
  case round =>
    obtain ⟨k,hk,rfl,hall,HB,BK⟩:=hrel;clear HX HZ b1 b2 b3 b4 hd0 hd1 hmf;by_cases hlt:k<l.length
    · obtain ⟨ad,rfl,hx0,hx1,hx2⟩:=kQ HR.out (k:Int) (by omega) (by omega)
      rw [Int.toNat_natCast] at hx0 hx1 hx2;have hy0:=bJ HB.out hx0;have hy1:=bJ HB.out hx1;have hy2:=bJ HB.out hx2;have HS:=bA (WU (f:=iQ aM aJ) hlt);clear hx0 hx1 hx2;by_cases q0:0≤(aG l k).f0∧(aG l k).f0<aM
      · have Q0:=bA q0
        by_cases q1:0≤(aG l k).f2∧(aG l k).f2<aM
        · have Q1:=bA q1
          by_cases q2 : -2≤(aG l k).f1
          · have d2:decide ((aG l k).f1 < -2)=false:=decide_eq_false (by omega)
            have hcb : ∀ o:Obj,(wr.alloc o).cell? ⟨w.heap.size,1,none⟩=some (.int .i64 aJ):=fun o=>(aD (bH BK.out o) 1).trans rfl;by_cases q3:(aG l k).f1<aJ
            · have hok:iQ aM aJ (aG l k)=true:=decide_eq_true ⟨q0,q1,q2,q3⟩
              have HOK:=bA hok;have d3:decide (aJ≤(aG l k).f1)=false:=decide_eq_false (by omega);clear q0 q1 q2 q3 hok;go_wp2_with (first|(go_at_call 62;refine (HT.out _ _ Q0.out (bH BK.out _)).mono ?_;rintro e w1 ⟨rfl,⟨nd3,rfl⟩⟩;clear Q0)|(go_at_call 62;refine (HT.out _ _ Q1.out (nI (bH BK.out _) _)).mono ?_;rintro e w1 ⟨rfl,⟨nd4,rfl⟩⟩))
              go_roundw
              case rel=>exact ⟨k+1,by omega,by go_num,⟨by rw [hall.out,HS.out,HOK.out];rfl⟩,⟨by repeat (first|exact HB.out|apply aN|apply bB)⟩,⟨by repeat (first|exact BK.out|refine nI ?_ _|refine bH ?_ _)⟩⟩
              case measure=>simp [intOf];omega
            · have hok:iQ aM aJ (aG l k)=false:=decide_eq_false (fun q=>q3 q.2.2.2)
              have HOK:=bA hok;have d3:decide (aJ≤(aG l k).f1)=true:=decide_eq_true (by omega);clear q0 q1 q2 q3 hok;go_wp2_with (first|(go_at_call 62;refine (HT.out _ _ Q0.out (bH BK.out _)).mono ?_;rintro e w1 ⟨rfl,⟨nd3,rfl⟩⟩;clear Q0)|(go_at_call 62;refine (HT.out _ _ Q1.out (nI (bH BK.out _) _)).mono ?_;rintro e w1 ⟨rfl,⟨nd4,rfl⟩⟩))
              go_ret;exact ⟨by rw [←HRR.out,hall.out,HS.out,HOK.out];rfl,by repeat (first|exact HB.out|apply aN|apply bB)⟩
          · have hok:iQ aM aJ (aG l k)=false:=decide_eq_false (fun q=>q2 q.2.2.1)
            have HOK:=bA hok;have d2:decide ((aG l k).f1 < -2)=true:=decide_eq_true (by omega);clear q0 q1 q2 hok;go_wp2_with (first|(go_at_call 62;refine (HT.out _ _ Q0.out (bH BK.out _)).mono ?_;rintro e w1 ⟨rfl,⟨nd3,rfl⟩⟩;clear Q0)|(go_at_call 62;refine (HT.out _ _ Q1.out (nI (bH BK.out _) _)).mono ?_;rintro e w1 ⟨rfl,⟨nd4,rfl⟩⟩))
            go_ret;exact ⟨by rw [←HRR.out,hall.out,HS.out,HOK.out];rfl,by repeat (first|exact HB.out|apply aN|apply bB)⟩
        · have hok:iQ aM aJ (aG l k)=false:=decide_eq_false (fun q=>q1 q.2.1)
          have HOK:=bA hok;have Q1:=bA q1;clear q0 q1 hok;go_wp2_with (first|(go_at_call 62;refine (HT.out _ _ Q0.out (bH BK.out _)).mono ?_;rintro e w1 ⟨rfl,⟨nd3,rfl⟩⟩;clear Q0)|(go_at_call 62;refine (HF.out _ _ Q1.out (nI (bH BK.out _) _)).mono ?_;rintro e w1 ⟨rfl,⟨nd4,rfl⟩⟩))
          go_ret;exact ⟨by rw [←HRR.out,hall.out,HS.out,HOK.out];rfl,by repeat (first|exact HB.out|apply aN|apply bB)⟩
      · have hok:iQ aM aJ (aG l k)=false:=decide_eq_false (fun q=>q0 q.1)
        have HOK:=bA hok;have Q0:=bA q0;clear q0 hok;go_wp2_with (first|(go_at_call 62;refine (HF.out _ _ Q0.out (bH BK.out _)).mono ?_;rintro e w1 ⟨rfl,⟨nd3,rfl⟩⟩;clear Q0))
        go_ret;exact ⟨by rw [←HRR.out,hall.out,HS.out,HOK.out];rfl,by repeat (first|exact HB.out|apply aN|apply bB)⟩
    · have hge:l.length≤k:=by omega
      have HE:=bA (aA1 (f:=iQ aM aJ) hge);go_wp2;go_ret;exact ⟨by rw [←HRR.out,hall.out,HE.out];rfl,HB.out⟩
theorem jI.calls (aM:Int) (aJ:Int) (aV:Int) (aW:Int) (gN:Option Addr) (fM:Nat) (aI:List (gV)) (r:Int) (w:World) (kW:Kd.C xP w gN aI.length aI) (lF:aI.length≤fM) (h:jI.f aM aJ aV aW aI=some r) :
    Calls Try.prog 31 #[.agg #[.int .i64 aM,.int .i64 aJ,.int .i64 aV,.int .i64 aW,.slice gN aI.length fM]] w fun e w'=>e = .returned (.int .i64 r)∧Below w.heap.size w w':=by
  unfold jI.f at h;have h:=Option.some.inj h;by_cases h1:65536<aI.length
  · rw [if_pos h1] at h
    subst h;exact OT _ _ _ _ _ _ _ w h1
  · rw [if_neg h1] at h
    by_cases h2:mF aM aJ aV aW=true
    · rw [if_pos h2] at h
      exact OU _ _ _ _ _ _ _ _ w h (by omega) h2 kW
    · rw [if_neg h2] at h
      subst h;exact OQ _ _ _ _ _ _ _ w (by omega) (by simpa using h2)
end Go.Proofs.Ytapinbmkjkbkkaa.Lb
