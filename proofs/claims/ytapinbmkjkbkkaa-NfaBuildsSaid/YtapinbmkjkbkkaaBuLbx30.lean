import Derived.Test.YtapinbmkjkbkkaaBuVi
import Derived.Test.YtapinbmkjkbkkaaBuLbe
import Derived.Test.YtapinbmkjkbkkaaBuLbf
namespace Go.Proofs.Ytapinbmkjkbkkaa.Lb
open Go.RowKit Go.Proofs.aC.bE Go.Proofs.aC.bV Go.Proofs.aC.bY
attribute [local go_sem] kY kZ nO nP kC kD lC lD
set_option linter.unusedVariables false
set_option linter.unusedSimpArgs false
private theorem cZ {P:Prop} (h:P:=by repeat (first|(with_reducible first|exact HB.out|apply aN|apply bB|apply bX|refine eB ?_ GE537.out|refine eB ?_ GE540.out)|exact HB.out)):P:=h
mutual
def bS.l0:Nat→Int→Int→Int→ByteArray→List (gB)→Option (Int)
  |0,_,_,_,_,_=>none
  |k+1,x3,x4,x538000,x538001,ER=>if x4<(ER.length:Int) then (if x3≤500 then (if 0≤x4 then ((bS.f k ((bL ER x4).f0) ((bL ER x4).f1) ((bL ER x4).f2)).bind fun t539=>(bS.l0 k (wrap64 (x3+t539)) (wrap64 (x4+1)) x538000 x538001 ER)) else (none)) else (some x3)) else (some x3)
def bS.f:Nat→Int→ByteArray→List (gB)→Option (Int)
  |0,_,_,_=>none
  |k+1,aM,aJ,bQ=>bS.l0 k 1 0 aM aJ bQ
end
set_option maxHeartbeats 8000000 in
set_option maxRecDepth 100000 in
theorem bS.calls (k:Nat) : ∀ (aM:Int) (aJ:ByteArray) (jF:Option Addr) (iY:Nat) (bQ:List (gB)) (r:Int) (w:World) (mI:Kd.C k25 w jF bQ.length bQ) (mJ:bQ.length≤iY) (h:bS.f k aM aJ bQ=some r),
    Calls Try.prog 71 #[.agg #[.int .i64 aM,.string aJ,.slice jF bQ.length iY]] w fun e w'=>e = .returned (.int .i64 r)∧Below w.heap.size w w':=by
  induction k using Nat.strongRecOn with
  |_ k ih =>
  intro aM aJ jF iY bQ r w mI mJ h;cases k with
  |zero=>exact absurd h (by simp [bS.f])
  |succ k =>
  simp only [bS.f] at h;have hu25:=Try.underlying25;have qI:=bA mI;have xZ:=bA mJ;clear mI mJ;have HB:=bA (Below.refl w.heap.size w);have H:(bS.l0 k 1 0 aM aJ bQ)=some r:=h;clear h;have H':=bA H;clear H;go_enter Try.func71,Try.ntmps71;go_wp2_with (first|((with_reducible refine dB (N:=1) rfl ?_);refine dA ?hg (N:=1) ?hd (cs:=#[.int .i64 aM,.string aJ,.slice jF bQ.length iY]) (t:=25) ?hr ?_;(case hd=>rfl);(case hg=>rfl);(case hr=>first|(go_simp;done)|(go_simp;rfl));intro gb537 hg w2 dL hb;have qY:=bA (dL);have GW537:=bw (w:=w) hg cZ;have GE537:=bw (w:=w) hg cZ;replace HB:=bA (aU cZ hb);clear hb dL hg))
  go_loopg [3,4] k (fun kq v3 v4 w'=>∃ (fG:Int) (iN:Int),v3 = .int .i64 fG∧v4 = .int .i64 iN∧aA (bS.l0 kq fG iN aM aJ bQ=some r)∧aA (kq≤k)∧aA (w'.heap[gb537]?=some (.cells #[.int .i64 aM,.string aJ,(.slice jF bQ.length iY)] 25 (0,0)))∧aA (Below w.heap.size w w'))
  case atStart=>exact ⟨(1),(0),be,be,H',⟨Nat.le_refl _⟩,⟨dV qY.out⟩,⟨cZ⟩⟩
  case round =>
    clear H';obtain ⟨fG,iN,rfl,rfl,HA,iC,qY,HB⟩:=hrel;cases gk with
    |zero=>exact absurd HA.out (by simp [bS.l0])
    |succ k1 =>
      have H:=HA.out;clear HA;simp only [bS.l0] at H;by_cases c3:iN<(bQ.length:Int)
      · rw [if_pos c3] at H
        have mG:decide (iN<(bQ.length:Int))=true:=decide_eq_true c3;clear c3;by_cases c4:fG≤500
        · rw [if_pos c4] at H
          have qX:decide (fG≤500)=true:=decide_eq_true c4;clear c4;by_cases c5:0≤iN
          · rw [if_pos c5] at H
            have uB:decide (0≤iN)=true:=decide_eq_true c5;clear c5;replace H:=Option.bind_eq_some_iff.mp H;obtain ⟨t539,A60,H⟩:=H;replace H:(bS.l0 k1 (wrap64 (fG+t539)) (wrap64 (iN+1)) aM aJ bQ)=some r:=H;have A6:=bA A60;clear A60;have H':=bA H;clear H;have zD:=bc0 qY;have zF:=bc1 qY;have zG:=bc2 qY;have zH:=bz qY 0;have zI:=bz qY 1;have zJ:=bz qY 2;have p538:0≤(iN:Int):=gQ;have q538:iN<(bQ.length:Int):=gQ;obtain ⟨ad538,A538_2,c538_2,e538,WX,WY,WZ,hl538_2,hi538_2⟩:=mE qI.out iN p538 q538;cases e538;replace WX:=(HB.out.cell (World.block_lt_of_cell? w _ WX)).trans WX;replace WY:=(HB.out.cell (World.block_lt_of_cell? w _ WY)).trans WY;replace WZ:=(HB.out.cell (World.block_lt_of_cell? w _ WZ)).trans WZ;have HR538_2:=bA hi538_2;have HC538_2:=bA hl538_2;clear hi538_2 hl538_2;replace p538:=eq_true p538;replace q538:=eq_true q538;go_wp2_with (first|((with_reducible refine cK (f:=71) rfl ?_);refine gJ (some 22) rfl rfl Try.func71 (by kernel_rfl) rfl #[.agg #[.int .i64 ((bL bQ iN).f0),.string ((bL bQ iN).f1),.slice A538_2 ((bL bQ iN).f2).length c538_2]] rfl bm ?_;(with_reducible refine (ih k1 (by have:=iC.out;omega) ((bL bQ iN).f0) ((bL bQ iN).f1) _ _ ((bL bQ iN).f2) t539 _ ?side1 ?side2 A6.out).mono ?_);(case side1=>exact bs HR538_2 HB);(case side2=>exact HC538_2.out);rintro e w8 ⟨rfl,hb⟩;refine ⟨_,rfl,?_⟩;replace qY:=bb qY hb;replace HB:=bA (aU cZ hb);(try clear hb);(try clear hb2);(try clear hk);(try clear hi)))
            go_roundg k1
            case measure=>have:=iC.out;omega
            case rel=>exact ⟨(wrap64 (fG+t539)),(wrap64 (iN+1)),be,be,H',⟨by have:=iC.out;omega⟩,⟨dV qY.out⟩,⟨cZ⟩⟩
          · rw [if_neg c5] at H
            exact absurd H (by simp)
        · rw [if_neg c4] at H
          have qX:decide (fG≤500)=false:=decide_eq_false c4;clear c4;obtain rfl:=Option.some.inj H;have OY:=bc0 qY;have OZ:=bc1 qY;have PD:=bc2 qY;have PE:=bz qY 0;have PG:=bz qY 1;have PH:=bz qY 2;go_wp2;go_ret;exact ⟨by first|rfl|(simp [aX,aY] <;> rfl)|(simp [*,aX,aY] <;> rfl),cZ⟩
      · rw [if_neg c3] at H
        have mG:decide (iN<(bQ.length:Int))=false:=decide_eq_false c3;clear c3;obtain rfl:=Option.some.inj H;have uC:=bc0 qY;have uD:=bc1 qY;have uE:=bc2 qY;have uF:=bz qY 0;have uG:=bz qY 1;have uH:=bz qY 2;go_wp2;go_ret;exact ⟨by first|rfl|(simp [aX,aY] <;> rfl)|(simp [*,aX,aY] <;> rfl),cZ⟩
mutual
def bN.l0:Nat→Int→Int→Int→ByteArray→List (gB)→Option (Bool)
  |0,_,_,_,_,_=>none
  |k+1,x1,x5,x541000,x541001,ES=>if x5<(ES.length:Int) then (if 0≤x5 then ((bN.f k ((bL ES x5).f0) ((bL ES x5).f1) ((bL ES x5).f2) (wrap64 (x1 - 1))).bind fun t542=>(if t542=true then (bN.l0 k x1 (wrap64 (x5+1)) x541000 x541001 ES) else (some false))) else (none)) else (some true)
def bN.f:Nat→Int→ByteArray→List (gB)→Int→Option (Bool)
  |0,_,_,_,_=>none
  |k+1,aM,aJ,bQ,a1=>if a1=0 then (some false) else (bN.l0 k a1 0 aM aJ bQ)
end
set_option maxHeartbeats 8000000 in
set_option maxRecDepth 100000 in
theorem bN.calls (k:Nat) : ∀ (aM:Int) (aJ:ByteArray) (jF:Option Addr) (iY:Nat) (bQ:List (gB)) (a1:Int) (r:Bool) (w:World) (mI:Kd.C k25 w jF bQ.length bQ) (mJ:bQ.length≤iY) (h:bN.f k aM aJ bQ a1=some r),
    Calls Try.prog 72 #[.agg #[.int .i64 aM,.string aJ,.slice jF bQ.length iY],.int .i64 a1] w fun e w'=>e = .returned (.bool r)∧Below w.heap.size w w':=by
  induction k using Nat.strongRecOn with
  |_ k ih =>
  intro aM aJ jF iY bQ a1 r w mI mJ h;cases k with
  |zero=>exact absurd h (by simp [bN.f])
  |succ k =>
  simp only [bN.f] at h;have hu25:=Try.underlying25;have qI:=bA mI;have xZ:=bA mJ;clear mI mJ;have HB:=bA (Below.refl w.heap.size w);have H:(if a1=0 then (some false) else (bN.l0 k a1 0 aM aJ bQ))=some r:=h;clear h;by_cases c3:a1=0
  · rw [if_pos c3] at H
    have mG:(a1==0)=true:=beq_iff_eq.mpr c3;have U4:(a1 != 0)=false:=bne_eq_false_iff_eq.mpr c3;clear c3;obtain rfl:=Option.some.inj H;go_enter Try.func72,Try.ntmps72;go_wp2_with (first|((with_reducible refine dB (N:=2) rfl ?_);refine dA ?hg (N:=2) ?hd (cs:=#[.int .i64 aM,.string aJ,.slice jF bQ.length iY]) (t:=25) ?hr ?_;(case hd=>rfl);(case hg=>rfl);(case hr=>first|(go_simp;done)|(go_simp;rfl));intro gb540 hg w4 dL hb;have pR:=bA (dL);have GW540:=bw (w:=w) hg cZ;have GE540:=bw (w:=w) hg cZ;replace HB:=bA (aU cZ hb);clear hb dL hg))
    go_ret;exact ⟨by first|rfl|(simp [aX,aY] <;> rfl)|(simp [*,aX,aY] <;> rfl),cZ⟩
  · rw [if_neg c3] at H
    have mG:(a1==0)=false:=beq_eq_false_iff_ne.mpr c3;have U4:(a1 != 0)=true:=bne_iff_ne.mpr c3;have H':=bA H;clear H;go_enter Try.func72,Try.ntmps72;go_wp2_with (first|((with_reducible refine dB (N:=2) rfl ?_);refine dA ?hg (N:=2) ?hd (cs:=#[.int .i64 aM,.string aJ,.slice jF bQ.length iY]) (t:=25) ?hr ?_;(case hd=>rfl);(case hg=>rfl);(case hr=>first|(go_simp;done)|(go_simp;rfl));intro gb540 hg w5 dL hb;have pR:=bA (dL);have GW540:=bw (w:=w) hg cZ;have GE540:=bw (w:=w) hg cZ;replace HB:=bA (aU cZ hb);clear hb dL hg))
    go_loopg [5] k (fun kq v5 w'=>∃ (fU:Int),v5 = .int .i64 fU∧aA (bN.l0 kq a1 fU aM aJ bQ=some r)∧aA (kq≤k)∧aA (w'.heap[gb540]?=some (.cells #[.int .i64 aM,.string aJ,(.slice jF bQ.length iY)] 25 (0,0)))∧aA (Below w.heap.size w w'))
    case atStart=>exact ⟨(0),be,H',⟨Nat.le_refl _⟩,⟨dV pR.out⟩,⟨cZ⟩⟩
    case round =>
      clear H';(try clear c3);(try clear mG);(try clear U4);obtain ⟨fU,rfl,HA,iC,pR,HB⟩:=hrel;cases gk with
      |zero=>exact absurd HA.out (by simp [bN.l0])
      |succ k1 =>
        have H:=HA.out;clear HA;simp only [bN.l0] at H;by_cases c6:fU<(bQ.length:Int)
        · rw [if_pos c6] at H
          have zB:decide (fU<(bQ.length:Int))=true:=decide_eq_true c6;clear c6;by_cases c7:0≤fU
          · rw [if_pos c7] at H
            have DX:decide (0≤fU)=true:=decide_eq_true c7;clear c7;replace H:=Option.bind_eq_some_iff.mp H;obtain ⟨t542,A80,H⟩:=H;replace H:(if t542=true then (bN.l0 k1 a1 (wrap64 (fU+1)) aM aJ bQ) else (some false))=some r:=H;have A8:=bA A80;clear A80;by_cases c9:t542=true
            · subst c9
              have H1:(bN.l0 k1 a1 (wrap64 (fU+1)) aM aJ bQ)=some r:=(by rw [if_pos rfl] at H;exact H);clear H;have H:=H1;clear H1;have H':=bA H;clear H;have uC:=bc0 pR;have uD:=bc1 pR;have uE:=bc2 pR;have uF:=bz pR 0;have uG:=bz pR 1;have uH:=bz pR 2;have p541:0≤(fU:Int):=gQ;have q541:fU<(bQ.length:Int):=gQ;obtain ⟨ad541,A541_2,c541_2,e541,J6,J7,J8,ET,EU⟩:=mE qI.out fU p541 q541;cases e541;replace J6:=(HB.out.cell (World.block_lt_of_cell? w _ J6)).trans J6;replace J7:=(HB.out.cell (World.block_lt_of_cell? w _ J7)).trans J7;replace J8:=(HB.out.cell (World.block_lt_of_cell? w _ J8)).trans J8;have XA:=bA EU;have XB:=bA ET;clear EU ET;replace p541:=eq_true p541;replace q541:=eq_true q541;go_wp2_with (first|((with_reducible refine cK (f:=72) rfl ?_);refine gJ (some 22) rfl rfl Try.func72 (by kernel_rfl) rfl #[.agg #[.int .i64 ((bL bQ fU).f0),.string ((bL bQ fU).f1),.slice A541_2 ((bL bQ fU).f2).length c541_2],.int .i64 (wrap64 (a1 - 1))] rfl bm ?_;(with_reducible refine (ih k1 (by have:=iC.out;omega) ((bL bQ fU).f0) ((bL bQ fU).f1) _ _ ((bL bQ fU).f2) (wrap64 (a1 - 1)) true _ ?side1 ?side2 A8.out).mono ?_);(case side1=>exact bs XA HB);(case side2=>exact XB.out);rintro e w11 ⟨rfl,hb⟩;refine ⟨_,rfl,?_⟩;replace pR:=bb pR hb;replace HB:=bA (aU cZ hb);(try clear hb);(try clear hb2);(try clear hk);(try clear hi)))
              go_roundg k1
              case measure=>have:=iC.out;omega
              case rel=>exact ⟨(wrap64 (fU+1)),be,H',⟨by have:=iC.out;omega⟩,⟨dV pR.out⟩,⟨cZ⟩⟩
            · replace c9:=Bool.eq_false_iff.mpr c9
              subst c9;have H1:(some false)=some r:=(by rw [if_neg (show ¬ (false=true) by decide)] at H;exact H);clear H;have H:=H1;clear H1;obtain rfl:=Option.some.inj H;have hcz12_0:=bc0 pR;have hcz12_1:=bc1 pR;have hcz12_2:=bc2 pR;have hfz12_0:=bz pR 0;have hfz12_1:=bz pR 1;have hfz12_2:=bz pR 2;have p541:0≤(fU:Int):=gQ;have q541:fU<(bQ.length:Int):=gQ;obtain ⟨ad541,A541_2,c541_2,e541,J6,J7,J8,ET,EU⟩:=mE qI.out fU p541 q541;cases e541;replace J6:=(HB.out.cell (World.block_lt_of_cell? w _ J6)).trans J6;replace J7:=(HB.out.cell (World.block_lt_of_cell? w _ J7)).trans J7;replace J8:=(HB.out.cell (World.block_lt_of_cell? w _ J8)).trans J8;have XA:=bA EU;have XB:=bA ET;clear EU ET;replace p541:=eq_true p541;replace q541:=eq_true q541;go_wp2_with (first|((with_reducible refine cK (f:=72) rfl ?_);refine gJ (some 22) rfl rfl Try.func72 (by kernel_rfl) rfl #[.agg #[.int .i64 ((bL bQ fU).f0),.string ((bL bQ fU).f1),.slice A541_2 ((bL bQ fU).f2).length c541_2],.int .i64 (wrap64 (a1 - 1))] rfl bm ?_;(with_reducible refine (ih k1 (by have:=iC.out;omega) ((bL bQ fU).f0) ((bL bQ fU).f1) _ _ ((bL bQ fU).f2) (wrap64 (a1 - 1)) false _ ?side1 ?side2 A8.out).mono ?_);(case side1=>exact bs XA HB);(case side2=>exact XB.out);rintro e w13 ⟨rfl,hb⟩;refine ⟨_,rfl,?_⟩;replace pR:=bb pR hb;replace HB:=bA (aU cZ hb);(try clear hb);(try clear hb2);(try clear hk);(try clear hi)))
              go_ret;exact ⟨by first|rfl|(simp [aX,aY] <;> rfl)|(simp [*,aX,aY] <;> rfl),cZ⟩
          · rw [if_neg c7] at H
            exact absurd H (by simp)
        · rw [if_neg c6] at H
          have zB:decide (fU<(bQ.length:Int))=false:=decide_eq_false c6;clear c6;obtain rfl:=Option.some.inj H;have p9:=bc0 pR;have q9:=bc1 pR;have r9:=bc2 pR;have u7:=bz pR 0;have z8:=bz pR 1;have A9:=bz pR 2;go_wp2;go_ret;exact ⟨by first|rfl|(simp [aX,aY] <;> rfl)|(simp [*,aX,aY] <;> rfl),cZ⟩
end Go.Proofs.Ytapinbmkjkbkkaa.Lb
