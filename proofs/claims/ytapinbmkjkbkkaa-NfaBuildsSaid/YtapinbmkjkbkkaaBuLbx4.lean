import Derived.Test.YtapinbmkjkbkkaaBuVi
import Derived.Test.YtapinbmkjkbkkaaBuLbx2
import Derived.Test.YtapinbmkjkbkkaaBuLbx3
namespace Go.Proofs.Ytapinbmkjkbkkaa.Lb
open Go.RowKit Go.Proofs.aC.bE Go.Proofs.aC.bV Go.Proofs.aC.bY
attribute [local go_sem] kY kZ nO nP kC kD lC lD
set_option linter.unusedVariables false
set_option linter.unusedSimpArgs false
private theorem cZ {P:Prop} (h:P:=by repeat (first|(with_reducible first|exact HB.out|apply aN|apply bB|apply bX|refine eB ?_ GE163.out|refine eB ?_ GE171.out)|exact HB.out)):P:=h
mutual
def fD.l0:Nat→List Int→List Int→Int→Int→Option (ByteArray)
  |0,_,_,_,_=>none
  |k+1,x3,x7,x8,x9=>if x9<x8 then (if 0≤x9 then (if x9<(x7.length:Int) then (fD.l1 k x3 (rd x7 x9) x7 x8 x9 0) else (none)) else (none)) else (some (strOfNums x3))
def fD.l1:Nat→List Int→Int→List Int→Int→Int→Int→Option (ByteArray)
  |0,_,_,_,_,_,_=>none
  |k+1,x3,x5,x7,x8,x9,x13=>if x13<8 then (if 0≤(wrap64 (8 * x13)) then (if x3.length<140737488355328 then (fD.l1 k (x3 ++ [(shr .u64 x5 (wrap64 (8 * x13))) % 256]) x5 x7 x8 x9 (wrap64 (x13+1))) else (none)) else (none)) else (fD.l0 k x3 x7 x8 (wrap64 (x9+1)))
end
def fD.f (k:Nat) (l0:List Int):Option (ByteArray):=fD.l0 k ([]:List Int) l0 (l0.length:Int) 0
theorem fD.kN : ∀ k,(∀ y0 y1 y2 y3,fQ (fD.l0 k y0 y1 y2 y3) (fD.l0 (k+1) y0 y1 y2 y3))∧(∀ y0 y1 y2 y3 y4 y5,fQ (fD.l1 k y0 y1 y2 y3 y4 y5) (fD.l1 (k+1) y0 y1 y2 y3 y4 y5))
  |0=>⟨fun _ _ _ _ r h=>by simp [fD.l0] at h,fun _ _ _ _ _ _ r h=>by simp [fD.l1] at h⟩
  |k+1=>by
    obtain ⟨sI,ih1⟩:=fD.kN k;refine ⟨?_,?_⟩
    · intro y0 y1 y2 y3
      unfold fD.l0;repeat' first|(with_reducible first|exact sI _ _ _ _|exact ih1 _ _ _ _ _ _|exact fQ.refl _|exact fQ.none _|refine fQ.ite ?_ ?_|refine fQ.bind ?_ (fun _=>?_))|exact sI _ _ _ _|exact ih1 _ _ _ _ _ _|exact fQ.none _|refine fQ.ite ?_ ?_|refine fQ.bind ?_ (fun _=>?_)
    · intro y0 y1 y2 y3 y4 y5
      unfold fD.l1;repeat' first|(with_reducible first|exact sI _ _ _ _|exact ih1 _ _ _ _ _ _|exact fQ.refl _|exact fQ.none _|refine fQ.ite ?_ ?_|refine fQ.bind ?_ (fun _=>?_))|exact sI _ _ _ _|exact ih1 _ _ _ _ _ _|exact fQ.none _|refine fQ.ite ?_ ?_|refine fQ.bind ?_ (fun _=>?_)
theorem fD.mono : ∀ a0 k,fQ (fD.f k a0) (fD.f (k+1) a0):=by
  intro a0 k;obtain ⟨sI,ih1⟩:=fD.kN k;unfold fD.f;repeat' first|(with_reducible first|exact sI _ _ _ _|exact ih1 _ _ _ _ _ _|exact fQ.refl _|exact fQ.none _|refine fQ.ite ?_ ?_|refine fQ.bind ?_ (fun _=>?_))|exact sI _ _ _ _|exact ih1 _ _ _ _ _ _|exact fQ.none _|refine fQ.ite ?_ ?_|refine fQ.bind ?_ (fun _=>?_)
set_option maxHeartbeats 8000000 in
set_option maxRecDepth 100000 in
theorem fD.calls (k:Nat) (A0:Option Addr) (c0:Nat) (l0:List Int) (r:ByteArray) (w:World) (hr0:Kd.C (Kd.int .u64) w A0 l0.length l0) (hc0:l0.length≤c0) (h:fD.f k l0=some r) :
    Calls Try.prog 77 #[.slice A0 l0.length c0] w fun e w'=>e = .returned (.string r)∧Below w.heap.size w w':=by
  have P6:=bA hr0;have HC0:=bA hc0;clear hr0 hc0;have HB:=bA (Below.refl w.heap.size w);have H:(fD.l0 k ([]:List Int) l0 (l0.length:Int) 0)=some r:=h;clear h;have H':=bA H;clear H;go_enter Try.func77,Try.ntmps77;go_wp2;go_loopg [3,9] k (fun kq v3 v9 w'=>∃ (fG:List Int) (iB:Int),v9 = .int .i64 iB∧aA (fD.l0 kq fG l0 (l0.length:Int) iB=some r)∧aA (kq≤k)∧aA (Kd.R (Kd.int .u8) 5 w' w.heap.size (fun _=>True) v3 fG)∧aA (Below w.heap.size w w'))
  case atStart=>exact ⟨(([]:List Int)),(0),be,H',⟨Nat.le_refl _⟩,⟨by first|exact Kd.kJ _ _ _ _ _|exact Kd.tJ _ _ _ _ _|exact Kd.tK _ _ _ _ _|exact Kd.tL _ _ _ _ _|exact Kd.rO _ _ _ _ _⟩,⟨cZ⟩⟩
  case round =>
    clear H';obtain ⟨fG,iB,rfl,HA,iC,oM,HB⟩:=hrel;cases gk with
    |zero=>exact absurd HA.out (by simp [fD.l0])
    |succ k1 =>
      have H:=HA.out;clear HA;simp only [fD.l0] at H;by_cases c2:iB<(l0.length:Int)
      · rw [if_pos c2] at H
        have vP:decide (iB<(l0.length:Int))=true:=decide_eq_true c2;clear c2;by_cases c3:0≤iB
        · rw [if_pos c3] at H
          have mG:decide (0≤iB)=true:=decide_eq_true c3;clear c3;by_cases c4:iB<(l0.length:Int)
          · rw [if_pos c4] at H
            have qX:decide (iB<(l0.length:Int))=true:=decide_eq_true c4;clear c4;have H':=bA H;clear H;have p155:0≤(iB:Int):=gQ;have q155:iB<(l0.length:Int):=gQ;obtain ⟨ad155,e155,LY⟩:=Kd.qP P6.out iB p155 q155;cases e155;replace LY:=(HB.out.cell (World.block_lt_of_cell? w _ LY)).trans LY;replace p155:=eq_true p155;replace q155:=eq_true q155;go_wp2;go_loopg [3,13] k1 (fun kq v3 v13 w'=>∃ (eH:List Int) (O8:Int),v13 = .int .i64 O8∧aA (fD.l1 kq eH (rd l0 iB) l0 (l0.length:Int) iB O8=some r)∧aA (kq≤k1)∧aA (Kd.R (Kd.int .u8) 5 w' w.heap.size (fun _=>True) v3 eH)∧aA (Below w.heap.size w w'))
            case atStart=>exact ⟨(fG),(0),be,H',⟨Nat.le_refl _⟩,⟨iZ oM.out⟩,⟨cZ⟩⟩
            case round =>
              clear H';(try clear c2);(try clear vP);(try clear c3);(try clear mG);(try clear c4);(try clear qX);(try clear LY);(try clear p155);(try clear q155);obtain ⟨eH,O8,rfl,HA,oQ,oM,HB⟩:=hrel;cases gk with
              |zero=>exact absurd HA.out (by simp [fD.l1])
              |succ k2 =>
                have H:=HA.out;clear HA;simp only [fD.l1] at H;by_cases c5:O8<8
                · rw [if_pos c5] at H
                  have uB:decide (O8<8)=true:=decide_eq_true c5;clear c5;obtain ⟨ji6,hji6⟩ : ∃ j_:Int,(wrap64 (8 * O8))=j_:=⟨_,rfl⟩;replace H:(if 0≤(ji6) then (if eH.length<140737488355328 then (fD.l1 k2 (eH ++ [(shr .u64 (rd l0 iB) (ji6)) % 256]) (rd l0 iB) l0 (l0.length:Int) iB (wrap64 (O8+1))) else (none)) else (none))=some r:=(by first|(rw [hji6] at H;exact H)|(simp only [hji6] at H ⊢;exact H));have hji6w:(IntKind.i64.wrap (8 * O8))=ji6:=(iP _).trans hji6;by_cases c7:0≤(ji6)
                  · rw [if_pos c7] at H
                    have DX:=eq_true c7;have c7b1:decide (0≤(ji6))=true:=decide_eq_true c7;clear c7;obtain ⟨XJ,XK⟩ : ∃ j_:Int,(shr .u64 (rd l0 iB) (ji6))=j_:=⟨_,rfl⟩;replace H:(if eH.length<140737488355328 then (fD.l1 k2 (eH ++ [(XJ) % 256]) (rd l0 iB) l0 (l0.length:Int) iB (wrap64 (O8+1))) else (none))=some r:=(by first|(rw [XK] at H;exact H)|(simp only [XK] at H ⊢;exact H));have hji8_:((rd l0 iB) / 2 ^ min (ji6).toNat 64)=XJ:=XK;have hji8z:(ji6)≤64→((rd l0 iB) / 2 ^ (ji6).toNat)=XJ:=Y5 XK;by_cases c9:eH.length<140737488355328
                    · rw [if_pos c9] at H
                      have LMc9:=bA c9;clear c9;obtain ⟨y156,aAI⟩ : ∃ y_:List Int,y_=(eH ++ [(XJ) % 256]):=⟨_,rfl⟩;replace H:(fD.l1 k2 y156 (rd l0 iB) l0 (l0.length:Int) iB (wrap64 (O8+1)))=some r:=(by first|(rw [aAI];with_reducible exact H)|(have mH:=(Option.bind_some _ _).symm.trans H;rw [aAI];with_reducible exact mH)|(have mH:=(Option.bind_some _ _).symm.trans H;with_reducible exact mH)|with_reducible exact H|(rw [aAI];exact H)|exact H);have Ny156:=bA aAI;clear aAI;have H':=bA H;clear H;go_wp2_with (first|((with_reducible refine oF (b:=.append) (xs:=#[.tmp 16,.tmp 22]) rfl ?_);at_builtin;refine Kd.wL (Kd.int .u8) (w0:=w) w.heap.size rfl (.tmp 16) (.tmp 22) 129 5 (.int .u8 0) 1 rfl Try.underlying129 info5 rfl (by decide) (by omega) u3 eH ((XJ) % 256) [.int .u8 ((XJ) % 256)] (fun _=>True) (fun _=>False) rfl rfl ?aP (fun _ hk=>hk.elim) ?aF ?aO ?aB ?aS ?aL ?_;(case aP=>exact rfl);(case aB=>exact cZ);(case aF=>exact (fun _ _=>trivial));(case aO=>exact (iZ oM.out));(case aS=>exact (dO cZ));(case aL=>have:=LMc9.out;omega);intro v157 w10 ho hb hg hat;rw [←Ny156.out] at ho;replace HB:=bA (hb);have HO158:=bA (ho);clear oM;clear ho hb hg hat))
                      go_roundg k2
                      case measure=>have:=iC.out;have:=oQ.out;omega
                      case rel=>exact ⟨(y156),(wrap64 (O8+1)),be,H',⟨by have:=iC.out;have:=oQ.out;omega⟩,⟨iZ HO158.out⟩,⟨cZ⟩⟩
                    · rw [if_neg c9] at H
                      exact absurd H (by simp)
                  · rw [if_neg c7] at H
                    exact absurd H (by simp)
                · rw [if_neg c5] at H
                  have uB:decide (O8<8)=false:=decide_eq_false c5;clear c5;have H':=bA H;clear H;go_wp2;go_roundg k2
                  case measure=>have:=iC.out;have:=oQ.out;omega
                  case rel=>exact ⟨(eH),(wrap64 (iB+1)),be,H',⟨by have:=iC.out;have:=oQ.out;omega⟩,⟨iZ oM.out⟩,⟨cZ⟩⟩
          · rw [if_neg c4] at H
            exact absurd H (by simp)
        · rw [if_neg c3] at H
          exact absurd H (by simp)
      · rw [if_neg c2] at H
        have vP:decide (iB<(l0.length:Int))=false:=decide_eq_false c2;clear c2;obtain rfl:=Option.some.inj H;have hcv11:=own_string (P:=Try.prog) Try.underlying129 Try.underlying5 Try.underlying9 (Kd.PN oM.out);go_wp2;go_ret;exact ⟨by first|rfl|(simp [aX,aY] <;> rfl)|(simp [*,aX,aY] <;> rfl),cZ⟩
mutual
def gD.l0:Nat→List Int→List Int→List Int→Int→Int→Int→Int→Int→Int→List (gV)→Option (List Int × Int)
  |0,_,_,_,_,_,_,_,_,_,_=>none
  |k+1,x2,x9,x22,x23,x24,FE,FF,LZ,MB,MC=>if x24<x23 then (if 0≤x24 then (if x24<(x22.length:Int) then (if (rd x22 x24)<0 then (some (([]:List Int),101)) else (if (rd x22 x24) ≥ FE then (some (([]:List Int),101)) else ((dM.f x9 (rd x22 x24)).bind fun t169=>(gD.l0 k x2 t169 x22 x23 (wrap64 (x24+1)) FE FF LZ MB MC)))) else (none)) else (none)) else (gD.l1 k x9 x2 (x2.length:Int) 0 FE FF LZ MB MC)
def gD.l1:Nat→List Int→List Int→Int→Int→Int→Int→Int→Int→List (gV)→Option (List Int × Int)
  |0,_,_,_,_,_,_,_,_,_=>none
  |k+1,x9,x40,x41,x42,FE,FF,LZ,MB,MC=>if x42<x41 then (if 0≤x42 then (if x42<(x40.length:Int) then (if (rd x40 x42)<0 then (some (([]:List Int),102)) else (if (rd x40 x42) ≥ FF then (some (([]:List Int),102)) else (gD.l1 k x9 x40 x41 (wrap64 (x42+1)) FE FF LZ MB MC))) else (none)) else (none)) else (some (x9,0))
end
def gD.f (k:Nat) (aM:Int) (aJ:Int) (aV:Int) (aW:Int) (aI:List (gV)) (l1:List Int) (l2:List Int):Option (List Int × Int):=(jI.f aM aJ aV aW aI).bind fun t164=>(if t164=0 then ((jZ.f aM).bind fun XU=>(gD.l0 k l2 XU l1 (l1.length:Int) 0 aM aJ aV aW aI)) else (some (([]:List Int),t164)))
set_option maxHeartbeats 8000000 in
set_option maxRecDepth 100000 in
theorem gD.calls (k:Nat) (aM:Int) (aJ:Int) (aV:Int) (aW:Int) (gN:Option Addr) (fM:Nat) (aI:List (gV)) (A1:Option Addr) (c1:Nat) (l1:List Int) (A2:Option Addr) (c2:Nat) (l2:List Int) (r1:List Int) (r2:Int) (w:World) (kW:Kd.C xP w gN aI.length aI) (lF:aI.length≤fM) (hr1:Kd.C (Kd.int .i64) w A1 l1.length l1) (hc1:l1.length≤c1) (hr2:Kd.C (Kd.int .i64) w A2 l2.length l2) (hc2:l2.length≤c2) (h:gD.f k aM aJ aV aW aI l1 l2=some (r1,r2)) :
    Calls Try.prog 39 #[.agg #[.int .i64 aM,.int .i64 aJ,.int .i64 aV,.int .i64 aW,.slice gN aI.length fM],.slice A1 l1.length c1,.slice A2 l2.length c2] w fun e w'=>∃ yR:Value,e = .returned (.tuple #[yR,.int .i64 r2])∧Kd.R (Kd.int .u64) 115 w' w.heap.size (fun _=>True) yR r1∧Below w.heap.size w w':=by
  have RD:=Try.underlying31;have iA:=bA kW;have lK:=bA lF;clear kW lF;have HR1:=bA hr1;have SH:=bA hc1;clear hr1 hc1;have HR2:=bA hr2;have OO:=bA hc2;clear hr2 hc2;have HB:=bA (Below.refl w.heap.size w);have H:((jI.f aM aJ aV aW aI).bind fun t164=>(if t164=0 then ((jZ.f aM).bind fun XU=>(gD.l0 k l2 XU l1 (l1.length:Int) 0 aM aJ aV aW aI)) else (some (([]:List Int),t164))))=some (r1,r2):=h;clear h;replace H:=Option.bind_eq_some_iff.mp H;obtain ⟨t164,A40,H⟩:=H;replace H:(if t164=0 then ((jZ.f aM).bind fun XU=>(gD.l0 k l2 XU l1 (l1.length:Int) 0 aM aJ aV aW aI)) else (some (([]:List Int),t164)))=some (r1,r2):=H;have A4:=bA A40;clear A40;by_cases c5:t164=0
  · rw [if_pos c5] at H
    have uB:(t164==0)=true:=beq_iff_eq.mpr c5;have WT:(t164 != 0)=false:=bne_eq_false_iff_eq.mpr c5;clear c5;replace H:=Option.bind_eq_some_iff.mp H;obtain ⟨XU,A60,H⟩:=H;replace H:(gD.l0 k l2 XU l1 (l1.length:Int) 0 aM aJ aV aW aI)=some (r1,r2):=H;have A6:=bA A60;clear A60;have H':=bA H;clear H;go_enter Try.func39,Try.ntmps39;go_wp2_with (first|((with_reducible refine dB (N:=3) rfl ?_);refine dA ?hg (N:=3) ?hd (cs:=#[.int .i64 aM,.int .i64 aJ,.int .i64 aV,.int .i64 aW,.slice gN aI.length fM]) (t:=31) ?hr ?_;(case hd=>rfl);(case hg=>rfl);(case hr=>first|(go_simp;done)|(go_simp;rfl));intro gb163 hg w7 dL hb;have fH:=bA (dL);have GW163:=bw (w:=w) hg cZ;have GE163:=bw (w:=w) hg cZ;replace HB:=bA (aU cZ hb);clear hb dL hg;have vI:=bc0 fH;have vJ:=bc1 fH;have vK:=bc2 fH;have H7:=bc3 fH;have H8:=oP fH;have vL:=bz fH 0;have vM:=bz fH 1;have vN:=bz fH 2;have H9:=bz fH 3;have I1:=bz fH 4)|((with_reducible refine cK (f:=31) rfl ?_);refine gJ (some 15) rfl rfl Try.func31 (by kernel_rfl) rfl #[.agg #[.int .i64 aM,.int .i64 aJ,.int .i64 aV,.int .i64 aW,.slice gN aI.length fM]] rfl bm ?_;(with_reducible refine (jI.calls aM aJ aV aW _ _ aI t164 _ ?side1 ?side2 A4.out).mono ?_);(case side1=>exact bs iA HB);(case side2=>exact lK.out);rintro e w9 ⟨rfl,hb⟩;refine ⟨_,rfl,?_⟩;replace fH:=bb fH hb;replace HB:=bA (aU cZ hb);(try clear hb);(try clear hb2);(try clear hk);(try clear hi);have uC:=bc0 fH;have uD:=bc1 fH;have uE:=bc2 fH;have wZ:=bc3 fH;have xA:=oP fH;have uF:=bz fH 0;have uG:=bz fH 1;have uH:=bz fH 2;have xB:=bz fH 3;have xC:=bz fH 4)|((with_reducible refine cK (f:=54) rfl ?_);refine gJ (some 21) rfl rfl Try.func54 (by kernel_rfl) rfl #[.int .i64 aM] rfl bm ?_;(with_reducible refine (jZ.calls aM XU _ A6.out).mono ?_);rintro e w11 ⟨v166,rfl,ho0,hb⟩;refine ⟨_,rfl,?_⟩;have HO167:=bA (Kd.iH ho0 (dO cZ));replace fH:=bb fH hb;replace HB:=bA (aU cZ hb);(try clear hb);(try clear hb2);(try clear hk);(try clear hi);(try clear ho0)))
    go_loopg [24] k (fun kq v24 w'=>∃ (iB:List Int) (oI:Int),v24 = .int .i64 oI∧aA (gD.l0 kq l2 iB l1 (l1.length:Int) oI aM aJ aV aW aI=some (r1,r2))∧aA (kq≤k)∧aA (Kd.R (Kd.int .u64) 115 w' w.heap.size (fun _=>True) v166 iB)∧aA (w'.heap[gb163]?=some (.cells #[.int .i64 aM,.int .i64 aJ,.int .i64 aV,.int .i64 aW,(.slice gN aI.length fM)] 31 (0,0)))∧aA (Below w.heap.size w w'))
    case atStart=>exact ⟨(XU),(0),be,H',⟨Nat.le_refl _⟩,⟨iZ HO167.out⟩,⟨dV fH.out⟩,⟨cZ⟩⟩
    case round =>
      clear H';(try clear c1);(try clear c2);(try clear c5);(try clear uB);(try clear WT);(try clear uC);(try clear uD);(try clear uE);(try clear wZ);(try clear xA);(try clear vI);(try clear vJ);(try clear vK);(try clear H7);(try clear H8);(try clear uF);(try clear uG);(try clear uH);(try clear xB);(try clear xC);(try clear vL);(try clear vM);(try clear vN);(try clear H9);(try clear I1);obtain ⟨iB,oI,rfl,HA,iC,RP,fH,HB⟩:=hrel;cases gk with
      |zero=>exact absurd HA.out (by simp [gD.l0])
      |succ k1 =>
        have H:=HA.out;clear HA;simp only [gD.l0] at H;by_cases c12:oI<(l1.length:Int)
        · rw [if_pos c12] at H
          have rX:decide (oI<(l1.length:Int))=true:=decide_eq_true c12;clear c12;by_cases c13:0≤oI
          · rw [if_pos c13] at H
            have aA8:decide (0≤oI)=true:=decide_eq_true c13;clear c13;by_cases c14:oI<(l1.length:Int)
            · rw [if_pos c14] at H
              have c14b0:decide (oI<(l1.length:Int))=true:=decide_eq_true c14;clear c14;by_cases c15:(rd l1 oI)<0
              · rw [if_pos c15] at H
                have PI:decide ((rd l1 oI)<0)=true:=decide_eq_true c15;clear c15;simp only [Option.some.injEq,Prod.mk.injEq] at H;obtain ⟨rfl,rfl⟩:=H;have PO:0≤(oI:Int):=gQ;have PQ:oI<(l1.length:Int):=gQ;obtain ⟨ad168,e168,uP⟩:=Kd.qP HR1.out oI PO PQ;cases e168;replace uP:=(HB.out.cell (World.block_lt_of_cell? w _ uP)).trans uP;replace PO:=eq_true PO;replace PQ:=eq_true PQ;go_wp2;go_ret2
                exact ⟨_,by first|rfl|(simp [aX,aY] <;> rfl)|(simp [*,aX,aY] <;> rfl),by first|exact Kd.kJ _ _ _ _ _|exact Kd.tJ _ _ _ _ _|exact Kd.tK _ _ _ _ _|exact Kd.tL _ _ _ _ _|exact Kd.rO _ _ _ _ _,cZ⟩
              · rw [if_neg c15] at H
                have PI:decide ((rd l1 oI)<0)=false:=decide_eq_false c15;clear c15;by_cases c16:(rd l1 oI) ≥ aM
                · rw [if_pos c16] at H
                  have c16b0:decide (aM≤(rd l1 oI))=true:=decide_eq_true c16;clear c16;simp only [Option.some.injEq,Prod.mk.injEq] at H;obtain ⟨rfl,rfl⟩:=H;have PO:0≤(oI:Int):=gQ;have PQ:oI<(l1.length:Int):=gQ;obtain ⟨ad168,e168,uP⟩:=Kd.qP HR1.out oI PO PQ;cases e168;replace uP:=(HB.out.cell (World.block_lt_of_cell? w _ uP)).trans uP;replace PO:=eq_true PO;replace PQ:=eq_true PQ;have UY:=bc0 fH;have UZ:=bc1 fH;have VA:=bc2 fH;have hcz17_3:=bc3 fH;have hcz17_4:=oP fH;have VB:=bz fH 0;have VC:=bz fH 1;have VD:=bz fH 2;have hfz17_3:=bz fH 3;have hfz17_4:=bz fH 4;go_wp2;go_ret2
                  exact ⟨_,by first|rfl|(simp [aX,aY] <;> rfl)|(simp [*,aX,aY] <;> rfl),by first|exact Kd.kJ _ _ _ _ _|exact Kd.tJ _ _ _ _ _|exact Kd.tK _ _ _ _ _|exact Kd.tL _ _ _ _ _|exact Kd.rO _ _ _ _ _,cZ⟩
                · rw [if_neg c16] at H
                  have c16b0:decide (aM≤(rd l1 oI))=false:=decide_eq_false c16;clear c16;replace H:=Option.bind_eq_some_iff.mp H;obtain ⟨t169,PK,H⟩:=H;replace H:(gD.l0 k1 l2 t169 l1 (l1.length:Int) (wrap64 (oI+1)) aM aJ aV aW aI)=some (r1,r2):=H;have A18:=bA PK;clear PK;have H':=bA H;clear H;have PO:0≤(oI:Int):=gQ;have PQ:oI<(l1.length:Int):=gQ;obtain ⟨ad168,e168,uP⟩:=Kd.qP HR1.out oI PO PQ;cases e168;replace uP:=(HB.out.cell (World.block_lt_of_cell? w _ uP)).trans uP;replace PO:=eq_true PO;replace PQ:=eq_true PQ;have LM:=bc0 fH;have LP:=bc1 fH;have LQ:=bc2 fH;have hcz19_3:=bc3 fH;have hcz19_4:=oP fH;have LU:=bz fH 0;have LV:=bz fH 1;have LW:=bz fH 2;have hfz19_3:=bz fH 3;have hfz19_4:=bz fH 4;obtain ⟨VS,VT,eo20⟩:=Kd.dY RP.out;subst eo20;go_wp2_with (first|((with_reducible refine cK (f:=40) rfl ?_);refine gJ (some 38) rfl rfl Try.func40 (by kernel_rfl) rfl #[.slice VS iB.length VT,.int .i64 (rd l1 oI)] rfl bm ?_;(with_reducible refine (dM.calls (fun k_=>some k_=(.slice VS iB.length VT:Value).ownBlock) (.slice VS iB.length VT) iB (rd l1 oI) t169 w _ ?side1 ?side2 A18.out).mono ?_);(case side1=>repeat (first|(with_reducible first|exact HB.out|apply aN|apply bB|apply bX|refine eB ?_ GE163.out)|exact HB.out));(case side2=>exact Kd.nR rfl RP.out);rintro e w21 ⟨rfl,hy0,hb,hkp⟩;refine ⟨_,rfl,?_⟩;replace fH:=bA (oH (dV fH.out) hkp (fun hs_=>(fun e_=>(Kd.lL RP.out fH.out (by decide)) e_) hs_));replace RP:=bA (Kd.OX rfl hy0 (fun k_ e_=>RP.out.1 k_ e_));replace HB:=bA (hb);(try clear hb);(try clear hkp);(try clear hy0)))
                  go_roundg k1
                  case measure=>have:=iC.out;omega
                  case rel=>exact ⟨(t169),(wrap64 (oI+1)),be,H',⟨by have:=iC.out;omega⟩,⟨iZ RP.out⟩,⟨dV fH.out⟩,⟨cZ⟩⟩
            · rw [if_neg c14] at H
              exact absurd H (by simp)
          · rw [if_neg c13] at H
            exact absurd H (by simp)
        · rw [if_neg c12] at H
          have rX:decide (oI<(l1.length:Int))=false:=decide_eq_false c12;clear c12;have H':=bA H;clear H;go_wp2;go_loopg [42] k1 (fun kq v42 w'=>∃ (pV:Int),v42 = .int .i64 pV∧aA (gD.l1 kq iB l2 (l2.length:Int) pV aM aJ aV aW aI=some (r1,r2))∧aA (kq≤k1)∧aA (Kd.R (Kd.int .u64) 115 w' w.heap.size (fun _=>True) v166 iB)∧aA (w'.heap[gb163]?=some (.cells #[.int .i64 aM,.int .i64 aJ,.int .i64 aV,.int .i64 aW,(.slice gN aI.length fM)] 31 (0,0)))∧aA (Below w.heap.size w w'))
          case atStart=>exact ⟨(0),be,H',⟨Nat.le_refl _⟩,⟨iZ RP.out⟩,⟨dV fH.out⟩,⟨cZ⟩⟩
          case round =>
            clear H';(try clear c1);(try clear c2);(try clear c5);(try clear uB);(try clear WT);(try clear c12);(try clear rX);(try clear uC);(try clear uD);(try clear uE);(try clear wZ);(try clear xA);(try clear vI);(try clear vJ);(try clear vK);(try clear H7);(try clear H8);(try clear uF);(try clear uG);(try clear uH);(try clear xB);(try clear xC);(try clear vL);(try clear vM);(try clear vN);(try clear H9);(try clear I1);obtain ⟨pV,rfl,HA,oQ,RP,fH,HB⟩:=hrel;cases gk with
            |zero=>exact absurd HA.out (by simp [gD.l1])
            |succ k2 =>
              have H:=HA.out;clear HA;simp only [gD.l1] at H;by_cases c22:pV<(l2.length:Int)
              · rw [if_pos c22] at H
                have c22b0:decide (pV<(l2.length:Int))=true:=decide_eq_true c22;clear c22;by_cases c23:0≤pV
                · rw [if_pos c23] at H
                  have K_:decide (0≤pV)=true:=decide_eq_true c23;clear c23;by_cases c24:pV<(l2.length:Int)
                  · rw [if_pos c24] at H
                    have c24b0:decide (pV<(l2.length:Int))=true:=decide_eq_true c24;clear c24;by_cases U3:(rd l2 pV)<0
                    · rw [if_pos U3] at H
                      have U5:decide ((rd l2 pV)<0)=true:=decide_eq_true U3;clear U3;simp only [Option.some.injEq,Prod.mk.injEq] at H;obtain ⟨rfl,rfl⟩:=H;have PR:0≤(pV:Int):=gQ;have PS:pV<(l2.length:Int):=gQ;obtain ⟨ad170,e170,uQ⟩:=Kd.qP HR2.out pV PR PS;cases e170;replace uQ:=(HB.out.cell (World.block_lt_of_cell? w _ uQ)).trans uQ;replace PR:=eq_true PR;replace PS:=eq_true PS;go_wp2;go_ret2
                      exact ⟨_,by first|rfl|(simp [aX,aY] <;> rfl)|(simp [*,aX,aY] <;> rfl),by first|exact Kd.kJ _ _ _ _ _|exact Kd.tJ _ _ _ _ _|exact Kd.tK _ _ _ _ _|exact Kd.tL _ _ _ _ _|exact Kd.rO _ _ _ _ _,cZ⟩
                    · rw [if_neg U3] at H
                      have U5:decide ((rd l2 pV)<0)=false:=decide_eq_false U3;clear U3;by_cases JM:(rd l2 pV) ≥ aJ
                      · rw [if_pos JM] at H
                        have F_:decide (aJ≤(rd l2 pV))=true:=decide_eq_true JM;clear JM;simp only [Option.some.injEq,Prod.mk.injEq] at H;obtain ⟨rfl,rfl⟩:=H;have PR:0≤(pV:Int):=gQ;have PS:pV<(l2.length:Int):=gQ;obtain ⟨ad170,e170,uQ⟩:=Kd.qP HR2.out pV PR PS;cases e170;replace uQ:=(HB.out.cell (World.block_lt_of_cell? w _ uQ)).trans uQ;replace PR:=eq_true PR;replace PS:=eq_true PS;have hcz27_0:=bc0 fH;have hcz27_1:=bc1 fH;have hcz27_2:=bc2 fH;have hcz27_3:=bc3 fH;have hcz27_4:=oP fH;have hfz27_0:=bz fH 0;have hfz27_1:=bz fH 1;have hfz27_2:=bz fH 2;have hfz27_3:=bz fH 3;have hfz27_4:=bz fH 4;go_wp2;go_ret2
                        exact ⟨_,by first|rfl|(simp [aX,aY] <;> rfl)|(simp [*,aX,aY] <;> rfl),by first|exact Kd.kJ _ _ _ _ _|exact Kd.tJ _ _ _ _ _|exact Kd.tK _ _ _ _ _|exact Kd.tL _ _ _ _ _|exact Kd.rO _ _ _ _ _,cZ⟩
                      · rw [if_neg JM] at H
                        have F_:decide (aJ≤(rd l2 pV))=false:=decide_eq_false JM;clear JM;have H':=bA H;clear H;have PR:0≤(pV:Int):=gQ;have PS:pV<(l2.length:Int):=gQ;obtain ⟨ad170,e170,uQ⟩:=Kd.qP HR2.out pV PR PS;cases e170;replace uQ:=(HB.out.cell (World.block_lt_of_cell? w _ uQ)).trans uQ;replace PR:=eq_true PR;replace PS:=eq_true PS;have hcz28_0:=bc0 fH;have hcz28_1:=bc1 fH;have hcz28_2:=bc2 fH;have hcz28_3:=bc3 fH;have hcz28_4:=oP fH;have hfz28_0:=bz fH 0;have hfz28_1:=bz fH 1;have hfz28_2:=bz fH 2;have hfz28_3:=bz fH 3;have hfz28_4:=bz fH 4;go_wp2;go_roundg k2
                        case measure=>have:=iC.out;have:=oQ.out;omega
                        case rel=>exact ⟨(wrap64 (pV+1)),be,H',⟨by have:=iC.out;have:=oQ.out;omega⟩,⟨iZ RP.out⟩,⟨dV fH.out⟩,⟨cZ⟩⟩
                  · rw [if_neg c24] at H
                    exact absurd H (by simp)
                · rw [if_neg c23] at H
                  exact absurd H (by simp)
              · rw [if_neg c22] at H
                have c22b0:decide (pV<(l2.length:Int))=false:=decide_eq_false c22;clear c22;simp only [Option.some.injEq,Prod.mk.injEq] at H;obtain ⟨rfl,rfl⟩:=H;go_wp2;go_ret2
                exact ⟨_,by first|rfl|(simp [aX,aY] <;> rfl)|(simp [*,aX,aY] <;> rfl),iZ RP.out,cZ⟩
  · rw [if_neg c5] at H
    have uB:(t164==0)=false:=beq_eq_false_iff_ne.mpr c5;have WT:(t164 != 0)=true:=bne_iff_ne.mpr c5;simp only [Option.some.injEq,Prod.mk.injEq] at H;obtain ⟨rfl,rfl⟩:=H;go_enter Try.func39,Try.ntmps39;go_wp2_with (first|((with_reducible refine dB (N:=3) rfl ?_);refine dA ?hg (N:=3) ?hd (cs:=#[.int .i64 aM,.int .i64 aJ,.int .i64 aV,.int .i64 aW,.slice gN aI.length fM]) (t:=31) ?hr ?_;(case hd=>rfl);(case hg=>rfl);(case hr=>first|(go_simp;done)|(go_simp;rfl));intro gb163 hg w29 dL hb;have fH:=bA (dL);have GW163:=bw (w:=w) hg cZ;have GE163:=bw (w:=w) hg cZ;replace HB:=bA (aU cZ hb);clear hb dL hg;have hcz30_0:=bc0 fH;have hcz30_1:=bc1 fH;have hcz30_2:=bc2 fH;have hcz30_3:=bc3 fH;have hcz30_4:=oP fH;have hfz30_0:=bz fH 0;have hfz30_1:=bz fH 1;have hfz30_2:=bz fH 2;have hfz30_3:=bz fH 3;have hfz30_4:=bz fH 4)|((with_reducible refine cK (f:=31) rfl ?_);refine gJ (some 15) rfl rfl Try.func31 (by kernel_rfl) rfl #[.agg #[.int .i64 aM,.int .i64 aJ,.int .i64 aV,.int .i64 aW,.slice gN aI.length fM]] rfl bm ?_;(with_reducible refine (jI.calls aM aJ aV aW _ _ aI t164 _ ?side1 ?side2 A4.out).mono ?_);(case side1=>exact bs iA HB);(case side2=>exact lK.out);rintro e w31 ⟨rfl,hb⟩;refine ⟨_,rfl,?_⟩;replace fH:=bb fH hb;replace HB:=bA (aU cZ hb);(try clear hb);(try clear hb2);(try clear hk);(try clear hi)))
    go_ret2
    exact ⟨_,by first|rfl|(simp [aX,aY] <;> rfl)|(simp [*,aX,aY] <;> rfl),by first|exact Kd.kJ _ _ _ _ _|exact Kd.tJ _ _ _ _ _|exact Kd.tK _ _ _ _ _|exact Kd.tL _ _ _ _ _|exact Kd.rO _ _ _ _ _,cZ⟩
def jX.l0:Nat→List Int→List Int→Int→Int→Int→Int→Int→Int→List (gV)→Option (Bool × Int)
  |0,_,_,_,_,_,_,_,_,_=>none
  |k+1,x6,x26,x27,x28,x172000,x172001,x172002,XV,x172004=>if x28<x27 then (if 0≤x28 then (if x28<(x26.length:Int) then ((eT.f k x172000 x172001 x172002 XV x172004 (rd x26 x28) x6).bind fun t181=>(jX.l0 k t181 x26 x27 (wrap64 (x28+1)) x172000 x172001 x172002 XV x172004)) else (none)) else (none)) else ((fI.f x6 XV).bind fun t184=>(some (t184,0)))
def jX.f (k:Nat) (aM:Int) (aJ:Int) (aV:Int) (aW:Int) (aI:List (gV)) (l1:List Int):Option (Bool × Int):=(gD.f k aM aJ aV aW aI ([]:List Int) l1).bind fun PT=>(if PT.2=0 then ((dM.f PT.1 aV).bind fun KP=>((bP.f k aM aJ aV aW aI KP).bind fun PU=>(jX.l0 k PU l1 (l1.length:Int) 0 aM aJ aV aW aI))) else (some (false,PT.2)))
set_option maxHeartbeats 8000000 in
set_option maxRecDepth 100000 in
theorem jX.calls (k:Nat) (aM:Int) (aJ:Int) (aV:Int) (aW:Int) (gN:Option Addr) (fM:Nat) (aI:List (gV)) (A1:Option Addr) (c1:Nat) (l1:List Int) (r1:Bool) (r2:Int) (w:World) (kW:Kd.C xP w gN aI.length aI) (lF:aI.length≤fM) (hr1:Kd.C (Kd.int .i64) w A1 l1.length l1) (hc1:l1.length≤c1) (h:jX.f k aM aJ aV aW aI l1=some (r1,r2)) :
    Calls Try.prog 14 #[.agg #[.int .i64 aM,.int .i64 aJ,.int .i64 aV,.int .i64 aW,.slice gN aI.length fM],.slice A1 l1.length c1] w fun e w'=>e = .returned (.tuple #[.bool r1,.int .i64 r2])∧Below w.heap.size w w':=by
  have RD:=Try.underlying31;have iA:=bA kW;have lK:=bA lF;clear kW lF;have HR1:=bA hr1;have SH:=bA hc1;clear hr1 hc1;have HB:=bA (Below.refl w.heap.size w);have H:((gD.f k aM aJ aV aW aI ([]:List Int) l1).bind fun PT=>(if PT.2=0 then ((dM.f PT.1 aV).bind fun KP=>((bP.f k aM aJ aV aW aI KP).bind fun PU=>(jX.l0 k PU l1 (l1.length:Int) 0 aM aJ aV aW aI))) else (some (false,PT.2))))=some (r1,r2):=h;clear h;replace H:=Option.bind_eq_some_iff.mp H;obtain ⟨⟨XW,t175⟩,A30,H⟩:=H;replace H:(if t175=0 then ((dM.f XW aV).bind fun KP=>((bP.f k aM aJ aV aW aI KP).bind fun PU=>(jX.l0 k PU l1 (l1.length:Int) 0 aM aJ aV aW aI))) else (some (false,t175)))=some (r1,r2):=H;have A3:=bA A30;clear A30;by_cases c4:t175=0
  · rw [if_pos c4] at H
    have qX:(t175==0)=true:=beq_iff_eq.mpr c4;have CJ:(t175 != 0)=false:=bne_eq_false_iff_eq.mpr c4;clear c4;replace H:=Option.bind_eq_some_iff.mp H;obtain ⟨KP,A50,H⟩:=H;replace H:((bP.f k aM aJ aV aW aI KP).bind fun PU=>(jX.l0 k PU l1 (l1.length:Int) 0 aM aJ aV aW aI))=some (r1,r2):=H;have A5:=bA A50;clear A50;replace H:=Option.bind_eq_some_iff.mp H;obtain ⟨PU,A60,H⟩:=H;replace H:(jX.l0 k PU l1 (l1.length:Int) 0 aM aJ aV aW aI)=some (r1,r2):=H;have A6:=bA A60;clear A60;have H':=bA H;clear H;go_enter Try.func14,Try.ntmps14;go_wp2_with (first|((with_reducible refine dB (N:=2) rfl ?_);refine dA ?hg (N:=2) ?hd (cs:=#[.int .i64 aM,.int .i64 aJ,.int .i64 aV,.int .i64 aW,.slice gN aI.length fM]) (t:=31) ?hr ?_;(case hd=>rfl);(case hg=>rfl);(case hr=>first|(go_simp;done)|(go_simp;rfl));intro gb171 hg w7 dL hb;have gH:=bA (dL);have GW171:=bw (w:=w) hg cZ;have GE171:=bw (w:=w) hg cZ;replace HB:=bA (aU cZ hb);clear hb dL hg;have vI:=bc0 gH;have vJ:=bc1 gH;have vK:=bc2 gH;have H7:=bc3 gH;have H8:=oP gH;have vL:=bz gH 0;have vM:=bz gH 1;have vN:=bz gH 2;have H9:=bz gH 3;have I1:=bz gH 4)|((with_reducible refine cK (f:=39) rfl ?_);refine gJ (some 13) rfl rfl Try.func39 (by kernel_rfl) rfl #[.agg #[.int .i64 aM,.int .i64 aJ,.int .i64 aV,.int .i64 aW,.slice gN aI.length fM],.slice none 0 0,.slice A1 l1.length c1] rfl bm ?_;(refine (gD.calls k aM aJ aV aW _ _ aI _ _ ([]:List Int) _ _ l1 XW t175 _ ?side1 ?side2 ?side3 ?side4 ?side5 ?side6 A3.out).mono ?_);(case side1=>exact bs iA HB);(case side2=>exact lK.out);(case side3=>exact Kd.FH _ _);(case side4=>exact Nat.le_refl _);(case side5=>exact bs HR1 HB);(case side6=>exact SH.out);rintro e w9 ⟨v173,rfl,ho0,hb⟩;refine ⟨_,rfl,?_⟩;have zQ:=bA (Kd.iH ho0 (dO cZ));replace gH:=bb gH hb;replace HB:=bA (aU cZ hb);(try clear hb);(try clear hb2);(try clear hk);(try clear hi);(try clear ho0);have uC:=bc0 gH;have uD:=bc1 gH;have uE:=bc2 gH;have wZ:=bc3 gH;have xA:=oP gH;have uF:=bz gH 0;have uG:=bz gH 1;have uH:=bz gH 2;have xB:=bz gH 3;have xC:=bz gH 4;obtain ⟨Ao11,co11,eo11⟩:=Kd.dY zQ.out;subst eo11)|((with_reducible refine cK (f:=40) rfl ?_);refine gJ (some 22) rfl rfl Try.func40 (by kernel_rfl) rfl #[.slice Ao11 XW.length co11,.int .i64 aV] rfl bm ?_;(with_reducible refine (dM.calls (fun k_=>some k_=(.slice Ao11 XW.length co11:Value).ownBlock) (.slice Ao11 XW.length co11) XW aV KP w _ ?side1 ?side2 A5.out).mono ?_);(case side1=>repeat (first|(with_reducible first|exact HB.out|apply aN|apply bB|apply bX|refine eB ?_ GE171.out)|exact HB.out));(case side2=>exact Kd.nR rfl zQ.out);rintro e w12 ⟨rfl,hy0,hb,hkp⟩;refine ⟨_,rfl,?_⟩;replace gH:=bA (oH (dV gH.out) hkp (fun hs_=>(fun e_=>(Kd.lL zQ.out gH.out (by decide)) e_) hs_));replace zQ:=bA (Kd.OX rfl hy0 (fun k_ e_=>zQ.out.1 k_ e_));replace HB:=bA (hb);(try clear hb);(try clear hkp);(try clear hy0);have hcz13_0:=bc0 gH;have hcz13_1:=bc1 gH;have hcz13_2:=bc2 gH;have hcz13_3:=bc3 gH;have hcz13_4:=oP gH;have hfz13_0:=bz gH 0;have hfz13_1:=bz gH 1;have hfz13_2:=bz gH 2;have hfz13_3:=bz gH 3;have hfz13_4:=bz gH 4)|((with_reducible refine cK (f:=41) rfl ?_);refine gJ (some 25) rfl rfl Try.func41 (by kernel_rfl) rfl #[.agg #[.int .i64 aM,.int .i64 aJ,.int .i64 aV,.int .i64 aW,.slice gN aI.length fM],.slice Ao11 KP.length co11] rfl (by (try simp only [List.map_toArray,List.map_cons,List.map_nil]);first|done|(rw [show KP.length=XW.length from (Kd.cO zQ.out).1.symm] <;> rfl)|rfl|(simp only [List.length_drop,List.length_take];rfl)) ?_;(with_reducible refine (bP.calls k aM aJ aV aW _ _ aI _ _ KP PU _ ?side1 ?side2 ?side3 ?side4 A6.out).mono ?_);(case side1=>exact bs iA HB);(case side2=>exact lK.out);(case side3=>repeat (first|exact (Kd.cO zQ.out).2.2|(with_reducible refine Kd.jQ ?_ _)|(with_reducible refine Kd.jR ?_ _)|(with_reducible refine Kd.lI ?_)));(case side4=>rw [show KP.length=XW.length from (Kd.cO zQ.out).1.symm];exact (Kd.cO zQ.out).2.1);rintro e w14 ⟨v178,rfl,ho0,hb⟩;refine ⟨_,rfl,?_⟩;have HO179:=bA (Kd.iH (Kd.IM ho0 (Kd.AU (iZ zQ.out))) (dO cZ));replace zQ:=bA (Kd.xY (iZ zQ.out) (Kd.sW ho0) hb);replace gH:=bb gH hb;replace HB:=bA (aU cZ hb);(try clear hb);(try clear hb2);(try clear hk);(try clear hi);(try clear ho0)))
    go_loopg [6,28] k (fun kq v6 v28 w'=>∃ (iO:List Int) (wM:Int),v28 = .int .i64 wM∧aA (jX.l0 kq iO l1 (l1.length:Int) wM aM aJ aV aW aI=some (r1,r2))∧aA (kq≤k)∧aA (Kd.R (Kd.int .u64) 115 w' w.heap.size (fun _=>True) v6 iO)∧aA (w'.heap[gb171]?=some (.cells #[.int .i64 aM,.int .i64 aJ,.int .i64 aV,.int .i64 aW,(.slice gN aI.length fM)] 31 (0,0)))∧aA (Below w.heap.size w w'))
    case atStart=>exact ⟨(PU),(0),be,H',⟨Nat.le_refl _⟩,⟨by refine iZ ?_;exact Kd.dH HO179.out (fun _ hk=>trivial)⟩,⟨dV gH.out⟩,⟨cZ⟩⟩
    case round =>
      clear H';(try clear c1);(try clear c4);(try clear qX);(try clear CJ);(try clear uC);(try clear uD);(try clear uE);(try clear wZ);(try clear xA);(try clear hcz13_0);(try clear hcz13_1);(try clear hcz13_2);(try clear hcz13_3);(try clear hcz13_4);(try clear vI);(try clear vJ);(try clear vK);(try clear H7);(try clear H8);(try clear uF);(try clear uG);(try clear uH);(try clear xB);(try clear xC);(try clear hfz13_0);(try clear hfz13_1);(try clear hfz13_2);(try clear hfz13_3);(try clear hfz13_4);(try clear vL);(try clear vM);(try clear vN);(try clear H9);(try clear I1);obtain ⟨iO,wM,rfl,HA,iC,iE,gH,HB⟩:=hrel;cases gk with
      |zero=>exact absurd HA.out (by simp [jX.l0])
      |succ k1 =>
        have H:=HA.out;clear HA;simp only [jX.l0] at H;by_cases c15:wM<(l1.length:Int)
        · rw [if_pos c15] at H
          have PI:decide (wM<(l1.length:Int))=true:=decide_eq_true c15;clear c15;by_cases c16:0≤wM
          · rw [if_pos c16] at H
            have c16b0:decide (0≤wM)=true:=decide_eq_true c16;clear c16;by_cases c17:wM<(l1.length:Int)
            · rw [if_pos c17] at H
              have c17b0:decide (wM<(l1.length:Int))=true:=decide_eq_true c17;clear c17;replace H:=Option.bind_eq_some_iff.mp H;obtain ⟨t181,PK,H⟩:=H;replace H:(jX.l0 k1 t181 l1 (l1.length:Int) (wrap64 (wM+1)) aM aJ aV aW aI)=some (r1,r2):=H;have A18:=bA PK;clear PK;have H':=bA H;clear H;have p180:0≤(wM:Int):=gQ;have q180:wM<(l1.length:Int):=gQ;obtain ⟨ad180,e180,XX⟩:=Kd.qP HR1.out wM p180 q180;cases e180;replace XX:=(HB.out.cell (World.block_lt_of_cell? w _ XX)).trans XX;replace p180:=eq_true p180;replace q180:=eq_true q180;have LM:=bc0 gH;have LP:=bc1 gH;have LQ:=bc2 gH;have hcz19_3:=bc3 gH;have hcz19_4:=oP gH;have LU:=bz gH 0;have LV:=bz gH 1;have LW:=bz gH 2;have hfz19_3:=bz gH 3;have hfz19_4:=bz gH 4;obtain ⟨VS,VT,eo20⟩:=Kd.dY iE.out;subst eo20;go_wp2_with (first|((with_reducible refine cK (f:=42) rfl ?_);refine gJ (some 35) rfl rfl Try.func42 (by kernel_rfl) rfl #[.agg #[.int .i64 aM,.int .i64 aJ,.int .i64 aV,.int .i64 aW,.slice gN aI.length fM],.int .i64 (rd l1 wM),.slice VS iO.length VT] rfl bm ?_;(with_reducible refine (eT.calls k1 aM aJ aV aW _ _ aI (rd l1 wM) _ _ iO t181 _ ?side1 ?side2 ?side3 ?side4 A18.out).mono ?_);(case side1=>exact bs iA HB);(case side2=>exact lK.out);(case side3=>repeat (first|exact (Kd.cO iE.out).2.2|(with_reducible refine Kd.jQ ?_ _)|(with_reducible refine Kd.jR ?_ _)|(with_reducible refine Kd.lI ?_)));(case side4=>exact (Kd.cO iE.out).2.1);rintro e w21 ⟨v182,rfl,ho0,hb⟩;refine ⟨_,rfl,?_⟩;have HO183:=bA (Kd.iH (Kd.IM ho0 (Kd.AU (iZ iE.out))) (dO cZ));replace iE:=bA (Kd.xY (iZ iE.out) (Kd.sW ho0) hb);replace gH:=bb gH hb;replace HB:=bA (aU cZ hb);(try clear hb);(try clear hb2);(try clear hk);(try clear hi);(try clear ho0)))
              go_roundg k1
              case measure=>have:=iC.out;omega
              case rel=>exact ⟨(t181),(wrap64 (wM+1)),be,H',⟨by have:=iC.out;omega⟩,⟨by refine iZ ?_;exact Kd.dH HO183.out (fun _ hk=>trivial)⟩,⟨dV gH.out⟩,⟨cZ⟩⟩
            · rw [if_neg c17] at H
              exact absurd H (by simp)
          · rw [if_neg c16] at H
            exact absurd H (by simp)
        · rw [if_neg c15] at H
          have PI:decide (wM<(l1.length:Int))=false:=decide_eq_false c15;clear c15;replace H:=Option.bind_eq_some_iff.mp H;obtain ⟨t184,A220,H⟩:=H;replace H:(some (t184,0))=some (r1,r2):=H;have A22:=bA A220;clear A220;simp only [Option.some.injEq,Prod.mk.injEq] at H;obtain ⟨rfl,rfl⟩:=H;have E8:=bc0 gH;have E9:=bc1 gH;have F4:=bc2 gH;have hcz23_3:=bc3 gH;have hcz23_4:=oP gH;have F5:=bz gH 0;have F6:=bz gH 1;have F7:=bz gH 2;have hfz23_3:=bz gH 3;have hfz23_4:=bz gH 4;obtain ⟨Ao24,co24,eo24⟩:=Kd.dY iE.out;subst eo24;go_wp2_with (first|((with_reducible refine cK (f:=43) rfl ?_);refine gJ (some 40) rfl rfl Try.func43 (by kernel_rfl) rfl #[.slice Ao24 iO.length co24,.int .i64 aW] rfl bm ?_;(with_reducible refine (fI.calls _ _ iO aW t184 _ ?side1 ?side2 A22.out).mono ?_);(case side1=>repeat (first|exact (Kd.cO iE.out).2.2|(with_reducible refine Kd.jQ ?_ _)|(with_reducible refine Kd.jR ?_ _)|(with_reducible refine Kd.lI ?_)));(case side2=>exact (Kd.cO iE.out).2.1);rintro e w' ⟨rfl,⟨nd,rfl⟩⟩;refine ⟨_,rfl,?_⟩))
          go_ret2
          exact ⟨by first|rfl|(simp [aX,aY] <;> rfl)|(simp [*,aX,aY] <;> rfl),cZ⟩
  · rw [if_neg c4] at H
    have qX:(t175==0)=false:=beq_eq_false_iff_ne.mpr c4;have CJ:(t175 != 0)=true:=bne_iff_ne.mpr c4;simp only [Option.some.injEq,Prod.mk.injEq] at H;obtain ⟨rfl,rfl⟩:=H;go_enter Try.func14,Try.ntmps14;go_wp2_with (first|((with_reducible refine dB (N:=2) rfl ?_);refine dA ?hg (N:=2) ?hd (cs:=#[.int .i64 aM,.int .i64 aJ,.int .i64 aV,.int .i64 aW,.slice gN aI.length fM]) (t:=31) ?hr ?_;(case hd=>rfl);(case hg=>rfl);(case hr=>first|(go_simp;done)|(go_simp;rfl));intro gb171 hg w25 dL hb;have gH:=bA (dL);have GW171:=bw (w:=w) hg cZ;have GE171:=bw (w:=w) hg cZ;replace HB:=bA (aU cZ hb);clear hb dL hg;have hcz26_0:=bc0 gH;have hcz26_1:=bc1 gH;have hcz26_2:=bc2 gH;have hcz26_3:=bc3 gH;have hcz26_4:=oP gH;have hfz26_0:=bz gH 0;have hfz26_1:=bz gH 1;have hfz26_2:=bz gH 2;have hfz26_3:=bz gH 3;have hfz26_4:=bz gH 4)|((with_reducible refine cK (f:=39) rfl ?_);refine gJ (some 13) rfl rfl Try.func39 (by kernel_rfl) rfl #[.agg #[.int .i64 aM,.int .i64 aJ,.int .i64 aV,.int .i64 aW,.slice gN aI.length fM],.slice none 0 0,.slice A1 l1.length c1] rfl bm ?_;(refine (gD.calls k aM aJ aV aW _ _ aI _ _ ([]:List Int) _ _ l1 XW t175 _ ?side1 ?side2 ?side3 ?side4 ?side5 ?side6 A3.out).mono ?_);(case side1=>exact bs iA HB);(case side2=>exact lK.out);(case side3=>exact Kd.FH _ _);(case side4=>exact Nat.le_refl _);(case side5=>exact bs HR1 HB);(case side6=>exact SH.out);rintro e w27 ⟨v173,rfl,ho0,hb⟩;refine ⟨_,rfl,?_⟩;have zQ:=bA (Kd.iH ho0 (dO cZ));replace gH:=bb gH hb;replace HB:=bA (aU cZ hb);(try clear hb);(try clear hb2);(try clear hk);(try clear hi);(try clear ho0)))
    go_ret2
    exact ⟨by first|rfl|(simp [aX,aY] <;> rfl)|(simp [*,aX,aY] <;> rfl),cZ⟩
end Go.Proofs.Ytapinbmkjkbkkaa.Lb
