import Derived.Test.YtapinbmkjkbkkaaBuVi
import Derived.Test.YtapinbmkjkbkkaaBuLbe
import Derived.Test.YtapinbmkjkbkkaaBuLbf
import Derived.Test.YtapinbmkjkbkkaaBuLbx31
namespace Go.Proofs.Ytapinbmkjkbkkaa.Lb
open Go.RowKit Go.Proofs.aC.bE Go.Proofs.aC.bV Go.Proofs.aC.bY
attribute [local go_sem] kY kZ nO nP kC kD lC lD
set_option linter.unusedVariables false
set_option linter.unusedSimpArgs false
private theorem cZ {P:Prop} (h:P:=by repeat (first|(with_reducible first|exact HB.out|apply aN|apply bB|apply bX|refine eB ?_ EW.out)|exact HB.out)):P:=h
mutual
def bC.j0:Nat→Int→Bool→Int→ByteArray→List (gB)→Option (Bool)
  |0,_,_,_,_,_=>none
  |k+1,x5,x17,wD,sO,qU=>if x17=true then (if sO.toList=([]:List UInt8) then (some ((qU.length:Int)==0)) else (some false)) else (if x5=7 then (bC.j1 k x5 (x5==7) wD sO qU) else (bC.j1 k x5 (x5==8) wD sO qU))
def bC.j1:Nat→Int→Bool→Int→ByteArray→List (gB)→Option (Bool)
  |0,_,_,_,_,_=>none
  |k+1,x5,x30,wD,sO,qU=>if x30=true then (if sO.toList=([]:List UInt8) then (some ((qU.length:Int)==1)) else (some false)) else (if x5=5 then (bC.j2 k (x5==5) wD sO qU) else (bC.j2 k (x5==6) wD sO qU))
def bC.j2:Nat→Bool→Int→ByteArray→List (gB)→Option (Bool)
  |0,_,_,_,_=>none
  |k+1,x42,wD,sO,qU=>if x42=true then (bC.l0 k 0 wD sO qU) else (some false)
def bC.l0:Nat→Int→Int→ByteArray→List (gB)→Option (Bool)
  |0,_,_,_,_=>none
  |k+1,x3,wD,sO,qU=>if x3<(qU.length:Int) then (if 0≤x3 then (if ((bL qU x3).f0)=wD then (some false) else (bC.l0 k (wrap64 (x3+1)) wD sO qU)) else (none)) else (if sO.toList=([]:List UInt8) then (some (decide ((qU.length:Int) ≥ 2))) else (some false))
end
def bC.f (k:Nat) (aM:Int) (aJ:ByteArray) (bQ:List (gB)):Option (Bool):=if aM=1 then ((bD.f k aJ).bind fun t547=>(if t547=true then (some ((bQ.length:Int)==0)) else (some false))) else (if aM=2 then (bC.j0 k aM (aM==2) aM aJ bQ) else (if aM=3 then (bC.j0 k aM (aM==3) aM aJ bQ) else (bC.j0 k aM (aM==4) aM aJ bQ)))
set_option maxHeartbeats 8000000 in
set_option maxRecDepth 100000 in
theorem bC.calls (k:Nat) (aM:Int) (aJ:ByteArray) (jF:Option Addr) (iY:Nat) (bQ:List (gB)) (r:Bool) (w:World) (mI:Kd.C k25 w jF bQ.length bQ) (mJ:bQ.length≤iY) (h:bC.f k aM aJ bQ=some r) :
    Calls Try.prog 90 #[.agg #[.int .i64 aM,.string aJ,.slice jF bQ.length iY]] w fun e w'=>e = .returned (.bool r)∧Below w.heap.size w w':=by
  have hu25:=Try.underlying25;have qI:=bA mI;have xZ:=bA mJ;clear mI mJ;have HB:=bA (Below.refl w.heap.size w);have H:(if aM=1 then ((bD.f k aJ).bind fun t547=>(if t547=true then (some ((bQ.length:Int)==0)) else (some false))) else (if aM=2 then (bC.j0 k aM (aM==2) aM aJ bQ) else (if aM=3 then (bC.j0 k aM (aM==3) aM aJ bQ) else (bC.j0 k aM (aM==4) aM aJ bQ))))=some r:=h;clear h;by_cases c2:aM=1
  · rw [if_pos c2] at H
    have vP:(aM==1)=true:=beq_iff_eq.mpr c2;have KO:(aM != 1)=false:=bne_eq_false_iff_eq.mpr c2;clear c2;replace H:=Option.bind_eq_some_iff.mp H;obtain ⟨t547,A30,H⟩:=H;replace H:(if t547=true then (some ((bQ.length:Int)==0)) else (some false))=some r:=H;have A3:=bA A30;clear A30;by_cases c4:t547=true
    · subst c4
      have H1:(some ((bQ.length:Int)==0))=some r:=(by rw [if_pos rfl] at H;exact H);clear H;have H:=H1;clear H1;obtain rfl:=Option.some.inj H;go_enter Try.func90,Try.ntmps90;go_wp2_with (first|((with_reducible refine dB (N:=1) rfl ?_);(try (refine gI (by rfl) ?_;dsimp only));refine dA ?hg (N:=1) ?hd (cs:=#[.int .i64 aM,.string aJ,.slice jF bQ.length iY]) (t:=25) ?hr ?_;(case hd=>rfl);(case hg=>rfl);(case hr=>first|(go_simp;done)|(go_simp;rfl));intro O7 hg w5 dL hb;have dR:=bA (dL);have JP:=bw (w:=w) hg cZ;have EW:=bw (w:=w) hg cZ;replace HB:=bA (aU cZ hb);clear hb dL hg;have BS:=bc0 dR;have BU:=bc1 dR;have BV:=bc2 dR;have CE:=bz dR 0;have CF:=bz dR 1;have CG:=bz dR 2)|(go_at_call 86;(with_reducible refine (bD.calls k aJ true _ A3.out).mono ?_);rintro e w' ⟨rfl,⟨nd,rfl⟩⟩;(try first|exact ⟨rfl,_,World.drewN_drewN _ _ _⟩|exact ⟨rfl,_,Eq.trans (World.drewN_drewN _ _ _) (congrArg (World.drewN _) (Nat.add_assoc _ _ _))⟩)))
      repeat (go_quiet (first|((with_reducible refine dB (N:=1) rfl ?_);(try (refine gI (by rfl) ?_;dsimp only));refine dA ?hg (N:=1) ?hd (cs:=#[.int .i64 aM,.string aJ,.slice jF bQ.length iY]) (t:=25) ?hr ?_;(case hd=>rfl);(case hg=>rfl);(case hr=>first|(go_simp;done)|(go_simp;rfl));intro O7 hg w5 dL hb;have dR:=bA (dL);have JP:=bw (w:=w) hg cZ;have EW:=bw (w:=w) hg cZ;replace HB:=bA (aU cZ hb);clear hb dL hg;have BS:=bc0 dR;have BU:=bc1 dR;have BV:=bc2 dR;have CE:=bz dR 0;have CF:=bz dR 1;have CG:=bz dR 2)|(go_at_call 86;(with_reducible refine (bD.calls k aJ true _ A3.out).mono ?_);rintro e w' ⟨rfl,⟨nd,rfl⟩⟩;(try first|exact ⟨rfl,_,World.drewN_drewN _ _ _⟩|exact ⟨rfl,_,Eq.trans (World.drewN_drewN _ _ _) (congrArg (World.drewN _) (Nat.add_assoc _ _ _))⟩)));try go_wp2_with (first|((with_reducible refine dB (N:=1) rfl ?_);(try (refine gI (by rfl) ?_;dsimp only));refine dA ?hg (N:=1) ?hd (cs:=#[.int .i64 aM,.string aJ,.slice jF bQ.length iY]) (t:=25) ?hr ?_;(case hd=>rfl);(case hg=>rfl);(case hr=>first|(go_simp;done)|(go_simp;rfl));intro O7 hg w5 dL hb;have dR:=bA (dL);have JP:=bw (w:=w) hg cZ;have EW:=bw (w:=w) hg cZ;replace HB:=bA (aU cZ hb);clear hb dL hg;have BS:=bc0 dR;have BU:=bc1 dR;have BV:=bc2 dR;have CE:=bz dR 0;have CF:=bz dR 1;have CG:=bz dR 2)|(go_at_call 86;(with_reducible refine (bD.calls k aJ true _ A3.out).mono ?_);rintro e w' ⟨rfl,⟨nd,rfl⟩⟩;(try first|exact ⟨rfl,_,World.drewN_drewN _ _ _⟩|exact ⟨rfl,_,Eq.trans (World.drewN_drewN _ _ _) (congrArg (World.drewN _) (Nat.add_assoc _ _ _))⟩))))
      go_ret;exact ⟨by first|rfl|(simp [aX,aY] <;> rfl)|(simp [*,aX,aY] <;> rfl),cZ⟩
    · replace c4:=Bool.eq_false_iff.mpr c4
      subst c4;have H1:(some false)=some r:=(by rw [if_neg (show ¬ (false=true) by decide)] at H;exact H);clear H;have H:=H1;clear H1;obtain rfl:=Option.some.inj H;go_enter Try.func90,Try.ntmps90;go_wp2_with (first|((with_reducible refine dB (N:=1) rfl ?_);(try (refine gI (by rfl) ?_;dsimp only));refine dA ?hg (N:=1) ?hd (cs:=#[.int .i64 aM,.string aJ,.slice jF bQ.length iY]) (t:=25) ?hr ?_;(case hd=>rfl);(case hg=>rfl);(case hr=>first|(go_simp;done)|(go_simp;rfl));intro O7 hg w7 dL hb;have dR:=bA (dL);have JP:=bw (w:=w) hg cZ;have EW:=bw (w:=w) hg cZ;replace HB:=bA (aU cZ hb);clear hb dL hg;have vI:=bc0 dR;have vJ:=bc1 dR;have vK:=bc2 dR;have vL:=bz dR 0;have vM:=bz dR 1;have vN:=bz dR 2)|(go_at_call 86;(with_reducible refine (bD.calls k aJ false _ A3.out).mono ?_);rintro e w' ⟨rfl,⟨nd,rfl⟩⟩;(try first|exact ⟨rfl,_,World.drewN_drewN _ _ _⟩|exact ⟨rfl,_,Eq.trans (World.drewN_drewN _ _ _) (congrArg (World.drewN _) (Nat.add_assoc _ _ _))⟩)))
      repeat (go_quiet (first|((with_reducible refine dB (N:=1) rfl ?_);(try (refine gI (by rfl) ?_;dsimp only));refine dA ?hg (N:=1) ?hd (cs:=#[.int .i64 aM,.string aJ,.slice jF bQ.length iY]) (t:=25) ?hr ?_;(case hd=>rfl);(case hg=>rfl);(case hr=>first|(go_simp;done)|(go_simp;rfl));intro O7 hg w7 dL hb;have dR:=bA (dL);have JP:=bw (w:=w) hg cZ;have EW:=bw (w:=w) hg cZ;replace HB:=bA (aU cZ hb);clear hb dL hg;have vI:=bc0 dR;have vJ:=bc1 dR;have vK:=bc2 dR;have vL:=bz dR 0;have vM:=bz dR 1;have vN:=bz dR 2)|(go_at_call 86;(with_reducible refine (bD.calls k aJ false _ A3.out).mono ?_);rintro e w' ⟨rfl,⟨nd,rfl⟩⟩;(try first|exact ⟨rfl,_,World.drewN_drewN _ _ _⟩|exact ⟨rfl,_,Eq.trans (World.drewN_drewN _ _ _) (congrArg (World.drewN _) (Nat.add_assoc _ _ _))⟩)));try go_wp2_with (first|((with_reducible refine dB (N:=1) rfl ?_);(try (refine gI (by rfl) ?_;dsimp only));refine dA ?hg (N:=1) ?hd (cs:=#[.int .i64 aM,.string aJ,.slice jF bQ.length iY]) (t:=25) ?hr ?_;(case hd=>rfl);(case hg=>rfl);(case hr=>first|(go_simp;done)|(go_simp;rfl));intro O7 hg w7 dL hb;have dR:=bA (dL);have JP:=bw (w:=w) hg cZ;have EW:=bw (w:=w) hg cZ;replace HB:=bA (aU cZ hb);clear hb dL hg;have vI:=bc0 dR;have vJ:=bc1 dR;have vK:=bc2 dR;have vL:=bz dR 0;have vM:=bz dR 1;have vN:=bz dR 2)|(go_at_call 86;(with_reducible refine (bD.calls k aJ false _ A3.out).mono ?_);rintro e w' ⟨rfl,⟨nd,rfl⟩⟩;(try first|exact ⟨rfl,_,World.drewN_drewN _ _ _⟩|exact ⟨rfl,_,Eq.trans (World.drewN_drewN _ _ _) (congrArg (World.drewN _) (Nat.add_assoc _ _ _))⟩))))
      go_ret;exact ⟨by first|rfl|(simp [aX,aY] <;> rfl)|(simp [*,aX,aY] <;> rfl),cZ⟩
  · rw [if_neg c2] at H
    have vP:(aM==1)=false:=beq_eq_false_iff_ne.mpr c2;have KO:(aM != 1)=true:=bne_iff_ne.mpr c2;have HC9:=bA H;clear H;go_enter Try.func90,Try.ntmps90;go_upto_if 17 with (first|((with_reducible refine dB (N:=1) rfl ?_);(try (refine gI (by rfl) ?_;dsimp only));refine dA ?hg (N:=1) ?hd (cs:=#[.int .i64 aM,.string aJ,.slice jF bQ.length iY]) (t:=25) ?hr ?_;(case hd=>rfl);(case hg=>rfl);(case hr=>first|(go_simp;done)|(go_simp;rfl));intro O7 hg w10 dL hb;have dR:=bA (dL);have JP:=bw (w:=w) hg cZ;have EW:=bw (w:=w) hg cZ;replace HB:=bA (aU cZ hb);clear hb dL hg;have rY:=bc0 dR;have rZ:=bc1 dR;have sD:=bc2 dR;have sF:=bz dR 0;have sG:=bz dR 1;have sH:=bz dR 2));repeat (go_quiet (first|((with_reducible refine dB (N:=1) rfl ?_);(try (refine gI (by rfl) ?_;dsimp only));refine dA ?hg (N:=1) ?hd (cs:=#[.int .i64 aM,.string aJ,.slice jF bQ.length iY]) (t:=25) ?hr ?_;(case hd=>rfl);(case hg=>rfl);(case hr=>first|(go_simp;done)|(go_simp;rfl));intro O7 hg w10 dL hb;have dR:=bA (dL);have JP:=bw (w:=w) hg cZ;have EW:=bw (w:=w) hg cZ;replace HB:=bA (aU cZ hb);clear hb dL hg;have rY:=bc0 dR;have rZ:=bc1 dR;have sD:=bc2 dR;have sF:=bz dR 0;have sG:=bz dR 1;have sH:=bz dR 2));go_upto_if 17 with (first|((with_reducible refine dB (N:=1) rfl ?_);(try (refine gI (by rfl) ?_;dsimp only));refine dA ?hg (N:=1) ?hd (cs:=#[.int .i64 aM,.string aJ,.slice jF bQ.length iY]) (t:=25) ?hr ?_;(case hd=>rfl);(case hg=>rfl);(case hr=>first|(go_simp;done)|(go_simp;rfl));intro O7 hg w10 dL hb;have dR:=bA (dL);have JP:=bw (w:=w) hg cZ;have EW:=bw (w:=w) hg cZ;replace HB:=bA (aU cZ hb);clear hb dL hg;have rY:=bc0 dR;have rZ:=bc1 dR;have sD:=bc2 dR;have sF:=bz dR 0;have sG:=bz dR 1;have sH:=bz dR 2)))
    (try simp only [Act.put,List.setIfInBounds_toArray,List.set_cons_zero,List.set_cons_succ]);go_cut [17] (fun v17 wc=>∃ (kq:Nat) (x17_8:Bool),v17 = .bool x17_8∧aA (bC.j0 kq aM x17_8 aM aJ bQ=some r)∧aA (kq≤k)∧aA (wc.heap[O7]?=some (.cells #[.int .i64 aM,.string aJ,(.slice jF bQ.length iY)] 25 (0,0)))∧aA (Below w.heap.size w wc))
    case first =>
      have H:=HC9.out;clear HC9;by_cases c12:aM=2
      · rw [if_pos c12] at H
        have rX:(aM==2)=true:=beq_iff_eq.mpr c12;have aAA:(aM != 2)=false:=bne_eq_false_iff_eq.mpr c12;clear c12
        (first|rw [rX]|(simp only [iP,jB];rw [rX])|skip)
        have H':=bA H;clear H;go_wp2;repeat (go_quiet (fail);try go_wp2)
        go_meet
        case rel=>exact ⟨_,((aM==2)),be,H',⟨by first|omega|exact Nat.le_refl _⟩,⟨dV dR.out⟩,⟨cZ⟩⟩
      · rw [if_neg c12] at H
        have rX:(aM==2)=false:=beq_eq_false_iff_ne.mpr c12;have aAA:(aM != 2)=true:=bne_iff_ne.mpr c12
        (first|rw [rX]|(simp only [iP,jB];rw [rX])|skip)
        by_cases c13:aM=3
        · rw [if_pos c13] at H
          have aA8:(aM==3)=true:=beq_iff_eq.mpr c13;have c13b1:(aM != 3)=false:=bne_eq_false_iff_eq.mpr c13;clear c13;have H':=bA H;clear H;go_wp2;repeat (go_quiet (fail);try go_wp2)
          go_meet
          case rel=>exact ⟨_,((aM==3)),be,H',⟨by first|omega|exact Nat.le_refl _⟩,⟨dV dR.out⟩,⟨cZ⟩⟩
        · rw [if_neg c13] at H
          have aA8:(aM==3)=false:=beq_eq_false_iff_ne.mpr c13;have c13b1:(aM != 3)=true:=bne_iff_ne.mpr c13;have H':=bA H;clear H;go_wp2;repeat (go_quiet (fail);try go_wp2)
          go_meet
          case rel=>exact ⟨_,((aM==4)),be,H',⟨by first|omega|exact Nat.le_refl _⟩,⟨dV dR.out⟩,⟨cZ⟩⟩
    case rest =>
      clear HC9;(try clear c2);(try clear vP);(try clear KO);(try clear rY);(try clear rZ);(try clear sD);(try clear sF);(try clear sG);(try clear sH);obtain ⟨kq,x17_8,rfl,HA,HJ8,dR,HB⟩:=hcut;cases kq with
      |zero=>exact absurd HA.out (by simp [bC.j0])
      |succ kj8 =>
        have H:=HA.out;clear HA;simp only [bC.j0] at H;by_cases c14:x17_8=true
        · subst c14
          have H1:(if aJ.toList=([]:List UInt8) then (some ((bQ.length:Int)==0)) else (some false))=some r:=(by rw [if_pos rfl] at H;exact H);clear H;have H:=H1;clear H1;by_cases c15:aJ.toList=([]:List UInt8)
          · rw [if_pos c15] at H
            have PI:(aJ.toList==([]:List UInt8))=true:=beq_iff_eq.mpr c15;have c15b1:(aJ.toList != ([]:List UInt8))=false:=bne_eq_false_iff_eq.mpr c15;clear c15;obtain rfl:=Option.some.inj H;have hcz16_0:=bc0 dR;have hcz16_1:=bc1 dR;have hcz16_2:=bc2 dR;have hfz16_0:=bz dR 0;have hfz16_1:=bz dR 1;have hfz16_2:=bz dR 2;go_wp2;repeat (go_quiet (fail);try go_wp2)
            go_ret;exact ⟨by first|rfl|(simp [aX,aY] <;> rfl)|(simp [*,aX,aY] <;> rfl),cZ⟩
          · rw [if_neg c15] at H
            have PI:(aJ.toList==([]:List UInt8))=false:=beq_eq_false_iff_ne.mpr c15;have c15b1:(aJ.toList != ([]:List UInt8))=true:=bne_iff_ne.mpr c15;obtain rfl:=Option.some.inj H;have UY:=bc0 dR;have UZ:=bc1 dR;have VA:=bc2 dR;have VB:=bz dR 0;have VC:=bz dR 1;have VD:=bz dR 2;go_wp2;repeat (go_quiet (fail);try go_wp2)
            go_ret;exact ⟨by first|rfl|(simp [aX,aY] <;> rfl)|(simp [*,aX,aY] <;> rfl),cZ⟩
        · replace c14:=Bool.eq_false_iff.mpr c14
          subst c14;have H1:(if aM=7 then (bC.j1 kj8 aM (aM==7) aM aJ bQ) else (bC.j1 kj8 aM (aM==8) aM aJ bQ))=some r:=(by rw [if_neg (show ¬ (false=true) by decide)] at H;exact H);clear H;have H:=H1;clear H1;have HC18:=bA H;clear H;go_upto_if 30 with (fail);repeat (go_quiet (fail);go_upto_if 30 with (fail))
          go_cut [30] (fun v30 wc=>∃ (kq:Nat) (XC:Bool),v30 = .bool XC∧aA (bC.j1 kq aM XC aM aJ bQ=some r)∧aA (kq≤kj8)∧aA (wc.heap[O7]?=some (.cells #[.int .i64 aM,.string aJ,(.slice jF bQ.length iY)] 25 (0,0)))∧aA (Below w.heap.size w wc))
          case first =>
            have H:=HC18.out;clear HC18;by_cases c19:aM=7
            · rw [if_pos c19] at H
              have aAB:(aM==7)=true:=beq_iff_eq.mpr c19;have c19b1:(aM != 7)=false:=bne_eq_false_iff_eq.mpr c19;clear c19
              (first|rw [aAB]|(simp only [iP,jB];rw [aAB])|skip)
              have H':=bA H;clear H;go_wp2;repeat (go_quiet (fail);try go_wp2)
              go_meet
              case rel=>exact ⟨_,((aM==7)),be,H',⟨by have:=HJ8.out;first|omega|exact Nat.le_refl _⟩,⟨dV dR.out⟩,⟨cZ⟩⟩
            · rw [if_neg c19] at H
              have aAB:(aM==7)=false:=beq_eq_false_iff_ne.mpr c19;have c19b1:(aM != 7)=true:=bne_iff_ne.mpr c19
              (first|rw [aAB]|(simp only [iP,jB];rw [aAB])|skip)
              have H':=bA H;clear H;go_wp2;repeat (go_quiet (fail);try go_wp2)
              go_meet
              case rel=>exact ⟨_,((aM==8)),be,H',⟨by have:=HJ8.out;first|omega|exact Nat.le_refl _⟩,⟨dV dR.out⟩,⟨cZ⟩⟩
          case rest =>
            clear HC18;(try clear c2);(try clear vP);(try clear KO);(try clear c14);(try clear rY);(try clear rZ);(try clear sD);(try clear sF);(try clear sG);(try clear sH);obtain ⟨kq,XC,rfl,HA,HJ17,dR,HB⟩:=hcut;cases kq with
            |zero=>exact absurd HA.out (by simp [bC.j1])
            |succ kj17 =>
              have H:=HA.out;clear HA;simp only [bC.j1] at H;by_cases c20:XC=true
              · subst c20
                have H1:(if aJ.toList=([]:List UInt8) then (some ((bQ.length:Int)==1)) else (some false))=some r:=(by rw [if_pos rfl] at H;exact H);clear H;have H:=H1;clear H1;by_cases c21:aJ.toList=([]:List UInt8)
                · rw [if_pos c21] at H
                  have c21b0:(aJ.toList==([]:List UInt8))=true:=beq_iff_eq.mpr c21;have c21b1:(aJ.toList != ([]:List UInt8))=false:=bne_eq_false_iff_eq.mpr c21;clear c21;obtain rfl:=Option.some.inj H;have hcz22_0:=bc0 dR;have hcz22_1:=bc1 dR;have hcz22_2:=bc2 dR;have hfz22_0:=bz dR 0;have hfz22_1:=bz dR 1;have hfz22_2:=bz dR 2;go_wp2;repeat (go_quiet (fail);try go_wp2)
                  go_ret;exact ⟨by first|rfl|(simp [aX,aY] <;> rfl)|(simp [*,aX,aY] <;> rfl),cZ⟩
                · rw [if_neg c21] at H
                  have c21b0:(aJ.toList==([]:List UInt8))=false:=beq_eq_false_iff_ne.mpr c21;have c21b1:(aJ.toList != ([]:List UInt8))=true:=bne_iff_ne.mpr c21;obtain rfl:=Option.some.inj H;have E8:=bc0 dR;have E9:=bc1 dR;have F4:=bc2 dR;have F5:=bz dR 0;have F6:=bz dR 1;have F7:=bz dR 2;go_wp2;repeat (go_quiet (fail);try go_wp2)
                  go_ret;exact ⟨by first|rfl|(simp [aX,aY] <;> rfl)|(simp [*,aX,aY] <;> rfl),cZ⟩
              · replace c20:=Bool.eq_false_iff.mpr c20
                subst c20;have H1:(if aM=5 then (bC.j2 kj17 (aM==5) aM aJ bQ) else (bC.j2 kj17 (aM==6) aM aJ bQ))=some r:=(by rw [if_neg (show ¬ (false=true) by decide)] at H;exact H);clear H;have H:=H1;clear H1;have HC24:=bA H;clear H;go_upto_if 42 with (fail);repeat (go_quiet (fail);go_upto_if 42 with (fail))
                go_cut [42] (fun v42 wc=>∃ (kq:Nat) (XD:Bool),v42 = .bool XD∧aA (bC.j2 kq XD aM aJ bQ=some r)∧aA (kq≤kj17)∧aA (wc.heap[O7]?=some (.cells #[.int .i64 aM,.string aJ,(.slice jF bQ.length iY)] 25 (0,0)))∧aA (Below w.heap.size w wc))
                case first =>
                  have H:=HC24.out;clear HC24;by_cases U3:aM=5
                  · rw [if_pos U3] at H
                    have U5:(aM==5)=true:=beq_iff_eq.mpr U3;have L_:(aM != 5)=false:=bne_eq_false_iff_eq.mpr U3;clear U3
                    (first|rw [U5]|(simp only [iP,jB];rw [U5])|skip)
                    have H':=bA H;clear H;go_wp2;repeat (go_quiet (fail);try go_wp2)
                    go_meet
                    case rel=>exact ⟨_,((aM==5)),be,H',⟨by have:=HJ8.out;have:=HJ17.out;first|omega|exact Nat.le_refl _⟩,⟨dV dR.out⟩,⟨cZ⟩⟩
                  · rw [if_neg U3] at H
                    have U5:(aM==5)=false:=beq_eq_false_iff_ne.mpr U3;have L_:(aM != 5)=true:=bne_iff_ne.mpr U3
                    (first|rw [U5]|(simp only [iP,jB];rw [U5])|skip)
                    have H':=bA H;clear H;go_wp2;repeat (go_quiet (fail);try go_wp2)
                    go_meet
                    case rel=>exact ⟨_,((aM==6)),be,H',⟨by have:=HJ8.out;have:=HJ17.out;first|omega|exact Nat.le_refl _⟩,⟨dV dR.out⟩,⟨cZ⟩⟩
                case rest =>
                  clear HC24;(try clear c2);(try clear vP);(try clear KO);(try clear c14);(try clear c20);(try clear rY);(try clear rZ);(try clear sD);(try clear sF);(try clear sG);(try clear sH);obtain ⟨kq,XD,rfl,HA,HJ23,dR,HB⟩:=hcut;cases kq with
                  |zero=>exact absurd HA.out (by simp [bC.j2])
                  |succ kj23 =>
                    have H:=HA.out;clear HA;simp only [bC.j2] at H;by_cases JM:XD=true
                    · subst JM
                      have H1:(bC.l0 kj23 0 aM aJ bQ)=some r:=(by rw [if_pos rfl] at H;exact H);clear H;have H:=H1;clear H1;have H':=bA H;clear H;go_wp2;repeat (go_quiet (fail);try go_wp2)
                      go_loopg [3] kj23 (fun kq v3 w'=>∃ (zP:Int),v3 = .int .i64 zP∧aA (bC.l0 kq zP aM aJ bQ=some r)∧aA (kq≤kj23)∧aA (w'.heap[O7]?=some (.cells #[.int .i64 aM,.string aJ,(.slice jF bQ.length iY)] 25 (0,0)))∧aA (Below w.heap.size w w'))
                      case atStart=>exact ⟨(0),be,H',⟨Nat.le_refl _⟩,⟨dV dR.out⟩,⟨cZ⟩⟩
                      case round =>
                        clear H';(try clear c2);(try clear vP);(try clear KO);(try clear c14);(try clear c20);(try clear JM);(try clear rY);(try clear rZ);(try clear sD);(try clear sF);(try clear sG);(try clear sH);obtain ⟨zP,rfl,HA,XE,dR,HB⟩:=hrel;cases gk with
                        |zero=>exact absurd HA.out (by simp [bC.l0])
                        |succ k4 =>
                          have H:=HA.out;clear HA;simp only [bC.l0] at H;by_cases c27:zP<(bQ.length:Int)
                          · rw [if_pos c27] at H
                            have c27b0:decide (zP<(bQ.length:Int))=true:=decide_eq_true c27;clear c27;by_cases c28:0≤zP
                            · rw [if_pos c28] at H
                              have c28b0:decide (0≤zP)=true:=decide_eq_true c28;clear c28;by_cases VE:((bL bQ zP).f0)=aM
                              · rw [if_pos VE] at H
                                have c29b0:(((bL bQ zP).f0)==aM)=true:=beq_iff_eq.mpr VE;have c29b1:(((bL bQ zP).f0) != aM)=false:=bne_eq_false_iff_eq.mpr VE;clear VE;obtain rfl:=Option.some.inj H;have hcz30_0:=bc0 dR;have hcz30_1:=bc1 dR;have hcz30_2:=bc2 dR;have hfz30_0:=bz dR 0;have hfz30_1:=bz dR 1;have hfz30_2:=bz dR 2;have p548:0≤(zP:Int):=gQ;have q548:zP<(bQ.length:Int):=gQ;obtain ⟨ad548,A548_2,c548_2,e548,J9,K5,K9,EX,EY⟩:=mE qI.out zP p548 q548;cases e548;replace J9:=(HB.out.cell (World.block_lt_of_cell? w _ J9)).trans J9;replace K5:=(HB.out.cell (World.block_lt_of_cell? w _ K5)).trans K5;replace K9:=(HB.out.cell (World.block_lt_of_cell? w _ K9)).trans K9;have HR548_2:=bA EY;have HC548_2:=bA EX;clear EY EX;replace p548:=eq_true p548;replace q548:=eq_true q548;go_wp2;repeat (go_quiet (fail);try go_wp2)
                                go_ret;exact ⟨by first|rfl|(simp [aX,aY] <;> rfl)|(simp [*,aX,aY] <;> rfl),cZ⟩
                              · rw [if_neg VE] at H
                                have c29b0:(((bL bQ zP).f0)==aM)=false:=beq_eq_false_iff_ne.mpr VE;have c29b1:(((bL bQ zP).f0) != aM)=true:=bne_iff_ne.mpr VE;have H':=bA H;clear H;have VF:=bc0 dR;have VG:=bc1 dR;have VH:=bc2 dR;have VI:=bz dR 0;have VJ:=bz dR 1;have VK:=bz dR 2;have p548:0≤(zP:Int):=gQ;have q548:zP<(bQ.length:Int):=gQ;obtain ⟨ad548,A548_2,c548_2,e548,J9,K5,K9,EX,EY⟩:=mE qI.out zP p548 q548;cases e548;replace J9:=(HB.out.cell (World.block_lt_of_cell? w _ J9)).trans J9;replace K5:=(HB.out.cell (World.block_lt_of_cell? w _ K5)).trans K5;replace K9:=(HB.out.cell (World.block_lt_of_cell? w _ K9)).trans K9;have HR548_2:=bA EY;have HC548_2:=bA EX;clear EY EX;replace p548:=eq_true p548;replace q548:=eq_true q548;go_wp2;repeat (go_quiet (fail);try go_wp2)
                                go_roundg k4
                                case measure=>have:=HJ8.out;have:=HJ17.out;have:=HJ23.out;have:=XE.out;omega
                                case rel=>exact ⟨(wrap64 (zP+1)),be,H',⟨by have:=HJ8.out;have:=HJ17.out;have:=HJ23.out;have:=XE.out;omega⟩,⟨dV dR.out⟩,⟨cZ⟩⟩
                            · rw [if_neg c28] at H
                              exact absurd H (by simp)
                          · rw [if_neg c27] at H
                            have c27b0:decide (zP<(bQ.length:Int))=false:=decide_eq_false c27;clear c27;by_cases c32:aJ.toList=([]:List UInt8)
                            · rw [if_pos c32] at H
                              have DZ:(aJ.toList==([]:List UInt8))=true:=beq_iff_eq.mpr c32;have c32b1:(aJ.toList != ([]:List UInt8))=false:=bne_eq_false_iff_eq.mpr c32;clear c32;obtain rfl:=Option.some.inj H;have hcz33_0:=bc0 dR;have hcz33_1:=bc1 dR;have hcz33_2:=bc2 dR;have hfz33_0:=bz dR 0;have hfz33_1:=bz dR 1;have hfz33_2:=bz dR 2;go_wp2;repeat (go_quiet (fail);try go_wp2)
                              go_ret;exact ⟨by first|rfl|(simp [aX,aY] <;> rfl)|(simp [*,aX,aY] <;> rfl),cZ⟩
                            · rw [if_neg c32] at H
                              have DZ:(aJ.toList==([]:List UInt8))=false:=beq_eq_false_iff_ne.mpr c32;have c32b1:(aJ.toList != ([]:List UInt8))=true:=bne_iff_ne.mpr c32;obtain rfl:=Option.some.inj H;have VL:=bc0 dR;have VM:=bc1 dR;have VN:=bc2 dR;have VO:=bz dR 0;have VP:=bz dR 1;have VQ:=bz dR 2;go_wp2;repeat (go_quiet (fail);try go_wp2)
                              go_ret;exact ⟨by first|rfl|(simp [aX,aY] <;> rfl)|(simp [*,aX,aY] <;> rfl),cZ⟩
                    · replace JM:=Bool.eq_false_iff.mpr JM
                      subst JM;have H1:(some false)=some r:=(by rw [if_neg (show ¬ (false=true) by decide)] at H;exact H);clear H;have H:=H1;clear H1;obtain rfl:=Option.some.inj H;go_wp2;repeat (go_quiet (fail);try go_wp2)
                      go_ret;exact ⟨by first|rfl|(simp [aX,aY] <;> rfl)|(simp [*,aX,aY] <;> rfl),cZ⟩
end Go.Proofs.Ytapinbmkjkbkkaa.Lb
