import Derived.Lib.SliceRun
import Derived.Test.YtapinbmkjkbkkaaBuVi
import Derived.Test.YtapinbmkjkbkkaaBuLbx1
namespace Go.Proofs.Ytapinbmkjkbkkaa.Lb
open Go.RowKit Go.Proofs.aC.bE Go.Proofs.aC.bV Go.Proofs.aC.bY
attribute [local go_sem] kY kZ nO nP kC kD lC lD
set_option linter.unusedVariables false
set_option linter.unusedSimpArgs false
attribute [local go_sem high] eqA78
private theorem cZ {P:Prop} (h:P:=by repeat (first|(with_reducible first|exact HB.out|apply aN|apply bB|apply bX|refine eB ?_ GE417.out|refine eB ?_ GE418.out)|exact HB.out)):P:=h
mutual
def bW.j0:Nat→Bool→Int→Int→Int→Int→List (gV)→Int→Int→Int→Int→List (gV)→Option (Bool)
  |0,_,_,_,_,_,_,_,_,_,_,_=>none
  |k+1,x40,UJ,UK,UL,UM,o7,UN,UO,UQ,UR,o8=>if x40=true then (some false) else (bW.l0 k 0 UJ UK UL UM o7 UN UO UQ UR o8)
def bW.l0:Nat→Int→Int→Int→Int→Int→List (gV)→Int→Int→Int→Int→List (gV)→Option (Bool)
  |0,_,_,_,_,_,_,_,_,_,_,_=>none
  |k+1,x5,UJ,UK,UL,UM,o7,UN,UO,UQ,UR,o8=>if x5<(o7.length:Int) then (if 0≤x5 then (if x5<(o8.length:Int) then (if (!(((aG o7 x5).f0)==((aG o8 x5).f0)) || (!(((aG o7 x5).f1)==((aG o8 x5).f1)) || (!(((aG o7 x5).f2)==((aG o8 x5).f2)))))=true then (some false) else (bW.l0 k (wrap64 (x5+1)) UJ UK UL UM o7 UN UO UQ UR o8)) else (none)) else (none)) else (some true)
end
def bW.f (k:Nat) (aM:Int) (aJ:Int) (aV:Int) (aW:Int) (aI:List (gV)) (uU:Int) (uV:Int) (uX:Int) (uY:Int) (pK:List (gV)):Option (Bool):=if aM=uU then (if aJ=uV then (if aV=uX then (if aW=uY then (bW.j0 k ((aI.length:Int) != (pK.length:Int)) aM aJ aV aW aI uU uV uX uY pK) else (bW.j0 k true aM aJ aV aW aI uU uV uX uY pK)) else (bW.j0 k true aM aJ aV aW aI uU uV uX uY pK)) else (bW.j0 k true aM aJ aV aW aI uU uV uX uY pK)) else (bW.j0 k true aM aJ aV aW aI uU uV uX uY pK)
set_option maxHeartbeats 8000000 in
set_option maxRecDepth 100000 in
theorem bW.calls (k:Nat) (aM:Int) (aJ:Int) (aV:Int) (aW:Int) (gN:Option Addr) (fM:Nat) (aI:List (gV)) (uU:Int) (uV:Int) (uX:Int) (uY:Int) (A1_4:Option Addr) (c1_4:Nat) (pK:List (gV)) (r:Bool) (w:World) (kW:Kd.C xP w gN aI.length aI) (lF:aI.length≤fM) (hr1_4:Kd.C xP w A1_4 pK.length pK) (hc1_4:pK.length≤c1_4) (h:bW.f k aM aJ aV aW aI uU uV uX uY pK=some r) :
    Calls Try.prog 13 #[.agg #[.int .i64 aM,.int .i64 aJ,.int .i64 aV,.int .i64 aW,.slice gN aI.length fM],.agg #[.int .i64 uU,.int .i64 uV,.int .i64 uX,.int .i64 uY,.slice A1_4 pK.length c1_4]] w fun e w'=>e = .returned (.bool r)∧Below w.heap.size w w':=by
  have RD:=Try.underlying31;have hu78:=Try.underlying78;have iA:=bA kW;have lK:=bA lF;clear kW lF;have HR1_4:=bA hr1_4;have HC1_4:=bA hc1_4;clear hr1_4 hc1_4;have HB:=bA (Below.refl w.heap.size w);have H:(if aM=uU then (if aJ=uV then (if aV=uX then (if aW=uY then (bW.j0 k ((aI.length:Int) != (pK.length:Int)) aM aJ aV aW aI uU uV uX uY pK) else (bW.j0 k true aM aJ aV aW aI uU uV uX uY pK)) else (bW.j0 k true aM aJ aV aW aI uU uV uX uY pK)) else (bW.j0 k true aM aJ aV aW aI uU uV uX uY pK)) else (bW.j0 k true aM aJ aV aW aI uU uV uX uY pK))=some r:=h;clear h;have HC3:=bA H;clear H;go_enter Try.func13,Try.ntmps13;go_upto_region 1 with (first|((with_reducible refine dB (N:=2) rfl ?_);(try (refine gI (by rfl) ?_;dsimp only));refine dA ?hg (N:=2) ?hd (cs:=#[.int .i64 aM,.int .i64 aJ,.int .i64 aV,.int .i64 aW,.slice gN aI.length fM]) (t:=31) ?hr ?_;(case hd=>rfl);(case hg=>rfl);(case hr=>first|(go_simp;done)|(go_simp;rfl));intro gb417 hg w4 dL hb;have eU:=bA (dL);have GW417:=bw (w:=w) hg cZ;have GE417:=bw (w:=w) hg cZ;replace HB:=bA (aU cZ hb);clear hb dL hg)|((with_reducible refine dB (N:=3) rfl ?_);(try (refine gI (by rfl) ?_;dsimp only));refine dA ?hg (N:=3) ?hd (cs:=#[.int .i64 uU,.int .i64 uV,.int .i64 uX,.int .i64 uY,.slice A1_4 pK.length c1_4]) (t:=31) ?hr ?_;(case hd=>rfl);(case hg=>rfl);(case hr=>first|(go_simp;done)|(go_simp;rfl));intro gb418 hg w5 dL hb;have fT:=bA (dL);have GW418:=bw (w:=w) hg cZ;have GE418:=bw (w:=w) hg cZ;replace HB:=bA (aU cZ hb);have qK:=bl hg eU;have qL:=bg hg eU;replace eU:=bb eU hb;clear hb dL hg))
  repeat (go_quiet (first|((with_reducible refine dB (N:=2) rfl ?_);(try (refine gI (by rfl) ?_;dsimp only));refine dA ?hg (N:=2) ?hd (cs:=#[.int .i64 aM,.int .i64 aJ,.int .i64 aV,.int .i64 aW,.slice gN aI.length fM]) (t:=31) ?hr ?_;(case hd=>rfl);(case hg=>rfl);(case hr=>first|(go_simp;done)|(go_simp;rfl));intro gb417 hg w4 dL hb;have eU:=bA (dL);have GW417:=bw (w:=w) hg cZ;have GE417:=bw (w:=w) hg cZ;replace HB:=bA (aU cZ hb);clear hb dL hg)|((with_reducible refine dB (N:=3) rfl ?_);(try (refine gI (by rfl) ?_;dsimp only));refine dA ?hg (N:=3) ?hd (cs:=#[.int .i64 uU,.int .i64 uV,.int .i64 uX,.int .i64 uY,.slice A1_4 pK.length c1_4]) (t:=31) ?hr ?_;(case hd=>rfl);(case hg=>rfl);(case hr=>first|(go_simp;done)|(go_simp;rfl));intro gb418 hg w5 dL hb;have fT:=bA (dL);have GW418:=bw (w:=w) hg cZ;have GE418:=bw (w:=w) hg cZ;replace HB:=bA (aU cZ hb);have qK:=bl hg eU;have qL:=bg hg eU;replace eU:=bb eU hb;clear hb dL hg));go_upto_region 1 with (first|((with_reducible refine dB (N:=2) rfl ?_);(try (refine gI (by rfl) ?_;dsimp only));refine dA ?hg (N:=2) ?hd (cs:=#[.int .i64 aM,.int .i64 aJ,.int .i64 aV,.int .i64 aW,.slice gN aI.length fM]) (t:=31) ?hr ?_;(case hd=>rfl);(case hg=>rfl);(case hr=>first|(go_simp;done)|(go_simp;rfl));intro gb417 hg w4 dL hb;have eU:=bA (dL);have GW417:=bw (w:=w) hg cZ;have GE417:=bw (w:=w) hg cZ;replace HB:=bA (aU cZ hb);clear hb dL hg)|((with_reducible refine dB (N:=3) rfl ?_);(try (refine gI (by rfl) ?_;dsimp only));refine dA ?hg (N:=3) ?hd (cs:=#[.int .i64 uU,.int .i64 uV,.int .i64 uX,.int .i64 uY,.slice A1_4 pK.length c1_4]) (t:=31) ?hr ?_;(case hd=>rfl);(case hg=>rfl);(case hr=>first|(go_simp;done)|(go_simp;rfl));intro gb418 hg w5 dL hb;have fT:=bA (dL);have GW418:=bw (w:=w) hg cZ;have GE418:=bw (w:=w) hg cZ;replace HB:=bA (aU cZ hb);have qK:=bl hg eU;have qL:=bg hg eU;replace eU:=bb eU hb;clear hb dL hg)))
  (try simp only [Act.put,List.setIfInBounds_toArray,List.set_cons_zero,List.set_cons_succ]);go_cut [40] (fun v40 wc=>∃ (kq:Nat) (x40_2:Bool),v40 = .bool x40_2∧aA (bW.j0 kq x40_2 aM aJ aV aW aI uU uV uX uY pK=some r)∧aA (kq≤k)∧aA (wc.heap[gb417]?=some (.cells #[.int .i64 aM,.int .i64 aJ,.int .i64 aV,.int .i64 aW,(.slice gN aI.length fM)] 31 (0,0)))∧aA (wc.heap[gb418]?=some (.cells #[.int .i64 uU,.int .i64 uV,.int .i64 uX,.int .i64 uY,(.slice A1_4 pK.length c1_4)] 31 (0,0)))∧aA (Below w.heap.size w wc))
  case first =>
    have H:=HC3.out;clear HC3;by_cases c6:aM=uU
    · rw [if_pos c6] at H
      have zB:(aM==uU)=true:=beq_iff_eq.mpr c6;have E_:(aM != uU)=false:=bne_eq_false_iff_eq.mpr c6;clear c6
      (first|rw [zB]|(simp only [iP,jB];rw [zB])|skip)
      by_cases c7:aJ=uV
      · rw [if_pos c7] at H
        have DX:(aJ==uV)=true:=beq_iff_eq.mpr c7;have c7b1:(aJ != uV)=false:=bne_eq_false_iff_eq.mpr c7;clear c7;by_cases c8:aV=uX
        · rw [if_pos c8] at H
          have o9:(aV==uX)=true:=beq_iff_eq.mpr c8;have c8b1:(aV != uX)=false:=bne_eq_false_iff_eq.mpr c8;clear c8;by_cases c9:aW=uY
          · rw [if_pos c9] at H
            have OA:(aW==uY)=true:=beq_iff_eq.mpr c9;have c9b1:(aW != uY)=false:=bne_eq_false_iff_eq.mpr c9;clear c9;have H':=bA H;clear H;have hnb10:=qK.out;have hnc10:=qL.out;have rY:=bc0 eU;have rZ:=bc1 eU;have sD:=bc2 eU;have UT:=bc3 eU;have UU:=oP eU;have sF:=bz eU 0;have sG:=bz eU 1;have sH:=bz eU 2;have UW:=bz eU 3;have UX:=bz eU 4;have hcz12_0:=bc0 fT;have hcz12_1:=bc1 fT;have hcz12_2:=bc2 fT;have hcz12_3:=bc3 fT;have hcz12_4:=oP fT;have hfz12_0:=bz fT 0;have hfz12_1:=bz fT 1;have hfz12_2:=bz fT 2;have hfz12_3:=bz fT 3;have hfz12_4:=bz fT 4;go_wp2;repeat (go_quiet (fail);try go_wp2)
            go_meet
            case rel=>exact ⟨_,(((aI.length:Int) != (pK.length:Int))),be,H',⟨by first|omega|exact Nat.le_refl _⟩,⟨dV eU.out⟩,⟨dV fT.out⟩,⟨cZ⟩⟩
          · rw [if_neg c9] at H
            have OA:(aW==uY)=false:=beq_eq_false_iff_ne.mpr c9;have c9b1:(aW != uY)=true:=bne_iff_ne.mpr c9;have H':=bA H;clear H;have hnb13:=qK.out;have hnc13:=qL.out;have p9:=bc0 eU;have q9:=bc1 eU;have r9:=bc2 eU;have hcz14_3:=bc3 eU;have hcz14_4:=oP eU;have u7:=bz eU 0;have z8:=bz eU 1;have A9:=bz eU 2;have hfz14_3:=bz eU 3;have hfz14_4:=bz eU 4;have C8:=bc0 fT;have C9:=bc1 fT;have D6:=bc2 fT;have Y0:=bc3 fT;have Y1:=oP fT;have D7:=bz fT 0;have D8:=bz fT 1;have D9:=bz fT 2;have Y2:=bz fT 3;have Y3:=bz fT 4;go_wp2;repeat (go_quiet (fail);try go_wp2)
            go_meet
            case rel=>exact ⟨_,(true),be,H',⟨by first|omega|exact Nat.le_refl _⟩,⟨dV eU.out⟩,⟨dV fT.out⟩,⟨cZ⟩⟩
        · rw [if_neg c8] at H
          have o9:(aV==uX)=false:=beq_eq_false_iff_ne.mpr c8;have c8b1:(aV != uX)=true:=bne_iff_ne.mpr c8;have H':=bA H;clear H;have hnb16:=qK.out;have hnc16:=qL.out;have UY:=bc0 eU;have UZ:=bc1 eU;have VA:=bc2 eU;have hcz17_3:=bc3 eU;have hcz17_4:=oP eU;have VB:=bz eU 0;have VC:=bz eU 1;have VD:=bz eU 2;have hfz17_3:=bz eU 3;have hfz17_4:=bz eU 4;have hcz18_0:=bc0 fT;have hcz18_1:=bc1 fT;have hcz18_2:=bc2 fT;have hcz18_3:=bc3 fT;have hcz18_4:=oP fT;have hfz18_0:=bz fT 0;have hfz18_1:=bz fT 1;have hfz18_2:=bz fT 2;have hfz18_3:=bz fT 3;have hfz18_4:=bz fT 4;go_wp2;repeat (go_quiet (fail);try go_wp2)
          go_meet
          case rel=>exact ⟨_,(true),be,H',⟨by first|omega|exact Nat.le_refl _⟩,⟨dV eU.out⟩,⟨dV fT.out⟩,⟨cZ⟩⟩
      · rw [if_neg c7] at H
        have DX:(aJ==uV)=false:=beq_eq_false_iff_ne.mpr c7;have c7b1:(aJ != uV)=true:=bne_iff_ne.mpr c7;have H':=bA H;clear H;have hnb19:=qK.out;have hnc19:=qL.out;have hcz20_0:=bc0 eU;have hcz20_1:=bc1 eU;have hcz20_2:=bc2 eU;have hcz20_3:=bc3 eU;have hcz20_4:=oP eU;have hfz20_0:=bz eU 0;have hfz20_1:=bz eU 1;have hfz20_2:=bz eU 2;have hfz20_3:=bz eU 3;have hfz20_4:=bz eU 4;have hcz21_0:=bc0 fT;have hcz21_1:=bc1 fT;have hcz21_2:=bc2 fT;have hcz21_3:=bc3 fT;have hcz21_4:=oP fT;have hfz21_0:=bz fT 0;have hfz21_1:=bz fT 1;have hfz21_2:=bz fT 2;have hfz21_3:=bz fT 3;have hfz21_4:=bz fT 4;go_wp2;repeat (go_quiet (fail);try go_wp2)
        go_meet
        case rel=>exact ⟨_,(true),be,H',⟨by first|omega|exact Nat.le_refl _⟩,⟨dV eU.out⟩,⟨dV fT.out⟩,⟨cZ⟩⟩
    · rw [if_neg c6] at H
      have zB:(aM==uU)=false:=beq_eq_false_iff_ne.mpr c6;have E_:(aM != uU)=true:=bne_iff_ne.mpr c6
      (first|rw [zB]|(simp only [iP,jB];rw [zB])|skip)
      have H':=bA H;clear H;have hnb22:=qK.out;have hnc22:=qL.out;have E8:=bc0 eU;have E9:=bc1 eU;have F4:=bc2 eU;have hcz23_3:=bc3 eU;have hcz23_4:=oP eU;have F5:=bz eU 0;have F6:=bz eU 1;have F7:=bz eU 2;have hfz23_3:=bz eU 3;have hfz23_4:=bz eU 4;have hcz24_0:=bc0 fT;have hcz24_1:=bc1 fT;have hcz24_2:=bc2 fT;have hcz24_3:=bc3 fT;have hcz24_4:=oP fT;have hfz24_0:=bz fT 0;have hfz24_1:=bz fT 1;have hfz24_2:=bz fT 2;have hfz24_3:=bz fT 3;have hfz24_4:=bz fT 4;go_wp2;repeat (go_quiet (fail);try go_wp2)
      go_meet
      case rel=>exact ⟨_,(true),be,H',⟨by first|omega|exact Nat.le_refl _⟩,⟨dV eU.out⟩,⟨dV fT.out⟩,⟨cZ⟩⟩
  case rest =>
    clear HC3;obtain ⟨kq,x40_2,rfl,HA,HJ2,eU,fT,HB⟩:=hcut;cases kq with
    |zero=>exact absurd HA.out (by simp [bW.j0])
    |succ kj2 =>
      have H:=HA.out;clear HA;simp only [bW.j0] at H;by_cases U3:x40_2=true
      · subst U3
        have H1:(some false)=some r:=(by rw [if_pos rfl] at H;exact H);clear H;have H:=H1;clear H1;obtain rfl:=Option.some.inj H;go_wp2;repeat (go_quiet (fail);try go_wp2)
        go_ret;exact ⟨by first|rfl|(simp [aX,aY] <;> rfl)|(simp [*,aX,aY] <;> rfl),cZ⟩
      · replace U3:=Bool.eq_false_iff.mpr U3
        subst U3;have H1:(bW.l0 kj2 0 aM aJ aV aW aI uU uV uX uY pK)=some r:=(by rw [if_neg (show ¬ (false=true) by decide)] at H;exact H);clear H;have H:=H1;clear H1;have H':=bA H;clear H;go_wp2;repeat (go_quiet (fail);try go_wp2)
        go_loopg [5] kj2 (fun kq v5 w'=>∃ (iF:Int),v5 = .int .i64 iF∧aA (bW.l0 kq iF aM aJ aV aW aI uU uV uX uY pK=some r)∧aA (kq≤kj2)∧aA (w'.heap[gb417]?=some (.cells #[.int .i64 aM,.int .i64 aJ,.int .i64 aV,.int .i64 aW,(.slice gN aI.length fM)] 31 (0,0)))∧aA (w'.heap[gb418]?=some (.cells #[.int .i64 uU,.int .i64 uV,.int .i64 uX,.int .i64 uY,(.slice A1_4 pK.length c1_4)] 31 (0,0)))∧aA (Below w.heap.size w w'))
        case atStart=>exact ⟨(0),be,H',⟨Nat.le_refl _⟩,⟨dV eU.out⟩,⟨dV fT.out⟩,⟨cZ⟩⟩
        case round =>
          clear H';(try clear U3);obtain ⟨iF,rfl,HA,oQ,eU,fT,HB⟩:=hrel;cases gk with
          |zero=>exact absurd HA.out (by simp [bW.l0])
          |succ k2 =>
            have H:=HA.out;clear HA;simp only [bW.l0] at H;by_cases JM:iF<(aI.length:Int)
            · rw [if_pos JM] at H
              have F_:decide (iF<(aI.length:Int))=true:=decide_eq_true JM;clear JM;by_cases c27:0≤iF
              · rw [if_pos c27] at H
                have c27b0:decide (0≤iF)=true:=decide_eq_true c27;clear c27;by_cases c28:iF<(pK.length:Int)
                · rw [if_pos c28] at H
                  have c28b0:decide (iF<(pK.length:Int))=true:=decide_eq_true c28;clear c28;by_cases VE:(!(((aG aI iF).f0)==((aG pK iF).f0)) || (!(((aG aI iF).f1)==((aG pK iF).f1)) || (!(((aG aI iF).f2)==((aG pK iF).f2)))))=true
                  · rw [if_pos VE] at H
                    have c29b0:(!(((aG aI iF).f0)==((aG pK iF).f0)) || (!(((aG aI iF).f1)==((aG pK iF).f1)) || (!(((aG aI iF).f2)==((aG pK iF).f2)))))=true:=VE;clear VE;obtain rfl:=Option.some.inj H;have hnb30:=qK.out;have hnc30:=qL.out;have VF:=bc0 eU;have VG:=bc1 eU;have VH:=bc2 eU;have hcz31_3:=bc3 eU;have hcz31_4:=oP eU;have VI:=bz eU 0;have VJ:=bz eU 1;have VK:=bz eU 2;have hfz31_3:=bz eU 3;have hfz31_4:=bz eU 4;have p419:0≤(iF:Int):=gQ;have q419:iF<(aI.length:Int):=gQ;obtain ⟨ad419,e419,F8,F9,G6⟩:=kQ iA.out iF p419 q419;cases e419;replace F8:=(HB.out.cell (World.block_lt_of_cell? w _ F8)).trans F8;replace F9:=(HB.out.cell (World.block_lt_of_cell? w _ F9)).trans F9;replace G6:=(HB.out.cell (World.block_lt_of_cell? w _ G6)).trans G6;replace p419:=eq_true p419;replace q419:=eq_true q419;have hcz32_0:=bc0 fT;have hcz32_1:=bc1 fT;have hcz32_2:=bc2 fT;have hcz32_3:=bc3 fT;have hcz32_4:=oP fT;have hfz32_0:=bz fT 0;have hfz32_1:=bz fT 1;have hfz32_2:=bz fT 2;have hfz32_3:=bz fT 3;have hfz32_4:=bz fT 4;have p420:0≤(iF:Int):=gQ;have q420:iF<(pK.length:Int):=gQ;obtain ⟨ad420,e420,G7,G8,G9⟩:=kQ HR1_4.out iF p420 q420;cases e420;replace G7:=(HB.out.cell (World.block_lt_of_cell? w _ G7)).trans G7;replace G8:=(HB.out.cell (World.block_lt_of_cell? w _ G8)).trans G8;replace G9:=(HB.out.cell (World.block_lt_of_cell? w _ G9)).trans G9;replace p420:=eq_true p420;replace q420:=eq_true q420;go_wp2;repeat (go_quiet (fail);try go_wp2)
                    go_ret;exact ⟨by first|rfl|(simp [aX,aY] <;> rfl)|(simp [*,aX,aY] <;> rfl),cZ⟩
                  · rw [if_neg VE] at H
                    have c29b0:(!(((aG aI iF).f0)==((aG pK iF).f0)) || (!(((aG aI iF).f1)==((aG pK iF).f1)) || (!(((aG aI iF).f2)==((aG pK iF).f2)))))=false:=(by simpa using VE);clear VE;have H':=bA H;clear H;have hnb33:=qK.out;have hnc33:=qL.out;have VL:=bc0 eU;have VM:=bc1 eU;have VN:=bc2 eU;have hcz34_3:=bc3 eU;have hcz34_4:=oP eU;have VO:=bz eU 0;have VP:=bz eU 1;have VQ:=bz eU 2;have hfz34_3:=bz eU 3;have hfz34_4:=bz eU 4;have p419:0≤(iF:Int):=gQ;have q419:iF<(aI.length:Int):=gQ;obtain ⟨ad419,e419,F8,F9,G6⟩:=kQ iA.out iF p419 q419;cases e419;replace F8:=(HB.out.cell (World.block_lt_of_cell? w _ F8)).trans F8;replace F9:=(HB.out.cell (World.block_lt_of_cell? w _ F9)).trans F9;replace G6:=(HB.out.cell (World.block_lt_of_cell? w _ G6)).trans G6;replace p419:=eq_true p419;replace q419:=eq_true q419;have hcz35_0:=bc0 fT;have hcz35_1:=bc1 fT;have hcz35_2:=bc2 fT;have hcz35_3:=bc3 fT;have hcz35_4:=oP fT;have hfz35_0:=bz fT 0;have hfz35_1:=bz fT 1;have hfz35_2:=bz fT 2;have hfz35_3:=bz fT 3;have hfz35_4:=bz fT 4;have p420:0≤(iF:Int):=gQ;have q420:iF<(pK.length:Int):=gQ;obtain ⟨ad420,e420,G7,G8,G9⟩:=kQ HR1_4.out iF p420 q420;cases e420;replace G7:=(HB.out.cell (World.block_lt_of_cell? w _ G7)).trans G7;replace G8:=(HB.out.cell (World.block_lt_of_cell? w _ G8)).trans G8;replace G9:=(HB.out.cell (World.block_lt_of_cell? w _ G9)).trans G9;replace p420:=eq_true p420;replace q420:=eq_true q420;go_wp2;repeat (go_quiet (fail);try go_wp2)
                    go_roundg k2
                    case measure=>have:=HJ2.out;have:=oQ.out;omega
                    case rel=>exact ⟨(wrap64 (iF+1)),be,H',⟨by have:=HJ2.out;have:=oQ.out;omega⟩,⟨dV eU.out⟩,⟨dV fT.out⟩,⟨cZ⟩⟩
                · rw [if_neg c28] at H
                  exact absurd H (by simp)
              · rw [if_neg c27] at H
                exact absurd H (by simp)
            · rw [if_neg JM] at H
              have F_:decide (iF<(aI.length:Int))=false:=decide_eq_false JM;clear JM;obtain rfl:=Option.some.inj H;have hnb36:=qK.out;have hnc36:=qL.out;have hcz37_0:=bc0 eU;have hcz37_1:=bc1 eU;have hcz37_2:=bc2 eU;have hcz37_3:=bc3 eU;have hcz37_4:=oP eU;have hfz37_0:=bz eU 0;have hfz37_1:=bz eU 1;have hfz37_2:=bz eU 2;have hfz37_3:=bz eU 3;have hfz37_4:=bz eU 4;go_wp2;repeat (go_quiet (fail);try go_wp2)
              go_ret;exact ⟨by first|rfl|(simp [aX,aY] <;> rfl)|(simp [*,aX,aY] <;> rfl),cZ⟩
end Go.Proofs.Ytapinbmkjkbkkaa.Lb
