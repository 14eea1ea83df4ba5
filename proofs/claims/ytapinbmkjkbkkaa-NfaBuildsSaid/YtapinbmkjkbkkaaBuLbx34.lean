import Derived.Test.YtapinbmkjkbkkaaBuVi
import Derived.Test.YtapinbmkjkbkkaaBuLbe
import Derived.Test.YtapinbmkjkbkkaaBuLbf
namespace Go.Proofs.Ytapinbmkjkbkkaa.Lb
open Go.RowKit Go.Proofs.aC.bE Go.Proofs.aC.bV Go.Proofs.aC.bY
attribute [local go_sem] kY kZ nO nP kC kD lC lD
set_option linter.unusedVariables false
set_option linter.unusedSimpArgs false
private theorem cZ {P:Prop} (h:P:=by repeat (first|(with_reducible first|exact HB.out|apply aN|apply bB|apply bX)|exact HB.out)):P:=h
def dG.l0:Nat→Int→List (List Bool)→Int→Option ((List (List Bool)))
  |0,_,_,_=>none
  |k+1,x0,x3,x4=>if x4≤x0 then (if 0≤(wrap64 (x0+1)) then (if (wrap64 (x0+1):Int).toNat≤281474976710656 then (if 0≤x4 then (if x4<(x3.length:Int) then (dG.l0 k x0 (x3.set (x4:Int).toNat (List.replicate (wrap64 (x0+1):Int).toNat false)) (wrap64 (x4+1))) else (none)) else (none)) else (none)) else (none)) else (some x3)
def dG.f (k:Nat) (a0:Int):Option ((List (List Bool))):=if 0≤(wrap64 (a0+1)) then (if (wrap64 (a0+1):Int).toNat≤11728124029610 then (dG.l0 k a0 (List.replicate (wrap64 (a0+1):Int).toNat []) 0) else (none)) else (none)
set_option maxHeartbeats 8000000 in
set_option maxRecDepth 100000 in
theorem dG.calls (k:Nat) (a0:Int) (r:List (List Bool)) (w:World) (h:dG.f k a0=some r) :
    Calls Try.prog 74 #[.int .i64 a0] w fun e w'=>∃ yR:Value,e = .returned (yR)∧Kd.S (Kd.slice 4 Kd.bool) 44 w' w.heap.size (fun _=>True) yR r∧Below w.heap.size w w':=by
  have HB:=bA (Below.refl w.heap.size w);have H:(if 0≤(wrap64 (a0+1)) then (if (wrap64 (a0+1):Int).toNat≤11728124029610 then (dG.l0 k a0 (List.replicate (wrap64 (a0+1):Int).toNat []) 0) else (none)) else (none))=some r:=h;clear h;obtain ⟨LX,RL⟩ : ∃ j_:Int,(wrap64 (a0+1))=j_:=⟨_,rfl⟩;replace H:(if 0≤(LX) then (if (LX:Int).toNat≤11728124029610 then (dG.l0 k a0 (List.replicate (LX:Int).toNat []) 0) else (none)) else (none))=some r:=(by first|(rw [RL] at H;exact H)|(simp only [RL] at H ⊢;exact H));have hji2w:(IntKind.i64.wrap (a0+1))=LX:=(iP _).trans RL;by_cases c3:0≤(LX)
  · rw [if_pos c3] at H
    have mG:=eq_true c3;have U4:decide (0≤(LX))=true:=decide_eq_true c3;clear c3;by_cases c4:(LX:Int).toNat≤11728124029610
    · rw [if_pos c4] at H
      have qX:=eq_true c4;have CJ:decide ((LX:Int).toNat≤11728124029610)=true:=decide_eq_true c4;clear c4;obtain ⟨y580,aAC⟩ : ∃ y_:List (List Bool),y_=(List.replicate (LX:Int).toNat []):=⟨_,rfl⟩;replace H:(dG.l0 k a0 y580 0)=some r:=(by first|(rw [aAC];with_reducible exact H)|(have mH:=(Option.bind_some _ _).symm.trans H;rw [aAC];with_reducible exact mH)|(have mH:=(Option.bind_some _ _).symm.trans H;with_reducible exact mH)|with_reducible exact H|(rw [aAC];exact H)|exact H);have Ny580:=bA aAC;clear aAC;have H':=bA H;clear H;go_enter Try.func74,Try.ntmps74;go_wp2_with (first|((with_reducible refine dB (N:=7) rfl ?_);refine Kd.S_make (Kd.slice 4 Kd.bool) _ 44 rfl (N:=7) rfl 89 _ _ rfl LX rfl rfl Try.underlying89 (.slice none 0 0) 24 UG rfl (by decide) (by omega) [] (ok:=fun _=>True) (vB:=fun _=>True) ⟨_,rfl,Kd.kJ _ _ _ _ _⟩ (fun _ hk=>hk) trivial gQ (Nat.le_trans (Nat.mul_le_mul_right _ (gQ:LX.toNat≤11728124029610)) (by omega)) (Below.refl _ _) (Nat.le_refl _) ?_;intro v581 w5 ho6 hb J_ wJ;clear J_ wJ;(first|rw [←Ny580.out] at ho6|(simp only [Int.reduceToNat] at ho6;rw [←Ny580.out] at ho6));have HO582:=bA (Kd.XI ho6 (dO cZ));replace HB:=bA (aU cZ hb);clear hb ho6))
      go_loopg [4] k (fun kq v4 w'=>∃ (fG:List (List Bool)) (iN:Int),v4 = .int .i64 iN∧aA (dG.l0 kq a0 fG iN=some r)∧aA (kq≤k)∧aA (Kd.S (Kd.slice 4 Kd.bool) 44 w' w.heap.size (fun _=>True) v581 fG)∧aA (Below w.heap.size w w'))
      case atStart=>exact ⟨(y580),(0),be,H',⟨Nat.le_refl _⟩,⟨viS HO582.out⟩,⟨cZ⟩⟩
      case round =>
        clear H';(try clear c3);(try clear mG);(try clear U4);(try clear c4);(try clear qX);(try clear CJ);obtain ⟨fG,iN,rfl,HA,iC,oM,HB⟩:=hrel;cases gk with
        |zero=>exact absurd HA.out (by simp [dG.l0])
        |succ k1 =>
          have H:=HA.out;clear HA;simp only [dG.l0] at H;by_cases c7:iN≤a0
          · rw [if_pos c7] at H
            have DX:decide (iN≤a0)=true:=decide_eq_true c7;clear c7;obtain ⟨XJ,XK⟩ : ∃ j_:Int,(wrap64 (a0+1))=j_:=⟨_,rfl⟩;replace H:(if 0≤(XJ) then (if (XJ:Int).toNat≤281474976710656 then (if 0≤iN then (if iN<(fG.length:Int) then (dG.l0 k1 a0 (fG.set (iN:Int).toNat (List.replicate (XJ:Int).toNat false)) (wrap64 (iN+1))) else (none)) else (none)) else (none)) else (none))=some r:=(by first|(rw [XK] at H;exact H)|(simp only [XK] at H ⊢;exact H));have hji8w:(IntKind.i64.wrap (a0+1))=XJ:=(iP _).trans XK;obtain rfl:XJ=LX:=XK.symm.trans RL;by_cases c9:0≤(XJ)
            · rw [if_pos c9] at H
              have OA:=eq_true c9;have c9b1:decide (0≤(XJ))=true:=decide_eq_true c9;clear c9;by_cases c10:(XJ:Int).toNat≤281474976710656
              · rw [if_pos c10] at H
                have EP:=eq_true c10;have c10b1:decide ((XJ:Int).toNat≤281474976710656)=true:=decide_eq_true c10;clear c10;obtain ⟨y583,aAD⟩ : ∃ y_:List Bool,y_=(List.replicate (XJ:Int).toNat false):=⟨_,rfl⟩;replace H:(if 0≤iN then (if iN<(fG.length:Int) then (dG.l0 k1 a0 (fG.set (iN:Int).toNat y583) (wrap64 (iN+1))) else (none)) else (none))=some r:=(by first|(rw [aAD];with_reducible exact H)|(have mH:=(Option.bind_some _ _).symm.trans H;rw [aAD];with_reducible exact mH)|(have mH:=(Option.bind_some _ _).symm.trans H;with_reducible exact mH)|with_reducible exact H|(rw [aAD];exact H)|exact H);have Ny583:=bA aAD;clear aAD;by_cases c11:0≤iN
                · rw [if_pos c11] at H
                  have aA0:decide (0≤iN)=true:=decide_eq_true c11;clear c11;by_cases c12:iN<(fG.length:Int)
                  · rw [if_pos c12] at H
                    have rX:decide (iN<(fG.length:Int))=true:=decide_eq_true c12;clear c12;obtain ⟨y586,aAE⟩ : ∃ y_:List (List Bool),y_=(fG.set (iN:Int).toNat y583):=⟨_,rfl⟩;replace H:(dG.l0 k1 a0 y586 (wrap64 (iN+1)))=some r:=(by first|(rw [aAE];with_reducible exact H)|(have mH:=(Option.bind_some _ _).symm.trans H;rw [aAE];with_reducible exact mH)|(have mH:=(Option.bind_some _ _).symm.trans H;with_reducible exact mH)|with_reducible exact H|(rw [aAE];exact H)|exact H);have Ny586:=bA aAE;clear aAE;have H':=bA H;clear H;go_wp2_with (first|((with_reducible refine dB (N:=17) rfl ?_);refine Kd.IK Kd.bool _ 4 rfl (N:=17) rfl 44 _ _ rfl XJ rfl rfl Try.underlying44 (.bool false) 1 X_ rfl (by decide) (by omega) false (ok:=fun _=>True) (vB:=fun _=>True) rfl (fun _ hk=>hk) trivial gQ (Nat.le_trans (Nat.mul_le_mul_right _ (gQ:XJ.toNat≤281474976710656)) (by omega)) (Below.refl _ _) (Nat.le_refl _) ?_;intro v584 w14 ho15 hb J_ wJ;clear J_ wJ;(first|rw [←Ny583.out] at ho15|(simp only [Int.reduceToNat] at ho15;rw [←Ny583.out] at ho15));replace oM:=bA (Kd.S_elder' (viS oM.out) (Kd.sW ho15) hb);have HO585:=bA (Kd.iH ho15 (dO cZ));replace HB:=bA (aU cZ hb);clear hb ho15;have p13:0≤(iN:Int):=gQ;have q13:(iN:Int)<((fG.length:Int):Int):=gQ;obtain ⟨RO,co13,eo13,gb13,gl13,cl13,HG13⟩:=Kd.S_form oM.out (by omega);(first|cases eo13|(injection eo13 with yO Q_ R_;(first|subst yO|(injection yO with yO;subst yO));subst R_;clear Q_));have GB13:=bA gb13;have GG13:=bA HG13;clear gb13 gl13 HG13;obtain ⟨_,ce13,hcl13,hM13,hcc13,hfr13,_,_⟩:=Kd.S_elem oM.out [] (iN:Int) p13 q13;obtain ⟨ve13_0,rfl,ge13_0⟩:=hM13;have hx13_0:=hcc13 0 _ rfl;have hf13_0:=hfr13 0;(try simp only [show ((Kd.slice 4 Kd.bool)).sz=1 from rfl,Nat.mul_one,Nat.add_zero] at hx13_0);(try simp only [show ((Kd.slice 4 Kd.bool)).sz=1 from rfl,Nat.mul_one,Nat.add_zero] at hf13_0);clear hcl13 hcc13 hfr13;replace p13:=eq_true p13;replace q13:=eq_true q13;have n_:=bA (Kd.XL (ok':=(fun k_=>some k_≠(v584:Value).ownBlock)) oM.out (fun k_ hk=>hk.2));clear oM;have oM:=n_;clear n_;have HX16:=bA (show Kd.S (Kd.slice 4 Kd.bool) 44 w14 w.heap.size (fun k_=>((fun _=>True)) k_∧¬ ((fun k_=>some k_=(v584:Value).ownBlock)) k_) (.slice (some ⟨RO,0,none⟩) fG.length co13) fG from (by refine viS ?_;exact Kd.XL oM.out (fun k_ hk=>⟨trivial,fun e_=>hk e_⟩)));obtain ⟨oki16,ce16,hcl16,hM16,hcc16,hfr16,hoki16,hH16⟩:=Kd.S_elem HX16.out [] (iN:Int) gQ (by have h_:(iN:Int)<((fG.length:Int):Int):=gQ;first|exact h_|(have e_:=(Kd.V7 oM.out).1;omega)|simpa using h_);obtain ⟨ve16_0,rfl,ge16_0⟩:=hM16;have HP16:=Kd.S_seg hH16 gQ (by have h_:(iN:Int)<((fG.length:Int):Int):=gQ;first|exact h_|(have e_:=(Kd.V7 oM.out).1;omega)|simpa using h_) (wP:=[v584]) (j:=0) (show 1≤1 from by decide) (x':=y583) (Kd.M_row (Kd.dH (Kd.nR rfl (Kd.dH (ok':=fun k_=>((fun _=>True)) k_∧k_≠RO) (Kd.iM (HO585.out) (Kd.S_typed oM.out) (by decide)) (fun k_ hk=>⟨trivial,fun e_=>(hk.2) (by rw [e_];rfl)⟩))) (fun _ h_=>Or.inr (h_)))) (fun _ hk=>hk) (fun k_ hk_=>((Kd.dH (ok':=fun k_=>((fun _=>True)) k_∧k_≠RO) (Kd.iM (HO585.out) (Kd.S_typed oM.out) (by decide)) (fun k_ hk=>⟨trivial,fun e_=>(hk.2) (by rw [e_];rfl)⟩))).1 k_ hk_.symm);have hx16_0:=hcc16 0 _ rfl;(try simp only [show ((Kd.slice 4 Kd.bool)).sz=1 from rfl,Nat.mul_one,Nat.add_zero] at hx16_0);have hf16_0:=hfr16 0;(try simp only [show ((Kd.slice 4 Kd.bool)).sz=1 from rfl,Nat.mul_one,Nat.add_zero] at hf16_0);clear hcl16 hcc16 hfr16 hoki16 hH16;(try simp only [show ((Kd.slice 4 Kd.bool)).sz=1 from rfl,Nat.mul_one,Nat.add_zero] at HP16))|((with_reducible refine kS (t:=44) (p:=18) rfl ?_);refine jY (t:=44) (p:=18) (v:=?vo_w17) (w1:=(w14.setCell ⟨RO,(iN:Int).toNat,none⟩ (v584))) ?hg ?ho ?hn ?hr ?_;(case ho=>rfl);(case hg=>rfl);(case hn=>rfl);(case hr=>obtain ⟨Av_,cv_,hv_⟩:=Kd.dY HO585.out;subst hv_;first|(go_simp;done)|(go_simp;rfl));intro w17 hw;have hg:w14.grownBy w17 (some RO):=(by rw [hw];exact HP16.2);have OI:Kd.S (Kd.slice 4 Kd.bool) 44 w17 w.heap.size (fun _=>True) (.slice (some ⟨RO,0,none⟩) fG.length co13) y586:=(by rw [hw,Ny586.out];exact HP16.1);clear HP16;replace oM:=bA (OI);replace HB:=bA ((by rw [hw];exact eB (HB.out) GB13.out:Below w.heap.size w w17));clear HO585;clear hg hw OI))
                    go_roundg k1
                    case measure=>have:=iC.out;omega
                    case rel=>exact ⟨(y586),(wrap64 (iN+1)),be,H',⟨by have:=iC.out;omega⟩,⟨viS oM.out⟩,⟨cZ⟩⟩
                  · rw [if_neg c12] at H
                    exact absurd H (by simp)
                · rw [if_neg c11] at H
                  exact absurd H (by simp)
              · rw [if_neg c10] at H
                exact absurd H (by simp)
            · rw [if_neg c9] at H
              exact absurd H (by simp)
          · rw [if_neg c7] at H
            have DX:decide (iN≤a0)=false:=decide_eq_false c7;clear c7;obtain rfl:=Option.some.inj H;go_wp2;go_ret;exact ⟨_,by first|rfl|(simp [aX,aY] <;> rfl)|(simp only [←RL];first|rfl|(simp [aX,aY] <;> rfl))|(simp [*,aX,aY] <;> rfl),viS oM.out,cZ⟩
    · rw [if_neg c4] at H
      exact absurd H (by simp)
  · rw [if_neg c3] at H
    exact absurd H (by simp)
def eG.l0:Nat→Int→List (List Bool)→Int→Option ((List (List Bool)))
  |0,_,_,_=>none
  |k+1,x0,x3,x4=>if x4≤x0 then (if 0≤x4 then (if x4<(x3.length:Int) then (if x4<((jJ x3 x4).length:Int) then (eG.l0 k x0 (x3.set (x4:Int).toNat ((jJ x3 x4).set (x4:Int).toNat true)) (wrap64 (x4+1))) else (none)) else (none)) else (none)) else (some x3)
def eG.f (k:Nat) (a0:Int):Option ((List (List Bool))):=(dG.f k a0).bind fun t587=>(eG.l0 k a0 t587 0)
set_option maxHeartbeats 8000000 in
set_option maxRecDepth 100000 in
theorem eG.calls (k:Nat) (a0:Int) (r:List (List Bool)) (w:World) (h:eG.f k a0=some r) :
    Calls Try.prog 75 #[.int .i64 a0] w fun e w'=>∃ yR:Value,e = .returned (yR)∧Kd.S (Kd.slice 4 Kd.bool) 44 w' w.heap.size (fun _=>True) yR r∧Below w.heap.size w w':=by
  have HB:=bA (Below.refl w.heap.size w);have H:((dG.f k a0).bind fun t587=>(eG.l0 k a0 t587 0))=some r:=h;clear h;replace H:=Option.bind_eq_some_iff.mp H;obtain ⟨t587,A20,H⟩:=H;replace H:(eG.l0 k a0 t587 0)=some r:=H;have A2:=bA A20;clear A20;have H':=bA H;clear H;go_enter Try.func75,Try.ntmps75;go_wp2_with (first|((with_reducible refine cK (f:=74) rfl ?_);refine gJ (some 6) rfl rfl Try.func74 (by kernel_rfl) rfl #[.int .i64 a0] rfl bm ?_;(with_reducible refine (dG.calls k a0 t587 _ A2.out).mono ?_);rintro e w3 ⟨v588,rfl,ho0,hb⟩;refine ⟨_,rfl,?_⟩;have HO589:=bA (Kd.XI ho0 (dO cZ));replace HB:=bA (aU cZ hb);(try clear hb);(try clear hb2);(try clear hk);(try clear hi);(try clear ho0)))
  go_loopg [4] k (fun kq v4 w'=>∃ (fG:List (List Bool)) (iN:Int),v4 = .int .i64 iN∧aA (eG.l0 kq a0 fG iN=some r)∧aA (kq≤k)∧aA (Kd.S (Kd.slice 4 Kd.bool) 44 w' w.heap.size (fun _=>True) v588 fG)∧aA (Below w.heap.size w w'))
  case atStart=>exact ⟨(t587),(0),be,H',⟨Nat.le_refl _⟩,⟨viS HO589.out⟩,⟨cZ⟩⟩
  case round =>
    clear H';obtain ⟨fG,iN,rfl,HA,iC,oM,HB⟩:=hrel;cases gk with
    |zero=>exact absurd HA.out (by simp [eG.l0])
    |succ k1 =>
      have H:=HA.out;clear HA;simp only [eG.l0] at H;by_cases c4:iN≤a0
      · rw [if_pos c4] at H
        have qX:decide (iN≤a0)=true:=decide_eq_true c4;clear c4;by_cases c5:0≤iN
        · rw [if_pos c5] at H
          have uB:decide (0≤iN)=true:=decide_eq_true c5;clear c5;by_cases c6:iN<(fG.length:Int)
          · rw [if_pos c6] at H
            have zB:decide (iN<(fG.length:Int))=true:=decide_eq_true c6;clear c6;by_cases c7:iN<((jJ fG iN).length:Int)
            · rw [if_pos c7] at H
              have DX:decide (iN<((jJ fG iN).length:Int))=true:=decide_eq_true c7;clear c7;obtain ⟨y591,aAF⟩ : ∃ y_:List Bool,y_=((jJ fG iN).set (iN:Int).toNat true):=⟨_,rfl⟩;replace H:(eG.l0 k1 a0 (fG.set (iN:Int).toNat y591) (wrap64 (iN+1)))=some r:=(by first|(rw [aAF];with_reducible exact H)|(have mH:=(Option.bind_some _ _).symm.trans H;rw [aAF];with_reducible exact mH)|(have mH:=(Option.bind_some _ _).symm.trans H;with_reducible exact mH)|with_reducible exact H|(rw [aAF];exact H)|exact H);have Ny591:=bA aAF;clear aAF;obtain ⟨y593,aAG⟩ : ∃ y_:List (List Bool),y_=(fG.set (iN:Int).toNat y591):=⟨_,rfl⟩;replace H:(eG.l0 k1 a0 y593 (wrap64 (iN+1)))=some r:=(by first|(rw [aAG];with_reducible exact H)|(have mH:=(Option.bind_some _ _).symm.trans H;rw [aAG];with_reducible exact mH)|(have mH:=(Option.bind_some _ _).symm.trans H;with_reducible exact mH)|with_reducible exact H|(rw [aAG];exact H)|exact H);have Ny593:=bA aAG;clear aAG;have H':=bA H;clear H;obtain ⟨Ao9,co9,eo9⟩:=Kd.S_slice oM.out;subst eo9;have p590:0≤(iN:Int):=gQ;have q590:iN<(fG.length:Int):=gQ;obtain ⟨ad590,A590_0,c590_0,e590,hx590_0,hl590_0,hi590_0⟩:=l_ (Kd.V7 oM.out).2.2 iN p590 q590;cases e590;obtain ⟨ce590,hce590,hMe590,hcc590⟩:=Kd.S_get oM.out [] iN p590 (by first|exact q590|exact gQ|(have e_:=(Kd.V7 oM.out).1;omega));obtain ⟨ve590_0,rfl,XM⟩:=hMe590;have FD:=hcc590 0 _ rfl;rw [Nat.add_zero,show ((Kd.slice 4 Kd.bool)).sz=1 from rfl,Nat.mul_one] at FD;replace FD:=Option.some.inj (FD.symm.trans hx590_0);rw [FD] at XM;have XN:=bA (show Kd.R Kd.bool 4 _ _ _ _ (jJ fG iN) from XM);clear FD XM;have HX590_0:=bA hx590_0;clear hcc590 hce590;have HR590_0:=bA hi590_0;have HC590_0:=bA hl590_0;clear hi590_0 hl590_0;replace p590:=eq_true p590;replace q590:=eq_true q590;have p8:0≤(iN:Int):=gQ;have q8:(iN:Int)<(((jJ fG iN).length:Int):Int):=gQ;obtain ⟨go8,co8,eo8,gb8,gl8,cl8,HG8⟩:=Kd.uL XN.out (by omega)
              (first|cases eo8|(injection eo8 with yO Q_ R_;(first|subst yO|(injection yO with yO;subst yO));subst R_;clear Q_))
              have GB8:=bA gb8;have GG8:=bA HG8;clear gb8 gl8 HG8;obtain ⟨hx8_0,hf8_0⟩:=Kd.rE false XN.out (iN:Int) p8 q8;replace p8:=eq_true p8;replace q8:=eq_true q8;have hq10:(iN:Int)<(fG.length:Int):=(by have h_:(iN:Int)<((fG.length:Int):Int):=gQ;first|exact h_|(have e_:=(Kd.V7 oM.out).1;omega)|simpa only [List.length_set,List.length_set] using h_);obtain ⟨oki10,ce10,hcl10,hM10,hcc10,hok10,hbk10⟩:=Kd.S_borrow oM.out [] (iN:Int) gQ hq10;obtain ⟨ve10_0,rfl,XO⟩:=hM10;have hv10:=hcc10 0 _ rfl;rw [Nat.add_zero,show ((Kd.slice 4 Kd.bool)).sz=1 from rfl,Nat.mul_one] at hv10;replace hv10:=Option.some.inj (hv10.symm.trans HX590_0.out);subst hv10;clear hcc10 hcl10;replace XO:=(show Kd.R Kd.bool 4 _ _ _ _ (jJ fG iN) from XO);have HP10:=Kd.BR XO (iN:Int) true;go_wp2_with (first|((with_reducible refine kS (t:=4) (p:=17) rfl ?_);refine jY (t:=4) (p:=17) (v:=?vo_w11) (w1:=(wr.setCell ⟨go8,(iN:Int).toNat,none⟩ (.bool true))) ?hg ?ho ?hn ?hr ?_;(case ho=>rfl);(case hg=>rfl);(case hn=>rfl);(case hr=>first|(go_simp;done)|(go_simp;rfl));intro w11 hw;have hg:wr.grownBy w11 (some go8):=(by rw [hw];exact HP10.2);have hz_:Kd.R Kd.bool 4 w11 w.heap.size oki10 (.slice (some ⟨go8,0,none⟩) (jJ fG iN).length c590_0) y591:=(by rw [hw,Ny591.out];exact HP10.1);have OI:Kd.S (Kd.slice 4 Kd.bool) 44 w11 w.heap.size (fun _=>True) (.slice (some ad590) fG.length co9) y593:=(by rw [Ny593.out];exact hbk10 hg (fun k_ e_=>by injection e_ with e_;subst e_;exact XO.1 _ rfl) (Kd.M_row hz_));have hm_:=Kd.dH hz_ hok10;clear HP10 hbk10;replace oM:=bA (OI);replace HB:=bA ((by rw [hw];exact eB (HB.out) GB8.out:Below w.heap.size w w11));have HL594:=bA (hm_);have HC592:=bA ((Kd.cO hm_).2.1);clear XN;clear hg hw OI hz_ hm_ hok10))
              go_roundg k1
              case measure=>have:=iC.out;omega
              case rel=>exact ⟨(y593),(wrap64 (iN+1)),be,H',⟨by have:=iC.out;omega⟩,⟨viS oM.out⟩,⟨cZ⟩⟩
            · rw [if_neg c7] at H
              exact absurd H (by simp)
          · rw [if_neg c6] at H
            exact absurd H (by simp)
        · rw [if_neg c5] at H
          exact absurd H (by simp)
      · rw [if_neg c4] at H
        have qX:decide (iN≤a0)=false:=decide_eq_false c4;clear c4;obtain rfl:=Option.some.inj H;go_wp2;go_ret;exact ⟨_,by first|rfl|(simp [aX,aY] <;> rfl)|(simp [*,aX,aY] <;> rfl),viS oM.out,cZ⟩
end Go.Proofs.Ytapinbmkjkbkkaa.Lb
