import Derived.Test.YtapinbmkjkbkkaaBuVi
import Derived.Test.YtapinbmkjkbkkaaBuLbe
import Derived.Test.YtapinbmkjkbkkaaBuLbf
namespace Go.Proofs.Ytapinbmkjkbkkaa.Lb
open Go.RowKit Go.Proofs.aC.bE Go.Proofs.aC.bV Go.Proofs.aC.bY
attribute [local go_sem] kY kZ nO nP kC kD lC lD
set_option linter.unusedVariables false
set_option linter.unusedSimpArgs false
def gF.f (a0:Int):Option (Bool):=if a0 ≥ 97 then (if a0≤122 then (some true) else (if a0 ≥ 65 then (if a0≤90 then (some true) else (some (a0==95))) else (some (a0==95)))) else (if a0 ≥ 65 then (if a0≤90 then (some true) else (some (a0==95))) else (some (a0==95)))
set_option maxHeartbeats 8000000 in
set_option maxRecDepth 100000 in
theorem gF.calls (a0:Int) (r:Bool) (w:World) (h:gF.f a0=some r) :
    Calls Try.prog 94 #[.int .u8 a0] w fun e w'=>e = .returned (.bool r)∧jN w w':=by
  have H:(if a0 ≥ 97 then (if a0≤122 then (some true) else (if a0 ≥ 65 then (if a0≤90 then (some true) else (some (a0==95))) else (some (a0==95)))) else (if a0 ≥ 65 then (if a0≤90 then (some true) else (some (a0==95))) else (some (a0==95))))=some r:=h;clear h;by_cases c2:a0 ≥ 97
  · rw [if_pos c2] at H
    have vP:decide (97≤a0)=true:=decide_eq_true c2;clear c2;by_cases c3:a0≤122
    · rw [if_pos c3] at H
      have mG:decide (a0≤122)=true:=decide_eq_true c3;clear c3;obtain rfl:=Option.some.inj H;go_enter Try.func94,Try.ntmps94;go_wp2;go_ret;exact ⟨be,bd⟩
    · rw [if_neg c3] at H
      have mG:decide (a0≤122)=false:=decide_eq_false c3;clear c3;by_cases c4:a0 ≥ 65
      · rw [if_pos c4] at H
        have qX:decide (65≤a0)=true:=decide_eq_true c4;clear c4;by_cases c5:a0≤90
        · rw [if_pos c5] at H
          have uB:decide (a0≤90)=true:=decide_eq_true c5;clear c5;obtain rfl:=Option.some.inj H;go_enter Try.func94,Try.ntmps94;go_wp2;go_ret;exact ⟨be,bd⟩
        · rw [if_neg c5] at H
          have uB:decide (a0≤90)=false:=decide_eq_false c5;clear c5;obtain rfl:=Option.some.inj H;go_enter Try.func94,Try.ntmps94;go_wp2;go_ret;exact ⟨be,bd⟩
      · rw [if_neg c4] at H
        have qX:decide (65≤a0)=false:=decide_eq_false c4;clear c4;obtain rfl:=Option.some.inj H;go_enter Try.func94,Try.ntmps94;go_wp2;go_ret;exact ⟨be,bd⟩
  · rw [if_neg c2] at H
    have vP:decide (97≤a0)=false:=decide_eq_false c2;clear c2;by_cases c6:a0 ≥ 65
    · rw [if_pos c6] at H
      have zB:decide (65≤a0)=true:=decide_eq_true c6;clear c6;by_cases c7:a0≤90
      · rw [if_pos c7] at H
        have DX:decide (a0≤90)=true:=decide_eq_true c7;clear c7;obtain rfl:=Option.some.inj H;go_enter Try.func94,Try.ntmps94;go_wp2;go_ret;exact ⟨be,bd⟩
      · rw [if_neg c7] at H
        have DX:decide (a0≤90)=false:=decide_eq_false c7;clear c7;obtain rfl:=Option.some.inj H;go_enter Try.func94,Try.ntmps94;go_wp2;go_ret;exact ⟨be,bd⟩
    · rw [if_neg c6] at H
      have zB:decide (65≤a0)=false:=decide_eq_false c6;clear c6;obtain rfl:=Option.some.inj H;go_enter Try.func94,Try.ntmps94;go_wp2;go_ret;exact ⟨be,bd⟩
def iV.f (a0:Int):Option (Bool):=if a0 ≥ 48 then (some (decide (a0≤57))) else (some false)
set_option maxHeartbeats 8000000 in
set_option maxRecDepth 100000 in
theorem iV.calls (a0:Int) (r:Bool) (w:World) (h:iV.f a0=some r) :
    Calls Try.prog 95 #[.int .u8 a0] w fun e w'=>e = .returned (.bool r)∧jN w w':=by
  have H:(if a0 ≥ 48 then (some (decide (a0≤57))) else (some false))=some r:=h;clear h;by_cases c2:a0 ≥ 48
  · rw [if_pos c2] at H
    have vP:decide (48≤a0)=true:=decide_eq_true c2;clear c2;obtain rfl:=Option.some.inj H;go_enter Try.func95,Try.ntmps95;go_wp2;go_ret;exact ⟨be,bd⟩
  · rw [if_neg c2] at H
    have vP:decide (48≤a0)=false:=decide_eq_false c2;clear c2;obtain rfl:=Option.some.inj H;go_enter Try.func95,Try.ntmps95;go_wp2;go_ret;exact ⟨be,bd⟩
mutual
def bD.j0:Nat→ByteArray→Bool→Option (Bool)
  |0,_,_=>none
  |k+1,x0,x16=>if x16=true then (some false) else (bD.l0 k x0 1)
def bD.l0:Nat→ByteArray→Int→Option (Bool)
  |0,_,_=>none
  |k+1,x0,x3=>if x3<(x0.size:Int) then (if 0≤x3 then ((gF.f (bt x0 x3)).bind fun t544=>(if t544=true then (bD.l0 k x0 (wrap64 (x3+1))) else ((iV.f (bt x0 x3)).bind fun aA9=>(if aA9=true then (bD.l0 k x0 (wrap64 (x3+1))) else (some false))))) else (none)) else (some true)
end
def bD.f (k:Nat) (a0:ByteArray):Option (Bool):=if a0.toList=([]:List UInt8) then (bD.j0 k a0 true) else (if (a0.size:Int) > 64 then (bD.j0 k a0 true) else (if 0<(a0.size:Int) then ((gF.f (bt a0 0)).bind fun t543=>(bD.j0 k a0 (!t543))) else (none)))
set_option maxHeartbeats 8000000 in
set_option maxRecDepth 100000 in
theorem bD.calls (k:Nat) (a0:ByteArray) (r:Bool) (w:World) (h:bD.f k a0=some r) :
    Calls Try.prog 86 #[.string a0] w fun e w'=>e = .returned (.bool r)∧jN w w':=by
  have H:(if a0.toList=([]:List UInt8) then (bD.j0 k a0 true) else (if (a0.size:Int) > 64 then (bD.j0 k a0 true) else (if 0<(a0.size:Int) then ((gF.f (bt a0 0)).bind fun t543=>(bD.j0 k a0 (!t543))) else (none))))=some r:=h;clear h;have OO:=bA H;clear H;go_enter Try.func86,Try.ntmps86;go_upto_region 1 with (fail)
  go_cut [16] (fun v16 wc=>∃ (kq:Nat) (gU:Bool),v16 = .bool gU∧aA (bD.j0 kq a0 gU=some r)∧aA (kq≤k)∧jN w wc)
  case first =>
    have H:=OO.out;clear OO;by_cases c3:a0.toList=([]:List UInt8)
    · rw [if_pos c3] at H
      have mG:(a0.toList==([]:List UInt8))=true:=beq_iff_eq.mpr c3;have U4:(a0.toList != ([]:List UInt8))=false:=bne_eq_false_iff_eq.mpr c3;clear c3
      (first|rw [mG]|(simp only [iP,jB];rw [mG])|skip)
      have H':=bA H;clear H;go_wp2;go_meet
      case rel=>exact ⟨_,(true),be,H',⟨by first|omega|exact Nat.le_refl _⟩,bd⟩
    · rw [if_neg c3] at H
      have mG:(a0.toList==([]:List UInt8))=false:=beq_eq_false_iff_ne.mpr c3;have U4:(a0.toList != ([]:List UInt8))=true:=bne_iff_ne.mpr c3
      (first|rw [mG]|(simp only [iP,jB];rw [mG])|skip)
      by_cases c4:(a0.size:Int) > 64
      · rw [if_pos c4] at H
        have qX:decide (64<(a0.size:Int))=true:=decide_eq_true c4;have CJ:decide (64<a0.size)=true:=decide_eq_true (by omega);clear c4;have H':=bA H;clear H;go_wp2;go_meet
        case rel=>exact ⟨_,(true),be,H',⟨by first|omega|exact Nat.le_refl _⟩,bd⟩
      · rw [if_neg c4] at H
        have qX:decide (64<(a0.size:Int))=false:=decide_eq_false c4;have CJ:decide (64<a0.size)=false:=decide_eq_false (by omega);clear c4;by_cases c5:0<(a0.size:Int)
        · rw [if_pos c5] at H
          have uB:decide (0<(a0.size:Int))=true:=decide_eq_true c5;have WT:decide (0<a0.size)=true:=decide_eq_true (by omega);clear c5;replace H:=Option.bind_eq_some_iff.mp H;obtain ⟨t543,A70,H⟩:=H;replace H:(bD.j0 k a0 (!t543))=some r:=H;have A7:=bA A70;clear A70;have H':=bA H;clear H;have p6:0≤(0:Int):=(by omega);have q6:0<a0.size:=(by have:(0:Int)<(a0.size:Int):=of_decide_eq_true (by first|(with_reducible assumption)|assumption);omega);have hx6 : ∀ h:0<a0.size,((a0[0]'h).toNat:Int)=bt a0 0:=O6 a0 0;clear p6;have qi6:(0<(a0.size:Int))=True:=eq_true (of_decide_eq_true (by first|(with_reducible assumption)|assumption));replace q6:=eq_true q6;go_wp2_with (first|(go_at_call 94;(with_reducible refine (gF.calls (bt a0 0) t543 _ A7.out).mono ?_);rintro e w' ⟨rfl,⟨nd,rfl⟩⟩))
          go_meet
          case rel=>exact ⟨_,(!t543),be,H',⟨by first|omega|exact Nat.le_refl _⟩,bd⟩
        · rw [if_neg c5] at H
          exact absurd H (by simp)
  case rest =>
    clear OO;obtain ⟨kq,gU,rfl,HA,HJ1,⟨mc1,rfl⟩⟩:=hcut;cases kq with
    |zero=>exact absurd HA.out (by simp [bD.j0])
    |succ kj1 =>
      have H:=HA.out;clear HA;simp only [bD.j0] at H;by_cases c8:gU=true
      · subst c8
        have H1:(some false)=some r:=(by rw [if_pos rfl] at H;exact H);clear H;have H:=H1;clear H1;obtain rfl:=Option.some.inj H;go_wp2;go_ret;exact ⟨be,bd⟩
      · replace c8:=Bool.eq_false_iff.mpr c8
        subst c8;have H1:(bD.l0 kj1 a0 1)=some r:=(by rw [if_neg (show ¬ (false=true) by decide)] at H;exact H);clear H;have H:=H1;clear H1;have H':=bA H;clear H;go_wp2;go_loopg [3] kj1 (fun kq v3 w'=>∃ (eH:Int),v3 = .int .i64 eH∧aA (bD.l0 kq a0 eH=some r)∧aA (kq≤kj1)∧jN w w')
        case atStart=>exact ⟨(1),be,H',⟨Nat.le_refl _⟩,bd⟩
        case round =>
          clear H';(try clear c8);obtain ⟨eH,rfl,HA,oQ,⟨m2,rfl⟩⟩:=hrel;cases gk with
          |zero=>exact absurd HA.out (by simp [bD.l0])
          |succ k2 =>
            have H:=HA.out;clear HA;simp only [bD.l0] at H;by_cases c9:eH<(a0.size:Int)
            · rw [if_pos c9] at H
              have OA:decide (eH<(a0.size:Int))=true:=decide_eq_true c9;clear c9;by_cases c10:0≤eH
              · rw [if_pos c10] at H
                have EP:decide (0≤eH)=true:=decide_eq_true c10;clear c10;replace H:=Option.bind_eq_some_iff.mp H;obtain ⟨t544,A120,H⟩:=H;replace H:(if t544=true then (bD.l0 k2 a0 (wrap64 (eH+1))) else ((iV.f (bt a0 eH)).bind fun aA9=>(if aA9=true then (bD.l0 k2 a0 (wrap64 (eH+1))) else (some false))))=some r:=H;have A12:=bA A120;clear A120;by_cases c13:t544=true
                · subst c13
                  have H1:(bD.l0 k2 a0 (wrap64 (eH+1)))=some r:=(by rw [if_pos rfl] at H;exact H);clear H;have H:=H1;clear H1;have H':=bA H;clear H;have p11:0≤(eH:Int):=of_decide_eq_true (by first|(with_reducible assumption)|assumption);have q11:eH<(a0.size:Int):=of_decide_eq_true (by first|(with_reducible assumption)|assumption);have hx11:=O6 a0 eH;replace p11:=eq_true p11;replace q11:=eq_true q11;go_wp2_with (first|((with_reducible refine cK (f:=94) rfl ?_);refine gJ (some 26) rfl rfl Try.func94 (by kernel_rfl) rfl #[.int .u8 (bt a0 eH)] rfl bm ?_;(with_reducible refine (gF.calls (bt a0 eH) true _ A12.out).mono ?_);rintro e w' ⟨rfl,⟨nd,rfl⟩⟩;refine ⟨_,rfl,?_⟩))
                  go_roundg k2
                  case measure=>have:=HJ1.out;have:=oQ.out;omega
                  case rel=>exact ⟨(wrap64 (eH+1)),be,H',⟨by have:=HJ1.out;have:=oQ.out;omega⟩,bd⟩
                · replace c13:=Bool.eq_false_iff.mpr c13
                  subst c13;have H1:((iV.f (bt a0 eH)).bind fun aA9=>(if aA9=true then (bD.l0 k2 a0 (wrap64 (eH+1))) else (some false)))=some r:=(by rw [if_neg (show ¬ (false=true) by decide)] at H;exact H);clear H;have H:=H1;clear H1;replace H:=Option.bind_eq_some_iff.mp H;obtain ⟨aA9,A150,H⟩:=H;replace H:(if aA9=true then (bD.l0 k2 a0 (wrap64 (eH+1))) else (some false))=some r:=H;have A15:=bA A150;clear A150;by_cases c16:aA9=true
                  · subst c16
                    have H1:(bD.l0 k2 a0 (wrap64 (eH+1)))=some r:=(by rw [if_pos rfl] at H;exact H);clear H;have H:=H1;clear H1;have H':=bA H;clear H;have p11:0≤(eH:Int):=of_decide_eq_true (by first|(with_reducible assumption)|assumption);have q11:eH<(a0.size:Int):=of_decide_eq_true (by first|(with_reducible assumption)|assumption);have hx11:=O6 a0 eH;replace p11:=eq_true p11;replace q11:=eq_true q11;go_wp2_with (first|((with_reducible refine cK (f:=94) rfl ?_);refine gJ (some 26) rfl rfl Try.func94 (by kernel_rfl) rfl #[.int .u8 (bt a0 eH)] rfl bm ?_;(with_reducible refine (gF.calls (bt a0 eH) false _ A12.out).mono ?_);rintro e w' ⟨rfl,⟨nd,rfl⟩⟩;refine ⟨_,rfl,?_⟩;have p14:0≤(eH:Int):=of_decide_eq_true (by first|(with_reducible assumption)|assumption);have q14:eH<(a0.size:Int):=of_decide_eq_true (by first|(with_reducible assumption)|assumption);have hx14:=O6 a0 eH;replace p14:=eq_true p14;replace q14:=eq_true q14)|(go_at_call 95;(with_reducible refine (iV.calls (bt a0 eH) true _ A15.out).mono ?_);rintro e w' ⟨rfl,⟨nd,rfl⟩⟩))
                    go_roundg k2
                    case measure=>have:=HJ1.out;have:=oQ.out;omega
                    case rel=>exact ⟨(wrap64 (eH+1)),be,H',⟨by have:=HJ1.out;have:=oQ.out;omega⟩,bd⟩
                  · replace c16:=Bool.eq_false_iff.mpr c16
                    subst c16;have H1:(some false)=some r:=(by rw [if_neg (show ¬ (false=true) by decide)] at H;exact H);clear H;have H:=H1;clear H1;obtain rfl:=Option.some.inj H;have p11:0≤(eH:Int):=of_decide_eq_true (by first|(with_reducible assumption)|assumption);have q11:eH<(a0.size:Int):=of_decide_eq_true (by first|(with_reducible assumption)|assumption);have hx11:=O6 a0 eH;replace p11:=eq_true p11;replace q11:=eq_true q11;go_wp2_with (first|((with_reducible refine cK (f:=94) rfl ?_);refine gJ (some 26) rfl rfl Try.func94 (by kernel_rfl) rfl #[.int .u8 (bt a0 eH)] rfl bm ?_;(with_reducible refine (gF.calls (bt a0 eH) false _ A12.out).mono ?_);rintro e w' ⟨rfl,⟨nd,rfl⟩⟩;refine ⟨_,rfl,?_⟩;have p14:0≤(eH:Int):=of_decide_eq_true (by first|(with_reducible assumption)|assumption);have q14:eH<(a0.size:Int):=of_decide_eq_true (by first|(with_reducible assumption)|assumption);have hx14:=O6 a0 eH;replace p14:=eq_true p14;replace q14:=eq_true q14)|(go_at_call 95;(with_reducible refine (iV.calls (bt a0 eH) false _ A15.out).mono ?_);rintro e w' ⟨rfl,⟨nd,rfl⟩⟩))
                    go_ret;exact ⟨be,bd⟩
              · rw [if_neg c10] at H
                exact absurd H (by simp)
            · rw [if_neg c9] at H
              have OA:decide (eH<(a0.size:Int))=false:=decide_eq_false c9;clear c9;obtain rfl:=Option.some.inj H;go_wp2;go_ret;exact ⟨be,bd⟩
end Go.Proofs.Ytapinbmkjkbkkaa.Lb
