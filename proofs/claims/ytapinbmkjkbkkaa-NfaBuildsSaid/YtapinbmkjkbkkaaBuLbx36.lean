import Derived.Test.YtapinbmkjkbkkaaBuVi
import Derived.Test.YtapinbmkjkbkkaaBuLbe
import Derived.Test.YtapinbmkjkbkkaaBuLbf
namespace Go.Proofs.Ytapinbmkjkbkkaa.Lb
open Go.RowKit Go.Proofs.aC.bE Go.Proofs.aC.bV Go.Proofs.aC.bY
attribute [local go_sem] kY kZ nO nP kC kD lC lD
set_option linter.unusedVariables false
set_option linter.unusedSimpArgs false
private theorem cZ {P:Prop} (h:P:=by repeat (first|(with_reducible first|exact HB.out|apply aN|apply bB|apply bX)|exact HB.out)):P:=h
def eF.l0:Nat→List ByteArray→List Int→List ByteArray→Int→Option (List ByteArray)
  |0,_,_,_,_=>none
  |k+1,x0,x1,x5,x6=>if x6<(x1.length:Int) then (if 0≤x6 then (if 0≤(rd x1 x6) then (if (rd x1 x6)<(x0.length:Int) then (if x5.length<8796093022208 then (eF.l0 k x0 x1 (x5 ++ [fF ByteArray.empty x0 (rd x1 x6)]) (wrap64 (x6+1))) else (none)) else (none)) else (none)) else (none)) else (some x5)
def eF.f (k:Nat) (l0:List ByteArray) (l1:List Int):Option (List ByteArray):=eF.l0 k l0 l1 ([]:List ByteArray) 0
set_option maxHeartbeats 8000000 in
set_option maxRecDepth 100000 in
theorem eF.calls (k:Nat) (A0:Option Addr) (c0:Nat) (l0:List ByteArray) (A1:Option Addr) (c1:Nat) (l1:List Int) (r:List ByteArray) (w:World) (hr0:Kd.C Kd.string w A0 l0.length l0) (hc0:l0.length≤c0) (hr1:Kd.C (Kd.int .i64) w A1 l1.length l1) (hc1:l1.length≤c1) (h:eF.f k l0 l1=some r) :
    Calls Try.prog 16 #[.slice A0 l0.length c0,.slice A1 l1.length c1] w fun e w'=>∃ yR:Value,e = .returned (yR)∧Kd.R Kd.string 9 w' w.heap.size (fun _=>True) yR r∧Below w.heap.size w w':=by
  have P6:=bA hr0;have HC0:=bA hc0;clear hr0 hc0;have HR1:=bA hr1;have SH:=bA hc1;clear hr1 hc1;have HB:=bA (Below.refl w.heap.size w);have H:(eF.l0 k l0 l1 ([]:List ByteArray) 0)=some r:=h;clear h;have H':=bA H;clear H;go_enter Try.func16,Try.ntmps16;go_wp2;go_loopg [5,6] k (fun kq v5 v6 w'=>∃ (fU:List ByteArray) (iO:Int),v6 = .int .i64 iO∧aA (eF.l0 kq l0 l1 fU iO=some r)∧aA (kq≤k)∧aA (Kd.R Kd.string 9 w' w.heap.size (fun _=>True) v5 fU)∧aA (Below w.heap.size w w'))
  case atStart=>exact ⟨(([]:List ByteArray)),(0),be,H',⟨Nat.le_refl _⟩,⟨by first|exact Kd.kJ _ _ _ _ _|exact Kd.tJ _ _ _ _ _|exact Kd.tK _ _ _ _ _|exact Kd.tL _ _ _ _ _|exact Kd.rO _ _ _ _ _⟩,⟨cZ⟩⟩
  case round =>
    clear H';(try clear c1);obtain ⟨fU,iO,rfl,HA,iC,lT,HB⟩:=hrel;cases gk with
    |zero=>exact absurd HA.out (by simp [eF.l0])
    |succ k1 =>
      have H:=HA.out;clear HA;simp only [eF.l0] at H;by_cases c3:iO<(l1.length:Int)
      · rw [if_pos c3] at H
        have mG:decide (iO<(l1.length:Int))=true:=decide_eq_true c3;clear c3;by_cases c4:0≤iO
        · rw [if_pos c4] at H
          have qX:decide (0≤iO)=true:=decide_eq_true c4;clear c4;by_cases c5:0≤(rd l1 iO)
          · rw [if_pos c5] at H
            have uB:decide (0≤(rd l1 iO))=true:=decide_eq_true c5;clear c5;by_cases c6:(rd l1 iO)<(l0.length:Int)
            · rw [if_pos c6] at H
              have zB:decide ((rd l1 iO)<(l0.length:Int))=true:=decide_eq_true c6;clear c6;by_cases c7:fU.length<8796093022208
              · rw [if_pos c7] at H
                have LMc7:=bA c7;clear c7;obtain ⟨y685,aAH⟩ : ∃ y_:List ByteArray,y_=(fU ++ [fF ByteArray.empty l0 (rd l1 iO)]):=⟨_,rfl⟩;replace H:(eF.l0 k1 l0 l1 y685 (wrap64 (iO+1)))=some r:=(by first|(rw [aAH];with_reducible exact H)|(have mH:=(Option.bind_some _ _).symm.trans H;rw [aAH];with_reducible exact mH)|(have mH:=(Option.bind_some _ _).symm.trans H;with_reducible exact mH)|with_reducible exact H|(rw [aAH];exact H)|exact H);have Ny685:=bA aAH;clear aAH;have H':=bA H;clear H;have p683:0≤(iO:Int):=gQ;have q683:iO<(l1.length:Int):=gQ;obtain ⟨ad683,e683,XP⟩:=Kd.qP HR1.out iO p683 q683;cases e683;replace XP:=(HB.out.cell (World.block_lt_of_cell? w _ XP)).trans XP;replace p683:=eq_true p683;replace q683:=eq_true q683;have p684:0≤((rd l1 iO):Int):=gQ;have q684:(rd l1 iO)<(l0.length:Int):=gQ;obtain ⟨ad684,e684,XQ⟩:=Kd.qN P6.out (rd l1 iO) p684 q684;cases e684;replace XQ:=(HB.out.cell (World.block_lt_of_cell? w _ XQ)).trans XQ;replace p684:=eq_true p684;replace q684:=eq_true q684;go_wp2_with (first|((with_reducible refine oF (b:=.append) (xs:=#[.tmp 13,.tmp 21]) rfl ?_);at_builtin;refine Kd.wL Kd.string (w0:=w) w.heap.size rfl (.tmp 13) (.tmp 21) 26 9 (.string ⟨#[]⟩) 16 rfl Try.underlying26 info9 rfl (by decide) (by omega) u5 fU (fF ByteArray.empty l0 (rd l1 iO)) [.string (fF ByteArray.empty l0 (rd l1 iO))] (fun _=>True) (fun _=>False) rfl rfl ?aP (fun _ hk=>hk.elim) ?aF ?aO ?aB ?aS ?aL ?_;(case aP=>exact rfl);(case aB=>exact cZ);(case aF=>exact (fun _ _=>trivial));(case aO=>exact (iZ lT.out));(case aS=>exact (dO cZ));(case aL=>have:=LMc7.out;omega);intro v686 w8 ho hb hg hat;rw [←Ny685.out] at ho;replace HB:=bA (hb);have HO687:=bA (ho);clear lT;clear ho hb hg hat))
                go_roundg k1
                case measure=>have:=iC.out;omega
                case rel=>exact ⟨(y685),(wrap64 (iO+1)),be,H',⟨by have:=iC.out;omega⟩,⟨iZ HO687.out⟩,⟨cZ⟩⟩
              · rw [if_neg c7] at H
                exact absurd H (by simp)
            · rw [if_neg c6] at H
              exact absurd H (by simp)
          · rw [if_neg c5] at H
            exact absurd H (by simp)
        · rw [if_neg c4] at H
          exact absurd H (by simp)
      · rw [if_neg c3] at H
        have mG:decide (iO<(l1.length:Int))=false:=decide_eq_false c3;clear c3;obtain rfl:=Option.some.inj H;go_wp2;go_ret;exact ⟨_,by first|rfl|(simp [aX,aY] <;> rfl)|(simp [*,aX,aY] <;> rfl),iZ lT.out,cZ⟩
end Go.Proofs.Ytapinbmkjkbkkaa.Lb
