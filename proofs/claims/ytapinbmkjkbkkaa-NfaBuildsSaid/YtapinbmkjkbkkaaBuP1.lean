import Derived.Test.YtapinbmkjkbkkaaBuLbx3
namespace Go.Proofs.Ytapinbmkjkbkkaa.Pu
open Go.RowKit Go.Proofs.aC.bE Go.Proofs.aC.bV Go.Proofs.aC.bY Lb
theorem and_nat (a b:Nat) (ha:a<2 ^ 64) (hb:b<2 ^ 64):Go.bits .and .u64 (a:Int) (b:Int)=((a &&& b:Nat):Int):=by
  have hx:a &&& b<2 ^ 64:=Nat.and_lt_two_pow _ hb;have h1:(BitVec.ofInt 64 (a:Int)).toNat=a:=by
    rw [BitVec.ofInt_natCast,BitVec.toNat_ofNat];exact Nat.mod_eq_of_lt ha
  have h2:(BitVec.ofInt 64 (b:Int)).toNat=b:=by
    rw [BitVec.ofInt_natCast,BitVec.toNat_ofNat];exact Nat.mod_eq_of_lt hb
  show IntKind.u64.wrap ((BitVec.ofInt 64 (a:Int) &&& BitVec.ofInt 64 (b:Int)).toNat:Int)=_;rw [BitVec.toNat_and,h1,h2,IntKind.wrap_u64];omega
theorem or_nat (a b:Nat) (ha:a<2 ^ 64) (hb:b<2 ^ 64):Go.bits .or .u64 (a:Int) (b:Int)=((a ||| b:Nat):Int):=by
  have hx:a ||| b<2 ^ 64:=Nat.or_lt_two_pow ha hb;have h1:(BitVec.ofInt 64 (a:Int)).toNat=a:=by
    rw [BitVec.ofInt_natCast,BitVec.toNat_ofNat];exact Nat.mod_eq_of_lt ha
  have h2:(BitVec.ofInt 64 (b:Int)).toNat=b:=by
    rw [BitVec.ofInt_natCast,BitVec.toNat_ofNat];exact Nat.mod_eq_of_lt hb
  show IntKind.u64.wrap ((BitVec.ofInt 64 (a:Int) ||| BitVec.ofInt 64 (b:Int)).toNat:Int)=_;rw [BitVec.toNat_or,h1,h2,IntKind.wrap_u64];omega
theorem and63 (i:Nat) (hi:i<2 ^ 62):Go.bits .and .i64 (i:Int) 63=((i % 64:Nat):Int):=by
  have h1:(BitVec.ofInt 64 (i:Int)).toNat=i:=by
    rw [BitVec.ofInt_natCast,BitVec.toNat_ofNat];exact Nat.mod_eq_of_lt (by omega)
  have h2:(BitVec.ofInt 64 (63:Int)).toNat=63:=(by decide);show IntKind.i64.wrap ((BitVec.ofInt 64 (i:Int) &&& BitVec.ofInt 64 (63:Int)).toNat:Int)=_;rw [BitVec.toNat_and,h1,h2,show (63:Nat)=2 ^ 6 - 1 from rfl,Nat.and_two_pow_sub_one_eq_mod,iP];unfold wrap64;omega
def wd (B:List Int) (j:Nat):Nat:=(rd B (j:Int)).toNat
structure X9 (m:Nat) (B:List Int) (b:List Bool):Prop where
  lb:b.length=m
  lB:B.length=(m+63) / 64
  small : ∀ j:Nat,0≤rd B (j:Int)∧rd B (j:Int)<2 ^ 64
  bit : ∀ i:Nat,(wd B (i / 64)).testBit (i % 64)=b.getD i false
variable {m : Nat} {B : List Int} {b : List Bool}
theorem KW (h:X9 m B b) (j:Nat):rd B (j:Int)=(wd B j:Int)∧wd B j<2 ^ 64:=by
  have:=h.small j;unfold wd;omega
theorem shr_u64 (x n:Nat) (hn:n<64):shr .u64 (x:Int) (n:Int)=((x / 2 ^ n:Nat):Int):=by
  unfold shr;rw [show min (n:Int).toNat IntKind.u64.bits=n by show min (n:Int).toNat 64=n;omega]
  norm_cast
theorem shl_u64 (n:Nat) (hn:n<64):shl .u64 1 (n:Int)=((2 ^ n:Nat):Int):=by
  unfold shl;rw [show min (n:Int).toNat IntKind.u64.bits=n by show min (n:Int).toNat 64=n;omega,IntKind.wrap_u64];have h:2 ^ n<2 ^ 64:=Nat.pow_lt_pow_right (by omega) hn;have e:(1:Int) * 2 ^ n=((2 ^ n:Nat):Int):=(by rw [Int.one_mul];norm_cast);rw [e];generalize 2 ^ n=q at h;omega
theorem NP (h:X9 m B b) (hm:m≤4096) (i:Nat) (hi:i<m):fI.f B (i:Int)=some (b.getD i false):=by
  unfold fI.f;have hdiv:(i:Int) / 64=((i / 64:Nat):Int):=(by omega);have hl:=h.lB;rw [hdiv,and63 i (by omega),if_pos (by omega),if_pos (by omega),if_pos (by omega)];obtain ⟨hw,hlt⟩:=KW h (i / 64);rw [hw,shr_u64 _ _ (Nat.mod_lt _ (by omega))];have h2:wd B (i / 64) / 2 ^ (i % 64)<2 ^ 64:=Nat.lt_of_le_of_lt (Nat.div_le_self _ _) hlt;rw [show (1:Int)=((1:Nat):Int) from rfl,and_nat _ _ h2 (by omega),← h.bit i,Nat.testBit_eq_decide_div_mod_eq,Nat.and_one_is_mod];congr 1
  rcases Nat.mod_two_eq_zero_or_one (wd B (i / 64) / 2 ^ (i % 64)) with e|e <;> rw [e] <;> decide
theorem rd_set (B:List Int) (j:Nat) (v:Int) (q:Nat) (hj:j<B.length):rd (B.set j v) (q:Int)=if q=j then v else rd B (q:Int):=by
  unfold rd;simp only [Int.toNat_natCast,List.getD_eq_getElem?_getD,List.getElem?_set];by_cases e:q=j
  · subst e;simp [hj]
  · simp [e,Ne.symm e]
theorem r_ (h:X9 m B b) (hm:m≤4096) (i:Nat) (hi:i<m) : ∃ B',dM.f B (i:Int)=some B'∧X9 m B' (b.set i true):=by
  unfold dM.f;have hdiv:(i:Int) / 64=((i / 64:Nat):Int):=(by omega);have hl:=h.lB;rw [hdiv,and63 i (by omega),if_pos (by omega),if_pos (by omega),if_pos (by omega)];obtain ⟨hw,hlt⟩:=KW h (i / 64);have hp:2 ^ (i % 64)<2 ^ 64:=Nat.pow_lt_pow_right (by omega) (Nat.mod_lt _ (by omega));rw [hw,shl_u64 _ (Nat.mod_lt _ (by omega)),or_nat _ _ hlt hp,Int.toNat_natCast];refine ⟨_,rfl,⟨by rw [List.length_set];exact h.lb,by rw [List.length_set];exact h.lB,fun j=>?_,fun q=>?_⟩⟩
  · rw [rd_set _ _ _ _ (by omega)]
    split
    · have:=Nat.or_lt_two_pow hlt hp
      omega
    · exact h.small j
  · have e:wd (B.set (i / 64) ((wd B (i / 64) ||| 2 ^ (i % 64):Nat):Int)) (q / 64)=if q / 64=i / 64 then wd B (i / 64) ||| 2 ^ (i % 64) else wd B (q / 64):=by
      unfold wd;rw [rd_set _ _ _ _ (by omega)];split
      · simp
      · rfl
    have hb:=h.bit q;rw [e];by_cases hq:q=i
    · subst hq
      rw [if_pos rfl,Nat.testBit_or,Nat.testBit_two_pow_self,Bool.or_true];rw [List.getD_eq_getElem?_getD,List.getElem?_set_self (by rw [h.lb];exact hi)];rfl
    · rw [List.getD_eq_getElem?_getD,List.getElem?_set_ne (Ne.symm hq),← List.getD_eq_getElem?_getD,← hb]
      split
      · rename_i he
        have hne:i % 64≠q % 64:=(by omega);rw [Nat.testBit_or,Nat.testBit_two_pow_of_ne hne,Bool.or_false,he]
      · rfl
theorem DT (hm:m≤4096) : ∃ B,jZ.f (m:Int)=some B∧X9 m B (List.replicate m false):=by
  unfold jZ.f;have h1:wrap64 ((m:Int)+63)=(m:Int)+63:=(by unfold wrap64;omega);have h2:wrap64 (Int.tdiv ((m:Int)+63) 64)=(((m+63) / 64:Nat):Int):=by
    rw [Int.tdiv_eq_ediv_of_nonneg (by omega)];unfold wrap64;omega
  rw [h1,h2,if_pos (by omega),if_pos (by omega),Int.toNat_natCast];have hz : ∀ j:Nat,rd (List.replicate ((m+63) / 64) 0) (j:Int)=0:=by
    intro j;unfold rd;rw [List.getD_eq_getElem?_getD,List.getElem?_replicate];split <;> rfl
  refine ⟨_,rfl,⟨by simp,by simp,fun j=>?_,fun i=>?_⟩⟩
  · rw [hz];omega
  · unfold wd
    rw [hz,List.getD_eq_getElem?_getD,List.getElem?_replicate];split <;> simp
end Go.Proofs.Ytapinbmkjkbkkaa.Pu
