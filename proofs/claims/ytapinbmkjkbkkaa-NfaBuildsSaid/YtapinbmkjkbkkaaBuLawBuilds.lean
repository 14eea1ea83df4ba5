import Derived.Test.YtapinbmkjkbkkaaBuOq
import Derived.Test.YtapinbmkjkbkkaaBuCn
namespace Go.Proofs.Ytapinbmkjkbkkaa.nfaBuilds
open Go.ChangeShapes Go.WideShapes Go.ChangeAt Go.RowKit Go.Joins Go.Proofs.aC.bE Go.Proofs.aC.bV Go.Proofs.aC.bY Lb
set_option maxRecDepth 100000 in
theorem contract (H:Type) (enc:TypeId × Value→H) (W:World) (base:Nat) (args:Array Value) (ds gs:List (DataW H)) (before:List MemPlace)
    (hval : ∀ (j:Nat) t v,Try.f3.params[j]?=some t→args[j]?=some v→Value.okWide Try.prog W .any base t v)
    (hW:DataW.Whole enc Try.prog Try.f3.params.toList Rows.nfaBuildsSpec.vars false W args.toList ds gs before)
    (hsz:(DataW.weightsEach Try.prog (Try.f3.params.toList ++ (OpenSpec.ofChange Rows.nfaBuildsSpec).bare.plain.varTypes Try.prog) (ds ++ gs)).all (· ≤ reachBytes)=true) :
    Calls Try.prog 3 args W fun e W'=>∃ v,e = .returned v∧Rows.nfaBuildsSpec.post enc Try.prog Try.f3 false true false false W args v W':=by
  have hW':=hW;obtain ⟨p,q,hA0,hV,rfl,hfz,hnd⟩:=hW;have hA:DataW.TrodAll enc Try.prog W 0 (fun _=>true) true Try.f3.params.toList args.toList ds p:=hA0;rw [Try.params3] at hA hval hsz;obtain ⟨v0,vs0,d0,ds0,p0,q0,hargs,rfl,rfl,h0,r0⟩:=trodAll_cons hA;obtain ⟨v1,vs1,d1,ds1,p1,q1,rfl,rfl,rfl,h1,r1⟩:=trodAll_cons r0;obtain ⟨v2,vs2,d2,ds2,p2,q2,rfl,rfl,rfl,h2,r2⟩:=trodAll_cons r1;obtain ⟨rfl,rfl,rfl⟩:=trodAll_nil r2;obtain rfl:args = #[v0,v1,v2]:=(by cases args;simp_all);obtain ⟨rfl,rfl⟩:=trodVars_none hV;have k0:=h0;have lt0 : ∀ x∈p0,x.block<W.heap.size:=(by obtain ⟨m,hm⟩:=k0;exact DataW.trod_lt m _ _ _ hm);have k1:=h1;have lt1 : ∀ x∈p1,x.block<W.heap.size:=(by obtain ⟨m,hm⟩:=k1;exact DataW.trod_lt m _ _ _ hm);have k2:=h2;have lt2 : ∀ x∈p2,x.block<W.heap.size:=(by obtain ⟨m,hm⟩:=k2;exact DataW.trod_lt m _ _ _ hm);obtain ⟨y0,A0,c0,rfl,hc0,hr0⟩:=open_expr (hval 0 25 v0 rfl rfl) h0;obtain ⟨A1,c1,l1,rfl,hc1,hr1,hz1⟩:=open_words (hval 1 26 v1 rfl rfl) h1;obtain ⟨A2,c2,l2,rfl,hc2,hr2,hl2⟩:=open_list (hval 2 27 v2 rfl rfl) h2;have hs2:l2.length<17592186044416:=short hsz (j:=2) rfl rfl hl2;clear hA0;have hwide:Pu.KJ y0:=by
    obtain ⟨op,name,ks⟩:=y0;rw [Pu.KJ];exact ⟨hr0.2.1,Pu.wide_read W _ A0 ks (Nat.le_refl _) hr0⟩
  obtain ⟨k,x1,x2,x3,x4,x5,x6,hk⟩:=Pu.NH y0 hwide l1 hz1 l2;have hw:=Mk.law_builds k y0 l1 l2 x1 x2 x3 x4 x5 x6 hk W A0 c0 A1 c1 A2 c2 hr0 hc0 hr1 hc1 hr2 hc2;refine hw.mono fun e W' ⟨he,bel⟩=>?_;subst he;exact ⟨_,rfl,_,_,_,[],_,[],hW',trodAll_mk1 (shut_bool Try.underlying4 _),
    (trodAll_cons_mk (Below.trod laidOut (by kernel_rfl) (of_decide_eq_true (by kernel_rfl)) k0 bel lt0) (trodAll_cons_mk (Below.trod laidOut (by kernel_rfl) (of_decide_eq_true (by kernel_rfl)) k1 bel lt1) (trodAll_cons_mk (Below.trod laidOut (by kernel_rfl) (of_decide_eq_true (by kernel_rfl)) k2 bel lt2) trodAll_mk0))),
    rfl,bel.frame _,fun h=>by cases h⟩
theorem reads (os:Os) {H:Type} (enc:TypeId × Value→H) : ∃ places,DataW.whole enc Try.prog ((World.holding Try.prog os ⟨#[],#[],[]⟩).forCall (fun _ _=>0) ⟨#[],#[.agg #[.int .i64 0,.string ByteArray.empty,.slice none 0 0],.slice none 0 0,.slice none 0 0],[]⟩).memory Try.f3.params.toList Rows.nfaBuildsSpec.vars false #[Value.agg #[.int .i64 0,.string ByteArray.empty,.slice none 0 0],.slice none 0 0,.slice none 0 0].toList 8=some ([.agg [.lit (.int .i64 0),.lit (.string []),.nil],.nil,.nil],[],places) :=
  ⟨[],by kernel_rfl⟩
set_option maxRecDepth 100000 in
theorem lifted (os:Os) (started:os.Started) (H:Type) (enc:TypeId × Value→H) (F:Stop.Interp) :
    ReturnsInHanded {} Try.checked os 3 .any ((OpenSpec.ofChange Rows.nfaBuildsSpec).preRow enc Try.prog Try.f3 Rows.nfaBuildsRow.domain false Rows.nfaBuildsRow.laid) (((OpenSpec.ofChange Rows.nfaBuildsSpec).at F).post enc Try.prog Try.f3 false true false false):=by
  obtain ⟨places,hx⟩:=reads os enc;refine returnsInHanded_of_row (C:=Try.checked) (s:=OpenSpec.ofChange Rows.nfaBuildsSpec) own started (by kernel_rfl) Try.func3
    (witness_row_at (enc:=enc) (C:=Try.checked) false (World.holding Try.prog os ⟨#[],#[],[]⟩) #[.agg #[.int .i64 0,.string ByteArray.empty,.slice none 0 0],.slice none 0 0,.slice none 0 0] rfl (by kernel_rfl) (by kernel_rfl) (by kernel_rfl)
      (OpenSpec.preRow_of_cond 8 hx (by kernel_rfl) (fun k hk=>by cases hk) (by kernel_rfl) (laidMet_nil _ _))) ?_
  intro W base args ds gs before hval hW _ _ hsz _ _ _;exact contract H enc W base args ds gs before hval hW hsz
theorem said:Rows.NfaBuildsSaid :=
  OpenClaim.holds_of_cond 3 Try.f3 rfl rfl rfl rfl rfl rfl rfl ⟨rfl,rfl,rfl,rfl,rfl⟩ rfl rfl rfl rfl rfl (by kernel_rfl) Try.func3 (by kernel_rfl)
    (of_decide_eq_true (by kernel_rfl)) (by unfold Func.isWrapper;first|(rw [if_pos (by decide +kernel)];kernel_rfl)|(rw [if_neg (by decide +kernel)];exact ⟨rfl,rfl⟩))
    (fun os started H enc _ F=>by rw [OpenClaim.pre_eq_preRow];exact lifted os started H enc F)
end Go.Proofs.Ytapinbmkjkbkkaa.nfaBuilds
namespace Go.Proofs.Ytapinbmkjkbkkaa
theorem nfaBuilds_holds:Rows.NfaBuildsSaid:=nfaBuilds.said
#print axioms nfaBuilds_holds
end Go.Proofs.Ytapinbmkjkbkkaa
