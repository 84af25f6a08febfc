/- JoinFirst returns true for every input: the row's statement and its tied card. -/
import Derived.Test.YtkbfhgcjimfgkaaDoorPartD2
import Derived.Test.YtkbfhgcjimfgkaaDoorCards
import Derived.Test.YtkbfhgcjimfgkaaDoorTie
import Derived.SevenTiedAt
set_option linter.unusedVariables false
set_option linter.unusedSimpArgs false
namespace Go.Proofs.YtkbfhgcjimfgkaaDoor
open Go.RowKit Go.ChangeShapes Go.WideShapes Go.ChangeAt
theorem params_ok:∀t∈Tryd.f9.params.toList,Tryd.prog.readableRec t=true∧t<Tryd.prog.types.size:=by
 rw[Tryd.params9];intro t ht;simp only[List.mem_cons,List.not_mem_nil,or_false]at ht;rcases ht with rfl|rfl|rfl
 all_goals exact⟨by kernel_rfl,of_decide_eq_true (by kernel_rfl)⟩
theorem witness_row (os:Os){H:Type}(enc:TypeId×Value→H):
 (OpenSpec.ofChange Rows.joinFirstSpec).preRow enc Tryd.prog Tryd.f9 Rows.joinFirstRow.domain false Rows.joinFirstRow.laid ((laidWorld os).forCall (fun _ _=>0) ⟨#[],#[.string ⟨#[]⟩,.int .i64 0,.slice none 0 0],[]⟩).memory #[.string ⟨#[]⟩,.int .i64 0,.slice none 0 0]:=by
 have hw:(DataW.whole enc Tryd.prog ((laidWorld os).forCall (fun _ _=>0) ⟨#[],#[.string ⟨#[]⟩,.int .i64 0,.slice none 0 0],[]⟩).memory Tryd.f9.params.toList (OpenSpec.ofChange Rows.joinFirstSpec).vars false #[Value.string ⟨#[]⟩,.int .i64 0,.slice none 0 0].toList 8).map (fun x=>(x.1,x.2.1))=
  some ([.lit (.string []),.lit (.int .i64 0),.nil],[]):=by kernel_rfl
 obtain⟨⟨x1,x2,x3⟩,hx,hx1⟩:=Option.map_eq_some_iff.1 hw;simp only[Prod.mk.injEq]at hx1;obtain⟨rfl,rfl⟩:=hx1;exact OpenSpec.preRow_of_cond 8 hx (by kernel_rfl) (fun k hk=>by cases hk) (by kernel_rfl) (laid_met os _)
set_option maxRecDepth 100000 in
set_option maxHeartbeats 2000000 in
theorem lifted (os:Os)(started:os.Started)(H:Type)(enc:TypeId×Value→H)(F:Stop.Interp):
 ReturnsInHanded {} Tryd.checked os 9 .any ((OpenSpec.ofChange Rows.joinFirstSpec).preRow enc Tryd.prog Tryd.f9 Rows.joinFirstRow.domain false Rows.joinFirstRow.laid) (((OpenSpec.ofChange Rows.joinFirstSpec).at F).post enc Tryd.prog Tryd.f9 false true false false):=by
 refine returnsInHanded_of_row (C:=Tryd.checked) (s:=OpenSpec.ofChange Rows.joinFirstSpec) own started (by kernel_rfl) Tryd.func9
  (witness_row_atRef (enc:=enc) (C:=Tryd.checked) false (laidWorld os) #[.string ⟨#[]⟩,.int .i64 0,.slice none 0 0] rfl (by kernel_rfl) (by kernel_rfl) (by kernel_rfl) (witness_row os enc)) ?_
 intro W base args ds gs before hval0 hW _ _ _ hL _ _;have hval:∀(j:Nat) t v,Tryd.f9.params[j]?=some t→args[j]?=some v→Value.okWide Tryd.prog W .any base t v:=hval0;have hW2:=hW;obtain⟨p,q,hA0,hV,rfl,_,_⟩:=hW;have hA:DataW.TrodAll enc Tryd.prog W 0 (fun _=>true) true Tryd.f9.params.toList args.toList ds p:=hA0;rw[Tryd.params9]at hA hval;obtain⟨v0,vs0,d0,ds0,p0,q0,hargs,rfl,rfl,t0,r0'⟩:=trodAll_cons hA;obtain⟨v1,vs1,d1,ds1,p1,q1,rfl,rfl,rfl,t1,r1'⟩:=trodAll_cons r0';obtain⟨v2,vs2,d2,ds2,p2,q2,rfl,rfl,rfl,t2,r2'⟩:=trodAll_cons r1';obtain⟨rfl,rfl,rfl⟩:=trodAll_nil r2';obtain rfl:args=#[v0,v1,v2]:=by cases args;simp_all
 obtain⟨x0,rfl,h0⟩:=arg_str (hval 0 _ v0 rfl rfl) t0;obtain⟨x1,rfl,h1⟩:=arg_int (hval 1 _ v1 rfl rfl) t1;obtain⟨a2,n2,c2,l2,rfl,r2⟩:=arg_raws (hval 2 _ v2 rfl rfl) t2;refine(joinFirst_walk W (good_of hL) x0 h0 x1 h1 a2 n2 c2 l2 r2).mono fun e W' ⟨he,hb⟩=>?_;subst he;exact⟨_,rfl,law_post (s:=Rows.joinFirstSpec) params_ok rfl rfl (by rintro _ rfl;exact⟨rfl,rfl,rfl⟩) hW2 hb⟩
theorem joinFirst_said:Rows.JoinFirstSaid:=
 OpenClaim.holds_of_cond 9 Tryd.f9 rfl rfl rfl rfl rfl rfl rfl ⟨rfl,rfl,rfl,rfl,rfl⟩ rfl rfl rfl rfl rfl (by kernel_rfl) Tryd.func9 (by kernel_rfl)
  (of_decide_eq_true (by kernel_rfl)) (by unfold Func.isWrapper;rw[if_neg (of_decide_eq_false (by kernel_rfl))];exact⟨rfl,rfl⟩)
  (fun os started H enc _ F0=>by rw[OpenClaim.pre_eq_preRow];exact lifted os started H enc F0)
theorem joinFirst_holds:Rows.JoinFirstCardSaid:=
 Claim7.holds_tied_plain_at .later [] _ _ _ _ joinFirst_said (fun _ h=>by cases h) (by kernel_rfl) (fun _ h=>by cases h) joinFirst_row_tie rfl ⟨rfl,rfl⟩ (by kernel_rfl) rfl
  (fun f fn hf hfn=>by
   obtain rfl:f=9:=Option.some.inj ((show Tryd.prog.funcNamed "wherry/wherrykeep.JoinFirst" =some 9 by kernel_rfl).symm.trans hf)|>.symm;obtain rfl:fn=Tryd.f9:=(Option.some.inj (Tryd.func9.symm.trans hfn)).symm;exact⟨by kernel_rfl,fun j t ht=>by
    rw[Tryd.params9]at ht;have hm:t∈[9,3,56]:=by simpa using Array.mem_of_getElem? ht
    have hall:([9,3,56].all fun u=>!Tryd.prog.wantsStandIn u)=true:=by kernel_rfl
    exact(show Tryd.prog.wantsStandIn t=false by simpa using List.all_eq_true.1 hall t hm)⟩)
  (by kernel_rfl)
end Go.Proofs.YtkbfhgcjimfgkaaDoor
