/- Laws of PoolRule. Part 26 of 26. -/
import Derived.Test.YthjhjmnmnbcioaaGreatE25
import Derived.Test.YthjhjmnmnbcioaaGreatRows
set_option linter.unusedVariables false
set_option linter.unusedSimpArgs false
set_option linter.unusedSectionVars false
namespace Go.Proofs.YthjhjmnmnbcioaaGreat.PoolRuleLaw
open Go Go.ChangeShapes Go.WideShapes Go.ChangeAt Go.RowKit Go.Proofs.E
theorem own:ownKnob Tryz.prog.godebug=none:=by kernel_rfl
theorem laidOut:laidOutB Tryz.prog=true:=by kernel_rfl
set_option maxRecDepth 100000 in
theorem lifted (os:Os)(started:os.Started)(H:Type)(enc:TypeId×Value->H) :
  ReturnsInHanded {} Tryz.checked os 4 .any (Rows.poolRuleSpec.pre6 enc Tryz.prog Tryz.f4 Rows.poolRuleRow.domain false) (Rows.poolRuleSpec.post enc Tryz.prog Tryz.f4 false true false false):=by
 refine returnsInHanded_of_change_sized (C:=Tryz.checked) own started (by kernel_rfl) Tryz.func4
  (ChangeSpec.witness6 (enc:=enc) (C:=Tryz.checked) false ⟨#[],#[.slice none 0 0,.agg ⟨[.int .i64 0,.slice none 0 0]⟩],[]⟩ 8 (by kernel_rfl) (by kernel_rfl) (by kernel_rfl) (by kernel_rfl)) ?_
 intro W base args ds gs before hval0 hW hcnd hsz0 _
 have hval:∀(j:Nat) t v,Tryz.f4.params[j]?=some t->args[j]?=some v->Value.okWide Tryz.prog W .any base t v:=hval0
 have hW':=hW
 obtain⟨p,q,hA0,hV,rfl,hfz,hnd⟩:=hW
 have hA:DataW.TrodAll enc Tryz.prog W 0 (λ _=>true) true Tryz.f4.params.toList args.toList ds p:=hA0
 have hsz:(DataW.weightsEach Tryz.prog (Tryz.f4.params.toList++Rows.poolRuleSpec.plain.varTypes Tryz.prog) (ds++gs)).all (·<=reachBytes)=true:=hsz0
 rw[Tryz.params4] at hA hval hsz
 obtain⟨v0,vs0,d0,ds0,p0,q0,hargs,rfl,rfl,h0,r0⟩:=trodAll_cons hA
 obtain⟨v1,vs1,d1,ds1,p1,q1,rfl,rfl,rfl,h1,r1⟩:=trodAll_cons r0
 obtain⟨rfl,rfl,rfl⟩:=trodAll_nil r1
 obtain rfl:args=#[v0,v1]:=by cases args;simp_all
 obtain⟨rfl,rfl⟩:=trodVars_none hV
 have k0:=h0
 have k1:=h1
 have lt0:∀x∈p0,x.block<W.heap.size:=by obtain⟨m,hm⟩:=k0;exact DataW.trod_lt m _ _ _ hm
 have lt1:∀x∈p1,x.block<W.heap.size:=by obtain⟨m,hm⟩:=k1;exact DataW.trod_lt m _ _ _ hm
 obtain⟨a0,n0,c0,rfl⟩:=okWide_slice Tryz.underlying65 (hval 0 65 v0 rfl rfl)
 have b0:=top_slice hsz (j:=0) rfl rfl Tryz.underlying65 k0 rfl
 have bb0:Tryz.prog.bytesOf 77=48:=by kernel_rfl
 rw[bb0] at b0
 simp only[reachBytes] at b0
 obtain⟨s0,e0⟩:=(opn_slice (sz:=4) Tryz.underlying65 (by kernel_rfl) (by decide) opn_op17) _ _ _ h0.choose_spec
 obtain⟨⟨y0,m0,z0,x0⟩,ec0⟩:∃s,s=s0:=⟨s0,rfl⟩
 subst ec0
 have ec0:=e0.cells
 simp only[Value.cells,List.cons.injEq,Value.slice.injEq,and_true] at ec0
 obtain⟨rfl,rfl,rfl⟩:=ec0
 obtain⟨cs1,rfl,_⟩:=okWide_struct Tryz.underlying67 (hval 1 67 v1 rfl rfl)
 obtain⟨o1,e1,ek1⟩:=opn_cut17 _ _ _ h1.choose_spec
 obtain rfl:cs1=⟨cutV o1.arm o1.a o1.n o1.c⟩:=by
  cases cs1;simp only[Value.cells] at e1;rw[e1]
 clear hA0 hval0
 obtain⟨hA0,hP0,hc0,hb0⟩:=aIn_ofK (g:=opC) (P:=OpIn (hpOf W)) (λ x=>rfl) e0
 obtain⟨hq1,hq2,hq3,hq4⟩:=ek1
 refine (Spec.law (rule17_spec (hpOf W) a0 n0 c0 x0 hA0 hP0 hb0 o1.arm hq1 o1.a o1.n o1.c o1.ks hq2 hq3 hq4)).mono λ e W' ⟨he,bel⟩=>?_
 subst he
 exact⟨_,rfl,_,_,_,[],_,[],hW',trodAll_mk1 (shut_bool Tryz.underlying4 _),(trodAll_cons_mk (Below.trod laidOut (by kernel_rfl) (of_decide_eq_true (by kernel_rfl)) k0 bel lt0) (trodAll_cons_mk (Below.trod laidOut (by kernel_rfl) (of_decide_eq_true (by kernel_rfl)) k1 bel lt1) trodAll_mk0)),rfl,bel.frame _,λ h=>by cases h⟩
theorem joinedA:(Rows.poolRuleRow.inPlace == Tryz.checked.prog.inPlace 4)=true:=by kernel_rfl
theorem joinedB:(Rows.poolRuleRow.unfollowed == Tryz.checked.prog.unfollowed 4)=true:=by kernel_rfl
theorem joinedC:(Rows.poolRuleRow.recurses == Tryz.checked.prog.recurses 4)=true:=by kernel_rfl
theorem joinedD:(Rows.poolRuleRow.named == Tryz.checked.prog.varsNamed 4)=true:=by kernel_rfl
theorem joined:joinedFacts Tryz.checked.prog 4 Tryz.f4 Rows.poolRuleSpec Rows.poolRuleRow=true:=by
 unfold joinedFacts
 rw[joinedA,joinedB,joinedC,joinedD]
 kernel_rfl
theorem over:Rows.poolRuleRow.holds Tryz.pinned (OpenSpec.ofChange Rows.poolRuleSpec):=
 OpenClaim.holds_of_wide 4 Tryz.f4 rfl rfl rfl rfl rfl rfl rfl ⟨rfl,rfl,rfl,rfl,rfl⟩ rfl rfl rfl rfl rfl (by kernel_rfl) Tryz.func4 joined
  (of_decide_eq_true (by kernel_rfl)) (by unfold Func.isWrapper;first|(rw[if_pos (by decide +kernel)];kernel_rfl)|(rw[if_neg (by decide +kernel)];exact⟨rfl,rfl⟩))
  (λ os started H enc _=>lifted os started H enc)
theorem proved:Rows.PoolRuleSaid:=over
end Go.Proofs.YthjhjmnmnbcioaaGreat.PoolRuleLaw
