/- Laws of LogDoes. Part 30 of 30. -/
import Derived.Test.YthjhjmnmnbcioaaGreatD29
import Derived.Test.YthjhjmnmnbcioaaGreatRows
set_option linter.unusedVariables false
set_option linter.unusedSimpArgs false
set_option linter.unusedSectionVars false
namespace Go.Proofs.YthjhjmnmnbcioaaGreat.LogDoesLaw
open Go Go.ChangeShapes Go.WideShapes Go.ChangeAt Go.RowKit Go.Proofs.E
theorem own:ownKnob Tryz.prog.godebug=none:=by kernel_rfl
theorem laidOut:laidOutB Tryz.prog=true:=by kernel_rfl
set_option maxRecDepth 100000 in
theorem lifted (os:Os)(started:os.Started)(H:Type)(enc:TypeId×Value->H) :
  ReturnsInHanded {} Tryz.checked os 3 .any (Rows.logDoesSpec.pre6 enc Tryz.prog Tryz.f3 Rows.logDoesRow.domain false) (Rows.logDoesSpec.post enc Tryz.prog Tryz.f3 false true false false):=by
 refine returnsInHanded_of_change_sized (C:=Tryz.checked) own started (by kernel_rfl) Tryz.func3
  (ChangeSpec.witness6 (enc:=enc) (C:=Tryz.checked) false ⟨#[],#[.slice none 0 0],[]⟩ 8 (by kernel_rfl) (by kernel_rfl) (by kernel_rfl) (by kernel_rfl)) ?_
 intro W base args ds gs before hval0 hW hcnd hsz0 _
 have hval:∀(j:Nat) t v,Tryz.f3.params[j]?=some t->args[j]?=some v->Value.okWide Tryz.prog W .any base t v:=hval0
 have hW':=hW
 obtain⟨p,q,hA0,hV,rfl,hfz,hnd⟩:=hW
 have hA:DataW.TrodAll enc Tryz.prog W 0 (λ _=>true) true Tryz.f3.params.toList args.toList ds p:=hA0
 have hsz:(DataW.weightsEach Tryz.prog (Tryz.f3.params.toList++Rows.logDoesSpec.plain.varTypes Tryz.prog) (ds++gs)).all (·<=reachBytes)=true:=hsz0
 rw[Tryz.params3] at hA hval hsz
 obtain⟨v0,vs0,d0,ds0,p0,q0,hargs,rfl,rfl,h0,r0⟩:=trodAll_cons hA
 obtain⟨rfl,rfl,rfl⟩:=trodAll_nil r0
 obtain rfl:args=#[v0]:=by cases args;simp_all
 obtain⟨rfl,rfl⟩:=trodVars_none hV
 have k0:=h0
 have lt0:∀x∈p0,x.block<W.heap.size:=by obtain⟨m,hm⟩:=k0;exact DataW.trod_lt m _ _ _ hm
 obtain⟨a0,n0,c0,rfl⟩:=okWide_slice Tryz.underlying22 (hval 0 22 v0 rfl rfl)
 obtain⟨s0,e0,b0⟩:=(WZ (sz:=18) (by':=224) Tryz.underlying22 (by kernel_rfl) (by decide) (by kernel_rfl) opnS_op16) _ _ _ h0.choose_spec (wts_of hsz (j:=0) rfl rfl)
 simp only[reachBytes] at b0
 obtain⟨⟨y0,m0,z0,x0⟩,ec0⟩:∃s,s=s0:=⟨s0,rfl⟩
 subst ec0
 have ec0:=e0.cells
 simp only[Value.cells,List.cons.injEq,Value.slice.injEq,and_true] at ec0
 obtain⟨rfl,rfl,rfl⟩:=ec0
 clear hA0 hval0
 obtain⟨hA0,hP0,hc0,hb0⟩:=aIn_ofW (g:=WD) (λ _=>rfl) e0
 refine (Spec.law (does16Law_spec (hpOf W) a0 n0 c0 x0 hA0 hP0 hb0)).mono λ e W' ⟨he,bel⟩=>?_
 subst he
 exact⟨_,rfl,_,_,_,[],_,[],hW',trodAll_mk1 (shut_bool Tryz.underlying4 _),(trodAll_cons_mk (Below.trod laidOut (by kernel_rfl) (of_decide_eq_true (by kernel_rfl)) k0 bel lt0) trodAll_mk0),rfl,bel.frame _,λ h=>by cases h⟩
theorem joinedA:(Rows.logDoesRow.inPlace == Tryz.checked.prog.inPlace 3)=true:=by kernel_rfl
theorem joinedB:(Rows.logDoesRow.unfollowed == Tryz.checked.prog.unfollowed 3)=true:=by kernel_rfl
theorem joinedC:(Rows.logDoesRow.recurses == Tryz.checked.prog.recurses 3)=true:=by kernel_rfl
theorem joinedD:(Rows.logDoesRow.named == Tryz.checked.prog.varsNamed 3)=true:=by kernel_rfl
theorem joined:joinedFacts Tryz.checked.prog 3 Tryz.f3 Rows.logDoesSpec Rows.logDoesRow=true:=by
 unfold joinedFacts
 rw[joinedA,joinedB,joinedC,joinedD]
 kernel_rfl
theorem over:Rows.logDoesRow.holds Tryz.pinned (OpenSpec.ofChange Rows.logDoesSpec):=
 OpenClaim.holds_of_wide 3 Tryz.f3 rfl rfl rfl rfl rfl rfl rfl ⟨rfl,rfl,rfl,rfl,rfl⟩ rfl rfl rfl rfl rfl (by kernel_rfl) Tryz.func3 joined
  (of_decide_eq_true (by kernel_rfl)) (by unfold Func.isWrapper;first|(rw[if_pos (by decide +kernel)];kernel_rfl)|(rw[if_neg (by decide +kernel)];exact⟨rfl,rfl⟩))
  (λ os started H enc _=>lifted os started H enc)
theorem proved:Rows.LogDoesSaid:=over
end Go.Proofs.YthjhjmnmnbcioaaGreat.LogDoesLaw
