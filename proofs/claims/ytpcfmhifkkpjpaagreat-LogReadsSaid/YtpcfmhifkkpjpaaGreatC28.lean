/- Laws of LogReads. Part 28 of 28. -/
import Derived.Test.YtpcfmhifkkpjpaaGreatC27
import Derived.Test.YtpcfmhifkkpjpaaGreatRows
namespace Go.Proofs.YtpcfmhifkkpjpaaGreat.LogReadsLaw
open Go Go.ChangeShapes Go.WideShapes Go.ChangeAt Go.RowKit Go.Proofs.E
set_option linter.unusedVariables false
theorem own:ownKnob Tryz.prog.godebug=none:=by kernel_rfl
theorem laidOut:laidOutB Tryz.prog=true:=by kernel_rfl
set_option maxRecDepth 100000 in
theorem lifted (os:Os)(started:os.Started)(H:Type)(enc:TypeId×Value→H) :
  ReturnsInHanded {} Tryz.checked os 3 .any (Rows.logReadsSpec.pre6 enc Tryz.prog Tryz.f3 Rows.logReadsRow.domain false) (Rows.logReadsSpec.post enc Tryz.prog Tryz.f3 false true false false):=by
 refine returnsInHanded_of_change_sized (C:=Tryz.checked) own started (by kernel_rfl) Tryz.func3
  (ChangeSpec.witness6 (enc:=enc) (C:=Tryz.checked) false ⟨#[],#[.slice none 0 0,.slice none 0 0,.slice none 0 0],[]⟩ 8 (by kernel_rfl) (by kernel_rfl) (by kernel_rfl) (by kernel_rfl)) ?_
 intro W base args ds gs before hval0 hW hcnd hsz0 _
 have hval:∀(j:Nat) t v,Tryz.f3.params[j]?=some t→args[j]?=some v→Value.okWide Tryz.prog W .any base t v:=hval0
 have hW':=hW
 obtain⟨p,q,hA0,hV,rfl,hfz,hnd⟩:=hW
 have hA:DataW.TrodAll enc Tryz.prog W 0 (fun _=>true) true Tryz.f3.params.toList args.toList ds p:=hA0
 have hsz:(DataW.weightsEach Tryz.prog (Tryz.f3.params.toList++Rows.logReadsSpec.plain.varTypes Tryz.prog) (ds++gs)).all (·≤reachBytes)=true:=hsz0
 rw[Tryz.params3] at hA hval hsz
 obtain⟨v0,vs0,d0,ds0,p0,q0,hargs,rfl,rfl,h0,r0⟩:=trodAll_cons hA
 obtain⟨v1,vs1,d1,ds1,p1,q1,rfl,rfl,rfl,h1,r1⟩:=trodAll_cons r0
 obtain⟨v2,vs2,d2,ds2,p2,q2,rfl,rfl,rfl,h2,r2⟩:=trodAll_cons r1
 obtain⟨rfl,rfl,rfl⟩:=trodAll_nil r2
 obtain rfl:args=#[v0,v1,v2]:=by cases args;simp_all
 obtain⟨rfl,rfl⟩:=trodVars_none hV
 have k0:=h0
 have k1:=h1
 have k2:=h2
 have lt0:∀x∈p0,x.block<W.heap.size:=by obtain⟨m,hm⟩:=k0;exact DataW.trod_lt m _ _ _ hm
 have lt1:∀x∈p1,x.block<W.heap.size:=by obtain⟨m,hm⟩:=k1;exact DataW.trod_lt m _ _ _ hm
 have lt2:∀x∈p2,x.block<W.heap.size:=by obtain⟨m,hm⟩:=k2;exact DataW.trod_lt m _ _ _ hm
 obtain⟨a0,n0,c0,rfl⟩:=okWide_slice Tryz.underlying22 (hval 0 22 v0 rfl rfl)
 obtain⟨s0,e0,b0⟩:=(XU (sz:=1) (by':=1) Tryz.underlying22 (by kernel_rfl) (by decide) (by kernel_rfl) opn_u8K.sized) _ _ _ h0.choose_spec (wts_of hsz (j:=0) rfl rfl)
 simp only[reachBytes] at b0
 obtain⟨⟨y0,m0,z0,x0⟩,ec0⟩:∃s,s=s0:=⟨s0,rfl⟩
 subst ec0
 have ec0:=e0.cells
 simp only[Value.cells,List.cons.injEq,Value.slice.injEq,and_true] at ec0
 obtain⟨rfl,rfl,rfl⟩:=ec0
 obtain⟨a1,n1,c1,rfl⟩:=okWide_slice Tryz.underlying23 (hval 1 23 v1 rfl rfl)
 obtain⟨s1,e1,b1⟩:=(XU (sz:=10) (by':=144) Tryz.underlying23 (by kernel_rfl) (by decide) (by kernel_rfl) opnS_rec) _ _ _ h1.choose_spec (wts_of hsz (j:=1) rfl rfl)
 simp only[reachBytes] at b1
 obtain⟨⟨y1,m1,z1,x1⟩,ec1⟩:∃s,s=s1:=⟨s1,rfl⟩
 subst ec1
 have ec1:=e1.cells
 simp only[Value.cells,List.cons.injEq,Value.slice.injEq,and_true] at ec1
 obtain⟨rfl,rfl,rfl⟩:=ec1
 obtain⟨a2,n2,c2,rfl⟩:=okWide_slice Tryz.underlying24 (hval 2 24 v2 rfl rfl)
 obtain⟨s2,e2,b2⟩:=(XU (sz:=1) (by':=24) Tryz.underlying24 (by kernel_rfl) (by decide) (by kernel_rfl) opnS_bslS) _ _ _ h2.choose_spec (wts_of hsz (j:=2) rfl rfl)
 simp only[reachBytes] at b2
 obtain⟨⟨y2,m2,z2,x2⟩,ec2⟩:∃s,s=s2:=⟨s2,rfl⟩
 subst ec2
 have ec2:=e2.cells
 simp only[Value.cells,List.cons.injEq,Value.slice.injEq,and_true] at ec2
 obtain⟨rfl,rfl,rfl⟩:=ec2
 clear hA0 hval0
 obtain⟨hA0,hc0,hb0⟩:=sIn_ofK e0
 obtain⟨hA1,hP1,hc1,hb1⟩:=aIn_ofW (g:=rrV) (fun _=>rfl) e1
 obtain⟨hA2,hP2,hc2,hb2⟩:=aIn_ofW (g:=fun e:BSl=>[slv e]) (fun _=>rfl) e2
 refine (Spec.law (reads16Law_spec (hpOf W) a0 n0 c0 x0 hA0 hc0 hb0 a1 n1 c1 x1 hA1 hP1 hb1 a2 n2 c2 x2 (sIn_of1 hA2) hP2 hb2)).mono fun e W' ⟨he,bel⟩=>?_
 subst he
 exact⟨_,rfl,_,_,_,[],_,[],hW',trodAll_mk1 (shut_bool Tryz.underlying4 _),(trodAll_cons_mk (Below.trod laidOut (by kernel_rfl) (of_decide_eq_true (by kernel_rfl)) k0 bel lt0) (trodAll_cons_mk (Below.trod laidOut (by kernel_rfl) (of_decide_eq_true (by kernel_rfl)) k1 bel lt1) (trodAll_cons_mk (Below.trod laidOut (by kernel_rfl) (of_decide_eq_true (by kernel_rfl)) k2 bel lt2) trodAll_mk0))),rfl,bel.frame _,fun h=>by cases h⟩
theorem joinedA:(Rows.logReadsRow.inPlace == Tryz.checked.prog.inPlace 3)=true:=by kernel_rfl
theorem joinedB:(Rows.logReadsRow.unfollowed == Tryz.checked.prog.unfollowed 3)=true:=by kernel_rfl
theorem joinedC:(Rows.logReadsRow.recurses == Tryz.checked.prog.recurses 3)=true:=by kernel_rfl
theorem joinedD:(Rows.logReadsRow.named == Tryz.checked.prog.varsNamed 3)=true:=by kernel_rfl
theorem joined:joinedFacts Tryz.checked.prog 3 Tryz.f3 Rows.logReadsSpec Rows.logReadsRow=true:=by
 unfold joinedFacts
 rw[joinedA,joinedB,joinedC,joinedD]
 kernel_rfl
theorem over:Rows.logReadsRow.holds Tryz.pinned (OpenSpec.ofChange Rows.logReadsSpec):=
 OpenClaim.holds_of_wide 3 Tryz.f3 rfl rfl rfl rfl rfl rfl rfl ⟨rfl,rfl,rfl,rfl,rfl⟩ rfl rfl rfl rfl rfl (by kernel_rfl) Tryz.func3 joined
  (of_decide_eq_true (by kernel_rfl)) (by unfold Func.isWrapper;first|(rw[if_pos (by decide +kernel)];kernel_rfl)|(rw[if_neg (by decide +kernel)];exact⟨rfl,rfl⟩))
  (fun os started H enc _=>lifted os started H enc)
theorem proved:Rows.LogReadsSaid:=over
end Go.Proofs.YtpcfmhifkkpjpaaGreat.LogReadsLaw
