/- Laws of PoolRule. Part 4 of 26. -/
import Derived.Test.YthjhjmnmnbcioaaGreatE3
set_option linter.unusedVariables false
set_option linter.unusedSimpArgs false
set_option linter.unusedSectionVars false
namespace Go.Proofs.E
open Go Go.Lib
theorem Hp.up {ρ ρ':Hp}(h:ρ.le ρ'){b:Nat}{o:Obj}(hb:ρ b=some o):ρ' b=some o:=h _ _ hb
section
variable {x:Cx}{Q:Exit->Act->World->Prop}{E:Env}{ρ:Hp}{L:SH}{ops:Array Oper}{rest:List Oper}{ty:TypeId}{pos:String}{af:Array Edge}
end
theorem Spec.freeze {P:Program}{f:FuncId}{args:List Value}{ρ:Hp}{L:SH}{Post:Value->Hp->SH->Prop}{Post2:Value->Hp->Prop}(h:Spec P f args ρ L Post)
  (k:∀v ρ' L',ρ.le ρ'->Post v ρ' L'->∀ρ2,ρ'.le ρ2->(∀p∈L'.flatten,ρ2 p.1=some p.2)->Post2 v ρ2):Spec P f args ρ L (λ v ρ2 L2=>Post2 v ρ2/\L2=[]):=λ u R w hw=>by
 refine (h u R w hw).mono ?_
 rintro e w' ⟨v,ρ',L',h2,h3,h4,h5⟩
 have h6:Sat u ρ' (L'.flatten::R) w':=h4.perm (by simp)
 obtain⟨h7,hle,hf⟩:=h6.freeze
 exact⟨v,_,[],h2,Hp.le_trans h3 hle,h7,k v ρ' L' h3 h5 _ hle hf,rfl⟩
section
variable {x:Cx}{Q:Exit->Act->World->Prop}{E:Env}{ρ:Hp}{L L1 L2:SH}{ops:Array Oper}{l:List Oper}{c d:List (Nat×Obj)}{e:Exit}{y:Code}
end
instance (priority:=1100) eqC_four {P:Program}{m t e:Nat}{k:IntKind}[hA:WY P t 4 e][hE:YV P e k][hS:TyS P e]{a b c d a' b' c' d':Int} :
  EqC P (m+2) t (.agg ⟨[.int k a,.int k b,.int k c,.int k d]⟩) (.agg ⟨[.int k a',.int k b',.int k c',.int k d']⟩) (decide (a=a'/\b=b'/\c=c'/\d=d')):=⟨λ dd w hdd=>by
 obtain⟨dd,rfl⟩:∃d',dd=d'+2:=⟨dd-2,by omega⟩
 obtain⟨ds,i,g1,g2,g3,g4⟩:=hS.out
 have hag:∀w,(isAgg e).run P w=.ok false w:=λ w=>by
  simp only[isAgg,underlying,Sem.run_bind,run_program,Result.andThen_ok,g1,Sem.run_pure]
  cases ds<;>simp_all
 have hcl:P.cellsOf e=1:=by simp[Program.cellsOf,g3,g4]
 have hp:∀(x:Array Value) (j:Nat) (v:Value) (w:World),x[j]?=some v->(part e x j).run P w=.ok v w:=λ x j v w h=>by
  simp[part,hag,h]
 have hr:=λ (x y:Int) (w:World)=>run_equalIn_int (P:=P) w dd e k k x y hE.out
 rw[run_equalIn_array w (dd+1) _ _ hA.out g3,show List.range 4=[0,1,2,3] from rfl]
 have q0:=λ w=>hp ⟨[.int k a,.int k b,.int k c,.int k d]⟩ 0 (.int k a) w rfl
 have q1:=λ w=>hp ⟨[.int k a,.int k b,.int k c,.int k d]⟩ 1 (.int k b) w rfl
 have q2:=λ w=>hp ⟨[.int k a,.int k b,.int k c,.int k d]⟩ 2 (.int k c) w rfl
 have q3:=λ w=>hp ⟨[.int k a,.int k b,.int k c,.int k d]⟩ 3 (.int k d) w rfl
 have p0:=λ w=>hp ⟨[.int k a',.int k b',.int k c',.int k d']⟩ 0 (.int k a') w rfl
 have p1:=λ w=>hp ⟨[.int k a',.int k b',.int k c',.int k d']⟩ 1 (.int k b') w rfl
 have p2:=λ w=>hp ⟨[.int k a',.int k b',.int k c',.int k d']⟩ 2 (.int k c') w rfl
 have p3:=λ w=>hp ⟨[.int k a',.int k b',.int k c',.int k d']⟩ 3 (.int k d') w rfl
 simp only[Op.eqItems,Sem.run_bind,hcl,Nat.mul_one,q0,p0,q1,p1,q2,p2,q3,p3,Result.andThen_ok,hr]
 cases h0:(a == a')<;>cases h1:(b == b')<;>cases h2:(c == c')<;>cases h3:(d == d')<;>simp only[h0,h1,h2,h3,Bool.not_true,Bool.not_false,if_true,if_false,aB,Sem.run_bind,Sem.run_pure,q1,p1,q2,p2,q3,p3,hr,Result.andThen_ok,Op.eqItems]
 all_goals (congr 1;simp only[beq_iff_eq,beq_eq_false_iff_ne] at h0 h1 h2 h3;simp[h0,h1,h2,h3])⟩
end Go.Proofs.E
namespace Go.Proofs.E
open Go
attribute [local irreducible] Yl TL TC TE Spec YW R1 Hp.le EnvLe TS TR YS Zv
theorem zW {G P:Prop}(k:G)(h:G->P:=by
   intro k
   first
   | (refine i_op ?_;first|(refine i_qq ?_;exact qQ k)|exact qEf k)
   | exact tl_nil k
   | (refine i_tc ?_;exact qTc k)
   | (refine i_te ?_;exact qTe k)):P:=h k
theorem zV {G P:Prop}(k:G)(h:G->P:=by
   intro k
   first
   | (refine iBu ?_;exact tl_y (y_buildN rfl) rfl rfl k)
   | (refine i_op ?_;first|(refine i_qq ?_;exact qQ k)|exact qEf k)
   | exact tl_nil k
   | (refine i_tc ?_;exact qTc k)
   | (refine i_te ?_;exact qTe k)):P:=h k
end Go.Proofs.E
namespace Go.Proofs.E
open Go
def UKeys (es:List MapEntry):Prop:=es.Pairwise (λ a b=>a.key≠b.key)
theorem mget_none {es:List MapEntry}{k:Int}:Ym es k=none↔∀e∈es,∀kk,e.key≠.int kk k:=by
 unfold Ym
 rw[Option.map_eq_none_iff,List.find?_eq_none]
 constructor
 ·intro h e he kk hk
  have:=h e he
  rw[hk] at this
  simp at this
 ·intro h e he hc
  cases hk:e.key<;>rw[hk] at hc<;>simp at hc
  subst hc
  exact h e he _ hk
theorem UKeys.add {es:List MapEntry}{x:MapEntry}(h:UKeys es)(hx:∀e∈es,¬e.key=x.key):UKeys (es++[x]):=by
 unfold UKeys
 rw[List.pairwise_append]
 exact⟨h,List.pairwise_singleton _ _,λ a ha b hb=>by rw[List.mem_singleton.1 hb];exact hx a ha⟩
theorem UKeys.mod {kk:IntKind}{k:Int}{v:Value}{pre post:List MapEntry}{e:MapEntry}(h:UKeys (pre++e::post))(hk:e.key=.int kk k):UKeys (pre++{ e with key:=.int kk k,val:=v }::post):=by
 unfold UKeys at h ⊢
 rw[List.pairwise_append,List.pairwise_cons] at h ⊢
 obtain⟨h1,⟨h2,h3⟩,h4⟩:=h
 refine⟨h1,⟨λ b hb=>by rw[<-hk];exact h2 b hb,h3⟩,λ a ha b hb=>?_⟩
 rcases List.mem_cons.1 hb with rfl|hb
 ·show a.key≠.int kk k
  rw[<-hk];exact h4 a ha e (by simp)
 ·exact h4 a ha b (by simp[hb])
theorem UKeys.del {pre post:List MapEntry}{e:MapEntry}(h:UKeys (pre++e::post)):UKeys (pre++post)/\∀x∈post,x.key≠e.key:=by
 unfold UKeys at h ⊢
 rw[List.pairwise_append,List.pairwise_cons] at h
 obtain⟨h1,⟨h2,h3⟩,h4⟩:=h
 exact⟨List.pairwise_append.2 ⟨h1,h3,λ a ha b hb=>h4 a ha b (by simp[hb])⟩,λ x hx hc=>h2 x hx hc.symm⟩
section
variable {x:Cx}{Q:Exit->Act->World->Prop}{E:Env}{ρ ρ0:Hp}{L:SH}{ops:Array Oper}{rest:List Oper}{ty:TypeId}{pos:String}{af:Array Edge}
theorem run_mapUpdate_u {P:Program}{t kt e:TypeId}{kk:IntKind}(hM:WZ P t kt e)(hK:YV P kt kk){w:World}{b:Nat}{es:List MapEntry}{ck:Nat}
  (hb:w.heap[b]?=some (.map ⟨es⟩ ck)) (hes:ZP kk es) (hu:UKeys es) (k:Int) (v:Value) :
  ∃es' ck',(Instr.mapUpdate t (.map (some b)) (.int kk k) v).run P w=.ok () (Vq w b (.map ⟨es'⟩ ck'))/\ZP kk es'/\UKeys es'/\∀j,Ym es' j=if j=k then some v else Ym es j:=by
 have hck:=λ e=>WI hK e k w
 have hfk:(Instr.findKey kt (.int kk k) es).run P w=.ok ((Instr.findNow (.int kk) (.int kk k) es 0).getD none) w/\True:=by
  refine⟨?_,trivial⟩
  simp only[Instr.findKey,Sem.run_bind,underlying,run_program,Result.andThen_ok,hK.out,Sem.run_pure]
  rcases XP (k:=k) es 0 hes with⟨h1,h2⟩|⟨pre,e',post,h0,h1,h2,h3,h4⟩
  ·simp[h2]
  ·simp[h4]
 rcases XP (k:=k) es 0 hes with⟨h1,h2⟩|⟨pre,e',post,rfl,h1,h2,h3,h4⟩
 ·rw[h2] at hfk
  refine⟨es++[{ key:=.int kk k,val:=v,born:=ck }],ck+1, ?_, ?_,hu.add (λ e he hk=>?_), ?_⟩
  rotate_left 2
  ·exact (mget_none.1 h1) e he kk hk
  rotate_right 2
  ·simp[Instr.mapUpdate,underlying,hM.out,MapKept.run_getObj_map hb,hck,hfk.1,MapKept.run_setObj_map _ hb,Vq]
  ·intro e he
   rcases List.mem_append.1 he with he|he
   ·exact hes e he
   ·simp only[List.mem_singleton] at he;subst he;exact⟨k,rfl⟩
  ·intro j
   rw[Wi]
   by_cases hj:j=k
   ·subst hj;rw[h1];simp[Ym]
   ·rw[if_neg hj]
    have:Ym [({ key:=.int kk k,val:=v,born:=ck }:MapEntry)] j=none:=by
     have:(k == j)=false:=by simpa using λ e:k=j=>hj e.symm
     simp[Ym,this]
    rw[this];simp
 ·rw[h4] at hfk
  have hstay:(Instr.keyThatStays (.int kk k) (.int kk k)).run P w=.ok (.int kk k) w:=by
   have:Instr.sameBits 10000 (.int kk k) (.int kk k)=true:=by simp[Instr.sameBits]
   simp[Instr.keyThatStays,this]
  refine⟨pre++{ e' with key:=.int kk k,val:=v }::post,ck, ?_, ?_,UKeys.mod hu h1, ?_⟩
  ·have hmod:(Array.mk (pre++e'::post)).modify pre.length (λ e=>{ e with key:=.int kk k,val:=v })=⟨pre++{ e' with key:=.int kk k,val:=v }::post⟩:=by
    apply Array.ext_getElem?
    intro i
    rw[Array.getElem?_modify]
    simp only[List.getElem?_toArray]
    rcases Nat.lt_trichotomy i pre.length with hi|hi|hi
    ·rw[if_neg (by omega),List.getElem?_append_left hi,List.getElem?_append_left hi]
    ·subst hi;simp
    ·rw[if_neg (by omega),List.getElem?_append_right (by omega),List.getElem?_append_right (by omega)]
     have:i-pre.length=(i-pre.length-1)+1:=by omega
     rw[this];simp
   have hmod':=congrArg Array.toList hmod
   simp only[Array.toList_modify] at hmod'
   simp[Instr.mapUpdate,underlying,hM.out,MapKept.run_getObj_map hb,hck,hfk.1,MapKept.run_setObj_map _ hb,Vq,h1,hstay,hmod']
  ·intro e he
   rcases List.mem_append.1 he with he|he
   ·exact hes e (by simp[he])
   ·rcases List.mem_cons.1 he with rfl|he
    ·exact⟨k,rfl⟩
    ·exact hes e (by simp[he])
  ·intro j
   rw[Wi,Wi]
   by_cases hj:j=k
   ·subst hj;rw[h2];simp[Ym]
   ·rw[if_neg hj]
    have hkj:(k == j)=false:=by simpa using λ e:k=j=>hj e.symm
    congr 1
    simp[Ym,List.find?_cons,h1,hkj]
theorem WQ {m i p:Operand}{t kt e b:Nat}{kk:IntKind}{es:List MapEntry}{ck:Nat}{k:Int}{v:Value}{f:Obj->SH}(hm:ev E m=some (.map (some b)))(hi:ev E i=some (.int kk k))(hp:ev E p=some v)
  [hM:WZ x.P t kt e] [hK:YV x.P kt kk] [hU:Upd b L (.map ⟨es⟩ ck) f] (hes:ZP kk es) (hu:UKeys es)
  (kk':∀es' ck',ZP kk es'->UKeys es'->(∀j,Ym es' j=if j=k then some v else Ym es j)->TL x ops rest Q E ρ (f (.map ⟨es'⟩ ck'))) :
  TL x ops (⟨none,.mapUpdate t m i p,ty,pos,af,none⟩::rest) Q E ρ L:=λ a w ha hw=>by
 refine Ye rfl rfl ?_
 obtain⟨es',ck',hrun,h1,h2,h3⟩:=run_mapUpdate_u hM hK (hw.upd hU (.map ⟨es⟩ ck)).2 hes hu k v
 have hs:=(hw.upd hU (.map ⟨es'⟩ ck')).1
 have:(execOp a.eval ⟨none,.mapUpdate t m i p,ty,pos,af,none⟩).run x.P w=.ok .skip (Vq w b (.map ⟨es'⟩ ck')):=by
  simp only[execOp,ha.eval hm,ha.eval hi,ha.eval hp,Sem.run_bind,hrun,Result.andThen_ok,Sem.run_pure]
 rw[this]
 exact kk' es' ck' h1 h2 h3 _ _ (ha.put_none undef) hs
theorem run_delete_u {P:Program}{t kt e ty:TypeId}{kk:IntKind}(hM:WZ P t kt e)(hK:YV P kt kk){w:World}{b:Nat}{es:List MapEntry}{ck:Nat}
  (hb:w.heap[b]?=some (.map ⟨es⟩ ck)) (hes:ZP kk es) (hu:UKeys es) (k:Int) :
  ∃es',(Builtin.delete_ #[t,kt] ty #[.map (some b),.int kk k]).run P w=.ok (.tuple #[]) (Vq w b (.map ⟨es'⟩ ck))/\ZP kk es'/\UKeys es'/\∀j,Ym es' j=if j=k then none else Ym es j:=by
 have hck:=λ e=>WI hK e k w
 have hfk:(Instr.findKey kt (.int kk k) es).run P w=.ok ((Instr.findNow (.int kk) (.int kk k) es 0).getD none) w/\True:=by
  refine⟨?_,trivial⟩
  simp only[Instr.findKey,Sem.run_bind,underlying,run_program,Result.andThen_ok,hK.out,Sem.run_pure]
  rcases XP (k:=k) es 0 hes with⟨h1,h2⟩|⟨pre,e',post,h0,h1,h2,h3,h4⟩
  ·simp[h2]
  ·simp[h4]
 rcases XP (k:=k) es 0 hes with⟨h1,h2⟩|⟨pre,e',post,rfl,h1,h2,h3,h4⟩
 ·rw[h2] at hfk
  refine⟨es, ?_,hes,hu,λ j=>?_⟩
  ·simp[Builtin.delete_,underlying,hM.out,MapKept.run_getObj_map hb,hck,hfk.1,MapKept.run_setObj_map _ hb,Vq]
  ·split
   ·subst j;exact h1
   ·rfl
 ·rw[h4] at hfk
  obtain⟨hu1,hu2⟩:=hu.del
  refine⟨pre++post, ?_,λ e he=>hes e (by rcases List.mem_append.1 he with he|he<;>simp[he]),hu1,λ j=>?_⟩
  ·have her:(pre++e'::post).eraseIdx pre.length=pre++post:=by simp[List.eraseIdx_append_of_length_le]
   simp[Builtin.delete_,underlying,hM.out,MapKept.run_getObj_map hb,hck,hfk.1,her,MapKept.run_setObj_map _ hb,Vq]
  ·rw[Wi]
   by_cases hj:j=k
   ·subst hj
    rw[if_pos rfl,h2,mget_none.2 (λ x hx kk' hk'=>?_)]
    ·rfl
    ·obtain⟨a,ha⟩:=hes x (by simp[hx])
     refine hu2 x hx ?_
     rw[h1,ha]
     rw[ha] at hk'
     simp only[Value.int.injEq] at hk' ⊢
     exact⟨trivial,hk'.2⟩
   ·rw[if_neg hj,Wi]
    congr 1
    have hkj:(k == j)=false:=by simpa using λ e:k=j=>hj e.symm
    simp[Ym,List.find?_cons,h1,hkj]
theorem tl_delete {m i:Operand}{t kt e b:Nat}{kk:IntKind}{es:List MapEntry}{ck:Nat}{k:Int}{f:Obj->SH}(hm:ev E m=some (.map (some b)))(hi:ev E i=some (.int kk k))
  [hM:WZ x.P t kt e] [hK:YV x.P kt kk] [hU:Upd b L (.map ⟨es⟩ ck) f] (hes:ZP kk es) (hu:UKeys es)
  (kk':∀es',ZP kk es'->UKeys es'->(∀j,Ym es' j=if j=k then none else Ym es j)->TL x ops rest Q E ρ (f (.map ⟨es'⟩ ck))) :
  TL x ops (⟨none,.call { callee:=.builtin .delete,args:=#[m,i],argTypes:=#[t,kt] },ty,pos,af,none⟩::rest) Q E ρ L:=λ a w ha hw=>by
 refine Ye rfl rfl ?_
 obtain⟨es',hrun,h1,h2,h3⟩:=run_delete_u (ty:=ty) hM hK (hw.upd hU (.map ⟨es⟩ ck)).2 hes hu k
 have hs:=(hw.upd hU (.map ⟨es'⟩ ck)).1
 have:(execOp a.eval ⟨none,.call { callee:=.builtin .delete,args:=#[m,i],argTypes:=#[t,kt] },ty,pos,af,none⟩).run x.P w=.ok (.value (.tuple #[])) (Vq w b (.map ⟨es'⟩ ck)):=by
  have hargs:Array.map a.eval #[m,i]=#[.map (some b),.int kk k]:=by simp[ha.eval hm,ha.eval hi]
  simp only[execOp,resolve,Sem.run_bind,Sem.run_pure,Result.andThen_ok,invoke,builtin,hargs,hrun]
 rw[this]
 exact kk' es' h1 h2 h3 _ _ (ha.put_none _) hs
end
def IterP (P:Program)(g:FuncId)(fs cs:List Value){α:Type}(enc:α->List Value)(ρ0:Hp)(S:SH)(C:List (Nat×Obj))(xs:List α):Prop:=
 ∀(l:Nat) (J:List α->Hp->SH->Prop) (Jx:Hp->SH->Prop),(∀ρ Lj,J [] ρ Lj->∃A B,Lj=A++C::B) ->
  (∀pre y ρ Lj,(pre++[y]) <+: xs->ρ0.le ρ->J pre ρ Lj->YW P l (enc y) ρ (S++Lj) (YP S (J (pre++[y])) Jx)) ->
  ∀ρ Lj,ρ0.le ρ->J [] ρ Lj->Spec P g (fs++[.func (.yield l) ⟨[]⟩ ⟨[]⟩]++cs) ρ (S++Lj) (λ v ρ' L'=>∃Lj',L'=S++Lj'/\(J xs ρ' Lj'\/Jx ρ' Lj'))
section
variable {x:Cx}{Q:Exit->Act->World->Prop}{E:Env}{ρ ρ0:Hp}{L:SH}{l:Nat}{r:Loop}
theorem tc_rangeFuncP {fo:Operand}{ps:List Nat}{assign body:Code}{g:Nat}{fs cs:List Value}{α:Type}{enc:α->List Value}{S L0 R0 R:SH}{xs:List α}{C:List (Nat×Obj)}(hro:x.ro=none)
  (hf:ev E fo=some (.func (.func g) ⟨fs⟩ ⟨cs⟩)) [hF:Zz x.P g] (hI:IterP x.P g fs cs enc ρ0 S C xs) (hle:ρ0.le ρ) (hps:∀y,(enc y).length=ps.length) (hpN:ps.all (λ p=>Nat.blt p x.N)=true)
  (J:List α->Hp->SH->Prop) (Jx:Code->Hp->SH->Prop) (k1:Xj L S R0) (k2:Xj R0 L0 R) (h0:J [] ρ L0) (hC:∀ρ Lu,J [] ρ Lu->∃A B,Lu=A++C::B)
  (hround:∀l tm r pre y ρ' Lu u R',(pre++[y]) <+: xs->ρ0.le ρ'->J pre ρ' Lu->r.state=.ready->Rec tm ⟨ps⟩ assign body r ->
   TC ⟨some l,x.P,u,[],x.N⟩ assign (Exit.then (KB x.P l body (RQ x.P u ρ' R' l (YP S (JH l (Rec tm ⟨ps⟩ assign body) (J (pre++[y]))) (XH l (Rec tm ⟨ps⟩ assign body) Jx)))) QF)
    (envP ps (enc y) E) ρ' ([(l,.loop r)]::(S++(Lu++R'))))
  (hdone:∀D0 ρ' Lu,ρ.le ρ'->J xs ρ' Lu->TE { x with D:=[{ target:=.collected D0,args:=#[] }]++x.D } .normal Q E ρ' ([(D0,.deferred (some []))]::(S++(Lu++R))))
  (hstop:∀D0 c ρ' Lu,ρ.le ρ'->Jx c ρ' Lu->TC { x with D:=[{ target:=.collected D0,args:=#[] }]++x.D } c Q E ρ' ([(D0,.deferred (some []))]::(S++(Lu++R)))) :
  TC x (.rangeFunc fo ⟨ps⟩ assign body) Q E ρ L:=λ a w ha hw=>by
 obtain⟨ro,P,u,D,N⟩:=x
 simp only at hro;subst hro
 dsimp only at *
 refine wpIn_rangeFunc λ fn _=>?_
 have hw0:Sat u ρ (S++(L0++R)) w:=hw.perm (by
  refine k1.out.trans ?_
  simp only[List.flatten_append]
  exact List.Perm.append_left _ (by simpa using k2.out))
 have hw1:=hw0.new (.deferred (some []))
 generalize hr0:({ state:=.ready,pending:=none,fn,tmps:=a.tmps,params:=⟨ps⟩,assign,body,defers:=w.heap.size }:Loop)=r0
 have hw2:=hw1.new (.loop r0)
 have hsz:({ w with heap:=w.heap.push (.deferred (some [])) }:World).heap.size=w.heap.size+1:=by simp
 rw[hsz] at hw2
 have hrec0:Rec a.tmps ⟨ps⟩ assign body r0:=by subst hr0;exact⟨rfl,rfl,rfl,rfl⟩
 have hst0:r0.state=.ready/\r0.pending=none:=by subst hr0;exact⟨rfl,rfl⟩
 have henter:=run_enterLoop_outer (P:=P) (w:=w) fn a.tmps ⟨ps⟩ assign body
 rw[hr0] at henter
 have hres:(resolve a.eval (rangeCall fo (w.heap.size+1)) 0).run P ((w.alloc (.deferred (some []))).alloc (.loop r0)) =
   .ok { target:=.fn (.func g) ⟨cs⟩,args:=⟨fs++[.func (.yield (w.heap.size+1)) ⟨[]⟩ ⟨[]⟩]⟩ } ((w.alloc (.deferred (some []))).alloc (.loop r0)):=by
  simp only[resolve,ha.eval hf,Deferred.ofValue,Sem.run_pure]
  simp[Act.eval]
 refine⟨w.heap.size+1,_,_,_,_,g,⟨fs++[.func (.yield (w.heap.size+1)) ⟨[]⟩ ⟨[]⟩]++cs⟩,(w.alloc (.deferred (some []))).alloc (.loop r0),henter,hres,λ _ _=>trivial, ?_,λ h=>by simp[Fw,Fence.wide] at h, ?_⟩
 ·simp only[invoke]
  have:=run_callFunc hF (⟨fs++[.func (.yield (w.heap.size+1)) ⟨[]⟩ ⟨[]⟩]⟩++⟨cs⟩) ((w.alloc (.deferred (some []))).alloc (.loop r0))
  simpa using this
 generalize hl:w.heap.size+1=l at *
 generalize hD0:w.heap.size=D0 at *
 have hy:∀pre y ρ' Lj,(pre++[y]) <+: xs->ρ0.le ρ'->JH l (Rec a.tmps ⟨ps⟩ assign body) (J pre) ρ' Lj->YW P l (enc y) ρ' (S++Lj) (YP S (JH l (Rec a.tmps ⟨ps⟩ assign body) (J (pre++[y]))) (XH l (Rec a.tmps ⟨ps⟩ assign body) Jx)):=by
  intro pre y ρ' Lj hpre hle' hJ
  obtain⟨r,Lu,rfl,hrs,hrp,hrr,hJu⟩:=hJ
  intro u' R' w' hw'
  have hlr:=hw'.here (l,.loop r) (by simp)
  have hargs:(⟨enc y⟩:Array Value).size=r.params.size:=by rw[hrr.params];simpa using hps y
  refine⟨_,_,_,_,run_yield hlr hargs, ?_⟩
  have hround':=hround l a.tmps r pre y ρ' Lu u' R' hpre hle' hJu hrs hrr
  have hsat:Sat u' ρ' ([(l,.loop r)]::(S++(Lu++R'))) w':=hw'.perm (by simp)
  have hok:Ok [] N (envP ps (enc y) E) { tmps:=(r.params.zip ⟨enc y⟩).foldl (λ tmps (t,a)=>tmps.setIfInBounds t a) r.tmps,defers:=[] }:=by
   have h1:Ok [] N E { tmps:=a.tmps,defers:=[] }:=⟨rfl,ha.size,ha.get⟩
   have:=Ok.putP ps (enc y) E a.tmps hpN h1
   rw[hrr.params,hrr.tmps]
   have e:((⟨ps⟩:Array Nat).zip ⟨enc y⟩)=⟨ps.zip (enc y)⟩:=by simp
   rw[e]
   simpa using this
  have hwp:=hround' _ w' hok hsat
  rw[hrr.assign,hrr.body]
  refine roundIn_of_wpIn (F:=Fw none) (n:=0) trivial ?_
  exact hwp
 have hspec:=hI l (λ pre=>JH l (Rec a.tmps ⟨ps⟩ assign body) (J pre)) (XH l (Rec a.tmps ⟨ps⟩ assign body) Jx) (λ ρ Lj ⟨r,Lu,e1,_,_,_,e5⟩=>by
  obtain⟨A,B,rfl⟩:=hC _ _ e5
  exact⟨[(l,.loop r)]::A,B,by rw[e1];rfl⟩) hy ρ ([(l,.loop r0)]::L0) hle ⟨r0,L0,rfl,hst0.1,hst0.2,hrec0,h0⟩
 have hcall:=hspec u ([(D0,.deferred (some []))]::R) ((w.alloc (.deferred (some []))).alloc (.loop r0)) (hw2.perm (by
  simp only[aF,List.flatten_append,aA,List.cons_append,List.singleton_append,List.nil_append]
  refine List.Perm.trans (l₂:=S.flatten++((l,.loop r0)::(D0,.deferred (some []))::(L0.flatten++R.flatten))) ?_ ?_
  ·refine List.Perm.trans ?_ List.perm_middle.symm
   refine List.Perm.cons _ ?_
   exact List.perm_middle.symm
  ·refine List.Perm.append_left _ (List.Perm.cons _ ?_)
   exact List.perm_middle.symm))
 refine calls_ro (CallsIn.mono hcall ?_)
 rintro e w3 ⟨v,ρ',L',rfl,hle',hsat,Lj',rfl,hor⟩
 have perm4:∀(c:List (Nat×Obj)) (Lu:SH),(S++(c::Lu)++([(D0,.deferred (some []))]::R)).flatten.Perm (c::([(D0,.deferred (some []))]::(S++(Lu++R)))).flatten:=λ c Lu=>by
  simp only[aF,List.flatten_append,aA,List.cons_append,List.singleton_append,List.nil_append]
  refine List.Perm.trans ?_ (List.Perm.append_left c (List.perm_middle (l₁:=S.flatten++Lu.flatten) (a:=(D0,.deferred (some []))) (l₂:=R.flatten) |>.trans (by simp)))
  rw[<-aA,<-aA c]
  refine List.Perm.trans (List.Perm.append_right _ List.perm_append_comm) ?_
  simp only[aA]
  exact List.Perm.refl _
 rcases hor with⟨r,Lu,rfl,hrs,hrp,hrr,hJu⟩|⟨r,Lu,c,rfl,hrs,hrp,hrr,hJu⟩
 ·have hs1:=hsat.perm (perm4 [(l,.loop r)] Lu)
  have hlr:=hs1.here (l,.loop r) (by simp)
  refine⟨r.pending,_,run_endLoop hlr (by rw[hrs];simp), ?_⟩
  rw[hrp]
  have hs2:=(hs1.put (.loop { r with state:=.exhausted,pending:=none })).sub (L':=[(D0,.deferred (some []))]::(S++(Lu++R))) (by simp)
  exact hdone D0 ρ' Lu hle' hJu _ _ ⟨by simp[ha.defers],ha.size,ha.get⟩ hs2
 ·have hs1:=hsat.perm (perm4 [(l,.loop r)] Lu)
  have hlr:=hs1.here (l,.loop r) (by simp)
  refine⟨r.pending,_,run_endLoop hlr (by rw[hrs];simp), ?_⟩
  rw[hrp]
  have hs2:=(hs1.put (.loop { r with state:=.exhausted,pending:=some c })).sub (L':=[(D0,.deferred (some []))]::(S++(Lu++R))) (by simp)
  exact hstop D0 c ρ' Lu hle' hJu _ _ ⟨by simp[ha.defers],ha.size,ha.get⟩ hs2
end
end Go.Proofs.E
namespace Go.Proofs.E
open Go
attribute [local irreducible] Yl TL TC TE Spec YW R1 Hp.le EnvLe TS TR YS Zv
inductive Pl|o|f (ns:List Nat) (t:Pl)|e (n:Nat) (ns:List Nat) (t:Pl)|b (i j:Nat) (ns ms:List Nat) (s t:Pl)|c (i j k:Nat) (ns ms os:List Nat) (s t u:Pl)
def TP (ns:List Nat)(t:Pl)(G:Prop):Prop:=G
def QP (ns:List Nat)(t:Pl)(q:Exit->Act->World->Prop):Exit->Act->World->Prop:=q
section
variable {x:Cx}{Q:Exit->Act->World->Prop}{E:Env}{ρ ρ0:Hp}{L Ls:SH}{ops:Array Oper}{rest:List Oper}{ty:TypeId}{pos:String}{af:Array Edge}{d:Nat}{v:Value}{dd:Option Nat}{gd:Nat×Bool}{op:Op}{l:List Oper}{listed:List Bool}{fuel:Nat}{tail:List Oper}{n:Nat}{ns:List Nat}{t:Pl}
theorem qR {d g:Nat}{f:Operand}{xs:List Operand}{ats:Array TypeId}{fs cs vs:List Value}{Lf Lg R:SH}{w:Value}{ρ1:Hp}(hf:ev E f=some (.func (.func g) ⟨fs⟩ ⟨cs⟩))(hv:evs E xs=some vs)[hF:Zz x.P g]
  (S:Spec x.P g (fs++vs++cs) ρ Lf (λ v ρ' L'=>v=w/\ρ'=ρ1/\L'=Lg)) (k:TL x ops rest Q ((d,w)::E) ρ1 (Lg++R)) (hT:Xj L Lf R:=by exact tk) (hd:Nat.blt d x.N=true:=by rfl) :
  TL x ops (⟨some d,.call { callee:=.value f,args:=⟨xs⟩,argTypes:=ats },ty,pos,af,none⟩::rest) Q E ρ L:=qC hf hv S (λ _ _ _ _ h=>by obtain⟨rfl,rfl,rfl⟩:=h;exact k) hT hd
theorem iT {P:Prop}(h:TP ns t P):TP ns t P:=h
theorem iQ {P:Prop}(h:TP (n::ns) t P):TP (n::ns) t P:=h
theorem iF {P:Prop}(h:TP [] (.f ns t) P):TP [] (.f ns t) P:=h
theorem iD {P:Prop}(h:TP [] .o P):TP [] .o P:=h
theorem iE {P:Prop}(h:TP [] (.e n ns t) P):TP [] (.e n ns t) P:=h
theorem iB {P:Prop}{i j:Nat}{ms:List Nat}{s:Pl}(h:TP [] (.b i j ns ms s t) P):TP [] (.b i j ns ms s t) P:=h
theorem iC {P:Prop}{i j k:Nat}{ms os:List Nat}{s u:Pl}(h:TP [] (.c i j k ns ms os s t u) P):TP [] (.c i j k ns ms os s t u) P:=h
theorem Yt (ns:List Nat)(t:Pl)(Ls:SH){id:Nat}{R:SH}[hm:Mixed x.P](h:TP ns t (TR x l (Zv x ρ Ls) l.length (List.replicate l.length false) Q E ρ L))(hT:Xj L Ls R:=by exact tk):TC x (.region id l.toArray true) Q E ρ L:=tc_any (Zv x ρ Ls) (stays_of (hT:=hT) (Hp.le_refl _)) h
theorem tpZ (ns:List Nat)(t:Pl){id:Nat}[hm:Mixed x.P](h:TP ns t (TR x l (Zv x ρ L) l.length (List.replicate l.length false) Q E ρ L)):TC x (.region id l.toArray true) Q E ρ L:=tc_any (Zv x ρ L) stays_refl h
theorem rQ (k:TP ns t (TR x l (Zv x ρ0 Ls) fuel (WH listed n) Q ((d,v)::E) ρ L))(hi:l[n]?=some ⟨some d,op,ty,pos,af,none⟩:=by rfl)(hb:Vl l listed n=true:=by decide +kernel)(y:∀ρ',ρ0.le ρ'->Yl x op ty E ρ' Ls v:=by intro _ _;exact yD)(hd:Nat.blt d x.N=true:=by rfl):TP (n::ns) t (TR x l (Zv x ρ0 Ls) (fuel+1) listed Q E ρ L):=tr_take n hb hi (ys_of' (λ _ h=>h) y) hd k
theorem rW {j t0:Nat}{b0:Bool}(k:TP ns t (TR x l (Zv x ρ0 Ls) fuel (WH listed n) Q ((d,v)::E) ρ L))(hi:l[n]?=some ⟨some d,op,ty,pos,af,some (j,b0)⟩:=by rfl)(hj:(l[j]?).bind (·.dst)=some t0:=by rfl)(he:lk E t0=some (.bool b0):=by rfl)(hb:Vl l listed n=true:=by decide +kernel)(y:∀ρ',ρ0.le ρ'->Yl x op ty E ρ' Ls v:=by intro _ _;exact yD)(hd:Nat.blt d x.N=true:=by rfl):TP (n::ns) t (TR x l (Zv x ρ0 Ls) (fuel+1) listed Q E ρ L):=tr_want n hb hi hj he (ys_of' (λ _ h=>h) y) hd k
theorem rK {j t0:Nat}{b c:Bool}(k:TP ns t (TR x l (Zv x ρ0 Ls) fuel (WH listed n) Q ((d,undef)::E) ρ L))(hi:l[n]?=some ⟨some d,op,ty,pos,af,some (j,c)⟩:=by rfl)(hj:(l[j]?).bind (·.dst)=some t0:=by rfl)(he:lk E t0=some (.bool b):=by rfl)(hbc:(b == c)=false:=by rfl)(hb:Vl l listed n=true:=by decide +kernel)(hd:Nat.blt d x.N=true:=by rfl):TP (n::ns) t (TR x l (Zv x ρ0 Ls) (fuel+1) listed Q E ρ L):=tr_skip n hb hi hj he hbc hd k
theorem rU {j t0:Nat}{c:Bool}(k:TP ns t (TR x l (Zv x ρ0 Ls) fuel (WH listed n) Q ((d,undef)::E) ρ L))(hi:l[n]?=some ⟨some d,op,ty,pos,af,some (j,c)⟩:=by rfl)(hj:(l[j]?).bind (·.dst)=some t0:=by rfl)(he:lk E t0=some undef:=by rfl)(hb:Vl l listed n=true:=by decide +kernel)(hd:Nat.blt d x.N=true:=by rfl):TP (n::ns) t (TR x l (Zv x ρ0 Ls) (fuel+1) listed Q E ρ L):=tr_undef n hb hi (λ a ha=>yl_undef ha (by simpa using hj) he) hd k
theorem rKe {j t0:Nat}{b c:Bool}(k:TP ns t (TR x l (Zv x ρ0 Ls) fuel (WH listed n) Q ((d,undef)::E) ρ L))(hi:l[n]?=some ⟨some d,op,ty,pos,af,some (j,c)⟩:=by rfl)(hj:(l[j]?).bind (·.dst)=some t0:=by rfl)(he:lk E t0=some (.bool b):=by rfl)(hbc:(b == c)=false:=by rfl)(hb:Vl l listed n=true:=by decide +kernel)(hd:Nat.blt d x.N=true:=by rfl):TP [] (.e n ns t) (TR x l (Zv x ρ0 Ls) (fuel+1) listed Q E ρ L):=tr_skip n hb hi hj he hbc hd k
theorem rUe {j t0:Nat}{c:Bool}(k:TP ns t (TR x l (Zv x ρ0 Ls) fuel (WH listed n) Q ((d,undef)::E) ρ L))(hi:l[n]?=some ⟨some d,op,ty,pos,af,some (j,c)⟩:=by rfl)(hj:(l[j]?).bind (·.dst)=some t0:=by rfl)(he:lk E t0=some undef:=by rfl)(hb:Vl l listed n=true:=by decide +kernel)(hd:Nat.blt d x.N=true:=by rfl):TP [] (.e n ns t) (TR x l (Zv x ρ0 Ls) (fuel+1) listed Q E ρ L):=tr_undef n hb hi (λ a ha=>yl_undef ha (by simpa using hj) he) hd k
theorem rG {S:World->Prop}{j t0:Nat}{b c:Bool}(h1:b=true->TP (n::ns) t (TR x l S fuel listed Q ((t0,.bool true)::E) ρ L))(h2:b=false->TP (n::ns) t (TR x l S fuel listed Q ((t0,.bool false)::E) ρ L))(hi:l[n]?=some ⟨dd,op,ty,pos,af,some (j,c)⟩:=by rfl)(hj:(l[j]?).bind (·.dst)=some t0:=by rfl)(he:lk E t0=some (.bool b):=by rfl) :
  TP (n::ns) t (TR x l S fuel listed Q E ρ L):=tr_guard he h1 h2
theorem rF {R:SH}(h:TP ns t (TR x l (Zv x ρ L) fuel listed Q E ρ L))(hle:ρ0.le ρ:=by first|assumption|exact Hp.le_refl _|(refine Hp.le_trans ?_ (by assumption);assumption)|solve_by_elim (maxDepth:=6) [Hp.le_trans])(hT:Xj L Ls R:=by exact tk):TP [] (.f ns t) (TR x l (Zv x ρ0 Ls) fuel listed Q E ρ L):=tr_full hle hT h
theorem rD {S:World->Prop}(h:TE x .normal Q E ρ L)(hr:Region.ready .any l.toArray ⟨listed⟩=[]:=by decide +kernel):TP [] .o (TR x l S fuel listed Q E ρ L):=tr_done hr h
theorem rA {G P:Prop}(k:G)(h:G->TP ns t P:=by
   intro k
   first
   | (refine iQ ?_;first|exact rQ k|exact rW k|exact rK k|exact rU k)
   | (refine iF ?_;exact rF k)
   | (refine iD ?_;exact rD k)
   | (refine iE ?_;first|exact rKe k|exact rUe k)):TP ns t P:=h k
theorem rAb {G P:Prop}(k:G)(h:G->TP ns t P:=by
   intro k
   first
   | (refine iQ ?_;first|exact rQ k (y:=by intro _ _;exact y_buildN rfl)|exact rQ k|exact rW k|exact rK k|exact rU k)
   | (refine iF ?_;exact rF k)
   | (refine iD ?_;exact rD k)
   | (refine iE ?_;first|exact rKe k|exact rUe k)):TP ns t P:=h k
theorem rE {o:Oper}(h:TL x l.toArray [o] (QP ns t (QR x l (Zv x ρ0 Ls) fuel (WH listed n) Q)) E ρ L)(ho:l[n]?=some o:=by rfl)(hr:Region.ready .any l.toArray ⟨listed⟩=[n]:=by decide +kernel):TP [] (.e n ns t) (TR x l (Zv x ρ0 Ls) (fuel+1) listed Q E ρ L):=tr_step1 hr ho h
theorem rB {i j:Nat}{ms:List Nat}{s:Pl}{o p:Oper}(h:TL x l.toArray [o] (QP ns s (QR x l (Zv x ρ0 Ls) fuel (WH listed i) Q)) E ρ L)(h':TL x l.toArray [p] (QP ms t (QR x l (Zv x ρ0 Ls) fuel (WH listed j) Q)) E ρ L)(hr:Region.ready .any l.toArray ⟨listed⟩=[i,j]:=by decide +kernel)(ho:l[i]?=some o:=by rfl)(hp:l[j]?=some p:=by rfl) :
  TP [] (.b i j ns ms s t) (TR x l (Zv x ρ0 Ls) (fuel+1) listed Q E ρ L):=tr_step2 hr ho hp h h'
theorem rC {i j k:Nat}{ms os:List Nat}{s u:Pl}{o p q:Oper}(h:TL x l.toArray [o] (QP ns s (QR x l (Zv x ρ0 Ls) fuel (WH listed i) Q)) E ρ L)(h':TL x l.toArray [p] (QP ms t (QR x l (Zv x ρ0 Ls) fuel (WH listed j) Q)) E ρ L)(h'':TL x l.toArray [q] (QP os u (QR x l (Zv x ρ0 Ls) fuel (WH listed k) Q)) E ρ L)(hr:Region.ready .any l.toArray ⟨listed⟩=[i,j,k]:=by decide +kernel)(ho:l[i]?=some o:=by rfl)(hp:l[j]?=some p:=by rfl)(hq:l[k]?=some q:=by rfl) :
  TP [] (.c i j k ns ms os s t u) (TR x l (Zv x ρ0 Ls) (fuel+1) listed Q E ρ L):=rStep3 h h' h'' hr ho hp hq
theorem rN {R:SH}(h:TP ns t (TR x l (Zv x ρ0 Ls) fuel listed Q E ρ L))(hle:ρ0.le ρ:=by first|assumption|exact Hp.le_refl _|(refine Hp.le_trans ?_ (by assumption);assumption)|solve_by_elim (maxDepth:=6) [Hp.le_trans])(hT:Xj L Ls R:=by exact tk):TE x .normal (QP ns t (QR x l (Zv x ρ0 Ls) fuel listed Q)) E ρ L:=te_any (stays_of hle (hT:=hT)) h
end
theorem zB {G P:Prop}(k:G)(h:G->P:=by
   intro k
   first
   | (refine i_op ?_;first|(refine i_qq ?_;exact qQ k)|exact qEf k|exact qAn k|exact qXo k|exact qNt k)
   | exact tl_nil k
   | (refine i_tc ?_;exact qTc k)
   | (refine i_te ?_;exact qTe k)):P:=h k
theorem kA {α:Type _}:(∀(a:α) (s t:List α),(a::s)++t=a::(s++t))/\(∀s:List α,[]++s=s)/\(∀s t:List α,List.append s t=s++t):=⟨λ _ _ _=>rfl,λ _=>rfl,λ _ _=>rfl⟩
end Go.Proofs.E
namespace Go.Proofs.E
open Go
attribute [local irreducible] Yl TL TC TE Spec YW R1 Hp.le EnvLe TS TR YS Zv TP QP
theorem kB {α:Type _}:(∀(a:α) (s t:List α),(a::s)++t=a::(s++t))/\(∀s:List α,[]++s=s)/\(∀s t:List α,List.append s t=s++t)/\(∀s t u:List α,s++t++u=s++(t++u)):=⟨λ _ _ _=>rfl,λ _=>rfl,λ _ _=>rfl,λ _ _ _=>aA _ _ _⟩
theorem kH:(∀{p:Prop} [Decidable p],(decide p=true)=p)/\(∀{p:Prop} [Decidable p],(decide p=false)↔¬p)/\(∀(b:Bool),(¬b=true)=(b=false))/\(∀(b:Bool),(¬b=false)=(b=true)) /\
  (∀{a b:Int},(a == b)=true↔a=b)/\(∀{a b:Int},(a != b)=true↔a≠b)/\(∀{a b:Bool},(a == b)=true↔a=b)/\(∀{a b:Bool},(a != b)=true↔a≠b)/\(∀{α:Type} (a b:α),(a≠b)=¬(a=b))/\(∀{a b:Bool},((!a)=b)↔(a=!b))/\((!true)=false)/\((!false)=true) /\
  (∀{a b:Int},(a == b)=false↔a≠b)/\(∀{a b:Int},(a != b)=false↔a=b)/\(∀{a b:Bool},(a == b)=false↔a≠b)/\(∀{a b:Bool},(a != b)=false↔a=b) /\
  (∀{p q:Prop} [Decidable p] [Decidable q],(decide p=decide q)↔(p↔q))/\(∀(a b:Bool),((a && b)=true)=(a=true/\b=true))/\(∀(a b:Bool),((a || b)=true)=(a=true\/b=true))/\(∀{a b:Bool},(a && b)=false↔(a=true->b=false))/\(∀{a b:Bool},(a || b)=false↔a=false/\b=false):=
 ⟨decide_eq_true_eq,decide_eq_false_iff_not,Bool.not_eq_true,Bool.not_eq_false,beq_iff_eq,bne_iff_ne,beq_iff_eq,bne_iff_ne,λ a b=>ne_eq a b,Bool.not_eq_eq_eq_not,rfl,rfl,beq_eq_false_iff_ne,bne_eq_false_iff_eq,beq_eq_false_iff_ne,bne_eq_false_iff_eq,decide_eq_decide,aE,Bool.or_eq_true,Bool.and_eq_false_imp,Bool.or_eq_false_iff⟩
theorem kI:(∀{a b c d:Int},((a == b)=(c == d))↔(a=b↔c=d))/\(∀{a b:Int},(true=(a == b))↔a=b)/\(∀{a b:Int},(false=(a == b))↔¬a=b):=⟨bq2,bqt,bqf⟩
inductive KeepE:List Nat->Env->Env->Prop
 | nil {E:Env}:KeepE [] E []
 | cons {t:Nat} {v:Value} {l:List Nat} {E C:Env} (h:lk E t=some v) (k:KeepE l E C):KeepE (t::l) E ((t,v)::C)
theorem KeepE.le {l:List Nat}{E C:Env}(h:KeepE l E C):EnvLe C E:=by
 induction h with
 | nil=>exact EnvLe.nil _
 | cons h _ ih=>exact EnvLe.cons h ih
theorem kp {l:List Nat}{E C:Env}(h:KeepE l E C:=by repeat (first|exact KeepE.nil|apply KeepE.cons rfl)):KeepE l E C:=h
section
variable {x:Cx}{Q:Exit->Act->World->Prop}{E:Env}{ρ:Hp}{L:SH}
theorem lpG (Y:Type)(l:List Nat){c:Code}{R:SH}{C:Env}(M:Y->Env)(ρf:Y->Hp)(Lf:Y->SH)(I:Y->Prop)(μ:Y->Nat)(y0:Y)(h0:I y0)
  (round:∀y,I y->TC x c (Exit.then (KRG x C M ρf Lf R I μ y) Q) (M y++C) (ρf y) (Lf y++R)) (hM:EnvLe (M y0) E:=by exact ev_le) (hC:KeepE l E C:=by exact kp) (hρ:ρf y0=ρ:=by rfl) (k:Xj L (Lf y0) R:=by exact tk):TC x (.loop c) Q E ρ L:=
 tc_loop_g C M ρf Lf I μ y0 h0 hM hC.le hρ k round
theorem rnG {Y:Type}{C:Env}{M:Y->Env}{ρf:Y->Hp}{Lf:Y->SH}{R G:SH}{I:Y->Prop}{μ:Y->Nat}{y:Y}(y':Y)(hI:I y')(hM:EnvLe (M y') E:=by exact ev_le)(hC:EnvLe C E:=by exact ev_le)(hρ:ρf y'=ρ:=by rfl)(k:Xj L (Lf y') G:=by exact tk)(e:Ends G R:=by infer_instance)(hμ:μ y'<μ y:=by first|omega|(dsimp only;omega)) :
  TE x .normal (Exit.then (KRG x C M ρf Lf R I μ y) Q) E ρ L:=te_round_g y' hI hM hC hρ k e hμ
end
theorem zG {A B G H P:Prop}(k:A->G)(k':B->H)(h:(A->G)->(B->H)->P:=by
   intro k k'
   first
   | (refine i_gd ?_;exact tl_guard rfl rfl k k')
   | (refine i_cond ?_;exact tc_cond rfl k k')):P:=h k k'
section
variable {x:Cx}{Q:Exit->Act->World->Prop}{E:Env}{ρ ρ0:Hp}{L Ls:SH}{ops:Array Oper}{l:List Oper}{listed:List Bool}{fuel:Nat}{ns:List Nat}{t:Pl}
theorem zN {R:SH}(h:TP ns t (TR x l (Zv x ρ0 Ls) fuel listed Q E ρ L))(hle:ρ0.le ρ:=by first|assumption|exact Hp.le_refl _|(refine Hp.le_trans ?_ (by assumption);assumption)|solve_by_elim (maxDepth:=6) [Hp.le_trans])(hT:Xj L Ls R:=by exact tk):TL x ops [] (QP ns t (QR x l (Zv x ρ0 Ls) fuel listed Q)) E ρ L:=tl_nil (rN h hle hT)
end
end Go.Proofs.E
