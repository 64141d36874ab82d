/- Laws of LogDoes. Part 4 of 30. -/
import Derived.Test.YthjhjmnmnbcioaaGreatD3
import Derived.Test.YthjhjmnmnbcioaaGreatChecked
import Derived.KernelRfl
set_option linter.unusedVariables false
set_option linter.unusedSimpArgs false
set_option linter.unusedSectionVars false
namespace Go.Proofs.E
open Go Go.Lib
instance (priority:=1100) eqC_four {P:Program}{m t e:Nat}{k:IntKind}[hA:TyArr P t 4 e][hE:Xg P e k][hS:TyS P e]{a b c d a' b' c' d':Int} :
  EqC P (m+2) t (.agg ⟨[.int k a,.int k b,.int k c,.int k d]⟩) (.agg ⟨[.int k a',.int k b',.int k c',.int k d']⟩) (decide (a=a'/\b=b'/\c=c'/\d=d')):=⟨λ dd w hdd=>by
 obtain⟨dd,rfl⟩:∃d',dd=d'+2:=⟨dd-2,by omega⟩
 obtain⟨ds,i,g1,g2,g3,g4⟩:=hS.out
 have hag:∀w,(isAgg e).run P w=.ok false w:=λ w=>by
  simp only[isAgg,underlying,Sem.run_bind,run_program,Result.andThen_ok,g1,Sem.run_pure]
  cases ds<;>simp_all
 have hcl:P.cellsOf e=1:=by simp[Program.cellsOf,g3,g4]
 have hp:∀(x:Array Value) (j:Nat) (v:Value) (w:World),x[j]?=some v->(part e x j).run P w=.ok v w:=λ x j v w h=>by
  simp[part,hag,h]
 have hr:=λ (x y:Int) (w:World)=>run_equalIn_int (P:=P) w dd e k k x y hE.out
 rw[run_equalIn_array w (dd+1) _ _ hA.out g3,show List.range 4=[0,1,2,3] from rfl]
 have q0:=λ w=>hp ⟨[.int k a,.int k b,.int k c,.int k d]⟩ 0 (.int k a) w rfl
 have q1:=λ w=>hp ⟨[.int k a,.int k b,.int k c,.int k d]⟩ 1 (.int k b) w rfl
 have q2:=λ w=>hp ⟨[.int k a,.int k b,.int k c,.int k d]⟩ 2 (.int k c) w rfl
 have q3:=λ w=>hp ⟨[.int k a,.int k b,.int k c,.int k d]⟩ 3 (.int k d) w rfl
 have p0:=λ w=>hp ⟨[.int k a',.int k b',.int k c',.int k d']⟩ 0 (.int k a') w rfl
 have p1:=λ w=>hp ⟨[.int k a',.int k b',.int k c',.int k d']⟩ 1 (.int k b') w rfl
 have p2:=λ w=>hp ⟨[.int k a',.int k b',.int k c',.int k d']⟩ 2 (.int k c') w rfl
 have p3:=λ w=>hp ⟨[.int k a',.int k b',.int k c',.int k d']⟩ 3 (.int k d') w rfl
 simp only[Op.eqItems,Sem.run_bind,hcl,Nat.mul_one,q0,p0,q1,p1,q2,p2,q3,p3,Result.andThen_ok,hr]
 cases h0:(a == a')<;>cases h1:(b == b')<;>cases h2:(c == c')<;>cases h3:(d == d')<;>simp only[h0,h1,h2,h3,Bool.not_true,Bool.not_false,if_true,if_false,aB,Sem.run_bind,Sem.run_pure,q1,p1,q2,p2,q3,p3,hr,Result.andThen_ok,Op.eqItems]
 all_goals (congr 1;simp only[beq_iff_eq,beq_eq_false_iff_ne] at h0 h1 h2 h3;simp[h0,h1,h2,h3])⟩
end Go.Proofs.E
namespace Go.Proofs.E
open Go
attribute [local irreducible] Yl TL TC TE Spec YL R1 Hp.le EnvLe TS TR YS Zt
theorem zW {G P:Prop}(k:G)(h:G->P:=by
   intro k
   first
   | (refine i_op ?_;first|(refine i_qq ?_;exact qQ k)|exact qEf k)
   | exact Yz k
   | (refine i_tc ?_;exact qTc k)
   | (refine i_te ?_;exact qTe k)):P:=h k
theorem zV {G P:Prop}(k:G)(h:G->P:=by
   intro k
   first
   | (refine iBu ?_;exact tl_y (VC rfl) rfl rfl k)
   | (refine i_op ?_;first|(refine i_qq ?_;exact qQ k)|exact qEf k)
   | exact Yz k
   | (refine i_tc ?_;exact qTc k)
   | (refine i_te ?_;exact qTe k)):P:=h k
end Go.Proofs.E
namespace Go.Proofs.E
open Go
def UKeys (es:List MapEntry):Prop:=es.Pairwise (λ a b=>a.key≠b.key)
theorem UKeys.add {es:List MapEntry}{x:MapEntry}(h:UKeys es)(hx:∀e∈es,¬e.key=x.key):UKeys (es++[x]):=by
 unfold UKeys
 rw[List.pairwise_append]
 exact⟨h,List.pairwise_singleton _ _,λ a ha b hb=>by rw[List.mem_singleton.1 hb];exact hx a ha⟩
section
variable {x:Cx}{Q:Exit->Act->World->Prop}{E:Env}{ρ ρ0:Hp}{L:SH}{ops:Array Oper}{rest:List Oper}{ty:TypeId}{pos:String}{af:Array Edge}
end
def IterP (P:Program)(g:FuncId)(fs cs:List Value){α:Type}(enc:α->List Value)(ρ0:Hp)(S:SH)(C:List (Nat×Obj))(xs:List α):Prop:=
 ∀(l:Nat) (J:List α->Hp->SH->Prop) (Jx:Hp->SH->Prop),(∀ρ Lj,J [] ρ Lj->∃A B,Lj=A++C::B) ->
  (∀pre y ρ Lj,(pre++[y]) <+: xs->ρ0.le ρ->J pre ρ Lj->YL P l (enc y) ρ (S++Lj) (YP S (J (pre++[y])) Jx)) ->
  ∀ρ Lj,ρ0.le ρ->J [] ρ Lj->Spec P g (fs++[.func (.yield l) ⟨[]⟩ ⟨[]⟩]++cs) ρ (S++Lj) (λ v ρ' L'=>∃Lj',L'=S++Lj'/\(J xs ρ' Lj'\/Jx ρ' Lj'))
section
variable {x:Cx}{Q:Exit->Act->World->Prop}{E:Env}{ρ ρ0:Hp}{L:SH}{l:Nat}{r:Loop}
theorem tc_rangeFuncP {fo:Operand}{ps:List Nat}{assign body:Code}{g:Nat}{fs cs:List Value}{α:Type}{enc:α->List Value}{S L0 R0 R:SH}{xs:List α}{C:List (Nat×Obj)}(hro:x.ro=none)
  (hf:ev E fo=some (.func (.func g) ⟨fs⟩ ⟨cs⟩)) [hF:ZJ x.P g] (hI:IterP x.P g fs cs enc ρ0 S C xs) (hle:ρ0.le ρ) (hps:∀y,(enc y).length=ps.length) (hpN:ps.all (λ p=>Nat.blt p x.N)=true)
  (J:List α->Hp->SH->Prop) (Jx:Code->Hp->SH->Prop) (k1:Xa L S R0) (k2:Xa R0 L0 R) (h0:J [] ρ L0) (hC:∀ρ Lu,J [] ρ Lu->∃A B,Lu=A++C::B)
  (hround:∀l tm r pre y ρ' Lu u R',(pre++[y]) <+: xs->ρ0.le ρ'->J pre ρ' Lu->r.state=.ready->Rec tm ⟨ps⟩ assign body r ->
   TC ⟨some l,x.P,u,[],x.N⟩ assign (Exit.then (KB x.P l body (RQ x.P u ρ' R' l (YP S (JH l (Rec tm ⟨ps⟩ assign body) (J (pre++[y]))) (XH l (Rec tm ⟨ps⟩ assign body) Jx)))) QF)
    (envP ps (enc y) E) ρ' ([(l,.loop r)]::(S++(Lu++R'))))
  (hdone:∀D0 ρ' Lu,ρ.le ρ'->J xs ρ' Lu->TE { x with D:=[{ target:=.collected D0,args:=#[] }]++x.D } .normal Q E ρ' ([(D0,.deferred (some []))]::(S++(Lu++R))))
  (hstop:∀D0 c ρ' Lu,ρ.le ρ'->Jx c ρ' Lu->TC { x with D:=[{ target:=.collected D0,args:=#[] }]++x.D } c Q E ρ' ([(D0,.deferred (some []))]::(S++(Lu++R)))) :
  TC x (.rangeFunc fo ⟨ps⟩ assign body) Q E ρ L:=λ a w ha hw=>by
 obtain⟨ro,P,u,D,N⟩:=x
 simp only at hro;subst hro
 dsimp only at *
 refine wpIn_rangeFunc λ fn _=>?_
 have hw0:Sat u ρ (S++(L0++R)) w:=hw.perm (by
  refine k1.out.trans ?_
  simp only[List.flatten_append]
  exact List.Perm.append_left _ (by simpa using k2.out))
 have hw1:=hw0.new (.deferred (some []))
 generalize hr0:({ state:=.ready,pending:=none,fn,tmps:=a.tmps,params:=⟨ps⟩,assign,body,defers:=w.heap.size }:Loop)=r0
 have hw2:=hw1.new (.loop r0)
 have hsz:({ w with heap:=w.heap.push (.deferred (some [])) }:World).heap.size=w.heap.size+1:=by simp
 rw[hsz] at hw2
 have hrec0:Rec a.tmps ⟨ps⟩ assign body r0:=by subst hr0;exact⟨rfl,rfl,rfl,rfl⟩
 have hst0:r0.state=.ready/\r0.pending=none:=by subst hr0;exact⟨rfl,rfl⟩
 have henter:=run_enterLoop_outer (P:=P) (w:=w) fn a.tmps ⟨ps⟩ assign body
 rw[hr0] at henter
 have hres:(resolve a.eval (rangeCall fo (w.heap.size+1)) 0).run P ((w.alloc (.deferred (some []))).alloc (.loop r0)) =
   .ok { target:=.fn (.func g) ⟨cs⟩,args:=⟨fs++[.func (.yield (w.heap.size+1)) ⟨[]⟩ ⟨[]⟩]⟩ } ((w.alloc (.deferred (some []))).alloc (.loop r0)):=by
  simp only[resolve,ha.eval hf,Deferred.ofValue,Sem.run_pure]
  simp[Act.eval]
 refine⟨w.heap.size+1,_,_,_,_,g,⟨fs++[.func (.yield (w.heap.size+1)) ⟨[]⟩ ⟨[]⟩]++cs⟩,(w.alloc (.deferred (some []))).alloc (.loop r0),henter,hres,λ _ _=>trivial, ?_,λ h=>by simp[Fw,Fence.wide] at h, ?_⟩
 ·simp only[invoke]
  have:=run_callFunc hF (⟨fs++[.func (.yield (w.heap.size+1)) ⟨[]⟩ ⟨[]⟩]⟩++⟨cs⟩) ((w.alloc (.deferred (some []))).alloc (.loop r0))
  simpa using this
 generalize hl:w.heap.size+1=l at *
 generalize hD0:w.heap.size=D0 at *
 have hy:∀pre y ρ' Lj,(pre++[y]) <+: xs->ρ0.le ρ'->JH l (Rec a.tmps ⟨ps⟩ assign body) (J pre) ρ' Lj->YL P l (enc y) ρ' (S++Lj) (YP S (JH l (Rec a.tmps ⟨ps⟩ assign body) (J (pre++[y]))) (XH l (Rec a.tmps ⟨ps⟩ assign body) Jx)):=by
  intro pre y ρ' Lj hpre hle' hJ
  obtain⟨r,Lu,rfl,hrs,hrp,hrr,hJu⟩:=hJ
  intro u' R' w' hw'
  have hlr:=hw'.here (l,.loop r) (by simp)
  have hargs:(⟨enc y⟩:Array Value).size=r.params.size:=by rw[hrr.params];simpa using hps y
  refine⟨_,_,_,_,run_yield hlr hargs, ?_⟩
  have hround':=hround l a.tmps r pre y ρ' Lu u' R' hpre hle' hJu hrs hrr
  have hsat:Sat u' ρ' ([(l,.loop r)]::(S++(Lu++R'))) w':=hw'.perm (by simp)
  have hok:Ok [] N (envP ps (enc y) E) { tmps:=(r.params.zip ⟨enc y⟩).foldl (λ tmps (t,a)=>tmps.setIfInBounds t a) r.tmps,defers:=[] }:=by
   have h1:Ok [] N E { tmps:=a.tmps,defers:=[] }:=⟨rfl,ha.size,ha.get⟩
   have:=Ok.putP ps (enc y) E a.tmps hpN h1
   rw[hrr.params,hrr.tmps]
   have e:((⟨ps⟩:Array Nat).zip ⟨enc y⟩)=⟨ps.zip (enc y)⟩:=by simp
   rw[e]
   simpa using this
  have hwp:=hround' _ w' hok hsat
  rw[hrr.assign,hrr.body]
  refine roundIn_of_wpIn (F:=Fw none) (n:=0) trivial ?_
  exact hwp
 have hspec:=hI l (λ pre=>JH l (Rec a.tmps ⟨ps⟩ assign body) (J pre)) (XH l (Rec a.tmps ⟨ps⟩ assign body) Jx) (λ ρ Lj ⟨r,Lu,e1,_,_,_,e5⟩=>by
  obtain⟨A,B,rfl⟩:=hC _ _ e5
  exact⟨[(l,.loop r)]::A,B,by rw[e1];rfl⟩) hy ρ ([(l,.loop r0)]::L0) hle ⟨r0,L0,rfl,hst0.1,hst0.2,hrec0,h0⟩
 have hcall:=hspec u ([(D0,.deferred (some []))]::R) ((w.alloc (.deferred (some []))).alloc (.loop r0)) (hw2.perm (by
  simp only[aF,List.flatten_append,aA,List.cons_append,List.singleton_append,List.nil_append]
  refine List.Perm.trans (l₂:=S.flatten++((l,.loop r0)::(D0,.deferred (some []))::(L0.flatten++R.flatten))) ?_ ?_
  ·refine List.Perm.trans ?_ List.perm_middle.symm
   refine List.Perm.cons _ ?_
   exact List.perm_middle.symm
  ·refine List.Perm.append_left _ (List.Perm.cons _ ?_)
   exact List.perm_middle.symm))
 refine calls_ro (CallsIn.mono hcall ?_)
 rintro e w3 ⟨v,ρ',L',rfl,hle',hsat,Lj',rfl,hor⟩
 have perm4:∀(c:List (Nat×Obj)) (Lu:SH),(S++(c::Lu)++([(D0,.deferred (some []))]::R)).flatten.Perm (c::([(D0,.deferred (some []))]::(S++(Lu++R)))).flatten:=λ c Lu=>by
  simp only[aF,List.flatten_append,aA,List.cons_append,List.singleton_append,List.nil_append]
  refine List.Perm.trans ?_ (List.Perm.append_left c (List.perm_middle (l₁:=S.flatten++Lu.flatten) (a:=(D0,.deferred (some []))) (l₂:=R.flatten) |>.trans (by simp)))
  rw[<-aA,<-aA c]
  refine List.Perm.trans (List.Perm.append_right _ List.perm_append_comm) ?_
  simp only[aA]
  exact List.Perm.refl _
 rcases hor with⟨r,Lu,rfl,hrs,hrp,hrr,hJu⟩|⟨r,Lu,c,rfl,hrs,hrp,hrr,hJu⟩
 ·have hs1:=hsat.perm (perm4 [(l,.loop r)] Lu)
  have hlr:=hs1.here (l,.loop r) (by simp)
  refine⟨r.pending,_,run_endLoop hlr (by rw[hrs];simp), ?_⟩
  rw[hrp]
  have hs2:=(hs1.put (.loop { r with state:=.exhausted,pending:=none })).sub (L':=[(D0,.deferred (some []))]::(S++(Lu++R))) (by simp)
  exact hdone D0 ρ' Lu hle' hJu _ _ ⟨by simp[ha.defers],ha.size,ha.get⟩ hs2
 ·have hs1:=hsat.perm (perm4 [(l,.loop r)] Lu)
  have hlr:=hs1.here (l,.loop r) (by simp)
  refine⟨r.pending,_,run_endLoop hlr (by rw[hrs];simp), ?_⟩
  rw[hrp]
  have hs2:=(hs1.put (.loop { r with state:=.exhausted,pending:=some c })).sub (L':=[(D0,.deferred (some []))]::(S++(Lu++R))) (by simp)
  exact hstop D0 c ρ' Lu hle' hJu _ _ ⟨by simp[ha.defers],ha.size,ha.get⟩ hs2
end
end Go.Proofs.E
namespace Go.Proofs.E
open Go
attribute [local irreducible] Yl TL TC TE Spec YL R1 Hp.le EnvLe TS TR YS Zt
inductive Pl|o|f (ns:List Nat) (t:Pl)|e (n:Nat) (ns:List Nat) (t:Pl)|b (i j:Nat) (ns ms:List Nat) (s t:Pl)|c (i j k:Nat) (ns ms os:List Nat) (s t u:Pl)
def TP (ns:List Nat)(t:Pl)(G:Prop):Prop:=G
def QP (ns:List Nat)(t:Pl)(q:Exit->Act->World->Prop):Exit->Act->World->Prop:=q
section
variable {x:Cx}{Q:Exit->Act->World->Prop}{E:Env}{ρ ρ0:Hp}{L Ls:SH}{ops:Array Oper}{rest:List Oper}{ty:TypeId}{pos:String}{af:Array Edge}{d:Nat}{v:Value}{dd:Option Nat}{gd:Nat×Bool}{op:Op}{l:List Oper}{listed:List Bool}{fuel:Nat}{tail:List Oper}{n:Nat}{ns:List Nat}{t:Pl}
theorem qR {d g:Nat}{f:Operand}{xs:List Operand}{ats:Array TypeId}{fs cs vs:List Value}{Lf Lg R:SH}{w:Value}{ρ1:Hp}(hf:ev E f=some (.func (.func g) ⟨fs⟩ ⟨cs⟩))(hv:evs E xs=some vs)[hF:ZJ x.P g]
  (S:Spec x.P g (fs++vs++cs) ρ Lf (λ v ρ' L'=>v=w/\ρ'=ρ1/\L'=Lg)) (k:TL x ops rest Q ((d,w)::E) ρ1 (Lg++R)) (hT:Xa L Lf R:=by exact tk) (hd:Nat.blt d x.N=true:=by rfl) :
  TL x ops (⟨some d,.call { callee:=.value f,args:=⟨xs⟩,argTypes:=ats },ty,pos,af,none⟩::rest) Q E ρ L:=qC hf hv S (λ _ _ _ _ h=>by obtain⟨rfl,rfl,rfl⟩:=h;exact k) hT hd
theorem iT {P:Prop}(h:TP ns t P):TP ns t P:=h
theorem iQ {P:Prop}(h:TP (n::ns) t P):TP (n::ns) t P:=h
theorem iF {P:Prop}(h:TP [] (.f ns t) P):TP [] (.f ns t) P:=h
theorem iD {P:Prop}(h:TP [] .o P):TP [] .o P:=h
theorem iE {P:Prop}(h:TP [] (.e n ns t) P):TP [] (.e n ns t) P:=h
theorem iB {P:Prop}{i j:Nat}{ms:List Nat}{s:Pl}(h:TP [] (.b i j ns ms s t) P):TP [] (.b i j ns ms s t) P:=h
theorem iC {P:Prop}{i j k:Nat}{ms os:List Nat}{s u:Pl}(h:TP [] (.c i j k ns ms os s t u) P):TP [] (.c i j k ns ms os s t u) P:=h
theorem tpA (ns:List Nat)(t:Pl)(Ls:SH){id:Nat}{R:SH}[hm:Mixed x.P](h:TP ns t (TR x l (Zt x ρ Ls) l.length (List.replicate l.length false) Q E ρ L))(hT:Xa L Ls R:=by exact tk):TC x (.region id l.toArray true) Q E ρ L:=tc_any (Zt x ρ Ls) (Xq (hT:=hT) (Hp.le_refl _)) h
theorem tpZ (ns:List Nat)(t:Pl){id:Nat}[hm:Mixed x.P](h:TP ns t (TR x l (Zt x ρ L) l.length (List.replicate l.length false) Q E ρ L)):TC x (.region id l.toArray true) Q E ρ L:=tc_any (Zt x ρ L) stays_refl h
theorem rQ (k:TP ns t (TR x l (Zt x ρ0 Ls) fuel (Wb listed n) Q ((d,v)::E) ρ L))(hi:l[n]?=some ⟨some d,op,ty,pos,af,none⟩:=by rfl)(hb:Wv l listed n=true:=by decide +kernel)(y:∀ρ',ρ0.le ρ'->Yl x op ty E ρ' Ls v:=by intro _ _;exact yD)(hd:Nat.blt d x.N=true:=by rfl):TP (n::ns) t (TR x l (Zt x ρ0 Ls) (fuel+1) listed Q E ρ L):=Vz n hb hi (ys_of' (λ _ h=>h) y) hd k
theorem rW {j t0:Nat}{b0:Bool}(k:TP ns t (TR x l (Zt x ρ0 Ls) fuel (Wb listed n) Q ((d,v)::E) ρ L))(hi:l[n]?=some ⟨some d,op,ty,pos,af,some (j,b0)⟩:=by rfl)(hj:(l[j]?).bind (·.dst)=some t0:=by rfl)(he:lk E t0=some (.bool b0):=by rfl)(hb:Wv l listed n=true:=by decide +kernel)(y:∀ρ',ρ0.le ρ'->Yl x op ty E ρ' Ls v:=by intro _ _;exact yD)(hd:Nat.blt d x.N=true:=by rfl):TP (n::ns) t (TR x l (Zt x ρ0 Ls) (fuel+1) listed Q E ρ L):=tr_want n hb hi hj he (ys_of' (λ _ h=>h) y) hd k
theorem rK {j t0:Nat}{b c:Bool}(k:TP ns t (TR x l (Zt x ρ0 Ls) fuel (Wb listed n) Q ((d,undef)::E) ρ L))(hi:l[n]?=some ⟨some d,op,ty,pos,af,some (j,c)⟩:=by rfl)(hj:(l[j]?).bind (·.dst)=some t0:=by rfl)(he:lk E t0=some (.bool b):=by rfl)(hbc:(b == c)=false:=by rfl)(hb:Wv l listed n=true:=by decide +kernel)(hd:Nat.blt d x.N=true:=by rfl):TP (n::ns) t (TR x l (Zt x ρ0 Ls) (fuel+1) listed Q E ρ L):=tr_skip n hb hi hj he hbc hd k
theorem rU {j t0:Nat}{c:Bool}(k:TP ns t (TR x l (Zt x ρ0 Ls) fuel (Wb listed n) Q ((d,undef)::E) ρ L))(hi:l[n]?=some ⟨some d,op,ty,pos,af,some (j,c)⟩:=by rfl)(hj:(l[j]?).bind (·.dst)=some t0:=by rfl)(he:lk E t0=some undef:=by rfl)(hb:Wv l listed n=true:=by decide +kernel)(hd:Nat.blt d x.N=true:=by rfl):TP (n::ns) t (TR x l (Zt x ρ0 Ls) (fuel+1) listed Q E ρ L):=tr_undef n hb hi (λ a ha=>yl_undef ha (by simpa using hj) he) hd k
theorem rKe {j t0:Nat}{b c:Bool}(k:TP ns t (TR x l (Zt x ρ0 Ls) fuel (Wb listed n) Q ((d,undef)::E) ρ L))(hi:l[n]?=some ⟨some d,op,ty,pos,af,some (j,c)⟩:=by rfl)(hj:(l[j]?).bind (·.dst)=some t0:=by rfl)(he:lk E t0=some (.bool b):=by rfl)(hbc:(b == c)=false:=by rfl)(hb:Wv l listed n=true:=by decide +kernel)(hd:Nat.blt d x.N=true:=by rfl):TP [] (.e n ns t) (TR x l (Zt x ρ0 Ls) (fuel+1) listed Q E ρ L):=tr_skip n hb hi hj he hbc hd k
theorem rUe {j t0:Nat}{c:Bool}(k:TP ns t (TR x l (Zt x ρ0 Ls) fuel (Wb listed n) Q ((d,undef)::E) ρ L))(hi:l[n]?=some ⟨some d,op,ty,pos,af,some (j,c)⟩:=by rfl)(hj:(l[j]?).bind (·.dst)=some t0:=by rfl)(he:lk E t0=some undef:=by rfl)(hb:Wv l listed n=true:=by decide +kernel)(hd:Nat.blt d x.N=true:=by rfl):TP [] (.e n ns t) (TR x l (Zt x ρ0 Ls) (fuel+1) listed Q E ρ L):=tr_undef n hb hi (λ a ha=>yl_undef ha (by simpa using hj) he) hd k
theorem rG {S:World->Prop}{j t0:Nat}{b c:Bool}(h1:b=true->TP (n::ns) t (TR x l S fuel listed Q ((t0,.bool true)::E) ρ L))(h2:b=false->TP (n::ns) t (TR x l S fuel listed Q ((t0,.bool false)::E) ρ L))(hi:l[n]?=some ⟨dd,op,ty,pos,af,some (j,c)⟩:=by rfl)(hj:(l[j]?).bind (·.dst)=some t0:=by rfl)(he:lk E t0=some (.bool b):=by rfl) :
  TP (n::ns) t (TR x l S fuel listed Q E ρ L):=tr_guard he h1 h2
theorem rF {R:SH}(h:TP ns t (TR x l (Zt x ρ L) fuel listed Q E ρ L))(hle:ρ0.le ρ:=by first|assumption|exact Hp.le_refl _|(refine Hp.le_trans ?_ (by assumption);assumption)|solve_by_elim (maxDepth:=6) [Hp.le_trans])(hT:Xa L Ls R:=by exact tk):TP [] (.f ns t) (TR x l (Zt x ρ0 Ls) fuel listed Q E ρ L):=tr_full hle hT h
theorem rD {S:World->Prop}(h:TE x .normal Q E ρ L)(hr:Region.ready .any l.toArray ⟨listed⟩=[]:=by decide +kernel):TP [] .o (TR x l S fuel listed Q E ρ L):=tr_done hr h
theorem rA {G P:Prop}(k:G)(h:G->TP ns t P:=by
   intro k
   first
   | (refine iQ ?_;first|exact rQ k|exact rW k|exact rK k|exact rU k)
   | (refine iF ?_;exact rF k)
   | (refine iD ?_;exact rD k)
   | (refine iE ?_;first|exact rKe k|exact rUe k)):TP ns t P:=h k
theorem rAb {G P:Prop}(k:G)(h:G->TP ns t P:=by
   intro k
   first
   | (refine iQ ?_;first|exact rQ k (y:=by intro _ _;exact VC rfl)|exact rQ k|exact rW k|exact rK k|exact rU k)
   | (refine iF ?_;exact rF k)
   | (refine iD ?_;exact rD k)
   | (refine iE ?_;first|exact rKe k|exact rUe k)):TP ns t P:=h k
theorem rE {o:Oper}(h:TL x l.toArray [o] (QP ns t (QR x l (Zt x ρ0 Ls) fuel (Wb listed n) Q)) E ρ L)(ho:l[n]?=some o:=by rfl)(hr:Region.ready .any l.toArray ⟨listed⟩=[n]:=by decide +kernel):TP [] (.e n ns t) (TR x l (Zt x ρ0 Ls) (fuel+1) listed Q E ρ L):=tr_step1 hr ho h
theorem rB {i j:Nat}{ms:List Nat}{s:Pl}{o p:Oper}(h:TL x l.toArray [o] (QP ns s (QR x l (Zt x ρ0 Ls) fuel (Wb listed i) Q)) E ρ L)(h':TL x l.toArray [p] (QP ms t (QR x l (Zt x ρ0 Ls) fuel (Wb listed j) Q)) E ρ L)(hr:Region.ready .any l.toArray ⟨listed⟩=[i,j]:=by decide +kernel)(ho:l[i]?=some o:=by rfl)(hp:l[j]?=some p:=by rfl) :
  TP [] (.b i j ns ms s t) (TR x l (Zt x ρ0 Ls) (fuel+1) listed Q E ρ L):=tr_step2 hr ho hp h h'
theorem rC {i j k:Nat}{ms os:List Nat}{s u:Pl}{o p q:Oper}(h:TL x l.toArray [o] (QP ns s (QR x l (Zt x ρ0 Ls) fuel (Wb listed i) Q)) E ρ L)(h':TL x l.toArray [p] (QP ms t (QR x l (Zt x ρ0 Ls) fuel (Wb listed j) Q)) E ρ L)(h'':TL x l.toArray [q] (QP os u (QR x l (Zt x ρ0 Ls) fuel (Wb listed k) Q)) E ρ L)(hr:Region.ready .any l.toArray ⟨listed⟩=[i,j,k]:=by decide +kernel)(ho:l[i]?=some o:=by rfl)(hp:l[j]?=some p:=by rfl)(hq:l[k]?=some q:=by rfl) :
  TP [] (.c i j k ns ms os s t u) (TR x l (Zt x ρ0 Ls) (fuel+1) listed Q E ρ L):=rStep3 h h' h'' hr ho hp hq
theorem rN {R:SH}(h:TP ns t (TR x l (Zt x ρ0 Ls) fuel listed Q E ρ L))(hle:ρ0.le ρ:=by first|assumption|exact Hp.le_refl _|(refine Hp.le_trans ?_ (by assumption);assumption)|solve_by_elim (maxDepth:=6) [Hp.le_trans])(hT:Xa L Ls R:=by exact tk):TE x .normal (QP ns t (QR x l (Zt x ρ0 Ls) fuel listed Q)) E ρ L:=te_any (Xq hle (hT:=hT)) h
end
theorem kA {α:Type _}:(∀(a:α) (s t:List α),(a::s)++t=a::(s++t))/\(∀s:List α,[]++s=s)/\(∀s t:List α,List.append s t=s++t):=⟨λ _ _ _=>rfl,λ _=>rfl,λ _ _=>rfl⟩
end Go.Proofs.E
namespace Go.Proofs.E
open Go
attribute [local irreducible] Yl TL TC TE Spec YL R1 Hp.le EnvLe TS TR YS Zt TP QP
theorem kB {α:Type _}:(∀(a:α) (s t:List α),(a::s)++t=a::(s++t))/\(∀s:List α,[]++s=s)/\(∀s t:List α,List.append s t=s++t)/\(∀s t u:List α,s++t++u=s++(t++u)):=⟨λ _ _ _=>rfl,λ _=>rfl,λ _ _=>rfl,λ _ _ _=>aA _ _ _⟩
theorem kH:(∀{p:Prop} [Decidable p],(decide p=true)=p)/\(∀{p:Prop} [Decidable p],(decide p=false)↔¬p)/\(∀(b:Bool),(¬b=true)=(b=false))/\(∀(b:Bool),(¬b=false)=(b=true)) /\
  (∀{a b:Int},(a == b)=true↔a=b)/\(∀{a b:Int},(a != b)=true↔a≠b)/\(∀{a b:Bool},(a == b)=true↔a=b)/\(∀{a b:Bool},(a != b)=true↔a≠b)/\(∀{α:Type} (a b:α),(a≠b)=¬(a=b))/\(∀{a b:Bool},((!a)=b)↔(a=!b))/\((!true)=false)/\((!false)=true) /\
  (∀{a b:Int},(a == b)=false↔a≠b)/\(∀{a b:Int},(a != b)=false↔a=b)/\(∀{a b:Bool},(a == b)=false↔a≠b)/\(∀{a b:Bool},(a != b)=false↔a=b) /\
  (∀{p q:Prop} [Decidable p] [Decidable q],(decide p=decide q)↔(p↔q))/\(∀(a b:Bool),((a && b)=true)=(a=true/\b=true))/\(∀(a b:Bool),((a || b)=true)=(a=true\/b=true))/\(∀{a b:Bool},(a && b)=false↔(a=true->b=false))/\(∀{a b:Bool},(a || b)=false↔a=false/\b=false):=
 ⟨decide_eq_true_eq,decide_eq_false_iff_not,Bool.not_eq_true,Bool.not_eq_false,beq_iff_eq,bne_iff_ne,beq_iff_eq,bne_iff_ne,λ a b=>ne_eq a b,Bool.not_eq_eq_eq_not,rfl,rfl,beq_eq_false_iff_ne,bne_eq_false_iff_eq,beq_eq_false_iff_ne,bne_eq_false_iff_eq,decide_eq_decide,aE,Bool.or_eq_true,Bool.and_eq_false_imp,Bool.or_eq_false_iff⟩
theorem kI:(∀{a b c d:Int},((a == b)=(c == d))↔(a=b↔c=d))/\(∀{a b:Int},(true=(a == b))↔a=b)/\(∀{a b:Int},(false=(a == b))↔¬a=b):=⟨bq2,bqt,bqf⟩
inductive KeepE:List Nat->Env->Env->Prop
 | nil {E:Env}:KeepE [] E []
 | cons {t:Nat} {v:Value} {l:List Nat} {E C:Env} (h:lk E t=some v) (k:KeepE l E C):KeepE (t::l) E ((t,v)::C)
theorem KeepE.le {l:List Nat}{E C:Env}(h:KeepE l E C):EnvLe C E:=by
 induction h with
 | nil=>exact EnvLe.nil _
 | cons h _ ih=>exact EnvLe.cons h ih
theorem kp {l:List Nat}{E C:Env}(h:KeepE l E C:=by repeat (first|exact KeepE.nil|apply KeepE.cons rfl)):KeepE l E C:=h
section
variable {x:Cx}{Q:Exit->Act->World->Prop}{E:Env}{ρ:Hp}{L:SH}
theorem lpG (Y:Type)(l:List Nat){c:Code}{R:SH}{C:Env}(M:Y->Env)(ρf:Y->Hp)(Lf:Y->SH)(I:Y->Prop)(μ:Y->Nat)(y0:Y)(h0:I y0)
  (round:∀y,I y->TC x c (Exit.then (KRG x C M ρf Lf R I μ y) Q) (M y++C) (ρf y) (Lf y++R)) (hM:EnvLe (M y0) E:=by exact ev_le) (hC:KeepE l E C:=by exact kp) (hρ:ρf y0=ρ:=by rfl) (k:Xa L (Lf y0) R:=by exact tk):TC x (.loop c) Q E ρ L:=
 tc_loop_g C M ρf Lf I μ y0 h0 hM hC.le hρ k round
theorem rnG {Y:Type}{C:Env}{M:Y->Env}{ρf:Y->Hp}{Lf:Y->SH}{R G:SH}{I:Y->Prop}{μ:Y->Nat}{y:Y}(y':Y)(hI:I y')(hM:EnvLe (M y') E:=by exact ev_le)(hC:EnvLe C E:=by exact ev_le)(hρ:ρf y'=ρ:=by rfl)(k:Xa L (Lf y') G:=by exact tk)(e:Vl G R:=by infer_instance)(hμ:μ y'<μ y:=by first|omega|(dsimp only;omega)) :
  TE x .normal (Exit.then (KRG x C M ρf Lf R I μ y) Q) E ρ L:=te_round_g y' hI hM hC hρ k e hμ
theorem ctG (Y:Type)(R:SH)(l:List Nat){y z:Code}{C:Env}(M:Y->Env)(ρf:Y->Hp)(Lf:Y->SH)(I:Y->Prop)
  (h:TC x y (Exit.then (KCG x C M ρf Lf R I) Q) E ρ L)
  (k:∀y',I y'->TC x z Q (M y'++C) (ρf y') (Lf y'++R)) (hC:KeepE l E C:=by exact kp):TC x y (Exit.then (KC x z Q) Q) E ρ L:=tc_cut_k R C M ρf Lf I hC.le h k
theorem jnG {Y:Type}{C:Env}{M:Y->Env}{ρf:Y->Hp}{Lf:Y->SH}{R G:SH}{I:Y->Prop}(y':Y)(hI:I y')(hM:EnvLe (M y') E:=by exact ev_le)(hC:EnvLe C E:=by exact ev_le)(hρ:ρf y'=ρ:=by rfl)(k:Xa L (Lf y') G:=by exact tk)(e:Vl G R:=by infer_instance) :
  TE x .normal (Exit.then (KCG x C M ρf Lf R I) Q) E ρ L:=te_cut_g y' hI hM hC hρ k e
end
theorem zG {A B G H P:Prop}(k:A->G)(k':B->H)(h:(A->G)->(B->H)->P:=by
   intro k k'
   first
   | (refine i_gd ?_;exact tl_guard rfl rfl k k')
   | (refine i_cond ?_;exact tc_cond rfl k k')):P:=h k k'
section
variable {x:Cx}{Q:Exit->Act->World->Prop}{E:Env}{ρ ρ0:Hp}{L Ls:SH}{ops:Array Oper}{l:List Oper}{listed:List Bool}{fuel:Nat}{ns:List Nat}{t:Pl}
theorem zN {R:SH}(h:TP ns t (TR x l (Zt x ρ0 Ls) fuel listed Q E ρ L))(hle:ρ0.le ρ:=by first|assumption|exact Hp.le_refl _|(refine Hp.le_trans ?_ (by assumption);assumption)|solve_by_elim (maxDepth:=6) [Hp.le_trans])(hT:Xa L Ls R:=by exact tk):TL x ops [] (QP ns t (QR x l (Zt x ρ0 Ls) fuel listed Q)) E ρ L:=Yz (rN h hle hT)
end
end Go.Proofs.E
namespace Go.Proofs.E
open Go Go.Proofs.E Tryz
set_option maxRecDepth 4000
set_option maxHeartbeats 1000000
attribute [local irreducible] Yl TL TC TE Spec YL R1 Hp.le EnvLe TS TR YS Zt TP QP
theorem tqI {t:TypeId}{b:Bool}(h:(prog.underlying t).map isIfaceD=some b:=by kernel_rfl):Zh prog t b:=mkTyIface h
theorem tqS {t:TypeId}(h:(prog.underlying t).map isAggD=some false:=by kernel_rfl)(k:(prog.info? t).map (·.size)=some 1:=by kernel_rfl):TyS prog t:=mkTyS h k
theorem tqA {t:TypeId}{n:Nat}(h:(prog.underlying t).map isAggD=some true:=by kernel_rfl)(k:(prog.info? t).map (·.size)=some n:=by kernel_rfl):TyA prog t n:=mkTyA h k
theorem tqN {t:TypeId}{n:Nat}(k:(prog.info? t).map (·.size)=some n:=by kernel_rfl):Zs prog t n:=mkTySz k
theorem tqB {t:TypeId}{n:Nat}(k:(prog.info? t).map (·.bytes)=some n:=by kernel_rfl):Zf prog t n:=mkTyBytes k
theorem tqO {t:TypeId}{z:Value}(k:(prog.info? t).bind (·.zero)=some z:=by kernel_rfl):Zi prog t z:=mkTyZero k
theorem tqF {t:TypeId}(h:(prog.underlying t).map isFuncD=some true:=by kernel_rfl):Yn prog t:=mkTyFunc h
theorem Yc {s:TypeId}{f off:Nat}{ft:TypeId}(h:fldB prog s f=some (off,ft):=by kernel_rfl):ZX prog s f off ft:=mkFld h
theorem ZQ {f:FuncId}(h:funB prog f=true:=by kernel_rfl):ZJ prog f:=mkFun h
instance:TyS prog 1:=tqS
instance:Zh prog 1 false:=tqI
instance:Yn prog 1:=tqF
instance:Zs prog 1 1:=tqN
instance:Zf prog 1 8:=tqB
instance:Zi prog 1 (.nilFunc):=tqO
instance:TyS prog 2:=tqS
instance:Zh prog 2 false:=tqI
instance:Zs prog 2 1:=tqN
instance:Zf prog 2 8:=tqB
instance:Zi prog 2 (.int .i64 0):=tqO
instance:Xg prog 2 .i64:=⟨by kernel_rfl⟩
instance:TyS prog 3:=tqS
instance:Zh prog 3 false:=tqI
instance:Zs prog 3 1:=tqN
instance:Zf prog 3 8:=tqB
instance:Zi prog 3 (.int .i64 0):=tqO
instance:Xg prog 3 .i64:=⟨by kernel_rfl⟩
instance:TyS prog 4:=tqS
instance:Zh prog 4 false:=tqI
instance:Zs prog 4 1:=tqN
instance:Zf prog 4 1:=tqB
instance:Zi prog 4 (.bool false):=tqO
instance:TyBool prog 4:=⟨by kernel_rfl⟩
instance:TyS prog 5:=tqS
instance:Zh prog 5 false:=tqI
instance:Zs prog 5 1:=tqN
instance:Zf prog 5 1:=tqB
instance:Zi prog 5 (.int .u8 0):=tqO
instance:Xg prog 5 .u8:=⟨by kernel_rfl⟩
instance:TyA prog 7 4:=tqA
instance:Zh prog 7 false:=tqI
instance:Zs prog 7 4:=tqN
instance:Zf prog 7 24:=tqB
instance:Zi prog 7 (.agg ⟨[.int .i64 0,.int .i64 0,.bool false,.int .u8 0]⟩):=tqO
instance:ZC prog 7:=⟨by kernel_rfl⟩
instance:ZX prog 7 0 0 2:=Yc
instance:ZX prog 7 1 1 3:=Yc
instance:ZX prog 7 2 2 4:=Yc
instance:ZX prog 7 3 3 6:=Yc
instance:Zv prog 7 (([(0,1),(1,1),(2,1),(3,1)]:List (Nat×Nat))[·]?):=Zr (by kernel_rfl)
instance:TyS prog 9:=tqS
instance:Zh prog 9 false:=tqI
instance:Zs prog 9 1:=tqN
instance:Zf prog 9 16:=tqB
instance:Zi prog 9 (.string ⟨⟨[]⟩⟩):=tqO
instance:TyStr prog 9:=⟨by kernel_rfl⟩
instance:TyS prog 12:=tqS
instance:Zh prog 12 false:=tqI
instance:Zs prog 12 1:=tqN
instance:Zf prog 12 8:=tqB
instance:Zi prog 12 (.int .u64 0):=tqO
instance:Xg prog 12 .u64:=⟨by kernel_rfl⟩
instance:TyS prog 16:=tqS
instance:Zh prog 16 false:=tqI
instance:Zs prog 16 1:=tqN
instance:Zf prog 16 8:=tqB
instance:Zi prog 16 (.pointer none):=tqO
instance:TyPtr prog 16 373:=⟨by kernel_rfl⟩
instance:TyS prog 17:=tqS
instance:Zh prog 17 false:=tqI
instance:Zs prog 17 1:=tqN
instance:Zf prog 17 8:=tqB
instance:Zi prog 17 (.pointer none):=tqO
instance:TyPtr prog 17 381:=⟨by kernel_rfl⟩
instance:TyS prog 20:=tqS
instance:Zh prog 20 true:=tqI
instance:Zs prog 20 1:=tqN
instance:Zf prog 20 16:=tqB
instance:Zi prog 20 (.nilIface):=tqO
instance:TyS prog 21:=tqS
instance:Zh prog 21 false:=tqI
instance:Zs prog 21 1:=tqN
instance:Zf prog 21 4:=tqB
instance:Zi prog 21 (.int .i32 0):=tqO
instance:Xg prog 21 .i32:=⟨by kernel_rfl⟩
instance:TyS prog 22:=tqS
instance:Zh prog 22 false:=tqI
instance:Zs prog 22 1:=tqN
instance:Zf prog 22 24:=tqB
instance:Zi prog 22 (.slice none 0 0):=tqO
instance:ZN prog 22 50:=⟨by kernel_rfl⟩
instance:TyS prog 23:=tqS
instance:Zh prog 23 false:=tqI
instance:Yn prog 23:=tqF
instance:Zs prog 23 1:=tqN
instance:Zf prog 23 8:=tqB
instance:Zi prog 23 (.nilFunc):=tqO
instance:TyS prog 24:=tqS
instance:Zh prog 24 false:=tqI
instance:Zs prog 24 1:=tqN
instance:Zf prog 24 8:=tqB
instance:Zi prog 24 (.pointer none):=tqO
instance:TyPtr prog 24 99:=⟨by kernel_rfl⟩
instance:TyS prog 25:=tqS
instance:Zh prog 25 false:=tqI
instance:Zs prog 25 1:=tqN
instance:Zf prog 25 8:=tqB
instance:Zi prog 25 (.int .i64 0):=tqO
instance:Xg prog 25 .i64:=⟨by kernel_rfl⟩
instance:TyS prog 28:=tqS
instance:Zh prog 28 false:=tqI
instance:Zs prog 28 1:=tqN
instance:Zf prog 28 8:=tqB
instance:Zi prog 28 (.pointer none):=tqO
instance:TyPtr prog 28 101:=⟨by kernel_rfl⟩
instance:TyS prog 31:=tqS
instance:Zh prog 31 false:=tqI
instance:Zs prog 31 1:=tqN
instance:Zf prog 31 8:=tqB
instance:Zi prog 31 (.pointer none):=tqO
instance:TyPtr prog 31 113:=⟨by kernel_rfl⟩
instance:TyS prog 34:=tqS
instance:Zh prog 34 false:=tqI
instance:Zs prog 34 1:=tqN
instance:Zf prog 34 8:=tqB
instance:Zi prog 34 (.pointer none):=tqO
instance:TyPtr prog 34 41:=⟨by kernel_rfl⟩
instance:TyS prog 35:=tqS
instance:Zh prog 35 false:=tqI
instance:Zs prog 35 1:=tqN
instance:Zf prog 35 8:=tqB
instance:Zi prog 35 (.int .u64 0):=tqO
instance:Xg prog 35 .u64:=⟨by kernel_rfl⟩
instance:TyS prog 36:=tqS
instance:Zh prog 36 false:=tqI
instance:Zs prog 36 1:=tqN
instance:Zf prog 36 24:=tqB
instance:Zi prog 36 (.slice none 0 0):=tqO
instance:ZN prog 36 47:=⟨by kernel_rfl⟩
instance:TyA prog 37 5:=tqA
instance:Zh prog 37 false:=tqI
instance:Zs prog 37 5:=tqN
instance:Zf prog 37 56:=tqB
instance:Zi prog 37 (.agg ⟨[.int .u64 0,.int .u64 0,.int .u64 0,.int .i64 0,.slice none 0 0]⟩):=tqO
instance:ZC prog 37:=⟨by kernel_rfl⟩
instance:ZX prog 37 0 0 35:=Yc
instance:ZX prog 37 1 1 35:=Yc
instance:ZX prog 37 2 2 35:=Yc
instance:ZX prog 37 3 3 3:=Yc
instance:ZX prog 37 4 4 36:=Yc
instance:Zv prog 37 (([(0,1),(1,1),(2,1),(3,1),(4,1)]:List (Nat×Nat))[·]?):=Zr (by kernel_rfl)
instance:TyA prog 38 5:=tqA
instance:Zh prog 38 false:=tqI
instance:Zs prog 38 5:=tqN
instance:Zf prog 38 56:=tqB
instance:Zi prog 38 (.agg ⟨[.int .u64 0,.int .u64 0,.int .u64 0,.int .i64 0,.slice none 0 0]⟩):=tqO
instance:ZC prog 38:=⟨by kernel_rfl⟩
instance:Xv prog 38 [(0,35),(1,35),(2,35),(3,3),(4,36)]:=YE (by kernel_rfl)
instance:ZX prog 38 0 0 35:=Yc
instance:ZX prog 38 1 1 35:=Yc
instance:ZX prog 38 2 2 35:=Yc
instance:ZX prog 38 3 3 3:=Yc
instance:ZX prog 38 4 4 36:=Yc
instance:Zv prog 38 (([(0,1),(1,1),(2,1),(3,1),(4,1)]:List (Nat×Nat))[·]?):=Zr (by kernel_rfl)
instance:TyA prog 40 7:=tqA
instance:Zh prog 40 false:=tqI
instance:Zs prog 40 7:=tqN
instance:Zf prog 40 72:=tqB
instance:Zi prog 40 (.agg ⟨[.pointer none,.pointer none,.int .u64 0,.int .u64 0,.int .u64 0,.int .i64 0,.slice none 0 0]⟩):=tqO
instance:ZC prog 40:=⟨by kernel_rfl⟩
instance:ZX prog 40 0 0 24:=Yc
instance:ZX prog 40 1 1 31:=Yc
instance:ZX prog 40 2 2 38:=Yc
instance:Zv prog 40 (([(0,1),(1,1),(2,5)]:List (Nat×Nat))[·]?):=Zr (by kernel_rfl)
instance:TyA prog 41 7:=tqA
instance:Zh prog 41 false:=tqI
instance:Zs prog 41 7:=tqN
instance:Zf prog 41 72:=tqB
instance:Zi prog 41 (.agg ⟨[.pointer none,.pointer none,.int .u64 0,.int .u64 0,.int .u64 0,.int .i64 0,.slice none 0 0]⟩):=tqO
instance:ZC prog 41:=⟨by kernel_rfl⟩
instance:Xv prog 41 [(0,24),(1,31),(2,38)]:=YE (by kernel_rfl)
instance:ZX prog 41 0 0 24:=Yc
instance:ZX prog 41 1 1 31:=Yc
instance:ZX prog 41 2 2 38:=Yc
instance:Zv prog 41 (([(0,1),(1,1),(2,5)]:List (Nat×Nat))[·]?):=Zr (by kernel_rfl)
instance:TyS prog 42:=tqS
instance:Zh prog 42 false:=tqI
instance:Zs prog 42 1:=tqN
instance:Zf prog 42 24:=tqB
instance:Zi prog 42 (.slice none 0 0):=tqO
instance:ZN prog 42 180:=⟨by kernel_rfl⟩
instance:TyS prog 43:=tqS
instance:Zh prog 43 false:=tqI
instance:Zs prog 43 1:=tqN
instance:Zf prog 43 24:=tqB
instance:Zi prog 43 (.slice none 0 0):=tqO
instance:ZN prog 43 183:=⟨by kernel_rfl⟩
instance:TyS prog 44:=tqS
instance:Zh prog 44 false:=tqI
instance:Zs prog 44 1:=tqN
instance:Zf prog 44 24:=tqB
instance:Zi prog 44 (.slice none 0 0):=tqO
instance:ZN prog 44 116:=⟨by kernel_rfl⟩
instance:TyS prog 45:=tqS
instance:Zh prog 45 false:=tqI
instance:Zs prog 45 1:=tqN
instance:Zf prog 45 24:=tqB
instance:Zi prog 45 (.slice none 0 0):=tqO
instance:ZN prog 45 118:=⟨by kernel_rfl⟩
instance:TyA prog 46 10:=tqA
instance:Zh prog 46 false:=tqI
instance:Zs prog 46 10:=tqN
instance:Zf prog 46 144:=tqB
instance:Zi prog 46 (.agg ⟨[.int .i64 0,.int .u64 0,.int .i64 0,.int .u64 0,.int .u64 0,.slice none 0 0,.slice none 0 0,.int .i64 0,.slice none 0 0,.slice none 0 0]⟩):=tqO
instance:ZC prog 46:=⟨by kernel_rfl⟩
instance:ZX prog 46 0 0 3:=Yc
instance:ZX prog 46 1 1 35:=Yc
instance:ZX prog 46 2 2 3:=Yc
instance:ZX prog 46 3 3 35:=Yc
instance:ZX prog 46 4 4 35:=Yc
instance:ZX prog 46 5 5 42:=Yc
instance:ZX prog 46 6 6 43:=Yc
instance:ZX prog 46 7 7 3:=Yc
instance:ZX prog 46 8 8 44:=Yc
instance:ZX prog 46 9 9 45:=Yc
instance:Zv prog 46 (([(0,1),(1,1),(2,1),(3,1),(4,1),(5,1),(6,1),(7,1),(8,1),(9,1)]:List (Nat×Nat))[·]?):=Zr (by kernel_rfl)
instance:TyA prog 47 10:=tqA
instance:Zh prog 47 false:=tqI
instance:Zs prog 47 10:=tqN
instance:Zf prog 47 144:=tqB
instance:Zi prog 47 (.agg ⟨[.int .i64 0,.int .u64 0,.int .i64 0,.int .u64 0,.int .u64 0,.slice none 0 0,.slice none 0 0,.int .i64 0,.slice none 0 0,.slice none 0 0]⟩):=tqO
instance:ZC prog 47:=⟨by kernel_rfl⟩
instance:Xv prog 47 [(0,3),(1,35),(2,3),(3,35),(4,35),(5,42),(6,43),(7,3),(8,44),(9,45)]:=YE (by kernel_rfl)
instance:ZX prog 47 0 0 3:=Yc
instance:ZX prog 47 1 1 35:=Yc
instance:ZX prog 47 2 2 3:=Yc
instance:ZX prog 47 3 3 35:=Yc
instance:ZX prog 47 4 4 35:=Yc
instance:ZX prog 47 5 5 42:=Yc
instance:ZX prog 47 6 6 43:=Yc
instance:ZX prog 47 7 7 3:=Yc
instance:ZX prog 47 8 8 44:=Yc
instance:ZX prog 47 9 9 45:=Yc
instance:Zv prog 47 (([(0,1),(1,1),(2,1),(3,1),(4,1),(5,1),(6,1),(7,1),(8,1),(9,1)]:List (Nat×Nat))[·]?):=Zr (by kernel_rfl)
instance:TyS prog 48:=tqS
instance:Zh prog 48 false:=tqI
instance:Zs prog 48 1:=tqN
instance:Zf prog 48 24:=tqB
instance:Zi prog 48 (.slice none 0 0):=tqO
instance:ZN prog 48 4:=⟨by kernel_rfl⟩
instance:TyA prog 49 18:=tqA
instance:Zh prog 49 false:=tqI
instance:Zs prog 49 18:=tqN
instance:Zf prog 49 224:=tqB
instance:Zi prog 49 (.agg ⟨[.int .i64 0,.int .i64 0,.int .i64 0,.int .i64 0,.int .u64 0,.int .u64 0,.bool false,.int .i64 0,.int .u64 0,.int .i64 0,.int .u64 0,.int .u64 0,.slice none 0 0,.slice none 0 0,.int .i64 0,.slice none 0 0,.slice none 0 0,.slice none 0 0]⟩):=tqO
instance:ZC prog 49:=⟨by kernel_rfl⟩
instance:ZX prog 49 0 0 3:=Yc
instance:ZX prog 49 1 1 3:=Yc
instance:ZX prog 49 2 2 3:=Yc
instance:ZX prog 49 3 3 3:=Yc
instance:ZX prog 49 4 4 35:=Yc
instance:ZX prog 49 5 5 35:=Yc
instance:ZX prog 49 6 6 4:=Yc
instance:ZX prog 49 7 7 47:=Yc
instance:ZX prog 49 8 17 48:=Yc
instance:Zv prog 49 (([(0,1),(1,1),(2,1),(3,1),(4,1),(5,1),(6,1),(7,10),(17,1)]:List (Nat×Nat))[·]?):=Zr (by kernel_rfl)
instance:TyA prog 50 18:=tqA
instance:Zh prog 50 false:=tqI
instance:Zs prog 50 18:=tqN
instance:Zf prog 50 224:=tqB
instance:Zi prog 50 (.agg ⟨[.int .i64 0,.int .i64 0,.int .i64 0,.int .i64 0,.int .u64 0,.int .u64 0,.bool false,.int .i64 0,.int .u64 0,.int .i64 0,.int .u64 0,.int .u64 0,.slice none 0 0,.slice none 0 0,.int .i64 0,.slice none 0 0,.slice none 0 0,.slice none 0 0]⟩):=tqO
instance:ZC prog 50:=⟨by kernel_rfl⟩
instance:Xv prog 50 [(0,3),(1,3),(2,3),(3,3),(4,35),(5,35),(6,4),(7,47),(17,48)]:=YE (by kernel_rfl)
instance:ZX prog 50 0 0 3:=Yc
instance:ZX prog 50 1 1 3:=Yc
instance:ZX prog 50 2 2 3:=Yc
instance:ZX prog 50 3 3 3:=Yc
instance:ZX prog 50 4 4 35:=Yc
instance:ZX prog 50 5 5 35:=Yc
instance:ZX prog 50 6 6 4:=Yc
instance:ZX prog 50 7 7 47:=Yc
instance:ZX prog 50 8 17 48:=Yc
instance:Zv prog 50 (([(0,1),(1,1),(2,1),(3,1),(4,1),(5,1),(6,1),(7,10),(17,1)]:List (Nat×Nat))[·]?):=Zr (by kernel_rfl)
instance:TyS prog 51:=tqS
instance:Zh prog 51 false:=tqI
instance:Zs prog 51 1:=tqN
instance:Zf prog 51 8:=tqB
instance:Zi prog 51 (.int .u64 0):=tqO
instance:Xg prog 51 .u64:=⟨by kernel_rfl⟩
instance:TyS prog 56:=tqS
instance:Zh prog 56 false:=tqI
instance:Yn prog 56:=tqF
instance:Zs prog 56 1:=tqN
instance:Zf prog 56 8:=tqB
instance:Zi prog 56 (.nilFunc):=tqO
instance:TyS prog 64:=tqS
instance:Zh prog 64 false:=tqI
instance:Yn prog 64:=tqF
instance:Zs prog 64 1:=tqN
instance:Zf prog 64 8:=tqB
instance:Zi prog 64 (.nilFunc):=tqO
instance:TyS prog 85:=tqS
instance:Zh prog 85 false:=tqI
instance:Zs prog 85 1:=tqN
instance:Zf prog 85 24:=tqB
instance:Zi prog 85 (.slice none 0 0):=tqO
instance:ZN prog 85 171:=⟨by kernel_rfl⟩
instance:TyS prog 86:=tqS
instance:Zh prog 86 false:=tqI
instance:Zs prog 86 1:=tqN
instance:Zf prog 86 24:=tqB
instance:Zi prog 86 (.slice none 0 0):=tqO
instance:ZN prog 86 227:=⟨by kernel_rfl⟩
instance:TyA prog 87 3:=tqA
instance:Zh prog 87 false:=tqI
instance:Zs prog 87 3:=tqN
instance:Zf prog 87 56:=tqB
instance:Zi prog 87 (.agg ⟨[.int .i64 0,.slice none 0 0,.slice none 0 0]⟩):=tqO
instance:ZC prog 87:=⟨by kernel_rfl⟩
instance:ZX prog 87 0 0 3:=Yc
instance:ZX prog 87 1 1 85:=Yc
instance:ZX prog 87 2 2 86:=Yc
instance:Zv prog 87 (([(0,1),(1,1),(2,1)]:List (Nat×Nat))[·]?):=Zr (by kernel_rfl)
instance:TyA prog 88 3:=tqA
instance:Zh prog 88 false:=tqI
instance:Zs prog 88 3:=tqN
instance:Zf prog 88 56:=tqB
instance:Zi prog 88 (.agg ⟨[.int .i64 0,.slice none 0 0,.slice none 0 0]⟩):=tqO
instance:ZC prog 88:=⟨by kernel_rfl⟩
instance:Xv prog 88 [(0,3),(1,85),(2,86)]:=YE (by kernel_rfl)
instance:ZX prog 88 0 0 3:=Yc
instance:ZX prog 88 1 1 85:=Yc
instance:ZX prog 88 2 2 86:=Yc
instance:Zv prog 88 (([(0,1),(1,1),(2,1)]:List (Nat×Nat))[·]?):=Zr (by kernel_rfl)
instance:TyS prog 96:=tqS
instance:Zh prog 96 false:=tqI
instance:Zs prog 96 1:=tqN
instance:Zf prog 96 24:=tqB
instance:Zi prog 96 (.slice none 0 0):=tqO
instance:ZN prog 96 105:=⟨by kernel_rfl⟩
instance:TyS prog 97:=tqS
instance:Zh prog 97 false:=tqI
instance:Zs prog 97 1:=tqN
instance:Zf prog 97 8:=tqB
instance:Zi prog 97 (.map none):=tqO
instance:TyMap prog 97 3 105:=⟨by kernel_rfl⟩
instance:TyA prog 98 6:=tqA
instance:Zh prog 98 false:=tqI
instance:Zs prog 98 6:=tqN
instance:Zf prog 98 64:=tqB
instance:Zi prog 98 (.agg ⟨[.slice none 0 0,.map none,.int .i64 0,.int .i64 0,.int .i64 0,.bool false]⟩):=tqO
instance:ZC prog 98:=⟨by kernel_rfl⟩
instance:ZX prog 98 0 0 96:=Yc
instance:ZX prog 98 1 1 97:=Yc
instance:ZX prog 98 2 2 3:=Yc
instance:ZX prog 98 3 3 3:=Yc
instance:ZX prog 98 4 4 3:=Yc
instance:ZX prog 98 5 5 4:=Yc
instance:Zv prog 98 (([(0,1),(1,1),(2,1),(3,1),(4,1),(5,1)]:List (Nat×Nat))[·]?):=Zr (by kernel_rfl)
instance:TyA prog 99 6:=tqA
instance:Zh prog 99 false:=tqI
instance:Zs prog 99 6:=tqN
instance:Zf prog 99 64:=tqB
instance:Zi prog 99 (.agg ⟨[.slice none 0 0,.map none,.int .i64 0,.int .i64 0,.int .i64 0,.bool false]⟩):=tqO
instance:ZC prog 99:=⟨by kernel_rfl⟩
instance:Xv prog 99 [(0,96),(1,97),(2,3),(3,3),(4,3),(5,4)]:=YE (by kernel_rfl)
instance:ZX prog 99 0 0 96:=Yc
instance:ZX prog 99 1 1 97:=Yc
instance:ZX prog 99 2 2 3:=Yc
instance:ZX prog 99 3 3 3:=Yc
instance:ZX prog 99 4 4 3:=Yc
instance:ZX prog 99 5 5 4:=Yc
instance:Zv prog 99 (([(0,1),(1,1),(2,1),(3,1),(4,1),(5,1)]:List (Nat×Nat))[·]?):=Zr (by kernel_rfl)
instance:TyA prog 100 7:=tqA
instance:Zh prog 100 false:=tqI
instance:Zs prog 100 7:=tqN
instance:Zf prog 100 72:=tqB
instance:Zi prog 100 (.agg ⟨[.pointer none,.int .u64 0,.int .u64 0,.int .u64 0,.int .i64 0,.slice none 0 0,.int .i64 0]⟩):=tqO
instance:ZC prog 100:=⟨by kernel_rfl⟩
instance:ZX prog 100 0 0 31:=Yc
instance:ZX prog 100 1 1 35:=Yc
instance:ZX prog 100 2 2 35:=Yc
instance:ZX prog 100 3 3 35:=Yc
instance:ZX prog 100 4 4 3:=Yc
instance:ZX prog 100 5 5 36:=Yc
instance:ZX prog 100 6 6 3:=Yc
instance:Zv prog 100 (([(0,1),(1,1),(2,1),(3,1),(4,1),(5,1),(6,1)]:List (Nat×Nat))[·]?):=Zr (by kernel_rfl)
instance:TyA prog 101 7:=tqA
instance:Zh prog 101 false:=tqI
instance:Zs prog 101 7:=tqN
instance:Zf prog 101 72:=tqB
instance:Zi prog 101 (.agg ⟨[.pointer none,.int .u64 0,.int .u64 0,.int .u64 0,.int .i64 0,.slice none 0 0,.int .i64 0]⟩):=tqO
instance:ZC prog 101:=⟨by kernel_rfl⟩
instance:Xv prog 101 [(0,31),(1,35),(2,35),(3,35),(4,3),(5,36),(6,3)]:=YE (by kernel_rfl)
instance:ZX prog 101 0 0 31:=Yc
instance:ZX prog 101 1 1 35:=Yc
instance:ZX prog 101 2 2 35:=Yc
instance:ZX prog 101 3 3 35:=Yc
instance:ZX prog 101 4 4 3:=Yc
instance:ZX prog 101 5 5 36:=Yc
instance:ZX prog 101 6 6 3:=Yc
instance:Zv prog 101 (([(0,1),(1,1),(2,1),(3,1),(4,1),(5,1),(6,1)]:List (Nat×Nat))[·]?):=Zr (by kernel_rfl)
instance:TyS prog 103:=tqS
instance:Zh prog 103 false:=tqI
instance:Yn prog 103:=tqF
instance:Zs prog 103 1:=tqN
instance:Zf prog 103 8:=tqB
instance:Zi prog 103 (.nilFunc):=tqO
instance:TyA prog 104 64:=tqA
instance:Zh prog 104 false:=tqI
instance:Zs prog 104 64:=tqN
instance:Zf prog 104 64:=tqB
instance:Zi prog 104 (.agg ⟨List.replicate 64 (.int .u8 0)⟩):=tqO
instance:ZC prog 104:=⟨by kernel_rfl⟩
instance:TyArr prog 104 64 5:=⟨by kernel_rfl⟩
instance:Zv prog 104 (λ i=>some (i*1,1)):=mkTyPlacesA (n:=64) (e:=5) (by kernel_rfl) (by kernel_rfl)
instance:TyA prog 105 64:=tqA
instance:Zh prog 105 false:=tqI
instance:Zs prog 105 64:=tqN
instance:Zf prog 105 64:=tqB
instance:Zi prog 105 (.agg ⟨List.replicate 64 (.int .u8 0)⟩):=tqO
instance:ZC prog 105:=⟨by kernel_rfl⟩
instance:TyArr prog 105 64 5:=⟨by kernel_rfl⟩
instance:Zv prog 105 (λ i=>some (i*1,1)):=mkTyPlacesA (n:=64) (e:=5) (by kernel_rfl) (by kernel_rfl)
instance:TyS prog 106:=tqS
instance:Zh prog 106 false:=tqI
instance:Yn prog 106:=tqF
instance:Zs prog 106 1:=tqN
instance:Zf prog 106 8:=tqB
instance:Zi prog 106 (.nilFunc):=tqO
instance:TyS prog 107:=tqS
instance:Zh prog 107 false:=tqI
instance:Zs prog 107 1:=tqN
instance:Zf prog 107 24:=tqB
instance:Zi prog 107 (.slice none 0 0):=tqO
instance:ZN prog 107 5:=⟨by kernel_rfl⟩
instance:TyA prog 108 5:=tqA
instance:Zh prog 108 false:=tqI
instance:Zs prog 108 5:=tqN
instance:Zf prog 108 56:=tqB
instance:Zi prog 108 (.agg ⟨[.int .u64 0,.int .u64 0,.int .i64 0,.int .i64 0,.slice none 0 0]⟩):=tqO
instance:ZC prog 108:=⟨by kernel_rfl⟩
instance:ZX prog 108 0 0 35:=Yc
instance:ZX prog 108 1 1 35:=Yc
instance:ZX prog 108 2 2 3:=Yc
instance:ZX prog 108 3 3 3:=Yc
instance:ZX prog 108 4 4 107:=Yc
instance:Zv prog 108 (([(0,1),(1,1),(2,1),(3,1),(4,1)]:List (Nat×Nat))[·]?):=Zr (by kernel_rfl)
instance:TyA prog 109 5:=tqA
instance:Zh prog 109 false:=tqI
instance:Zs prog 109 5:=tqN
instance:Zf prog 109 56:=tqB
instance:Zi prog 109 (.agg ⟨[.int .u64 0,.int .u64 0,.int .i64 0,.int .i64 0,.slice none 0 0]⟩):=tqO
instance:ZC prog 109:=⟨by kernel_rfl⟩
instance:Xv prog 109 [(0,35),(1,35),(2,3),(3,3),(4,107)]:=YE (by kernel_rfl)
instance:ZX prog 109 0 0 35:=Yc
instance:ZX prog 109 1 1 35:=Yc
instance:ZX prog 109 2 2 3:=Yc
instance:ZX prog 109 3 3 3:=Yc
instance:ZX prog 109 4 4 107:=Yc
instance:Zv prog 109 (([(0,1),(1,1),(2,1),(3,1),(4,1)]:List (Nat×Nat))[·]?):=Zr (by kernel_rfl)
instance:TyS prog 111:=tqS
instance:Zh prog 111 false:=tqI
instance:Zs prog 111 1:=tqN
instance:Zf prog 111 24:=tqB
instance:Zi prog 111 (.slice none 0 0):=tqO
instance:ZN prog 111 107:=⟨by kernel_rfl⟩
instance:TyA prog 112 9:=tqA
instance:Zh prog 112 false:=tqI
instance:Zs prog 112 9:=tqN
instance:Zf prog 112 104:=tqB
instance:Zi prog 112 (.agg ⟨[.int .u64 0,.int .u64 0,.int .i64 0,.int .i64 0,.slice none 0 0,.pointer none,.slice none 0 0,.int .i64 0,.bool false]⟩):=tqO
instance:ZC prog 112:=⟨by kernel_rfl⟩
instance:ZX prog 112 0 0 109:=Yc
instance:ZX prog 112 1 5 24:=Yc
instance:ZX prog 112 2 6 111:=Yc
instance:ZX prog 112 3 7 3:=Yc
instance:ZX prog 112 4 8 4:=Yc
instance:Zv prog 112 (([(0,5),(5,1),(6,1),(7,1),(8,1)]:List (Nat×Nat))[·]?):=Zr (by kernel_rfl)
instance:TyA prog 113 9:=tqA
instance:Zh prog 113 false:=tqI
instance:Zs prog 113 9:=tqN
instance:Zf prog 113 104:=tqB
instance:Zi prog 113 (.agg ⟨[.int .u64 0,.int .u64 0,.int .i64 0,.int .i64 0,.slice none 0 0,.pointer none,.slice none 0 0,.int .i64 0,.bool false]⟩):=tqO
instance:ZC prog 113:=⟨by kernel_rfl⟩
instance:Xv prog 113 [(0,109),(5,24),(6,111),(7,3),(8,4)]:=YE (by kernel_rfl)
instance:ZX prog 113 0 0 109:=Yc
instance:ZX prog 113 1 5 24:=Yc
instance:ZX prog 113 2 6 111:=Yc
instance:ZX prog 113 3 7 3:=Yc
instance:ZX prog 113 4 8 4:=Yc
instance:Zv prog 113 (([(0,5),(5,1),(6,1),(7,1),(8,1)]:List (Nat×Nat))[·]?):=Zr (by kernel_rfl)
instance:TyA prog 115 5:=tqA
instance:Zh prog 115 false:=tqI
instance:Zs prog 115 5:=tqN
instance:Zf prog 115 40:=tqB
instance:Zi prog 115 (.agg ⟨[.int .i64 0,.int .u64 0,.int .u64 0,.int .u64 0,.int .i64 0]⟩):=tqO
instance:ZC prog 115:=⟨by kernel_rfl⟩
instance:ZX prog 115 0 0 3:=Yc
instance:ZX prog 115 1 1 35:=Yc
instance:ZX prog 115 2 2 35:=Yc
instance:ZX prog 115 3 3 35:=Yc
instance:ZX prog 115 4 4 3:=Yc
instance:Zv prog 115 (([(0,1),(1,1),(2,1),(3,1),(4,1)]:List (Nat×Nat))[·]?):=Zr (by kernel_rfl)
instance:TyA prog 116 5:=tqA
instance:Zh prog 116 false:=tqI
instance:Zs prog 116 5:=tqN
instance:Zf prog 116 40:=tqB
instance:Zi prog 116 (.agg ⟨[.int .i64 0,.int .u64 0,.int .u64 0,.int .u64 0,.int .i64 0]⟩):=tqO
instance:ZC prog 116:=⟨by kernel_rfl⟩
instance:Xv prog 116 [(0,3),(1,35),(2,35),(3,35),(4,3)]:=YE (by kernel_rfl)
instance:ZX prog 116 0 0 3:=Yc
instance:ZX prog 116 1 1 35:=Yc
instance:ZX prog 116 2 2 35:=Yc
instance:ZX prog 116 3 3 35:=Yc
instance:ZX prog 116 4 4 3:=Yc
instance:Zv prog 116 (([(0,1),(1,1),(2,1),(3,1),(4,1)]:List (Nat×Nat))[·]?):=Zr (by kernel_rfl)
instance:TyA prog 117 2:=tqA
instance:Zh prog 117 false:=tqI
instance:Zs prog 117 2:=tqN
instance:Zf prog 117 16:=tqB
instance:Zi prog 117 (.agg ⟨[.int .i64 0,.int .u64 0]⟩):=tqO
instance:ZC prog 117:=⟨by kernel_rfl⟩
instance:ZX prog 117 0 0 3:=Yc
instance:ZX prog 117 1 1 35:=Yc
instance:Zv prog 117 (([(0,1),(1,1)]:List (Nat×Nat))[·]?):=Zr (by kernel_rfl)
instance:TyA prog 118 2:=tqA
instance:Zh prog 118 false:=tqI
instance:Zs prog 118 2:=tqN
instance:Zf prog 118 16:=tqB
instance:Zi prog 118 (.agg ⟨[.int .i64 0,.int .u64 0]⟩):=tqO
instance:ZC prog 118:=⟨by kernel_rfl⟩
instance:Xv prog 118 [(0,3),(1,35)]:=YE (by kernel_rfl)
instance:ZX prog 118 0 0 3:=Yc
instance:ZX prog 118 1 1 35:=Yc
instance:Zv prog 118 (([(0,1),(1,1)]:List (Nat×Nat))[·]?):=Zr (by kernel_rfl)
instance:TyS prog 120:=tqS
instance:Zh prog 120 false:=tqI
instance:Yn prog 120:=tqF
instance:Zs prog 120 1:=tqN
instance:Zf prog 120 8:=tqB
instance:Zi prog 120 (.nilFunc):=tqO
instance:TyS prog 122:=tqS
instance:Zh prog 122 false:=tqI
instance:Yn prog 122:=tqF
instance:Zs prog 122 1:=tqN
instance:Zf prog 122 8:=tqB
instance:Zi prog 122 (.nilFunc):=tqO
instance:TyS prog 124:=tqS
instance:Zh prog 124 false:=tqI
instance:Yn prog 124:=tqF
instance:Zs prog 124 1:=tqN
instance:Zf prog 124 8:=tqB
instance:Zi prog 124 (.nilFunc):=tqO
instance:TyS prog 125:=tqS
instance:Zh prog 125 false:=tqI
instance:Yn prog 125:=tqF
instance:Zs prog 125 1:=tqN
instance:Zf prog 125 8:=tqB
instance:Zi prog 125 (.nilFunc):=tqO
instance:TyS prog 135:=tqS
instance:Zh prog 135 false:=tqI
instance:Yn prog 135:=tqF
instance:Zs prog 135 1:=tqN
instance:Zf prog 135 8:=tqB
instance:Zi prog 135 (.nilFunc):=tqO
instance:TyS prog 136:=tqS
instance:Zh prog 136 false:=tqI
instance:Yn prog 136:=tqF
instance:Zs prog 136 1:=tqN
instance:Zf prog 136 8:=tqB
instance:Zi prog 136 (.nilFunc):=tqO
instance:TyS prog 138:=tqS
instance:Zh prog 138 false:=tqI
instance:Yn prog 138:=tqF
instance:Zs prog 138 1:=tqN
instance:Zf prog 138 8:=tqB
instance:Zi prog 138 (.nilFunc):=tqO
instance:TyS prog 144:=tqS
instance:Zh prog 144 false:=tqI
instance:Yn prog 144:=tqF
instance:Zs prog 144 1:=tqN
instance:Zf prog 144 8:=tqB
instance:Zi prog 144 (.nilFunc):=tqO
instance:TyS prog 167:=tqS
instance:Zh prog 167 false:=tqI
instance:Zs prog 167 1:=tqN
instance:Zf prog 167 2:=tqB
instance:Zi prog 167 (.int .u16 0):=tqO
instance:Xg prog 167 .u16:=⟨by kernel_rfl⟩
instance:TyA prog 168 2:=tqA
instance:Zh prog 168 false:=tqI
instance:Zs prog 168 2:=tqN
instance:Zf prog 168 16:=tqB
instance:Zi prog 168 (.agg ⟨[.int .i64 0,.int .u16 0]⟩):=tqO
instance:ZC prog 168:=⟨by kernel_rfl⟩
instance:ZX prog 168 0 0 3:=Yc
instance:ZX prog 168 1 1 167:=Yc
instance:Zv prog 168 (([(0,1),(1,1)]:List (Nat×Nat))[·]?):=Zr (by kernel_rfl)
instance:TyA prog 169 2:=tqA
instance:Zh prog 169 false:=tqI
instance:Zs prog 169 2:=tqN
instance:Zf prog 169 16:=tqB
instance:Zi prog 169 (.agg ⟨[.int .i64 0,.int .u16 0]⟩):=tqO
instance:ZC prog 169:=⟨by kernel_rfl⟩
instance:Xv prog 169 [(0,3),(1,167)]:=YE (by kernel_rfl)
instance:ZX prog 169 0 0 3:=Yc
instance:ZX prog 169 1 1 167:=Yc
instance:Zv prog 169 (([(0,1),(1,1)]:List (Nat×Nat))[·]?):=Zr (by kernel_rfl)
instance:TyA prog 170 4:=tqA
instance:Zh prog 170 false:=tqI
instance:Zs prog 170 4:=tqN
instance:Zf prog 170 40:=tqB
instance:Zi prog 170 (.agg ⟨[.int .i64 0,.int .u16 0,.int .i64 0,.string ⟨⟨[]⟩⟩]⟩):=tqO
instance:ZC prog 170:=⟨by kernel_rfl⟩
instance:ZX prog 170 0 0 169:=Yc
instance:ZX prog 170 1 2 2:=Yc
instance:ZX prog 170 2 3 9:=Yc
instance:Zv prog 170 (([(0,2),(2,1),(3,1)]:List (Nat×Nat))[·]?):=Zr (by kernel_rfl)
instance:TyA prog 171 4:=tqA
instance:Zh prog 171 false:=tqI
instance:Zs prog 171 4:=tqN
instance:Zf prog 171 40:=tqB
instance:Zi prog 171 (.agg ⟨[.int .i64 0,.int .u16 0,.int .i64 0,.string ⟨⟨[]⟩⟩]⟩):=tqO
instance:ZC prog 171:=⟨by kernel_rfl⟩
instance:Xv prog 171 [(0,169),(2,2),(3,9)]:=YE (by kernel_rfl)
instance:ZX prog 171 0 0 169:=Yc
instance:ZX prog 171 1 2 2:=Yc
instance:ZX prog 171 2 3 9:=Yc
instance:Zv prog 171 (([(0,2),(2,1),(3,1)]:List (Nat×Nat))[·]?):=Zr (by kernel_rfl)
instance:TyS prog 176:=tqS
instance:Zh prog 176 false:=tqI
instance:Yn prog 176:=tqF
instance:Zs prog 176 1:=tqN
instance:Zf prog 176 8:=tqB
instance:Zi prog 176 (.nilFunc):=tqO
instance:TyA prog 179 7:=tqA
instance:Zh prog 179 false:=tqI
instance:Zs prog 179 7:=tqN
instance:Zf prog 179 120:=tqB
instance:Zi prog 179 (.agg ⟨[.int .i64 0,.int .i64 0,.slice none 0 0,.slice none 0 0,.int .i64 0,.slice none 0 0,.slice none 0 0]⟩):=tqO
instance:ZC prog 179:=⟨by kernel_rfl⟩
instance:ZX prog 179 0 0 3:=Yc
instance:ZX prog 179 1 1 88:=Yc
instance:ZX prog 179 2 4 88:=Yc
instance:Zv prog 179 (([(0,1),(1,3),(4,3)]:List (Nat×Nat))[·]?):=Zr (by kernel_rfl)
instance:TyA prog 180 7:=tqA
instance:Zh prog 180 false:=tqI
instance:Zs prog 180 7:=tqN
instance:Zf prog 180 120:=tqB
instance:Zi prog 180 (.agg ⟨[.int .i64 0,.int .i64 0,.slice none 0 0,.slice none 0 0,.int .i64 0,.slice none 0 0,.slice none 0 0]⟩):=tqO
instance:ZC prog 180:=⟨by kernel_rfl⟩
instance:Xv prog 180 [(0,3),(1,88),(4,88)]:=YE (by kernel_rfl)
instance:ZX prog 180 0 0 3:=Yc
instance:ZX prog 180 1 1 88:=Yc
instance:ZX prog 180 2 4 88:=Yc
instance:Zv prog 180 (([(0,1),(1,3),(4,3)]:List (Nat×Nat))[·]?):=Zr (by kernel_rfl)
instance:TyA prog 182 6:=tqA
instance:Zh prog 182 false:=tqI
instance:Zs prog 182 6:=tqN
instance:Zf prog 182 56:=tqB
instance:Zi prog 182 (.agg ⟨[.int .i64 0,.int .i64 0,.int .u16 0,.int .i64 0,.string ⟨⟨[]⟩⟩,.int .i64 0]⟩):=tqO
instance:ZC prog 182:=⟨by kernel_rfl⟩
instance:ZX prog 182 0 0 3:=Yc
instance:ZX prog 182 1 1 171:=Yc
instance:ZX prog 182 2 5 2:=Yc
instance:Zv prog 182 (([(0,1),(1,4),(5,1)]:List (Nat×Nat))[·]?):=Zr (by kernel_rfl)
instance:TyA prog 183 6:=tqA
instance:Zh prog 183 false:=tqI
instance:Zs prog 183 6:=tqN
instance:Zf prog 183 56:=tqB
instance:Zi prog 183 (.agg ⟨[.int .i64 0,.int .i64 0,.int .u16 0,.int .i64 0,.string ⟨⟨[]⟩⟩,.int .i64 0]⟩):=tqO
instance:ZC prog 183:=⟨by kernel_rfl⟩
instance:Xv prog 183 [(0,3),(1,171),(5,2)]:=YE (by kernel_rfl)
instance:ZX prog 183 0 0 3:=Yc
instance:ZX prog 183 1 1 171:=Yc
instance:ZX prog 183 2 5 2:=Yc
instance:Zv prog 183 (([(0,1),(1,4),(5,1)]:List (Nat×Nat))[·]?):=Zr (by kernel_rfl)
instance:TyS prog 191:=tqS
instance:Zh prog 191 false:=tqI
instance:Yn prog 191:=tqF
instance:Zs prog 191 1:=tqN
instance:Zf prog 191 8:=tqB
instance:Zi prog 191 (.nilFunc):=tqO
instance:TyS prog 196:=tqS
instance:Zh prog 196 false:=tqI
instance:Zs prog 196 1:=tqN
instance:Zf prog 196 24:=tqB
instance:Zi prog 196 (.slice none 0 0):=tqO
instance:ZN prog 196 35:=⟨by kernel_rfl⟩
instance:TyS prog 197:=tqS
instance:Zh prog 197 false:=tqI
instance:Yn prog 197:=tqF
instance:Zs prog 197 1:=tqN
instance:Zf prog 197 8:=tqB
instance:Zi prog 197 (.nilFunc):=tqO
instance:TyA prog 199 128:=tqA
instance:Zh prog 199 false:=tqI
instance:Zs prog 199 128:=tqN
instance:Zf prog 199 128:=tqB
instance:Zi prog 199 (.agg ⟨List.replicate 128 (.int .u8 0)⟩):=tqO
instance:ZC prog 199:=⟨by kernel_rfl⟩
instance:TyArr prog 199 2 105:=⟨by kernel_rfl⟩
instance:Zv prog 199 (λ i=>some (i*64,64)):=mkTyPlacesA (n:=2) (e:=105) (by kernel_rfl) (by kernel_rfl)
instance:TyS prog 201:=tqS
instance:Zh prog 201 false:=tqI
instance:Yn prog 201:=tqF
instance:Zs prog 201 1:=tqN
instance:Zf prog 201 8:=tqB
instance:Zi prog 201 (.nilFunc):=tqO
instance:TyS prog 205:=tqS
instance:Zh prog 205 false:=tqI
instance:Zs prog 205 1:=tqN
instance:Zf prog 205 8:=tqB
instance:Zi prog 205 (.pointer none):=tqO
instance:TyPtr prog 205 209:=⟨by kernel_rfl⟩
instance:TyS prog 206:=tqS
instance:Zh prog 206 false:=tqI
instance:Zs prog 206 1:=tqN
instance:Zf prog 206 8:=tqB
instance:Zi prog 206 (.pointer none):=tqO
instance:TyPtr prog 206 263:=⟨by kernel_rfl⟩
instance:TyA prog 208 13:=tqA
instance:Zh prog 208 false:=tqI
instance:Zs prog 208 13:=tqN
instance:Zf prog 208 184:=tqB
instance:Zi prog 208 (.agg ⟨[.pointer none,.slice none 0 0,.int .i64 0,.int .u64 0,.int .i64 0,.int .u64 0,.int .u64 0,.slice none 0 0,.slice none 0 0,.int .i64 0,.slice none 0 0,.slice none 0 0,.bool false]⟩):=tqO
instance:ZC prog 208:=⟨by kernel_rfl⟩
instance:ZX prog 208 0 0 206:=Yc
instance:ZX prog 208 1 1 107:=Yc
instance:ZX prog 208 2 2 47:=Yc
instance:ZX prog 208 3 12 4:=Yc
instance:Zv prog 208 (([(0,1),(1,1),(2,10),(12,1)]:List (Nat×Nat))[·]?):=Zr (by kernel_rfl)
instance:TyA prog 209 13:=tqA
instance:Zh prog 209 false:=tqI
instance:Zs prog 209 13:=tqN
instance:Zf prog 209 184:=tqB
instance:Zi prog 209 (.agg ⟨[.pointer none,.slice none 0 0,.int .i64 0,.int .u64 0,.int .i64 0,.int .u64 0,.int .u64 0,.slice none 0 0,.slice none 0 0,.int .i64 0,.slice none 0 0,.slice none 0 0,.bool false]⟩):=tqO
instance:ZC prog 209:=⟨by kernel_rfl⟩
instance:Xv prog 209 [(0,206),(1,107),(2,47),(12,4)]:=YE (by kernel_rfl)
instance:ZX prog 209 0 0 206:=Yc
instance:ZX prog 209 1 1 107:=Yc
instance:ZX prog 209 2 2 47:=Yc
instance:ZX prog 209 3 12 4:=Yc
instance:Zv prog 209 (([(0,1),(1,1),(2,10),(12,1)]:List (Nat×Nat))[·]?):=Zr (by kernel_rfl)
instance:TyS prog 211:=tqS
instance:Zh prog 211 false:=tqI
instance:Zs prog 211 1:=tqN
instance:Zf prog 211 4:=tqB
instance:Zi prog 211 (.int .u32 0):=tqO
instance:Xg prog 211 .u32:=⟨by kernel_rfl⟩
instance:TyS prog 213:=tqS
instance:Zh prog 213 false:=tqI
instance:Zs prog 213 1:=tqN
instance:Zf prog 213 8:=tqB
instance:Zi prog 213 (.map none):=tqO
instance:TyMap prog 213 3 1:=⟨by kernel_rfl⟩
instance:TyA prog 226 3:=tqA
instance:Zh prog 226 false:=tqI
instance:Zs prog 226 3:=tqN
instance:Zf prog 226 24:=tqB
instance:Zi prog 226 (.agg ⟨[.int .i64 0,.int .u16 0,.int .i64 0]⟩):=tqO
instance:ZC prog 226:=⟨by kernel_rfl⟩
instance:ZX prog 226 0 0 169:=Yc
instance:ZX prog 226 1 2 3:=Yc
instance:Zv prog 226 (([(0,2),(2,1)]:List (Nat×Nat))[·]?):=Zr (by kernel_rfl)
instance:TyA prog 227 3:=tqA
instance:Zh prog 227 false:=tqI
instance:Zs prog 227 3:=tqN
instance:Zf prog 227 24:=tqB
instance:Zi prog 227 (.agg ⟨[.int .i64 0,.int .u16 0,.int .i64 0]⟩):=tqO
instance:ZC prog 227:=⟨by kernel_rfl⟩
instance:Xv prog 227 [(0,169),(2,3)]:=YE (by kernel_rfl)
instance:ZX prog 227 0 0 169:=Yc
instance:ZX prog 227 1 2 3:=Yc
instance:Zv prog 227 (([(0,2),(2,1)]:List (Nat×Nat))[·]?):=Zr (by kernel_rfl)
instance:TyS prog 243:=tqS
instance:Zh prog 243 false:=tqI
instance:Zs prog 243 1:=tqN
instance:Zf prog 243 8:=tqB
instance:Zi prog 243 (.pointer none):=tqO
instance:TyPtr prog 243 245:=⟨by kernel_rfl⟩
instance:TyA prog 244 10:=tqA
instance:Zh prog 244 false:=tqI
instance:Zs prog 244 10:=tqN
instance:Zf prog 244 144:=tqB
instance:Zi prog 244 (.agg ⟨[.int .i64 0,.int .u64 0,.int .i64 0,.int .u64 0,.int .u64 0,.slice none 0 0,.slice none 0 0,.int .i64 0,.slice none 0 0,.slice none 0 0]⟩):=tqO
instance:ZC prog 244:=⟨by kernel_rfl⟩
instance:ZX prog 244 0 0 47:=Yc
instance:Zv prog 244 (([(0,10)]:List (Nat×Nat))[·]?):=Zr (by kernel_rfl)
instance:TyA prog 245 10:=tqA
instance:Zh prog 245 false:=tqI
instance:Zs prog 245 10:=tqN
instance:Zf prog 245 144:=tqB
instance:Zi prog 245 (.agg ⟨[.int .i64 0,.int .u64 0,.int .i64 0,.int .u64 0,.int .u64 0,.slice none 0 0,.slice none 0 0,.int .i64 0,.slice none 0 0,.slice none 0 0]⟩):=tqO
instance:ZC prog 245:=⟨by kernel_rfl⟩
instance:Xv prog 245 [(0,47)]:=YE (by kernel_rfl)
instance:ZX prog 245 0 0 47:=Yc
instance:Zv prog 245 (([(0,10)]:List (Nat×Nat))[·]?):=Zr (by kernel_rfl)
instance:TyS prog 246:=tqS
instance:Zh prog 246 false:=tqI
instance:Zs prog 246 1:=tqN
instance:Zf prog 246 8:=tqB
instance:Zi prog 246 (.map none):=tqO
instance:TyMap prog 246 3 23:=⟨by kernel_rfl⟩
instance:TyS prog 247:=tqS
instance:Zh prog 247 false:=tqI
instance:Zs prog 247 1:=tqN
instance:Zf prog 247 8:=tqB
instance:Zi prog 247 (.pointer none):=tqO
instance:TyPtr prog 247 249:=⟨by kernel_rfl⟩
instance:TyA prog 248 11:=tqA
instance:Zh prog 248 false:=tqI
instance:Zs prog 248 11:=tqN
instance:Zf prog 248 168:=tqB
instance:Zi prog 248 (.agg ⟨[.int .i64 0,.int .u64 0,.int .i64 0,.int .u64 0,.int .u64 0,.slice none 0 0,.slice none 0 0,.int .i64 0,.slice none 0 0,.slice none 0 0,.slice none 0 0]⟩):=tqO
instance:ZC prog 248:=⟨by kernel_rfl⟩
instance:ZX prog 248 0 0 47:=Yc
instance:ZX prog 248 1 10 107:=Yc
instance:Zv prog 248 (([(0,10),(10,1)]:List (Nat×Nat))[·]?):=Zr (by kernel_rfl)
instance:TyA prog 249 11:=tqA
instance:Zh prog 249 false:=tqI
instance:Zs prog 249 11:=tqN
instance:Zf prog 249 168:=tqB
instance:Zi prog 249 (.agg ⟨[.int .i64 0,.int .u64 0,.int .i64 0,.int .u64 0,.int .u64 0,.slice none 0 0,.slice none 0 0,.int .i64 0,.slice none 0 0,.slice none 0 0,.slice none 0 0]⟩):=tqO
instance:ZC prog 249:=⟨by kernel_rfl⟩
instance:Xv prog 249 [(0,47),(10,107)]:=YE (by kernel_rfl)
instance:ZX prog 249 0 0 47:=Yc
instance:ZX prog 249 1 10 107:=Yc
instance:Zv prog 249 (([(0,10),(10,1)]:List (Nat×Nat))[·]?):=Zr (by kernel_rfl)
instance:TyS prog 253:=tqS
instance:Zh prog 253 false:=tqI
instance:Yn prog 253:=tqF
instance:Zs prog 253 1:=tqN
instance:Zf prog 253 8:=tqB
instance:Zi prog 253 (.nilFunc):=tqO
instance:TyS prog 261:=tqS
instance:Zh prog 261 false:=tqI
instance:Zs prog 261 1:=tqN
instance:Zf prog 261 24:=tqB
instance:Zi prog 261 (.slice none 0 0):=tqO
instance:ZN prog 261 5:=⟨by kernel_rfl⟩
instance:TyA prog 262 2:=tqA
instance:Zh prog 262 false:=tqI
instance:Zs prog 262 2:=tqN
instance:Zf prog 262 32:=tqB
instance:Zi prog 262 (.agg ⟨[.slice none 0 0,.int .i64 0]⟩):=tqO
instance:ZC prog 262:=⟨by kernel_rfl⟩
instance:ZX prog 262 0 0 261:=Yc
instance:ZX prog 262 1 1 25:=Yc
instance:Zv prog 262 (([(0,1),(1,1)]:List (Nat×Nat))[·]?):=Zr (by kernel_rfl)
instance:TyA prog 263 2:=tqA
instance:Zh prog 263 false:=tqI
instance:Zs prog 263 2:=tqN
instance:Zf prog 263 32:=tqB
instance:Zi prog 263 (.agg ⟨[.slice none 0 0,.int .i64 0]⟩):=tqO
instance:ZC prog 263:=⟨by kernel_rfl⟩
instance:Xv prog 263 [(0,261),(1,25)]:=YE (by kernel_rfl)
instance:ZX prog 263 0 0 261:=Yc
instance:ZX prog 263 1 1 25:=Yc
instance:Zv prog 263 (([(0,1),(1,1)]:List (Nat×Nat))[·]?):=Zr (by kernel_rfl)
instance:TyS prog 267:=tqS
instance:Zh prog 267 false:=tqI
instance:Yn prog 267:=tqF
instance:Zs prog 267 1:=tqN
instance:Zf prog 267 8:=tqB
instance:Zi prog 267 (.nilFunc):=tqO
instance:TyS prog 268:=tqS
instance:Zh prog 268 false:=tqI
instance:Yn prog 268:=tqF
instance:Zs prog 268 1:=tqN
instance:Zf prog 268 8:=tqB
instance:Zi prog 268 (.nilFunc):=tqO
instance:TyS prog 271:=tqS
instance:Zh prog 271 false:=tqI
instance:Yn prog 271:=tqF
instance:Zs prog 271 1:=tqN
instance:Zf prog 271 8:=tqB
instance:Zi prog 271 (.nilFunc):=tqO
instance:TyS prog 273:=tqS
instance:Zh prog 273 false:=tqI
instance:Yn prog 273:=tqF
instance:Zs prog 273 1:=tqN
instance:Zf prog 273 8:=tqB
instance:Zi prog 273 (.nilFunc):=tqO
instance:TyS prog 275:=tqS
instance:Zh prog 275 false:=tqI
instance:Yn prog 275:=tqF
instance:Zs prog 275 1:=tqN
instance:Zf prog 275 8:=tqB
instance:Zi prog 275 (.nilFunc):=tqO
instance:TyS prog 277:=tqS
instance:Zh prog 277 false:=tqI
instance:Yn prog 277:=tqF
instance:Zs prog 277 1:=tqN
instance:Zf prog 277 8:=tqB
instance:Zi prog 277 (.nilFunc):=tqO
instance:TyS prog 278:=tqS
instance:Zh prog 278 false:=tqI
instance:Zs prog 278 1:=tqN
instance:Zf prog 278 8:=tqB
instance:Zi prog 278 (.pointer none):=tqO
instance:TyPtr prog 278 280:=⟨by kernel_rfl⟩
instance:TyA prog 279 2:=tqA
instance:Zh prog 279 false:=tqI
instance:Zs prog 279 2:=tqN
instance:Zf prog 279 32:=tqB
instance:Zi prog 279 (.agg ⟨[.slice none 0 0,.bool false]⟩):=tqO
instance:ZC prog 279:=⟨by kernel_rfl⟩
instance:ZX prog 279 0 0 107:=Yc
instance:ZX prog 279 1 1 4:=Yc
instance:Zv prog 279 (([(0,1),(1,1)]:List (Nat×Nat))[·]?):=Zr (by kernel_rfl)
instance:TyA prog 280 2:=tqA
instance:Zh prog 280 false:=tqI
instance:Zs prog 280 2:=tqN
instance:Zf prog 280 32:=tqB
instance:Zi prog 280 (.agg ⟨[.slice none 0 0,.bool false]⟩):=tqO
instance:ZC prog 280:=⟨by kernel_rfl⟩
instance:Xv prog 280 [(0,107),(1,4)]:=YE (by kernel_rfl)
instance:ZX prog 280 0 0 107:=Yc
instance:ZX prog 280 1 1 4:=Yc
instance:Zv prog 280 (([(0,1),(1,1)]:List (Nat×Nat))[·]?):=Zr (by kernel_rfl)
instance:TyS prog 293:=tqS
instance:Zh prog 293 false:=tqI
instance:Zs prog 293 1:=tqN
instance:Zf prog 293 24:=tqB
instance:Zi prog 293 (.slice none 0 0):=tqO
instance:ZN prog 293 3:=⟨by kernel_rfl⟩
instance:TyS prog 302:=tqS
instance:Zh prog 302 false:=tqI
instance:Zs prog 302 1:=tqN
instance:Zf prog 302 8:=tqB
instance:Zi prog 302 (.pointer none):=tqO
instance:TyPtr prog 302 3:=⟨by kernel_rfl⟩
instance:TyS prog 305:=tqS
instance:Zh prog 305 false:=tqI
instance:Yn prog 305:=tqF
instance:Zs prog 305 1:=tqN
instance:Zf prog 305 8:=tqB
instance:Zi prog 305 (.nilFunc):=tqO
instance:TyS prog 306:=tqS
instance:Zh prog 306 false:=tqI
instance:Yn prog 306:=tqF
instance:Zs prog 306 1:=tqN
instance:Zf prog 306 8:=tqB
instance:Zi prog 306 (.nilFunc):=tqO
instance:TyS prog 308:=tqS
instance:Zh prog 308 false:=tqI
instance:Yn prog 308:=tqF
instance:Zs prog 308 1:=tqN
instance:Zf prog 308 8:=tqB
instance:Zi prog 308 (.nilFunc):=tqO
instance:TyS prog 309:=tqS
instance:Zh prog 309 false:=tqI
instance:Yn prog 309:=tqF
instance:Zs prog 309 1:=tqN
instance:Zf prog 309 8:=tqB
instance:Zi prog 309 (.nilFunc):=tqO
instance:TyS prog 319:=tqS
instance:Zh prog 319 false:=tqI
instance:Zs prog 319 1:=tqN
instance:Zf prog 319 8:=tqB
instance:Zi prog 319 (.pointer none):=tqO
instance:TyPtr prog 319 344:=⟨by kernel_rfl⟩
instance:TyS prog 325:=tqS
instance:Zh prog 325 false:=tqI
instance:Yn prog 325:=tqF
instance:Zs prog 325 1:=tqN
instance:Zf prog 325 8:=tqB
instance:Zi prog 325 (.nilFunc):=tqO
instance:TyS prog 329:=tqS
instance:Zh prog 329 false:=tqI
instance:Zs prog 329 1:=tqN
instance:Zf prog 329 8:=tqB
instance:Zi prog 329 (.map none):=tqO
instance:TyMap prog 329 3 4:=⟨by kernel_rfl⟩
instance:TyS prog 338:=tqS
instance:Zh prog 338 false:=tqI
instance:Yn prog 338:=tqF
instance:Zs prog 338 1:=tqN
instance:Zf prog 338 8:=tqB
instance:Zi prog 338 (.nilFunc):=tqO
instance:TyS prog 339:=tqS
instance:Zh prog 339 false:=tqI
instance:Yn prog 339:=tqF
instance:Zs prog 339 1:=tqN
instance:Zf prog 339 8:=tqB
instance:Zi prog 339 (.nilFunc):=tqO
instance:TyA prog 343 6:=tqA
instance:Zh prog 343 false:=tqI
instance:Zs prog 343 6:=tqN
instance:Zf prog 343 80:=tqB
instance:Zi prog 343 (.agg ⟨[.pointer none,.int .i64 0,.bool false,.int .i64 0,.slice none 0 0,.slice none 0 0]⟩):=tqO
instance:ZC prog 343:=⟨by kernel_rfl⟩
instance:ZX prog 343 0 0 206:=Yc
instance:ZX prog 343 1 1 3:=Yc
instance:ZX prog 343 2 2 4:=Yc
instance:ZX prog 343 3 3 88:=Yc
instance:Zv prog 343 (([(0,1),(1,1),(2,1),(3,3)]:List (Nat×Nat))[·]?):=Zr (by kernel_rfl)
instance:TyA prog 344 6:=tqA
instance:Zh prog 344 false:=tqI
instance:Zs prog 344 6:=tqN
instance:Zf prog 344 80:=tqB
instance:Zi prog 344 (.agg ⟨[.pointer none,.int .i64 0,.bool false,.int .i64 0,.slice none 0 0,.slice none 0 0]⟩):=tqO
instance:ZC prog 344:=⟨by kernel_rfl⟩
instance:Xv prog 344 [(0,206),(1,3),(2,4),(3,88)]:=YE (by kernel_rfl)
instance:ZX prog 344 0 0 206:=Yc
instance:ZX prog 344 1 1 3:=Yc
instance:ZX prog 344 2 2 4:=Yc
instance:ZX prog 344 3 3 88:=Yc
instance:Zv prog 344 (([(0,1),(1,1),(2,1),(3,3)]:List (Nat×Nat))[·]?):=Zr (by kernel_rfl)
instance:TyS prog 348:=tqS
instance:Zh prog 348 false:=tqI
instance:Yn prog 348:=tqF
instance:Zs prog 348 1:=tqN
instance:Zf prog 348 8:=tqB
instance:Zi prog 348 (.nilFunc):=tqO
instance:TyS prog 349:=tqS
instance:Zh prog 349 false:=tqI
instance:Yn prog 349:=tqF
instance:Zs prog 349 1:=tqN
instance:Zf prog 349 8:=tqB
instance:Zi prog 349 (.nilFunc):=tqO
instance:TyS prog 351:=tqS
instance:Zh prog 351 false:=tqI
instance:Yn prog 351:=tqF
instance:Zs prog 351 1:=tqN
instance:Zf prog 351 8:=tqB
instance:Zi prog 351 (.nilFunc):=tqO
instance:TyS prog 352:=tqS
instance:Zh prog 352 false:=tqI
instance:Yn prog 352:=tqF
instance:Zs prog 352 1:=tqN
instance:Zf prog 352 8:=tqB
instance:Zi prog 352 (.nilFunc):=tqO
instance:TyS prog 361:=tqS
instance:Zh prog 361 false:=tqI
instance:Yn prog 361:=tqF
instance:Zs prog 361 1:=tqN
instance:Zf prog 361 8:=tqB
instance:Zi prog 361 (.nilFunc):=tqO
instance:TyS prog 376:=tqS
instance:Zh prog 376 false:=tqI
instance:Yn prog 376:=tqF
instance:Zs prog 376 1:=tqN
instance:Zf prog 376 8:=tqB
instance:Zi prog 376 (.nilFunc):=tqO
instance:TyS prog 377:=tqS
instance:Zh prog 377 false:=tqI
instance:Zs prog 377 1:=tqN
instance:Zf prog 377 8:=tqB
instance:Zi prog 377 (.pointer none):=tqO
instance:TyPtr prog 377 5:=⟨by kernel_rfl⟩
instance:TyA prog 380 11:=tqA
instance:Zh prog 380 false:=tqI
instance:Zs prog 380 11:=tqN
instance:Zf prog 380 48:=tqB
instance:Zi prog 380 (.agg ⟨[.int .u64 0,.int .u64 0,.int .u32 0,.int .u8 0,.int .u8 0,.int .u8 0,.int .u8 0,.nilFunc,.pointer none,.int .i32 0,.int .i32 0]⟩):=tqO
instance:ZC prog 380:=⟨by kernel_rfl⟩
instance:ZX prog 380 0 0 12:=Yc
instance:ZX prog 380 1 1 12:=Yc
instance:ZX prog 380 2 2 211:=Yc
instance:ZX prog 380 3 3 374:=Yc
instance:ZX prog 380 4 4 5:=Yc
instance:ZX prog 380 5 5 5:=Yc
instance:ZX prog 380 6 6 375:=Yc
instance:ZX prog 380 7 7 376:=Yc
instance:ZX prog 380 8 8 377:=Yc
instance:ZX prog 380 9 9 378:=Yc
instance:ZX prog 380 10 10 379:=Yc
instance:Zv prog 380 (([(0,1),(1,1),(2,1),(3,1),(4,1),(5,1),(6,1),(7,1),(8,1),(9,1),(10,1)]:List (Nat×Nat))[·]?):=Zr (by kernel_rfl)
instance:ZJ prog 3:=ZQ
instance:ZJ prog 5:=ZQ
instance:ZJ prog 6:=ZQ
instance:ZJ prog 7:=ZQ
instance:ZJ prog 8:=ZQ
instance:ZJ prog 9:=ZQ
instance:ZJ prog 10:=ZQ
instance:ZJ prog 11:=ZQ
instance:ZJ prog 12:=ZQ
instance:ZJ prog 13:=ZQ
instance:ZJ prog 14:=ZQ
instance:ZJ prog 15:=ZQ
instance:ZJ prog 16:=ZQ
instance:ZJ prog 17:=ZQ
instance:ZJ prog 18:=ZQ
instance:ZJ prog 19:=ZQ
instance:ZJ prog 20:=ZQ
instance:ZJ prog 21:=ZQ
instance:ZJ prog 22:=ZQ
instance:ZJ prog 23:=ZQ
instance:ZJ prog 24:=ZQ
instance:ZJ prog 25:=ZQ
instance:ZJ prog 26:=ZQ
instance:ZJ prog 34:=ZQ
instance:ZJ prog 36:=ZQ
instance:ZJ prog 37:=ZQ
instance:ZJ prog 38:=ZQ
instance:ZJ prog 39:=ZQ
instance:ZJ prog 40:=ZQ
instance:ZJ prog 41:=ZQ
instance:ZJ prog 42:=ZQ
instance:ZJ prog 43:=ZQ
instance:ZJ prog 44:=ZQ
instance:ZJ prog 45:=ZQ
instance:ZJ prog 46:=ZQ
instance:ZJ prog 47:=ZQ
instance:ZJ prog 48:=ZQ
instance:ZJ prog 49:=ZQ
instance:ZJ prog 50:=ZQ
instance:ZJ prog 51:=ZQ
instance:ZJ prog 52:=ZQ
instance:ZJ prog 53:=ZQ
instance:ZJ prog 54:=ZQ
instance:ZJ prog 55:=ZQ
instance:ZJ prog 56:=ZQ
instance:ZJ prog 57:=ZQ
instance:ZJ prog 58:=ZQ
instance:ZJ prog 59:=ZQ
instance:ZJ prog 60:=ZQ
instance:ZJ prog 61:=ZQ
instance:ZJ prog 62:=ZQ
instance:ZJ prog 63:=ZQ
instance:ZJ prog 64:=ZQ
instance:ZJ prog 65:=ZQ
instance:ZJ prog 66:=ZQ
instance:ZJ prog 67:=ZQ
instance:ZJ prog 68:=ZQ
instance:ZJ prog 69:=ZQ
instance:ZJ prog 70:=ZQ
instance:ZJ prog 71:=ZQ
instance:ZJ prog 72:=ZQ
instance:ZJ prog 73:=ZQ
instance:ZJ prog 74:=ZQ
instance:ZJ prog 81:=ZQ
instance:ZJ prog 95:=ZQ
instance:ZJ prog 96:=ZQ
instance:ZJ prog 97:=ZQ
instance:ZJ prog 98:=ZQ
instance:ZJ prog 99:=ZQ
instance:ZJ prog 100:=ZQ
instance:ZJ prog 101:=ZQ
instance:ZJ prog 102:=ZQ
instance:ZJ prog 103:=ZQ
instance:ZJ prog 104:=ZQ
instance:ZJ prog 105:=ZQ
instance:ZJ prog 106:=ZQ
instance:ZJ prog 107:=ZQ
instance:ZJ prog 108:=ZQ
instance:ZJ prog 109:=ZQ
instance:ZJ prog 110:=ZQ
instance:ZJ prog 111:=ZQ
instance:ZJ prog 112:=ZQ
instance:ZJ prog 113:=ZQ
instance:ZJ prog 114:=ZQ
instance:ZJ prog 115:=ZQ
instance:ZJ prog 116:=ZQ
instance:ZJ prog 117:=ZQ
instance:ZJ prog 118:=ZQ
instance:ZJ prog 119:=ZQ
instance:ZJ prog 120:=ZQ
instance:ZJ prog 121:=ZQ
instance:ZJ prog 122:=ZQ
instance:ZJ prog 123:=ZQ
instance:ZJ prog 124:=ZQ
instance:ZJ prog 125:=ZQ
instance:ZJ prog 126:=ZQ
instance:ZJ prog 127:=ZQ
instance:ZJ prog 128:=ZQ
instance:ZJ prog 129:=ZQ
instance:ZJ prog 130:=ZQ
instance:ZJ prog 131:=ZQ
instance:ZJ prog 132:=ZQ
instance:ZJ prog 133:=ZQ
instance:ZJ prog 134:=ZQ
instance:ZJ prog 135:=ZQ
instance:ZJ prog 147:=ZQ
instance:ZJ prog 153:=ZQ
instance:ZJ prog 154:=ZQ
instance:ZJ prog 155:=ZQ
instance:ZJ prog 156:=ZQ
instance:ZJ prog 157:=ZQ
instance:ZJ prog 158:=ZQ
instance:ZJ prog 159:=ZQ
instance:ZJ prog 160:=ZQ
instance:ZJ prog 161:=ZQ
instance:ZJ prog 162:=ZQ
instance:ZJ prog 163:=ZQ
instance:ZJ prog 164:=ZQ
instance:ZJ prog 165:=ZQ
instance:ZJ prog 166:=ZQ
instance:ZJ prog 167:=ZQ
instance:ZJ prog 168:=ZQ
instance:ZJ prog 169:=ZQ
instance:ZJ prog 170:=ZQ
instance:ZJ prog 171:=ZQ
instance:ZJ prog 172:=ZQ
instance:ZJ prog 173:=ZQ
instance:ZJ prog 174:=ZQ
instance:ZJ prog 175:=ZQ
instance:ZJ prog 176:=ZQ
instance:ZJ prog 177:=ZQ
instance:ZJ prog 178:=ZQ
instance:ZJ prog 179:=ZQ
instance:ZJ prog 180:=ZQ
instance:ZJ prog 181:=ZQ
instance:ZJ prog 182:=ZQ
instance:ZJ prog 183:=ZQ
instance:ZJ prog 184:=ZQ
instance:ZJ prog 185:=ZQ
instance:ZJ prog 186:=ZQ
instance:ZJ prog 187:=ZQ
instance:ZJ prog 188:=ZQ
instance:ZJ prog 189:=ZQ
instance:ZJ prog 190:=ZQ
instance:ZJ prog 191:=ZQ
instance:ZJ prog 192:=ZQ
instance:ZJ prog 193:=ZQ
instance:ZJ prog 194:=ZQ
instance:ZJ prog 195:=ZQ
instance:ZJ prog 196:=ZQ
instance:ZJ prog 197:=ZQ
instance:ZJ prog 198:=ZQ
instance:ZJ prog 199:=ZQ
instance:ZJ prog 200:=ZQ
instance:ZJ prog 201:=ZQ
instance:ZJ prog 202:=ZQ
instance:ZJ prog 203:=ZQ
instance:ZJ prog 204:=ZQ
instance:ZJ prog 205:=ZQ
instance:ZJ prog 211:=ZQ
instance:ZJ prog 212:=ZQ
instance:ZJ prog 219:=ZQ
instance:ZJ prog 220:=ZQ
instance:ZJ prog 221:=ZQ
instance:ZJ prog 222:=ZQ
instance:ZJ prog 223:=ZQ
instance:ZJ prog 224:=ZQ
instance:ZJ prog 225:=ZQ
instance:ZJ prog 226:=ZQ
instance:ZJ prog 227:=ZQ
instance:ZJ prog 228:=ZQ
instance:ZJ prog 229:=ZQ
instance:ZJ prog 230:=ZQ
instance:ZJ prog 231:=ZQ
instance:ZJ prog 232:=ZQ
instance:ZJ prog 233:=ZQ
instance:ZJ prog 234:=ZQ
instance:ZJ prog 235:=ZQ
instance:ZJ prog 236:=ZQ
instance:ZJ prog 237:=ZQ
instance:ZJ prog 238:=ZQ
instance:ZJ prog 239:=ZQ
instance:ZJ prog 240:=ZQ
instance:ZJ prog 241:=ZQ
instance:ZJ prog 242:=ZQ
instance:ZJ prog 243:=ZQ
instance:ZJ prog 244:=ZQ
instance:ZJ prog 245:=ZQ
instance:ZJ prog 246:=ZQ
instance:ZJ prog 247:=ZQ
instance:ZJ prog 248:=ZQ
instance:ZJ prog 249:=ZQ
instance:ZJ prog 250:=ZQ
instance:ZJ prog 252:=ZQ
instance:ZJ prog 253:=ZQ
instance:ZJ prog 260:=ZQ
instance:ZJ prog 261:=ZQ
instance:ZJ prog 262:=ZQ
instance:ZJ prog 263:=ZQ
instance:ZJ prog 264:=ZQ
instance:ZJ prog 265:=ZQ
instance:ZJ prog 266:=ZQ
instance:ZJ prog 267:=ZQ
instance:ZJ prog 268:=ZQ
instance:ZJ prog 269:=ZQ
instance:ZJ prog 270:=ZQ
instance:ZJ prog 271:=ZQ
instance:ZJ prog 272:=ZQ
instance:ZJ prog 273:=ZQ
instance:ZJ prog 274:=ZQ
instance:ZJ prog 275:=ZQ
instance:ZJ prog 276:=ZQ
instance:ZJ prog 277:=ZQ
instance:ZJ prog 278:=ZQ
instance:ZJ prog 279:=ZQ
instance:ZJ prog 280:=ZQ
instance:ZJ prog 281:=ZQ
instance:ZJ prog 287:=ZQ
instance:ZJ prog 288:=ZQ
instance:ZJ prog 289:=ZQ
instance:ZJ prog 290:=ZQ
instance:ZJ prog 293:=ZQ
instance:ZJ prog 294:=ZQ
instance:ZJ prog 295:=ZQ
instance:ZJ prog 298:=ZQ
instance:ZJ prog 299:=ZQ
instance:Mixed prog:=⟨by kernel_rfl⟩
end Go.Proofs.E
namespace Go.Proofs.E
open Go Tryz
set_option maxRecDepth 4000
set_option maxHeartbeats 1000000
attribute [local irreducible] Yl TL TC TE Spec YL R1 Hp.le EnvLe TS TR YS Zt TP QP
def be:Nat->Nat->List UInt8
 | 0,_=>[]
 | n+1,x=>UInt8.ofNat (x / 256 ^ n)::be n x
def ZV (l:List UInt8):Nat:=l.foldl (λ a b=>a*256+b.toNat) 0
theorem Zd (n x:Nat):(be n x).length=n:=by induction n<;>simp[be, *]
theorem foldl_be (l:List UInt8)(a:Nat):l.foldl (λ a b=>a*256+b.toNat) a=a*256 ^ l.length+ZV l:=by
 unfold ZV
 induction l generalizing a with
 | nil=>simp
 | cons b l ih=>
  simp only[List.foldl_cons,aC]
  rw[ih (a*256+b.toNat),ih (0*256+b.toNat)]
  rw[Nat.pow_succ]
  simp only[Nat.zero_mul,Nat.zero_add,Nat.add_mul,Nat.mul_assoc,Nat.mul_comm 256,Nat.add_assoc]
theorem unbe_cons (b:UInt8)(l:List UInt8):ZV (b::l)=b.toNat*256 ^ l.length+ZV l:=by
 have:=foldl_be l (0*256+b.toNat)
 simp only[Nat.zero_mul,Nat.zero_add] at this
 rw[<-this];simp[ZV]
theorem unbe_snoc (b:UInt8)(l:List UInt8):ZV (l++[b])=ZV l*256+b.toNat:=by simp[ZV]
theorem Xy (l:List UInt8):ZV l<256 ^ l.length:=by
 induction l with
 | nil=>simp[ZV]
 | cons b l ih=>
  rw[unbe_cons,aC,Nat.pow_succ]
  have hb:b.toNat<256:=b.toNat_lt
  have:(b.toNat+1)*256 ^ l.length<=256*256 ^ l.length:=Nat.mul_le_mul_right _ (by omega)
  rw[Nat.add_mul] at this
  omega
theorem WT (n x:Nat):ZV (be n x)=x % 256 ^ n:=by
 induction n with
 | zero=>simp[be,ZV,Nat.mod_one]
 | succ n ih=>
  rw[be,unbe_cons,Zd,ih,UInt8.toNat_ofNat']
  have h1:=Nat.mod_mul (x:=x) (a:=256 ^ n) (b:=256)
  have e:256 ^ (n+1)=256 ^ n*256:=by rw[Nat.pow_succ]
  have e2:(2:Nat) ^ 8=256:=by decide
  rw[e,h1,e2,Nat.mul_comm]
  omega
theorem be_mod (n x:Nat):be n (x % 256 ^ n)=be n x:=by
 have key:∀m,m<=n->be m (x % 256 ^ n)=be m x:=by
  intro m
  induction m with
  | zero=>intro _;rfl
  | succ m ih=>
   intro hm
   rw[be,be,ih (by omega)]
   congr 1
   apply UInt8.toNat_inj.1
   simp only[UInt8.toNat_ofNat']
   obtain⟨k,rfl⟩:∃k,n=m+1+k:=⟨n-(m+1),by omega⟩
   have e:256 ^ (m+1+k)=256 ^ m*(256*256 ^ k):=by rw[Nat.pow_add,Nat.pow_succ,Nat.mul_assoc]
   rw[e,Nat.mod_mul_right_div_self,Nat.mod_mul_right_mod]
 exact key n (aR _)
theorem be_unbe (l:List UInt8):be l.length (ZV l)=l:=by
 induction l with
 | nil=>rfl
 | cons b l ih=>
  rw[aC,be,unbe_cons]
  have hlt:=Xy l
  have hp:0<256 ^ l.length:=Nat.pow_pos (by decide)
  have h1:(b.toNat*256 ^ l.length+ZV l) / 256 ^ l.length=b.toNat:=by
   rw[Nat.mul_comm,Nat.mul_add_div hp,Nat.div_eq_of_lt hlt];simp
  have h2:be l.length (b.toNat*256 ^ l.length+ZV l)=l:=by
   rw[<-be_mod,Nat.mul_comm,Nat.mul_add_mod,Nat.mod_eq_of_lt hlt,ih]
  rw[h1,h2];simp
def z8 (n:Nat):List UInt8:=List.replicate n 0
theorem stc_mid (A B vs ws:List Value)(h:ws.length=vs.length):stc (A++(vs++B)) A.length ws=A++(ws++B):=by
 unfold stc
 rw[List.take_left,h,<-List.drop_drop,List.drop_left,List.drop_left,aA]
theorem u8_wrap (y:Nat):Value.int .u8 (IntKind.u8.wrap (y:Int))=Zk (UInt8.ofNat y):=by
 simp only[Zk,UInt8.toNat_ofNat',IntKind.wrap,IntKind.bits,IntKind.signed,Bool.false_and,aB,if_false]
 congr 1
theorem made_z8 (m:Nat):madeCells (Value.int .u8 0).cells m=⟨(z8 m).map Zk⟩:=by
 have hz:(Value.int IntKind.u8 0).cells=⟨[Zk 0]⟩:=rfl
 rw[hz]
 apply Array.ext'
 apply List.ext_getElem?
 intro i
 by_cases hi:i<m
 ·simp[madeCells,z8,hi,Nat.mod_one]
 ·rw[List.getElem?_eq_none (by simp[madeCells];omega),List.getElem?_eq_none (by simp[z8];omega)]
theorem own_chunk (b n c:Nat){xs:List Value}{T:TypeId}:[(b,Obj.cells ⟨xs⟩ T (0,0))]=Zq (.slice (some ⟨b,0,none⟩) n c) xs [] T:=by simp[Zq]
theorem stand_spec (ρ:Hp)(a:Option Addr)(n c:Nat)(l:List UInt8)(h:SIn ρ Zk a n l)(x p:Nat)(hx:x<18446744073709551616)(hp:p<=8)(hp1:1<=p)(hn:n<=1000000) :
  Spec prog 265 [.slice a n c,.int .u64 x,.int .i64 p] ρ [] (λ v ρ' L'=>ρ'=ρ/\∃sp,OwnS v (n+p) ((l++be p x).map Zk) sp 1/\L'=[Zq v ((l++be p x).map Zk) sp 5]):=by
 have hl:=h.len
 refine Zb func265 rfl rfl rfl λ u R=>?_
 simp only[Zc,kA]
 repeat' (first|(refine tl_makeSlice rfl rfl (by omega) (by omega) (by omega) (by omega) rfl (λ hbn=>?_))|refine zW ?_|intro _)
 simp only[show ((n:Int)+(p:Int)).toNat=n+p by omega,Nat.mul_one,made_z8]
 have hinit:stc ((z8 (n+p)).map Zk) 0 ((l.map Zk).take (n+p))=(l++(z8 (p-0)++be 0 x)).map Zk:=by
  rw[aT (by simp;omega)]
  unfold stc
  have e:z8 (n+p)=z8 n++z8 p:=by simp[z8,List.replicate_append_replicate]
  rw[e]
  simp[be,hl,z8]
 refine tl_copy (ys:=l.map Zk) rfl rfl (SIn.srcV h) (by simpa using hl) (Yr l) (by simp[z8]) rfl ?_
 simp only[hinit]
 repeat' (first|refine zW ?_|intro _)
 refine lpG (Nat×Nat) [6,7,17] (λ z=>[(18,.int .i64 z.1),(1,.int .u64 (z.2:Nat))]) (λ z=>ρ) (λ z=>[[(hbn,.cells ⟨(l++(z8 (p-z.1)++be z.1 x)).map Zk⟩ 5 (0,0))]]) (λ z=>z.1<=p/\z.2=x / 256 ^ z.1) (λ z=>p-z.1) (0,x) ⟨aZ _,by simp⟩ ?_
 rintro⟨k,y⟩ hI
 try simp only[kB] at hI ⊢
 try dsimp only at hI ⊢
 obtain⟨hk,hy⟩:=hI
 by_cases hlt:k<p
 ·have hlen:((l++(z8 (p-k)++be k x)).map Zk).length=n+p:=by simp[z8,Zd,hl];omega
  have hst:stc ((l++(z8 (p-k)++be k x)).map Zk) (0+((n:Int)+(p:Int)-1-k).toNat*1) [Zk (UInt8.ofNat y)]=(l++(z8 (p-(k+1))++be (k+1) x)).map Zk:=by
   have e1:z8 (p-k)=z8 (p-(k+1))++[0]:=by
    rw[show p-k=(p-(k+1))+1 by omega];simp[z8,List.replicate_succ']
   have e2:0+((n:Int)+(p:Int)-1-k).toNat*1=((l++z8 (p-(k+1))).map Zk).length:=by simp[z8,hl];omega
   have e3:(l++(z8 (p-k)++be k x)).map Zk=(l++z8 (p-(k+1))).map Zk++([Zk 0]++(be k x).map Zk):=by rw[e1];simp
   rw[e2,e3,stc_mid _ _ [Zk 0] [Zk (UInt8.ofNat y)] rfl,be,<-hy]
   simp
  have hyy:y / 256=x / 256 ^ (k+1):=by rw[hy,Nat.div_div_eq_div_mul,Nat.pow_succ]
  repeat' (first|refine zW ?_|intro _)
  have e8:(y:Int) / 2 ^ 8=((x / 256 ^ (k+1):Nat):Int):=by
   rw[<-hyy]
   have:(2:Int) ^ 8=256:=by decide
   omega
  rw[e8,u8_wrap,Int.natCast_add,hst]
  refine rnG (k+1,x / 256 ^ (k+1)) (⟨hlt,rfl⟩)
 ·have hk2:k=p:=by omega
  subst hk2
  simp only[Nat.sub_self,z8,List.replicate_zero,List.nil_append]
  repeat' (first|refine zW ?_|intro _)
  rw[own_chunk hbn (n+k) (n+k)]
  exact qE ⟨rfl,[],⟨.inr ⟨hbn,n+k,rfl,by simp[Zd,hl],by simp[Zd,hl],aR _⟩⟩,rfl⟩
theorem put16_spec (ρ:Hp)(a:Option Addr)(n c:Nat)(l:List UInt8)(h:SIn ρ Zk a n l)(x:Nat)(hx:x<65536)(hn:n<=1000000) :
  Spec prog 235 [.slice a n c,.int .u16 x] ρ [] (λ v ρ' L'=>ρ'=ρ/\∃sp,OwnS v (n+2) ((l++be 2 x).map Zk) sp 1/\L'=[Zq v ((l++be 2 x).map Zk) sp 5]):=by
 have hw:IntKind.u64.wrap (x:Int)=x:=Ww (by simp only[lo,hi];omega)
 have hs:=stand_spec ρ a n c l h x 2 (by omega) (by omega) (by omega) hn
 refine Zb func235 rfl rfl rfl λ u R=>?_
 simp only[Zc,kA]
 repeat' (first|(refine iCv ?_;refine tl_y (y_conv rfl) rfl rfl ?_;rw[hw])|(refine Za (.func 265) ?_;refine qC rfl rfl (hs) ?_;rintro v ρ' L' hle ⟨rfl,sp,hown,rfl⟩<;>(try simp only[kA]))|refine zW ?_|intro _)
 exact qE ⟨rfl,sp,hown,rfl⟩
theorem put64_spec (ρ:Hp)(a:Option Addr)(n c:Nat)(l:List UInt8)(h:SIn ρ Zk a n l)(x:Nat)(hx:x<18446744073709551616)(hn:n<=1000000) :
  Spec prog 231 [.slice a n c,.int .u64 x] ρ [] (λ v ρ' L'=>ρ'=ρ/\∃sp,OwnS v (n+8) ((l++be 8 x).map Zk) sp 1/\L'=[Zq v ((l++be 8 x).map Zk) sp 5]):=by
 have hs:=stand_spec ρ a n c l h x 8 (by omega) (by omega) (by omega) hn
 refine Zb func231 rfl rfl rfl λ u R=>?_
 simp only[Zc,kA]
 repeat' (first|(refine Za (.func 265) ?_;refine qC rfl rfl (hs) ?_;rintro v ρ' L' hle ⟨rfl,sp,hown,rfl⟩<;>(try simp only[kA]))|refine zW ?_|intro _)
 exact qE ⟨rfl,sp,hown,rfl⟩
theorem OwnS.zero (b sz:Nat):OwnS (.slice (some ⟨b,0,none⟩) 0 0) 0 [] [] sz:=⟨.inr ⟨b,0,rfl,by simp,by simp,aR _⟩⟩
abbrev rdC (br:Nat)(a:Option Addr)(n c:Nat)(st:Int):List (Nat×Obj):=[(br,.cells ⟨[.slice a n c,.int .i64 st]⟩ 263 (0,0))]
theorem bclone_spec (ρ:Hp)(a:Option Addr)(n c:Nat)(l:List UInt8)(h:SIn ρ Zk a n l)(hn:n<=1000000) :
  Spec prog 186 [.slice a n c] ρ [] (λ v ρ' L'=>ρ.le ρ'/\∃a' c',v=.slice a' n c'/\n<=c'/\SIn ρ' Zk a' n l/\L'=[]):=by
 refine Zb func186 rfl rfl rfl λ u R=>?_
 simp only[Zc,kA]
 cases a with
 | none=>
  have hn0:n=0:=by
   rcases h.out with h0|⟨b,off,C,T,fr,h1,_⟩
   ·exact h0
   ·cases h1
  subst hn0
  repeat' (first|refine zW ?_|intro _)
  exact qE ⟨Hp.le_refl _,none,0,rfl,aR _,⟨h.len,.inl rfl⟩,rfl⟩
 | some a=>
  repeat' (first|refine zW ?_|intro _)
  refine ZH (n:=0) (xs:=[]) (sp:=[]) (ys:=l.map Zk) (sz:=1) rfl rfl (OwnS.zero _ 1) (hR:=Zl) (SIn.srcV h) (by simpa using h.len) (Yr l) (by decide) rfl (by omega) (by omega) rfl (λ v' sp' hown'=>?_)
  simp only[Nat.zero_add,List.nil_append] at hown' ⊢
  repeat' (first|refine zW ?_|intro _)
  refine ZB _ (h:=Rem.here) (λ ρ' hle hfz=>?_)
  obtain⟨a',c',rfl,hc,hs⟩:=hown'.sIn hfz
  exact qE ⟨hle,a',c',rfl,hc,hs,rfl⟩
theorem read_spec (ρ:Hp)(a:Option Addr)(n c:Nat)(l:List UInt8)(h:SIn ρ Zk a n l)(hn:n<=1000000) :
  Spec prog 123 [.slice a n c] ρ [] (λ v ρ' L'=>ρ.le ρ'/\∃br a' c',v=.pointer (some ⟨br,0,none⟩)/\n<=c'/\SIn ρ' Zk a' n l/\L'=[rdC br a' n c' 0]):=by
 have hc:=bclone_spec ρ a n c l h hn
 refine Zb func123 rfl rfl rfl λ u R=>?_
 simp only[Zc,kA]
 repeat' (first|(refine Za (.func 186) ?_;refine qC rfl rfl (hc) ?_;rintro v ρ' L' hle ⟨hle,a',c',rfl,hc',hs,rfl⟩<;>(try simp only[kA]))|refine zW ?_|intro _)
 exact qE ⟨hle,_,a',c',rfl,hc',hs,rfl⟩
theorem XF (ρ:Hp)(br:Nat)(a:Option Addr)(n c:Nat)(st:Int) :
  Spec prog 201 [.pointer (some ⟨br,0,none⟩)] ρ [rdC br a n c st] (λ v ρ' L'=>v=.int .i64 st/\ρ'=ρ/\L'=[rdC br a n c st]):=by
 refine Zb func201 rfl rfl rfl λ u R=>?_
 simp only[Zc,kA]
 repeat' (first|refine zW ?_|intro _)
 exact qE ⟨rfl,rfl,rfl⟩
theorem Vg (ρ:Hp)(br:Nat)(a:Option Addr)(n c:Nat)(st:Int) :
  Spec prog 133 [.pointer (some ⟨br,0,none⟩)] ρ [rdC br a n c st] (λ v ρ' L'=>v=.int .i64 n/\ρ'=ρ/\L'=[rdC br a n c st]):=by
 refine Zb func133 rfl rfl rfl λ u R=>?_
 simp only[Zc,kA]
 repeat' (first|refine zW ?_|intro _)
 exact qE ⟨rfl,rfl,rfl⟩
theorem gives_stuck (ρ:Hp)(br:Nat)(a:Option Addr)(n c:Nat)(st:Int)(hst:st≠0)(k:Int)(f:Value) :
  Spec prog 238 [.pointer (some ⟨br,0,none⟩),.int .i64 k,f] ρ [rdC br a n c st] (λ v ρ' L'=>v=.tuple ⟨[]⟩/\ρ'=ρ/\L'=[rdC br a n c st]):=by
 refine Zb func238 rfl rfl rfl λ u R=>?_
 simp only[Zc,kA]
 repeat' (first|(refine Za (.func 201) ?_;refine qR rfl rfl (XF _ br a n c st) ?_;try simp only[kA])|refine zW ?_|intro _)
 exact qE ⟨rfl,rfl,rfl⟩
theorem gives_short (ρ:Hp)(br:Nat)(a:Option Addr)(n c:Nat)(k:Int)(hk:(n:Int)<k)(f:Value) :
  Spec prog 238 [.pointer (some ⟨br,0,none⟩),.int .i64 k,f] ρ [rdC br a n c 0] (λ v ρ' L'=>v=.tuple ⟨[]⟩/\ρ'=ρ/\L'=[rdC br a n c 7]):=by
 refine Zb func238 rfl rfl rfl λ u R=>?_
 simp only[Zc,kA]
 repeat' (first|(refine Za (.func 201) ?_;refine qR rfl rfl (XF _ br a n c 0) ?_;try simp only[kA])|refine zW ?_|intro _)
 exact qE ⟨rfl,rfl,rfl⟩
theorem gives_ok (ρ:Hp)(br:Nat)(a:Option Addr)(n c:Nat)(l:List UInt8)(h:SIn ρ Zk a n l)(hc:n<=c)(k:Nat)(hk:k<=n)(g:Nat)(cs:List Value)(X X':SH)[ZJ prog g]
  (hS:SIn ρ Zk a k (l.take k)->Spec prog g ([.slice a k c]++cs) ρ X (λ v ρ' L'=>v=.tuple ⟨[]⟩/\ρ'=ρ/\L'=X')) :
  Spec prog 238 [.pointer (some ⟨br,0,none⟩),.int .i64 k,.func (.func g) ⟨[]⟩ ⟨cs⟩] ρ (rdC br a n c 0::X)
   (λ v ρ' L'=>v=.tuple ⟨[]⟩/\ρ'=ρ/\∃a' c',SIn ρ Zk a' (n-k) (l.drop k)/\n-k<=c'/\L'=rdC br a' (n-k) c' 0::X'):=by
 replace hS:=hS (h.take hk)
 have hl:=h.len
 have hsub:=h.sub (lo':=k) (hi':=n) (cap:=c) hk (aR _) hc
 rw[aT (by simp;omega)] at hsub
 refine Zb func238 rfl rfl rfl λ u R=>?_
 simp only[Zc,kA] at hS ⊢
 repeat' (first|(refine Za (.func 201) ?_;refine qR rfl rfl (XF _ br a n c 0) ?_;try simp only[kA])|(refine Za (.tmp 9) ?_;refine qR rfl rfl (hS) ?_;try simp only[kA])|refine zW ?_|intro _)
 exact qE ⟨rfl,rfl,_,c-k,hsub,by omega,rfl⟩
theorem Vx (l:List UInt8)(k:Nat)(h:k<l.length):ZV (l.take (k+1))=ZV (l.take k)*256+l[k].toNat:=by
 rw[aG h,unbe_snoc]
theorem unbe_take_lt (l:List UInt8)(k:Nat)(h:k<l.length)(h8:l.length<=8):ZV (l.take k)<72057594037927936:=by
 have h1:=Xy (l.take k)
 have h2:(l.take k).length<=7:=by simp;omega
 have h3:256 ^ (l.take k).length<=256 ^ 7:=Nat.pow_le_pow_right (by decide) h2
 have h4:256 ^ 7=72057594037927936:=by decide
 omega
theorem number1_spec (ρ:Hp)(bx:Nat)(a:Option Addr)(n c:Nat)(l:List UInt8)(h:SIn ρ Zk a n l)(hn:n<=8) :
  Spec prog 239 [.slice a n c,.pointer (some ⟨bx,0,none⟩)] ρ [[(bx,.cells ⟨[.int .u64 0]⟩ 35 (0,0))]]
   (λ v ρ' L'=>v=.tuple ⟨[]⟩/\ρ'=ρ/\L'=[[(bx,.cells ⟨[.int .u64 (ZV l:Nat)]⟩ 35 (0,0))]]):=by
 have hl:=h.len
 refine Zb func239 rfl rfl rfl λ u R=>?_
 simp only[Zc,kA]
 repeat' (first|refine zW ?_|intro _)
 refine lpG (Nat×Nat) [0,1,5] (λ y=>[(6,.int .i64 y.1)]) (λ y=>ρ) (λ y=>[[(bx,.cells ⟨[.int .u64 (y.2:Nat)]⟩ 35 (0,0))]]) (λ y=>y.1<=n/\y.2=ZV (l.take y.1)) (λ y=>n-y.1) (0,0) ⟨aZ _,rfl⟩ ?_
 rintro⟨k,z⟩ hI
 try simp only[kB] at hI ⊢
 try dsimp only at hI ⊢
 obtain⟨hk,hz⟩:=hI
 by_cases hlt:k<n
 ·obtain⟨b,off,C,T,fr,rfl,hb,hc⟩:=h.get (show k<l.length by omega)
  have hzl:=unbe_take_lt l k (by omega) (by omega)
  rw[<-hz] at hzl
  have hs:=Vx l k (by omega)
  have hbt:l[k].toNat<256:=l[k].toNat_lt
  generalize l[k]=b8 at *
  simp only[Zk] at hc
  repeat' (first|refine zW ?_|intro _)
  refine tpA [2,3,4,5,6] (.e 0 [1,7] (.e 8 [] .o)) ([]) ?_
  repeat' (refine iT ?_;first|refine rA ?_|(refine rE ?_<;>((first|(refine i_qq ?_;refine qQ ?_)|refine qEf ?_)<;>(try simp only[kA])<;>refine zN ?_)))
  have e:256*(z:Int)+(b8.toNat:Int)=((z*256+b8.toNat:Nat):Int):=by omega
  rw[e]
  repeat' (first|refine zW ?_|intro _)
  refine rnG (k+1,z*256+b8.toNat) (⟨hlt,by dsimp only;rw[hs,hz]⟩)
 ·have hk2:k=n:=by omega
  subst hk2
  rw[aT (by omega)] at hz
  subst hz
  repeat' (first|refine zW ?_|intro _)
  exact qE ⟨rfl,rfl,rfl⟩
def Yd (k:Nat)(l:List UInt8)(st:Int):Nat×List UInt8×Int:=if st≠0 then (0,l,st) else if l.length<k then (0,l,7) else (ZV (l.take k),l.drop k,0)
theorem Wi (k:Nat)(l:List UInt8)(st:Int):(Yd k l st).1<256 ^ k:=by
 unfold Yd
 have h0:0<256 ^ k:=Nat.pow_pos (by decide)
 split
 ·exact h0
 ·split
  ·exact h0
  ·have:=Xy (l.take k)
   have e:(l.take k).length=k:=by simp;omega
   rwa [e] at this
theorem number_spec (ρ:Hp)(br:Nat)(a:Option Addr)(n c:Nat)(l:List UInt8)(h:SIn ρ Zk a n l)(hc:n<=c)(st:Int)(k:Nat)(hk:k<=8) :
  Spec prog 187 [.pointer (some ⟨br,0,none⟩),.int .i64 k] ρ [rdC br a n c st]
   (λ v ρ' L'=>v=.int .u64 ((Yd k l st).1:Nat)/\ρ'=ρ/\∃a' n' c',SIn ρ Zk a' n' (Yd k l st).2.1/\n'<=c'/\L'=[rdC br a' n' c' (Yd k l st).2.2]):=by
 have hl:=h.len
 by_cases hst:st=0
 ·subst hst
  by_cases hs:n<k
  ·have e:Yd k l 0=(0,l,7):=by simp[Yd,hl,hs]
   rw[e]
   refine Zb func187 rfl rfl rfl λ u R=>?_
   simp only[Zc,kA]
   repeat' (first|(refine Za (.func 238) ?_;refine qR rfl rfl (gives_short _ br a n c k (by omega) _) ?_;try simp only[kA])|refine zW ?_|intro _)
   exact qE ⟨rfl,rfl,a,n,c,h,hc,rfl⟩
  ·have e:Yd k l 0=(ZV (l.take k),l.drop k,0):=by simp[Yd,hl,hs]
   rw[e]
   refine Zb func187 rfl rfl rfl λ u R=>?_
   simp only[Zc,kA]
   repeat' (first|refine zW ?_|intro _)
   rename_i bx
   have hg:=gives_ok ρ br a n c l h hc k (by omega) 239 [.pointer (some ⟨bx,0,none⟩)] [[(bx,.cells ⟨[.int .u64 0]⟩ 35 (0,0))]] [[(bx,.cells ⟨[.int .u64 (ZV (l.take k):Nat)]⟩ 35 (0,0))]] (λ hs=>number1_spec ρ bx a k c (l.take k) hs hk)
   repeat' (first|(refine Za (.func 238) ?_;refine qC rfl rfl (hg) ?_;rintro v ρ' L' hle ⟨rfl,rfl,a',c',hs',hc',rfl⟩<;>(try simp only[kA]))|refine zW ?_|intro _)
   exact qE ⟨rfl,rfl,a',n-k,c',hs',hc',rfl⟩
 ·have e:Yd k l st=(0,l,st):=by simp[Yd,hst]
  rw[e]
  refine Zb func187 rfl rfl rfl λ u R=>?_
  simp only[Zc,kA]
  repeat' (first|(refine Za (.func 238) ?_;refine qR rfl rfl (gives_stuck _ br a n c st hst k _) ?_;try simp only[kA])|refine zW ?_|intro _)
  exact qE ⟨rfl,rfl,a,n,c,h,hc,rfl⟩
theorem u8_spec (ρ:Hp)(br:Nat)(a:Option Addr)(n c:Nat)(l:List UInt8)(h:SIn ρ Zk a n l)(hc:n<=c)(st:Int) :
  Spec prog 124 [.pointer (some ⟨br,0,none⟩)] ρ [rdC br a n c st]
   (λ v ρ' L'=>v=.int .u8 ((Yd 1 l st).1:Nat)/\ρ'=ρ/\∃a' n' c',SIn ρ Zk a' n' (Yd 1 l st).2.1/\n'<=c'/\L'=[rdC br a' n' c' (Yd 1 l st).2.2]):=by
 have hb:=Wi 1 l st
 have hn:=number_spec ρ br a n c l h hc st 1 (by omega)
 generalize Yd 1 l st=r at *
 refine Zb func124 rfl rfl rfl λ u R=>?_
 simp only[Zc,kA]
 repeat' (first|(refine Za (.func 187) ?_;refine qC rfl rfl (hn) ?_;rintro v ρ' L' hle ⟨rfl,rfl,a',n',c',hs',hc',rfl⟩<;>(try simp only[kA]))|refine zW ?_|intro _)
 exact qE ⟨rfl,rfl,a',n',c',hs',hc',rfl⟩
theorem u16_spec (ρ:Hp)(br:Nat)(a:Option Addr)(n c:Nat)(l:List UInt8)(h:SIn ρ Zk a n l)(hc:n<=c)(st:Int) :
  Spec prog 196 [.pointer (some ⟨br,0,none⟩)] ρ [rdC br a n c st]
   (λ v ρ' L'=>v=.int .u16 ((Yd 2 l st).1:Nat)/\ρ'=ρ/\∃a' n' c',SIn ρ Zk a' n' (Yd 2 l st).2.1/\n'<=c'/\L'=[rdC br a' n' c' (Yd 2 l st).2.2]):=by
 have hb:=Wi 2 l st
 have hn:=number_spec ρ br a n c l h hc st 2 (by omega)
 generalize Yd 2 l st=r at *
 refine Zb func196 rfl rfl rfl λ u R=>?_
 simp only[Zc,kA]
 repeat' (first|(refine Za (.func 187) ?_;refine qC rfl rfl (hn) ?_;rintro v ρ' L' hle ⟨rfl,rfl,a',n',c',hs',hc',rfl⟩<;>(try simp only[kA]))|refine zW ?_|intro _)
 exact qE ⟨rfl,rfl,a',n',c',hs',hc',rfl⟩
theorem u64_spec (ρ:Hp)(br:Nat)(a:Option Addr)(n c:Nat)(l:List UInt8)(h:SIn ρ Zk a n l)(hc:n<=c)(st:Int) :
  Spec prog 125 [.pointer (some ⟨br,0,none⟩)] ρ [rdC br a n c st]
   (λ v ρ' L'=>v=.int .u64 ((Yd 8 l st).1:Nat)/\ρ'=ρ/\∃a' n' c',SIn ρ Zk a' n' (Yd 8 l st).2.1/\n'<=c'/\L'=[rdC br a' n' c' (Yd 8 l st).2.2]):=by
 have hn:=number_spec ρ br a n c l h hc st 8 (by omega)
 refine Zb func125 rfl rfl rfl λ u R=>?_
 simp only[Zc,kA]
 repeat' (first|(refine Za (.func 187) ?_;refine qC rfl rfl (hn) ?_;rintro v ρ' L' hle ⟨rfl,rfl,a',n',c',hs',hc',rfl⟩<;>(try simp only[kA]))|refine zW ?_|intro _)
 exact qE ⟨rfl,rfl,a',n',c',hs',hc',rfl⟩
def Va (k:Nat)(l:List UInt8)(st:Int):List UInt8×List UInt8×Int:=if st≠0 then ([],l,st) else if l.length<k then ([],l,7) else (l.take k,l.drop k,0)
theorem raw1_spec (ρ:Hp)(bx:Nat)(a:Option Addr)(n c:Nat)(l:List UInt8)(h:SIn ρ Zk a n l)(hn:n<=1000000) :
  Spec prog 267 [.slice a n c,.pointer (some ⟨bx,0,none⟩)] ρ [[(bx,.cells ⟨[.slice none 0 0]⟩ 107 (0,0))]]
   (λ v ρ' L'=>v=.tuple ⟨[]⟩/\ρ.le ρ'/\∃a' c',SIn ρ' Zk a' n l/\n<=c'/\L'=[[(bx,.cells ⟨[.slice a' n c']⟩ 107 (0,0))]]):=by
 refine Zb func267 rfl rfl rfl λ u R=>?_
 simp only[Zc,kA]
 repeat' (first|refine zW ?_|intro _)
 refine ZH (n:=0) (xs:=[]) (sp:=[]) (ys:=l.map Zk) (sz:=1) rfl rfl (OwnS.nil 1) (hR:=rem_nil') (SIn.srcV h) (by simpa using h.len) (Yr l) (by decide) rfl (by omega) (by omega) rfl (λ v' sp' hown'=>?_)
 simp only[Nat.zero_add,List.nil_append] at hown' ⊢
 refine ZL _ (h:=Rem.here) (λ ρ' hle hfz=>?_)
 obtain⟨a',c',rfl,hc,hs⟩:=hown'.sIn hfz
 repeat' (first|refine zW ?_|intro _)
 exact qE ⟨rfl,hle,a',c',hs,hc,rfl⟩
end Go.Proofs.E
