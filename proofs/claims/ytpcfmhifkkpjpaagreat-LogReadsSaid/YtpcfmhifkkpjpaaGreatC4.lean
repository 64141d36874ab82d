/- Laws of LogReads. Part 4 of 28. -/
import Derived.Test.YtpcfmhifkkpjpaaGreatC3
import Derived.Test.YtpcfmhifkkpjpaaGreatChecked
import Derived.KernelRfl
namespace Go.Proofs.E
open Go
set_option linter.unusedVariables false
set_option linter.unusedSimpArgs false
def UKeys (es:List MapEntry):Prop:=es.Pairwise (fun a b=>a.key≠b.key)
theorem UKeys.add {es:List MapEntry}{x:MapEntry}(h:UKeys es)(hx:∀e∈es,¬e.key=x.key):UKeys (es++[x]):=by
 unfold UKeys
 rw[List.pairwise_append]
 exact⟨h,List.pairwise_singleton _ _,fun a ha b hb=>by rw[List.mem_singleton.1 hb];exact hx a ha⟩
section
variable {x:Cx}{Q:Exit→Act→World→Prop}{E:Env}{ρ ρ0:Hp}{L:SH}{ops:Array Oper}{rest:List Oper}{ty:TypeId}{pos:String}{af:Array Edge}
end
def IterP (P:Program)(g:FuncId)(fs cs:List Value){α:Type}(enc:α→List Value)(ρ0:Hp)(S:SH)(C:List (Nat×Obj))(xs:List α):Prop:=
 ∀(l:Nat) (J:List α→Hp→SH→Prop) (Jx:Hp→SH→Prop),(∀ρ Lj,J [] ρ Lj→∃A B,Lj=A++C::B) →
  (∀pre y ρ Lj,(pre++[y]) <+: xs→ρ0.le ρ→J pre ρ Lj→ZI P l (enc y) ρ (S++Lj) (YP S (J (pre++[y])) Jx)) →
  ∀ρ Lj,ρ0.le ρ→J [] ρ Lj→Spec P g (fs++[.func (.yield l) ⟨[]⟩ ⟨[]⟩]++cs) ρ (S++Lj) (fun v ρ' L'=>∃Lj',L'=S++Lj'∧(J xs ρ' Lj'∨Jx ρ' Lj'))
section
variable {x:Cx}{Q:Exit→Act→World→Prop}{E:Env}{ρ ρ0:Hp}{L:SH}{l:Nat}{r:Loop}
theorem tc_rangeFuncP {fo:Operand}{ps:List Nat}{assign body:Code}{g:Nat}{fs cs:List Value}{α:Type}{enc:α→List Value}{S L0 R0 R:SH}{xs:List α}{C:List (Nat×Obj)}(hro:x.ro=none)
  (hf:ev E fo=some (.func (.func g) ⟨fs⟩ ⟨cs⟩)) [hF:ZO x.P g] (hI:IterP x.P g fs cs enc ρ0 S C xs) (hle:ρ0.le ρ) (hps:∀y,(enc y).length=ps.length) (hpN:ps.all (fun p=>Nat.blt p x.N)=true)
  (J:List α→Hp→SH→Prop) (Jx:Code→Hp→SH→Prop) (k1:Xj L S R0) (k2:Xj R0 L0 R) (h0:J [] ρ L0) (hC:∀ρ Lu,J [] ρ Lu→∃A B,Lu=A++C::B)
  (hround:∀l tm r pre y ρ' Lu u R',(pre++[y]) <+: xs→ρ0.le ρ'→J pre ρ' Lu→r.state=.ready→Rec tm ⟨ps⟩ assign body r →
   TC ⟨some l,x.P,u,[],x.N⟩ assign (Exit.then (KB x.P l body (RQ x.P u ρ' R' l (YP S (JH l (Rec tm ⟨ps⟩ assign body) (J (pre++[y]))) (XH l (Rec tm ⟨ps⟩ assign body) Jx)))) QF)
    (envP ps (enc y) E) ρ' ([(l,.loop r)]::(S++(Lu++R'))))
  (hdone:∀D0 ρ' Lu,ρ.le ρ'→J xs ρ' Lu→TE { x with D:=[{ target:=.collected D0,args:=#[] }]++x.D } .normal Q E ρ' ([(D0,.deferred (some []))]::(S++(Lu++R))))
  (hstop:∀D0 c ρ' Lu,ρ.le ρ'→Jx c ρ' Lu→TC { x with D:=[{ target:=.collected D0,args:=#[] }]++x.D } c Q E ρ' ([(D0,.deferred (some []))]::(S++(Lu++R)))) :
  TC x (.rangeFunc fo ⟨ps⟩ assign body) Q E ρ L:=fun a w ha hw=>by
 obtain⟨ro,P,u,D,N⟩:=x
 simp only at hro;subst hro
 dsimp only at *
 refine wpIn_rangeFunc fun fn _=>?_
 have hw0:Sat u ρ (S++(L0++R)) w:=hw.perm (by
  refine k1.out.trans ?_
  simp only[List.flatten_append]
  exact List.Perm.append_left _ (by simpa using k2.out))
 have hw1:=hw0.new (.deferred (some []))
 generalize hr0:({ state:=.ready,pending:=none,fn,tmps:=a.tmps,params:=⟨ps⟩,assign,body,defers:=w.heap.size }:Loop)=r0
 have hw2:=hw1.new (.loop r0)
 have hsz:({ w with heap:=w.heap.push (.deferred (some [])) }:World).heap.size=w.heap.size+1:=by simp
 rw[hsz] at hw2
 have hrec0:Rec a.tmps ⟨ps⟩ assign body r0:=by subst hr0;exact⟨rfl,rfl,rfl,rfl⟩
 have hst0:r0.state=.ready∧r0.pending=none:=by subst hr0;exact⟨rfl,rfl⟩
 have henter:=run_enterLoop_outer (P:=P) (w:=w) fn a.tmps ⟨ps⟩ assign body
 rw[hr0] at henter
 have hres:(resolve a.eval (rangeCall fo (w.heap.size+1)) 0).run P ((w.alloc (.deferred (some []))).alloc (.loop r0)) =
   .ok { target:=.fn (.func g) ⟨cs⟩,args:=⟨fs++[.func (.yield (w.heap.size+1)) ⟨[]⟩ ⟨[]⟩]⟩ } ((w.alloc (.deferred (some []))).alloc (.loop r0)):=by
  simp only[resolve,ha.eval hf,Deferred.ofValue,Sem.run_pure]
  simp[Act.eval]
 refine⟨w.heap.size+1,_,_,_,_,g,⟨fs++[.func (.yield (w.heap.size+1)) ⟨[]⟩ ⟨[]⟩]++cs⟩,(w.alloc (.deferred (some []))).alloc (.loop r0),henter,hres,fun _ _=>trivial, ?_,fun h=>by simp[Fw,Fence.wide] at h, ?_⟩
 ·simp only[invoke]
  have:=run_callFunc hF (⟨fs++[.func (.yield (w.heap.size+1)) ⟨[]⟩ ⟨[]⟩]⟩++⟨cs⟩) ((w.alloc (.deferred (some []))).alloc (.loop r0))
  simpa using this
 generalize hl:w.heap.size+1=l at *
 generalize hD0:w.heap.size=D0 at *
 have hy:∀pre y ρ' Lj,(pre++[y]) <+: xs→ρ0.le ρ'→JH l (Rec a.tmps ⟨ps⟩ assign body) (J pre) ρ' Lj→ZI P l (enc y) ρ' (S++Lj) (YP S (JH l (Rec a.tmps ⟨ps⟩ assign body) (J (pre++[y]))) (XH l (Rec a.tmps ⟨ps⟩ assign body) Jx)):=by
  intro pre y ρ' Lj hpre hle' hJ
  obtain⟨r,Lu,rfl,hrs,hrp,hrr,hJu⟩:=hJ
  intro u' R' w' hw'
  have hlr:=hw'.here (l,.loop r) (by simp)
  have hargs:(⟨enc y⟩:Array Value).size=r.params.size:=by rw[hrr.params];simpa using hps y
  refine⟨_,_,_,_,run_yield hlr hargs, ?_⟩
  have hround':=hround l a.tmps r pre y ρ' Lu u' R' hpre hle' hJu hrs hrr
  have hsat:Sat u' ρ' ([(l,.loop r)]::(S++(Lu++R'))) w':=hw'.perm (by simp)
  have hok:Ok [] N (envP ps (enc y) E) { tmps:=(r.params.zip ⟨enc y⟩).foldl (fun tmps (t,a)=>tmps.setIfInBounds t a) r.tmps,defers:=[] }:=by
   have h1:Ok [] N E { tmps:=a.tmps,defers:=[] }:=⟨rfl,ha.size,ha.get⟩
   have:=Ok.putP ps (enc y) E a.tmps hpN h1
   rw[hrr.params,hrr.tmps]
   have e:((⟨ps⟩:Array Nat).zip ⟨enc y⟩)=⟨ps.zip (enc y)⟩:=by simp
   rw[e]
   simpa using this
  have hwp:=hround' _ w' hok hsat
  rw[hrr.assign,hrr.body]
  refine roundIn_of_wpIn (F:=Fw none) (n:=0) trivial ?_
  exact hwp
 have hspec:=hI l (fun pre=>JH l (Rec a.tmps ⟨ps⟩ assign body) (J pre)) (XH l (Rec a.tmps ⟨ps⟩ assign body) Jx) (fun ρ Lj ⟨r,Lu,e1,_,_,_,e5⟩=>by
  obtain⟨A,B,rfl⟩:=hC _ _ e5
  exact⟨[(l,.loop r)]::A,B,by rw[e1];rfl⟩) hy ρ ([(l,.loop r0)]::L0) hle ⟨r0,L0,rfl,hst0.1,hst0.2,hrec0,h0⟩
 have hcall:=hspec u ([(D0,.deferred (some []))]::R) ((w.alloc (.deferred (some []))).alloc (.loop r0)) (hw2.perm (by
  simp only[List.flatten_cons,List.flatten_append,List.append_assoc,List.cons_append,List.singleton_append,List.nil_append]
  refine List.Perm.trans (l₂:=S.flatten++((l,.loop r0)::(D0,.deferred (some []))::(L0.flatten++R.flatten))) ?_ ?_
  ·refine List.Perm.trans ?_ List.perm_middle.symm
   refine List.Perm.cons _ ?_
   exact List.perm_middle.symm
  ·refine List.Perm.append_left _ (List.Perm.cons _ ?_)
   exact List.perm_middle.symm))
 refine calls_ro (CallsIn.mono hcall ?_)
 rintro e w3 ⟨v,ρ',L',rfl,hle',hsat,Lj',rfl,hor⟩
 have perm4:∀(c:List (Nat×Obj)) (Lu:SH),(S++(c::Lu)++([(D0,.deferred (some []))]::R)).flatten.Perm (c::([(D0,.deferred (some []))]::(S++(Lu++R)))).flatten:=fun c Lu=>by
  simp only[List.flatten_cons,List.flatten_append,List.append_assoc,List.cons_append,List.singleton_append,List.nil_append]
  refine List.Perm.trans ?_ (List.Perm.append_left c (List.perm_middle (l₁:=S.flatten++Lu.flatten) (a:=(D0,.deferred (some []))) (l₂:=R.flatten) |>.trans (by simp)))
  rw[←List.append_assoc,←List.append_assoc c]
  refine List.Perm.trans (List.Perm.append_right _ List.perm_append_comm) ?_
  simp only[List.append_assoc]
  exact List.Perm.refl _
 rcases hor with⟨r,Lu,rfl,hrs,hrp,hrr,hJu⟩|⟨r,Lu,c,rfl,hrs,hrp,hrr,hJu⟩
 ·have hs1:=hsat.perm (perm4 [(l,.loop r)] Lu)
  have hlr:=hs1.here (l,.loop r) (by simp)
  refine⟨r.pending,_,run_endLoop hlr (by rw[hrs];simp), ?_⟩
  rw[hrp]
  have hs2:=(hs1.put (.loop { r with state:=.exhausted,pending:=none })).sub (L':=[(D0,.deferred (some []))]::(S++(Lu++R))) (by simp)
  exact hdone D0 ρ' Lu hle' hJu _ _ ⟨by simp[ha.defers],ha.size,ha.get⟩ hs2
 ·have hs1:=hsat.perm (perm4 [(l,.loop r)] Lu)
  have hlr:=hs1.here (l,.loop r) (by simp)
  refine⟨r.pending,_,run_endLoop hlr (by rw[hrs];simp), ?_⟩
  rw[hrp]
  have hs2:=(hs1.put (.loop { r with state:=.exhausted,pending:=some c })).sub (L':=[(D0,.deferred (some []))]::(S++(Lu++R))) (by simp)
  exact hstop D0 c ρ' Lu hle' hJu _ _ ⟨by simp[ha.defers],ha.size,ha.get⟩ hs2
end
end Go.Proofs.E
namespace Go.Proofs.E
open Go
set_option linter.unusedVariables false
set_option linter.unusedSimpArgs false
attribute [local irreducible] Yl TL TC TE Spec ZI R1 Hp.le EnvLe TS TR YS Zp
inductive Pl|o|f (ns:List Nat) (t:Pl)|e (n:Nat) (ns:List Nat) (t:Pl)|b (i j:Nat) (ns ms:List Nat) (s t:Pl)|c (i j k:Nat) (ns ms os:List Nat) (s t u:Pl)
def TP (ns:List Nat)(t:Pl)(G:Prop):Prop:=G
def QP (ns:List Nat)(t:Pl)(q:Exit→Act→World→Prop):Exit→Act→World→Prop:=q
section
variable {x:Cx}{Q:Exit→Act→World→Prop}{E:Env}{ρ ρ0:Hp}{L Ls:SH}{ops:Array Oper}{rest:List Oper}{ty:TypeId}{pos:String}{af:Array Edge}{d:Nat}{v:Value}{dd:Option Nat}{gd:Nat×Bool}{op:Op}{l:List Oper}{listed:List Bool}{fuel:Nat}{tail:List Oper}{n:Nat}{ns:List Nat}{t:Pl}
theorem qR {d g:Nat}{f:Operand}{xs:List Operand}{ats:Array TypeId}{fs cs vs:List Value}{Lf Lg R:SH}{w:Value}{ρ1:Hp}(hf:ev E f=some (.func (.func g) ⟨fs⟩ ⟨cs⟩))(hv:evs E xs=some vs)[hF:ZO x.P g]
  (S:Spec x.P g (fs++vs++cs) ρ Lf (fun v ρ' L'=>v=w∧ρ'=ρ1∧L'=Lg)) (k:TL x ops rest Q ((d,w)::E) ρ1 (Lg++R)) (hT:Xj L Lf R:=by exact tk) (hd:Nat.blt d x.N=true:=by rfl) :
  TL x ops (⟨some d,.call { callee:=.value f,args:=⟨xs⟩,argTypes:=ats },ty,pos,af,none⟩::rest) Q E ρ L:=qC hf hv S (fun _ _ _ _ h=>by obtain⟨rfl,rfl,rfl⟩:=h;exact k) hT hd
theorem iT {P:Prop}(h:TP ns t P):TP ns t P:=h
theorem iQ {P:Prop}(h:TP (n::ns) t P):TP (n::ns) t P:=h
theorem iF {P:Prop}(h:TP [] (.f ns t) P):TP [] (.f ns t) P:=h
theorem iD {P:Prop}(h:TP [] .o P):TP [] .o P:=h
theorem iE {P:Prop}(h:TP [] (.e n ns t) P):TP [] (.e n ns t) P:=h
theorem iB {P:Prop}{i j:Nat}{ms:List Nat}{s:Pl}(h:TP [] (.b i j ns ms s t) P):TP [] (.b i j ns ms s t) P:=h
theorem iC {P:Prop}{i j k:Nat}{ms os:List Nat}{s u:Pl}(h:TP [] (.c i j k ns ms os s t u) P):TP [] (.c i j k ns ms os s t u) P:=h
theorem tpA (ns:List Nat)(t:Pl)(Ls:SH){id:Nat}{R:SH}[hm:Mixed x.P](h:TP ns t (TR x l (Zp x ρ Ls) l.length (List.replicate l.length false) Q E ρ L))(hT:Xj L Ls R:=by exact tk):TC x (.region id l.toArray true) Q E ρ L:=tc_any (Zp x ρ Ls) (XG (hT:=hT) (Hp.le_refl _)) h
theorem tpZ (ns:List Nat)(t:Pl){id:Nat}[hm:Mixed x.P](h:TP ns t (TR x l (Zp x ρ L) l.length (List.replicate l.length false) Q E ρ L)):TC x (.region id l.toArray true) Q E ρ L:=tc_any (Zp x ρ L) stays_refl h
theorem rQ (k:TP ns t (TR x l (Zp x ρ0 Ls) fuel (Wf listed n) Q ((d,v)::E) ρ L))(hi:l[n]?=some ⟨some d,op,ty,pos,af,none⟩:=by rfl)(hb:Wy l listed n=true:=by decide +kernel)(y:∀ρ',ρ0.le ρ'→Yl x op ty E ρ' Ls v:=by intro _ _;exact yD)(hd:Nat.blt d x.N=true:=by rfl):TP (n::ns) t (TR x l (Zp x ρ0 Ls) (fuel+1) listed Q E ρ L):=VA n hb hi (ys_of' (fun _ h=>h) y) hd k
theorem rW {j t0:Nat}{b0:Bool}(k:TP ns t (TR x l (Zp x ρ0 Ls) fuel (Wf listed n) Q ((d,v)::E) ρ L))(hi:l[n]?=some ⟨some d,op,ty,pos,af,some (j,b0)⟩:=by rfl)(hj:(l[j]?).bind (·.dst)=some t0:=by rfl)(he:lk E t0=some (.bool b0):=by rfl)(hb:Wy l listed n=true:=by decide +kernel)(y:∀ρ',ρ0.le ρ'→Yl x op ty E ρ' Ls v:=by intro _ _;exact yD)(hd:Nat.blt d x.N=true:=by rfl):TP (n::ns) t (TR x l (Zp x ρ0 Ls) (fuel+1) listed Q E ρ L):=tr_want n hb hi hj he (ys_of' (fun _ h=>h) y) hd k
theorem rK {j t0:Nat}{b c:Bool}(k:TP ns t (TR x l (Zp x ρ0 Ls) fuel (Wf listed n) Q ((d,undef)::E) ρ L))(hi:l[n]?=some ⟨some d,op,ty,pos,af,some (j,c)⟩:=by rfl)(hj:(l[j]?).bind (·.dst)=some t0:=by rfl)(he:lk E t0=some (.bool b):=by rfl)(hbc:(b == c)=false:=by rfl)(hb:Wy l listed n=true:=by decide +kernel)(hd:Nat.blt d x.N=true:=by rfl):TP (n::ns) t (TR x l (Zp x ρ0 Ls) (fuel+1) listed Q E ρ L):=tr_skip n hb hi hj he hbc hd k
theorem rU {j t0:Nat}{c:Bool}(k:TP ns t (TR x l (Zp x ρ0 Ls) fuel (Wf listed n) Q ((d,undef)::E) ρ L))(hi:l[n]?=some ⟨some d,op,ty,pos,af,some (j,c)⟩:=by rfl)(hj:(l[j]?).bind (·.dst)=some t0:=by rfl)(he:lk E t0=some undef:=by rfl)(hb:Wy l listed n=true:=by decide +kernel)(hd:Nat.blt d x.N=true:=by rfl):TP (n::ns) t (TR x l (Zp x ρ0 Ls) (fuel+1) listed Q E ρ L):=tr_undef n hb hi (fun a ha=>yl_undef ha (by simpa using hj) he) hd k
theorem rKe {j t0:Nat}{b c:Bool}(k:TP ns t (TR x l (Zp x ρ0 Ls) fuel (Wf listed n) Q ((d,undef)::E) ρ L))(hi:l[n]?=some ⟨some d,op,ty,pos,af,some (j,c)⟩:=by rfl)(hj:(l[j]?).bind (·.dst)=some t0:=by rfl)(he:lk E t0=some (.bool b):=by rfl)(hbc:(b == c)=false:=by rfl)(hb:Wy l listed n=true:=by decide +kernel)(hd:Nat.blt d x.N=true:=by rfl):TP [] (.e n ns t) (TR x l (Zp x ρ0 Ls) (fuel+1) listed Q E ρ L):=tr_skip n hb hi hj he hbc hd k
theorem rUe {j t0:Nat}{c:Bool}(k:TP ns t (TR x l (Zp x ρ0 Ls) fuel (Wf listed n) Q ((d,undef)::E) ρ L))(hi:l[n]?=some ⟨some d,op,ty,pos,af,some (j,c)⟩:=by rfl)(hj:(l[j]?).bind (·.dst)=some t0:=by rfl)(he:lk E t0=some undef:=by rfl)(hb:Wy l listed n=true:=by decide +kernel)(hd:Nat.blt d x.N=true:=by rfl):TP [] (.e n ns t) (TR x l (Zp x ρ0 Ls) (fuel+1) listed Q E ρ L):=tr_undef n hb hi (fun a ha=>yl_undef ha (by simpa using hj) he) hd k
theorem rG {S:World→Prop}{j t0:Nat}{b c:Bool}(h1:b=true→TP (n::ns) t (TR x l S fuel listed Q ((t0,.bool true)::E) ρ L))(h2:b=false→TP (n::ns) t (TR x l S fuel listed Q ((t0,.bool false)::E) ρ L))(hi:l[n]?=some ⟨dd,op,ty,pos,af,some (j,c)⟩:=by rfl)(hj:(l[j]?).bind (·.dst)=some t0:=by rfl)(he:lk E t0=some (.bool b):=by rfl) :
  TP (n::ns) t (TR x l S fuel listed Q E ρ L):=tr_guard he h1 h2
theorem rF {R:SH}(h:TP ns t (TR x l (Zp x ρ L) fuel listed Q E ρ L))(hle:ρ0.le ρ:=by first|assumption|exact Hp.le_refl _|(refine Hp.le_trans ?_ (by assumption);assumption)|solve_by_elim (maxDepth:=6) [Hp.le_trans])(hT:Xj L Ls R:=by exact tk):TP [] (.f ns t) (TR x l (Zp x ρ0 Ls) fuel listed Q E ρ L):=tr_full hle hT h
theorem rD {S:World→Prop}(h:TE x .normal Q E ρ L)(hr:Region.ready .any l.toArray ⟨listed⟩=[]:=by decide +kernel):TP [] .o (TR x l S fuel listed Q E ρ L):=tr_done hr h
theorem rA {G P:Prop}(k:G)(h:G→TP ns t P:=by
   intro k
   first
   | (refine iQ ?_;first|exact rQ k|exact rW k|exact rK k|exact rU k)
   | (refine iF ?_;exact rF k)
   | (refine iD ?_;exact rD k)
   | (refine iE ?_;first|exact rKe k|exact rUe k)):TP ns t P:=h k
theorem rAb {G P:Prop}(k:G)(h:G→TP ns t P:=by
   intro k
   first
   | (refine iQ ?_;first|exact rQ k (y:=by intro _ _;exact VC rfl)|exact rQ k|exact rW k|exact rK k|exact rU k)
   | (refine iF ?_;exact rF k)
   | (refine iD ?_;exact rD k)
   | (refine iE ?_;first|exact rKe k|exact rUe k)):TP ns t P:=h k
theorem rE {o:Oper}(h:TL x l.toArray [o] (QP ns t (QR x l (Zp x ρ0 Ls) fuel (Wf listed n) Q)) E ρ L)(ho:l[n]?=some o:=by rfl)(hr:Region.ready .any l.toArray ⟨listed⟩=[n]:=by decide +kernel):TP [] (.e n ns t) (TR x l (Zp x ρ0 Ls) (fuel+1) listed Q E ρ L):=tr_step1 hr ho h
theorem rB {i j:Nat}{ms:List Nat}{s:Pl}{o p:Oper}(h:TL x l.toArray [o] (QP ns s (QR x l (Zp x ρ0 Ls) fuel (Wf listed i) Q)) E ρ L)(h':TL x l.toArray [p] (QP ms t (QR x l (Zp x ρ0 Ls) fuel (Wf listed j) Q)) E ρ L)(hr:Region.ready .any l.toArray ⟨listed⟩=[i,j]:=by decide +kernel)(ho:l[i]?=some o:=by rfl)(hp:l[j]?=some p:=by rfl) :
  TP [] (.b i j ns ms s t) (TR x l (Zp x ρ0 Ls) (fuel+1) listed Q E ρ L):=tr_step2 hr ho hp h h'
theorem rC {i j k:Nat}{ms os:List Nat}{s u:Pl}{o p q:Oper}(h:TL x l.toArray [o] (QP ns s (QR x l (Zp x ρ0 Ls) fuel (Wf listed i) Q)) E ρ L)(h':TL x l.toArray [p] (QP ms t (QR x l (Zp x ρ0 Ls) fuel (Wf listed j) Q)) E ρ L)(h'':TL x l.toArray [q] (QP os u (QR x l (Zp x ρ0 Ls) fuel (Wf listed k) Q)) E ρ L)(hr:Region.ready .any l.toArray ⟨listed⟩=[i,j,k]:=by decide +kernel)(ho:l[i]?=some o:=by rfl)(hp:l[j]?=some p:=by rfl)(hq:l[k]?=some q:=by rfl) :
  TP [] (.c i j k ns ms os s t u) (TR x l (Zp x ρ0 Ls) (fuel+1) listed Q E ρ L):=rStep3 h h' h'' hr ho hp hq
theorem rN {R:SH}(h:TP ns t (TR x l (Zp x ρ0 Ls) fuel listed Q E ρ L))(hle:ρ0.le ρ:=by first|assumption|exact Hp.le_refl _|(refine Hp.le_trans ?_ (by assumption);assumption)|solve_by_elim (maxDepth:=6) [Hp.le_trans])(hT:Xj L Ls R:=by exact tk):TE x .normal (QP ns t (QR x l (Zp x ρ0 Ls) fuel listed Q)) E ρ L:=te_any (XG hle (hT:=hT)) h
end
theorem kA {α:Type _}:(∀(a:α) (s t:List α),(a::s)++t=a::(s++t))∧(∀s:List α,[]++s=s)∧(∀s t:List α,List.append s t=s++t):=⟨fun _ _ _=>rfl,fun _=>rfl,fun _ _=>rfl⟩
end Go.Proofs.E
namespace Go.Proofs.E
open Go Go.Proofs.E
set_option linter.unusedVariables false
theorem tqI {t:TypeId}{b:Bool}(h:(Tryz.prog.underlying t).map isIfaceD=some b:=by kernel_rfl):Zk Tryz.prog t b:=mkTyIface h
theorem tqS {t:TypeId}(h:(Tryz.prog.underlying t).map isAggD=some false:=by kernel_rfl)(k:(Tryz.prog.info? t).map (·.size)=some 1:=by kernel_rfl):TyS Tryz.prog t:=mkTyS h k
theorem tqA {t:TypeId}{n:Nat}(h:(Tryz.prog.underlying t).map isAggD=some true:=by kernel_rfl)(k:(Tryz.prog.info? t).map (·.size)=some n:=by kernel_rfl):TyA Tryz.prog t n:=mkTyA h k
theorem tqN {t:TypeId}{n:Nat}(k:(Tryz.prog.info? t).map (·.size)=some n:=by kernel_rfl):Zx Tryz.prog t n:=mkTySz k
theorem tqB {t:TypeId}{n:Nat}(k:(Tryz.prog.info? t).map (·.bytes)=some n:=by kernel_rfl):Zh Tryz.prog t n:=mkTyBytes k
theorem tqO {t:TypeId}{z:Value}(k:(Tryz.prog.info? t).bind (·.zero)=some z:=by kernel_rfl):Zl Tryz.prog t z:=mkTyZero k
theorem tqF {t:TypeId}(h:(Tryz.prog.underlying t).map isFuncD=some true:=by kernel_rfl):Yf Tryz.prog t:=mkTyFunc h
theorem Yr {s:TypeId}{f off:Nat}{ft:TypeId}(h:fldB Tryz.prog s f=some (off,ft):=by kernel_rfl):Yi Tryz.prog s f off ft:=mkFld h
theorem ZW {f:FuncId}(h:funB Tryz.prog f=true:=by kernel_rfl):ZO Tryz.prog f:=mkFun h
instance:TyS Tryz.prog 1:=tqS
instance:Zk Tryz.prog 1 false:=tqI
instance:Yf Tryz.prog 1:=tqF
instance:Zx Tryz.prog 1 1:=tqN
instance:Zh Tryz.prog 1 8:=tqB
instance:Zl Tryz.prog 1 (.nilFunc):=tqO
instance:TyS Tryz.prog 2:=tqS
instance:Zk Tryz.prog 2 false:=tqI
instance:Zx Tryz.prog 2 1:=tqN
instance:Zh Tryz.prog 2 8:=tqB
instance:Zl Tryz.prog 2 (.int .i64 0):=tqO
instance:Xi Tryz.prog 2 .i64:=⟨by kernel_rfl⟩
instance:TyS Tryz.prog 3:=tqS
instance:Zk Tryz.prog 3 false:=tqI
instance:Zx Tryz.prog 3 1:=tqN
instance:Zh Tryz.prog 3 8:=tqB
instance:Zl Tryz.prog 3 (.int .i64 0):=tqO
instance:Xi Tryz.prog 3 .i64:=⟨by kernel_rfl⟩
instance:TyS Tryz.prog 4:=tqS
instance:Zk Tryz.prog 4 false:=tqI
instance:Zx Tryz.prog 4 1:=tqN
instance:Zh Tryz.prog 4 1:=tqB
instance:Zl Tryz.prog 4 (.bool false):=tqO
instance:TyBool Tryz.prog 4:=⟨by kernel_rfl⟩
instance:TyS Tryz.prog 5:=tqS
instance:Zk Tryz.prog 5 false:=tqI
instance:Zx Tryz.prog 5 1:=tqN
instance:Zh Tryz.prog 5 1:=tqB
instance:Zl Tryz.prog 5 (.int .u8 0):=tqO
instance:Xi Tryz.prog 5 .u8:=⟨by kernel_rfl⟩
instance:TyA Tryz.prog 7 4:=tqA
instance:Zk Tryz.prog 7 false:=tqI
instance:Zx Tryz.prog 7 4:=tqN
instance:Zh Tryz.prog 7 24:=tqB
instance:Zl Tryz.prog 7 (.agg ⟨[.int .i64 0,.int .i64 0,.bool false,.int .u8 0]⟩):=tqO
instance:ZH Tryz.prog 7:=⟨by kernel_rfl⟩
instance:Yi Tryz.prog 7 0 0 2:=Yr
instance:Yi Tryz.prog 7 1 1 3:=Yr
instance:Yi Tryz.prog 7 2 2 4:=Yr
instance:Yi Tryz.prog 7 3 3 6:=Yr
instance:ZB Tryz.prog 7 (([(0,1),(1,1),(2,1),(3,1)]:List (Nat×Nat))[·]?):=Zw (by kernel_rfl)
instance:TyS Tryz.prog 9:=tqS
instance:Zk Tryz.prog 9 false:=tqI
instance:Zx Tryz.prog 9 1:=tqN
instance:Zh Tryz.prog 9 16:=tqB
instance:Zl Tryz.prog 9 (.string ⟨⟨[]⟩⟩):=tqO
instance:TyStr Tryz.prog 9:=⟨by kernel_rfl⟩
instance:TyS Tryz.prog 12:=tqS
instance:Zk Tryz.prog 12 false:=tqI
instance:Zx Tryz.prog 12 1:=tqN
instance:Zh Tryz.prog 12 8:=tqB
instance:Zl Tryz.prog 12 (.int .u64 0):=tqO
instance:Xi Tryz.prog 12 .u64:=⟨by kernel_rfl⟩
instance:TyS Tryz.prog 16:=tqS
instance:Zk Tryz.prog 16 false:=tqI
instance:Zx Tryz.prog 16 1:=tqN
instance:Zh Tryz.prog 16 8:=tqB
instance:Zl Tryz.prog 16 (.pointer none):=tqO
instance:TyPtr Tryz.prog 16 448:=⟨by kernel_rfl⟩
instance:TyS Tryz.prog 17:=tqS
instance:Zk Tryz.prog 17 false:=tqI
instance:Zx Tryz.prog 17 1:=tqN
instance:Zh Tryz.prog 17 8:=tqB
instance:Zl Tryz.prog 17 (.pointer none):=tqO
instance:TyPtr Tryz.prog 17 456:=⟨by kernel_rfl⟩
instance:TyS Tryz.prog 20:=tqS
instance:Zk Tryz.prog 20 true:=tqI
instance:Zx Tryz.prog 20 1:=tqN
instance:Zh Tryz.prog 20 16:=tqB
instance:Zl Tryz.prog 20 (.nilIface):=tqO
instance:TyS Tryz.prog 21:=tqS
instance:Zk Tryz.prog 21 false:=tqI
instance:Zx Tryz.prog 21 1:=tqN
instance:Zh Tryz.prog 21 4:=tqB
instance:Zl Tryz.prog 21 (.int .i32 0):=tqO
instance:Xi Tryz.prog 21 .i32:=⟨by kernel_rfl⟩
instance:TyS Tryz.prog 22:=tqS
instance:Zk Tryz.prog 22 false:=tqI
instance:Zx Tryz.prog 22 1:=tqN
instance:Zh Tryz.prog 22 24:=tqB
instance:Zl Tryz.prog 22 (.slice none 0 0):=tqO
instance:ZR Tryz.prog 22 5:=⟨by kernel_rfl⟩
instance:TyS Tryz.prog 23:=tqS
instance:Zk Tryz.prog 23 false:=tqI
instance:Zx Tryz.prog 23 1:=tqN
instance:Zh Tryz.prog 23 24:=tqB
instance:Zl Tryz.prog 23 (.slice none 0 0):=tqO
instance:ZR Tryz.prog 23 39:=⟨by kernel_rfl⟩
instance:TyS Tryz.prog 24:=tqS
instance:Zk Tryz.prog 24 false:=tqI
instance:Zx Tryz.prog 24 1:=tqN
instance:Zh Tryz.prog 24 24:=tqB
instance:Zl Tryz.prog 24 (.slice none 0 0):=tqO
instance:ZR Tryz.prog 24 22:=⟨by kernel_rfl⟩
instance:TyS Tryz.prog 25:=tqS
instance:Zk Tryz.prog 25 false:=tqI
instance:Yf Tryz.prog 25:=tqF
instance:Zx Tryz.prog 25 1:=tqN
instance:Zh Tryz.prog 25 8:=tqB
instance:Zl Tryz.prog 25 (.nilFunc):=tqO
instance:TyS Tryz.prog 26:=tqS
instance:Zk Tryz.prog 26 false:=tqI
instance:Zx Tryz.prog 26 1:=tqN
instance:Zh Tryz.prog 26 8:=tqB
instance:Zl Tryz.prog 26 (.pointer none):=tqO
instance:TyPtr Tryz.prog 26 153:=⟨by kernel_rfl⟩
instance:TyS Tryz.prog 27:=tqS
instance:Zk Tryz.prog 27 false:=tqI
instance:Zx Tryz.prog 27 1:=tqN
instance:Zh Tryz.prog 27 8:=tqB
instance:Zl Tryz.prog 27 (.int .i64 0):=tqO
instance:Xi Tryz.prog 27 .i64:=⟨by kernel_rfl⟩
instance:TyS Tryz.prog 30:=tqS
instance:Zk Tryz.prog 30 false:=tqI
instance:Zx Tryz.prog 30 1:=tqN
instance:Zh Tryz.prog 30 8:=tqB
instance:Zl Tryz.prog 30 (.pointer none):=tqO
instance:TyPtr Tryz.prog 30 163:=⟨by kernel_rfl⟩
instance:TyS Tryz.prog 32:=tqS
instance:Zk Tryz.prog 32 false:=tqI
instance:Yf Tryz.prog 32:=tqF
instance:Zx Tryz.prog 32 1:=tqN
instance:Zh Tryz.prog 32 8:=tqB
instance:Zl Tryz.prog 32 (.nilFunc):=tqO
instance:TyS Tryz.prog 33:=tqS
instance:Zk Tryz.prog 33 false:=tqI
instance:Zx Tryz.prog 33 1:=tqN
instance:Zh Tryz.prog 33 8:=tqB
instance:Zl Tryz.prog 33 (.int .u64 0):=tqO
instance:Xi Tryz.prog 33 .u64:=⟨by kernel_rfl⟩
instance:TyS Tryz.prog 34:=tqS
instance:Zk Tryz.prog 34 false:=tqI
instance:Zx Tryz.prog 34 1:=tqN
instance:Zh Tryz.prog 34 24:=tqB
instance:Zl Tryz.prog 34 (.slice none 0 0):=tqO
instance:ZR Tryz.prog 34 165:=⟨by kernel_rfl⟩
instance:TyS Tryz.prog 35:=tqS
instance:Zk Tryz.prog 35 false:=tqI
instance:Zx Tryz.prog 35 1:=tqN
instance:Zh Tryz.prog 35 24:=tqB
instance:Zl Tryz.prog 35 (.slice none 0 0):=tqO
instance:ZR Tryz.prog 35 173:=⟨by kernel_rfl⟩
instance:TyS Tryz.prog 36:=tqS
instance:Zk Tryz.prog 36 false:=tqI
instance:Zx Tryz.prog 36 1:=tqN
instance:Zh Tryz.prog 36 24:=tqB
instance:Zl Tryz.prog 36 (.slice none 0 0):=tqO
instance:ZR Tryz.prog 36 187:=⟨by kernel_rfl⟩
instance:TyS Tryz.prog 37:=tqS
instance:Zk Tryz.prog 37 false:=tqI
instance:Zx Tryz.prog 37 1:=tqN
instance:Zh Tryz.prog 37 24:=tqB
instance:Zl Tryz.prog 37 (.slice none 0 0):=tqO
instance:ZR Tryz.prog 37 108:=⟨by kernel_rfl⟩
instance:TyA Tryz.prog 38 10:=tqA
instance:Zk Tryz.prog 38 false:=tqI
instance:Zx Tryz.prog 38 10:=tqN
instance:Zh Tryz.prog 38 144:=tqB
instance:Zl Tryz.prog 38 (.agg ⟨[.int .i64 0,.int .u64 0,.int .i64 0,.int .u64 0,.int .u64 0,.slice none 0 0,.slice none 0 0,.int .i64 0,.slice none 0 0,.slice none 0 0]⟩):=tqO
instance:ZH Tryz.prog 38:=⟨by kernel_rfl⟩
instance:Yi Tryz.prog 38 0 0 3:=Yr
instance:Yi Tryz.prog 38 1 1 33:=Yr
instance:Yi Tryz.prog 38 2 2 3:=Yr
instance:Yi Tryz.prog 38 3 3 33:=Yr
instance:Yi Tryz.prog 38 4 4 33:=Yr
instance:Yi Tryz.prog 38 5 5 34:=Yr
instance:Yi Tryz.prog 38 6 6 35:=Yr
instance:Yi Tryz.prog 38 7 7 3:=Yr
instance:Yi Tryz.prog 38 8 8 36:=Yr
instance:Yi Tryz.prog 38 9 9 37:=Yr
instance:ZB Tryz.prog 38 (([(0,1),(1,1),(2,1),(3,1),(4,1),(5,1),(6,1),(7,1),(8,1),(9,1)]:List (Nat×Nat))[·]?):=Zw (by kernel_rfl)
instance:TyA Tryz.prog 39 10:=tqA
instance:Zk Tryz.prog 39 false:=tqI
instance:Zx Tryz.prog 39 10:=tqN
instance:Zh Tryz.prog 39 144:=tqB
instance:Zl Tryz.prog 39 (.agg ⟨[.int .i64 0,.int .u64 0,.int .i64 0,.int .u64 0,.int .u64 0,.slice none 0 0,.slice none 0 0,.int .i64 0,.slice none 0 0,.slice none 0 0]⟩):=tqO
instance:ZH Tryz.prog 39:=⟨by kernel_rfl⟩
instance:XB Tryz.prog 39 [(0,3),(1,33),(2,3),(3,33),(4,33),(5,34),(6,35),(7,3),(8,36),(9,37)]:=YI (by kernel_rfl)
instance:Yi Tryz.prog 39 0 0 3:=Yr
instance:Yi Tryz.prog 39 1 1 33:=Yr
instance:Yi Tryz.prog 39 2 2 3:=Yr
instance:Yi Tryz.prog 39 3 3 33:=Yr
instance:Yi Tryz.prog 39 4 4 33:=Yr
instance:Yi Tryz.prog 39 5 5 34:=Yr
instance:Yi Tryz.prog 39 6 6 35:=Yr
instance:Yi Tryz.prog 39 7 7 3:=Yr
instance:Yi Tryz.prog 39 8 8 36:=Yr
instance:Yi Tryz.prog 39 9 9 37:=Yr
instance:ZB Tryz.prog 39 (([(0,1),(1,1),(2,1),(3,1),(4,1),(5,1),(6,1),(7,1),(8,1),(9,1)]:List (Nat×Nat))[·]?):=Zw (by kernel_rfl)
instance:TyS Tryz.prog 40:=tqS
instance:Zk Tryz.prog 40 false:=tqI
instance:Yf Tryz.prog 40:=tqF
instance:Zx Tryz.prog 40 1:=tqN
instance:Zh Tryz.prog 40 8:=tqB
instance:Zl Tryz.prog 40 (.nilFunc):=tqO
instance:TyS Tryz.prog 41:=tqS
instance:Zk Tryz.prog 41 false:=tqI
instance:Yf Tryz.prog 41:=tqF
instance:Zx Tryz.prog 41 1:=tqN
instance:Zh Tryz.prog 41 8:=tqB
instance:Zl Tryz.prog 41 (.nilFunc):=tqO
instance:TyS Tryz.prog 44:=tqS
instance:Zk Tryz.prog 44 false:=tqI
instance:Yf Tryz.prog 44:=tqF
instance:Zx Tryz.prog 44 1:=tqN
instance:Zh Tryz.prog 44 8:=tqB
instance:Zl Tryz.prog 44 (.nilFunc):=tqO
instance:TyS Tryz.prog 46:=tqS
instance:Zk Tryz.prog 46 false:=tqI
instance:Zx Tryz.prog 46 1:=tqN
instance:Zh Tryz.prog 46 8:=tqB
instance:Zl Tryz.prog 46 (.pointer none):=tqO
instance:TyPtr Tryz.prog 46 51:=⟨by kernel_rfl⟩
instance:TyA Tryz.prog 48 5:=tqA
instance:Zk Tryz.prog 48 false:=tqI
instance:Zx Tryz.prog 48 5:=tqN
instance:Zh Tryz.prog 48 56:=tqB
instance:Zl Tryz.prog 48 (.agg ⟨[.int .u64 0,.int .u64 0,.int .u64 0,.int .i64 0,.slice none 0 0]⟩):=tqO
instance:ZH Tryz.prog 48:=⟨by kernel_rfl⟩
instance:Yi Tryz.prog 48 0 0 33:=Yr
instance:Yi Tryz.prog 48 1 1 33:=Yr
instance:Yi Tryz.prog 48 2 2 33:=Yr
instance:Yi Tryz.prog 48 3 3 3:=Yr
instance:Yi Tryz.prog 48 4 4 23:=Yr
instance:ZB Tryz.prog 48 (([(0,1),(1,1),(2,1),(3,1),(4,1)]:List (Nat×Nat))[·]?):=Zw (by kernel_rfl)
instance:TyA Tryz.prog 49 5:=tqA
instance:Zk Tryz.prog 49 false:=tqI
instance:Zx Tryz.prog 49 5:=tqN
instance:Zh Tryz.prog 49 56:=tqB
instance:Zl Tryz.prog 49 (.agg ⟨[.int .u64 0,.int .u64 0,.int .u64 0,.int .i64 0,.slice none 0 0]⟩):=tqO
instance:ZH Tryz.prog 49:=⟨by kernel_rfl⟩
instance:XB Tryz.prog 49 [(0,33),(1,33),(2,33),(3,3),(4,23)]:=YI (by kernel_rfl)
instance:Yi Tryz.prog 49 0 0 33:=Yr
instance:Yi Tryz.prog 49 1 1 33:=Yr
instance:Yi Tryz.prog 49 2 2 33:=Yr
instance:Yi Tryz.prog 49 3 3 3:=Yr
instance:Yi Tryz.prog 49 4 4 23:=Yr
instance:ZB Tryz.prog 49 (([(0,1),(1,1),(2,1),(3,1),(4,1)]:List (Nat×Nat))[·]?):=Zw (by kernel_rfl)
instance:TyA Tryz.prog 50 7:=tqA
instance:Zk Tryz.prog 50 false:=tqI
instance:Zx Tryz.prog 50 7:=tqN
instance:Zh Tryz.prog 50 72:=tqB
instance:Zl Tryz.prog 50 (.agg ⟨[.pointer none,.pointer none,.int .u64 0,.int .u64 0,.int .u64 0,.int .i64 0,.slice none 0 0]⟩):=tqO
instance:ZH Tryz.prog 50:=⟨by kernel_rfl⟩
instance:Yi Tryz.prog 50 0 0 26:=Yr
instance:Yi Tryz.prog 50 1 1 30:=Yr
instance:Yi Tryz.prog 50 2 2 49:=Yr
instance:ZB Tryz.prog 50 (([(0,1),(1,1),(2,5)]:List (Nat×Nat))[·]?):=Zw (by kernel_rfl)
instance:TyA Tryz.prog 51 7:=tqA
instance:Zk Tryz.prog 51 false:=tqI
instance:Zx Tryz.prog 51 7:=tqN
instance:Zh Tryz.prog 51 72:=tqB
instance:Zl Tryz.prog 51 (.agg ⟨[.pointer none,.pointer none,.int .u64 0,.int .u64 0,.int .u64 0,.int .i64 0,.slice none 0 0]⟩):=tqO
instance:ZH Tryz.prog 51:=⟨by kernel_rfl⟩
instance:XB Tryz.prog 51 [(0,26),(1,30),(2,49)]:=YI (by kernel_rfl)
instance:Yi Tryz.prog 51 0 0 26:=Yr
instance:Yi Tryz.prog 51 1 1 30:=Yr
instance:Yi Tryz.prog 51 2 2 49:=Yr
instance:ZB Tryz.prog 51 (([(0,1),(1,1),(2,5)]:List (Nat×Nat))[·]?):=Zw (by kernel_rfl)
instance:TyS Tryz.prog 52:=tqS
instance:Zk Tryz.prog 52 false:=tqI
instance:Zx Tryz.prog 52 1:=tqN
instance:Zh Tryz.prog 52 8:=tqB
instance:Zl Tryz.prog 52 (.pointer none):=tqO
instance:TyPtr Tryz.prog 52 193:=⟨by kernel_rfl⟩
instance:TyS Tryz.prog 56:=tqS
instance:Zk Tryz.prog 56 false:=tqI
instance:Yf Tryz.prog 56:=tqF
instance:Zx Tryz.prog 56 1:=tqN
instance:Zh Tryz.prog 56 8:=tqB
instance:Zl Tryz.prog 56 (.nilFunc):=tqO
instance:TyS Tryz.prog 58:=tqS
instance:Zk Tryz.prog 58 false:=tqI
instance:Zx Tryz.prog 58 1:=tqN
instance:Zh Tryz.prog 58 24:=tqB
instance:Zl Tryz.prog 58 (.slice none 0 0):=tqO
instance:ZR Tryz.prog 58 3:=⟨by kernel_rfl⟩
instance:TyS Tryz.prog 64:=tqS
instance:Zk Tryz.prog 64 false:=tqI
instance:Yf Tryz.prog 64:=tqF
instance:Zx Tryz.prog 64 1:=tqN
instance:Zh Tryz.prog 64 8:=tqB
instance:Zl Tryz.prog 64 (.nilFunc):=tqO
instance:TyS Tryz.prog 88:=tqS
instance:Zk Tryz.prog 88 false:=tqI
instance:Yf Tryz.prog 88:=tqF
instance:Zx Tryz.prog 88 1:=tqN
instance:Zh Tryz.prog 88 8:=tqB
instance:Zl Tryz.prog 88 (.nilFunc):=tqO
instance:TyS Tryz.prog 96:=tqS
instance:Zk Tryz.prog 96 false:=tqI
instance:Yf Tryz.prog 96:=tqF
instance:Zx Tryz.prog 96 1:=tqN
instance:Zh Tryz.prog 96 8:=tqB
instance:Zl Tryz.prog 96 (.nilFunc):=tqO
instance:TyS Tryz.prog 97:=tqS
instance:Zk Tryz.prog 97 false:=tqI
instance:Zx Tryz.prog 97 1:=tqN
instance:Zh Tryz.prog 97 8:=tqB
instance:Zl Tryz.prog 97 (.int .u64 0):=tqO
instance:Xi Tryz.prog 97 .u64:=⟨by kernel_rfl⟩
instance:TyS Tryz.prog 106:=tqS
instance:Zk Tryz.prog 106 false:=tqI
instance:Zx Tryz.prog 106 1:=tqN
instance:Zh Tryz.prog 106 8:=tqB
instance:Zl Tryz.prog 106 (.map none):=tqO
instance:TyMap Tryz.prog 106 3 4:=⟨by kernel_rfl⟩
instance:TyA Tryz.prog 107 2:=tqA
instance:Zk Tryz.prog 107 false:=tqI
instance:Zx Tryz.prog 107 2:=tqN
instance:Zh Tryz.prog 107 16:=tqB
instance:Zl Tryz.prog 107 (.agg ⟨[.int .i64 0,.int .u64 0]⟩):=tqO
instance:ZH Tryz.prog 107:=⟨by kernel_rfl⟩
instance:Yi Tryz.prog 107 0 0 3:=Yr
instance:Yi Tryz.prog 107 1 1 33:=Yr
instance:ZB Tryz.prog 107 (([(0,1),(1,1)]:List (Nat×Nat))[·]?):=Zw (by kernel_rfl)
instance:TyA Tryz.prog 108 2:=tqA
instance:Zk Tryz.prog 108 false:=tqI
instance:Zx Tryz.prog 108 2:=tqN
instance:Zh Tryz.prog 108 16:=tqB
instance:Zl Tryz.prog 108 (.agg ⟨[.int .i64 0,.int .u64 0]⟩):=tqO
instance:ZH Tryz.prog 108:=⟨by kernel_rfl⟩
instance:XB Tryz.prog 108 [(0,3),(1,33)]:=YI (by kernel_rfl)
instance:Yi Tryz.prog 108 0 0 3:=Yr
instance:Yi Tryz.prog 108 1 1 33:=Yr
instance:ZB Tryz.prog 108 (([(0,1),(1,1)]:List (Nat×Nat))[·]?):=Zw (by kernel_rfl)
instance:TyS Tryz.prog 109:=tqS
instance:Zk Tryz.prog 109 false:=tqI
instance:Zx Tryz.prog 109 1:=tqN
instance:Zh Tryz.prog 109 24:=tqB
instance:Zl Tryz.prog 109 (.slice none 0 0):=tqO
instance:ZR Tryz.prog 109 171:=⟨by kernel_rfl⟩
instance:TyS Tryz.prog 110:=tqS
instance:Zk Tryz.prog 110 false:=tqI
instance:Zx Tryz.prog 110 1:=tqN
instance:Zh Tryz.prog 110 24:=tqB
instance:Zl Tryz.prog 110 (.slice none 0 0):=tqO
instance:ZR Tryz.prog 110 238:=⟨by kernel_rfl⟩
instance:TyA Tryz.prog 111 3:=tqA
instance:Zk Tryz.prog 111 false:=tqI
instance:Zx Tryz.prog 111 3:=tqN
instance:Zh Tryz.prog 111 56:=tqB
instance:Zl Tryz.prog 111 (.agg ⟨[.int .i64 0,.slice none 0 0,.slice none 0 0]⟩):=tqO
instance:ZH Tryz.prog 111:=⟨by kernel_rfl⟩
instance:Yi Tryz.prog 111 0 0 3:=Yr
instance:Yi Tryz.prog 111 1 1 109:=Yr
instance:Yi Tryz.prog 111 2 2 110:=Yr
instance:ZB Tryz.prog 111 (([(0,1),(1,1),(2,1)]:List (Nat×Nat))[·]?):=Zw (by kernel_rfl)
instance:TyA Tryz.prog 112 3:=tqA
instance:Zk Tryz.prog 112 false:=tqI
instance:Zx Tryz.prog 112 3:=tqN
instance:Zh Tryz.prog 112 56:=tqB
instance:Zl Tryz.prog 112 (.agg ⟨[.int .i64 0,.slice none 0 0,.slice none 0 0]⟩):=tqO
instance:ZH Tryz.prog 112:=⟨by kernel_rfl⟩
instance:XB Tryz.prog 112 [(0,3),(1,109),(2,110)]:=YI (by kernel_rfl)
instance:Yi Tryz.prog 112 0 0 3:=Yr
instance:Yi Tryz.prog 112 1 1 109:=Yr
instance:Yi Tryz.prog 112 2 2 110:=Yr
instance:ZB Tryz.prog 112 (([(0,1),(1,1),(2,1)]:List (Nat×Nat))[·]?):=Zw (by kernel_rfl)
instance:TyS Tryz.prog 120:=tqS
instance:Zk Tryz.prog 120 false:=tqI
instance:Yf Tryz.prog 120:=tqF
instance:Zx Tryz.prog 120 1:=tqN
instance:Zh Tryz.prog 120 8:=tqB
instance:Zl Tryz.prog 120 (.nilFunc):=tqO
instance:TyS Tryz.prog 150:=tqS
instance:Zk Tryz.prog 150 false:=tqI
instance:Zx Tryz.prog 150 1:=tqN
instance:Zh Tryz.prog 150 24:=tqB
instance:Zl Tryz.prog 150 (.slice none 0 0):=tqO
instance:ZR Tryz.prog 150 157:=⟨by kernel_rfl⟩
instance:TyS Tryz.prog 151:=tqS
instance:Zk Tryz.prog 151 false:=tqI
instance:Zx Tryz.prog 151 1:=tqN
instance:Zh Tryz.prog 151 8:=tqB
instance:Zl Tryz.prog 151 (.map none):=tqO
instance:TyMap Tryz.prog 151 3 157:=⟨by kernel_rfl⟩
instance:TyA Tryz.prog 152 6:=tqA
instance:Zk Tryz.prog 152 false:=tqI
instance:Zx Tryz.prog 152 6:=tqN
instance:Zh Tryz.prog 152 64:=tqB
instance:Zl Tryz.prog 152 (.agg ⟨[.slice none 0 0,.map none,.int .i64 0,.int .i64 0,.int .i64 0,.bool false]⟩):=tqO
instance:ZH Tryz.prog 152:=⟨by kernel_rfl⟩
instance:Yi Tryz.prog 152 0 0 150:=Yr
instance:Yi Tryz.prog 152 1 1 151:=Yr
instance:Yi Tryz.prog 152 2 2 3:=Yr
instance:Yi Tryz.prog 152 3 3 3:=Yr
instance:Yi Tryz.prog 152 4 4 3:=Yr
instance:Yi Tryz.prog 152 5 5 4:=Yr
instance:ZB Tryz.prog 152 (([(0,1),(1,1),(2,1),(3,1),(4,1),(5,1)]:List (Nat×Nat))[·]?):=Zw (by kernel_rfl)
instance:TyA Tryz.prog 153 6:=tqA
instance:Zk Tryz.prog 153 false:=tqI
instance:Zx Tryz.prog 153 6:=tqN
instance:Zh Tryz.prog 153 64:=tqB
instance:Zl Tryz.prog 153 (.agg ⟨[.slice none 0 0,.map none,.int .i64 0,.int .i64 0,.int .i64 0,.bool false]⟩):=tqO
instance:ZH Tryz.prog 153:=⟨by kernel_rfl⟩
instance:XB Tryz.prog 153 [(0,150),(1,151),(2,3),(3,3),(4,3),(5,4)]:=YI (by kernel_rfl)
instance:Yi Tryz.prog 153 0 0 150:=Yr
instance:Yi Tryz.prog 153 1 1 151:=Yr
instance:Yi Tryz.prog 153 2 2 3:=Yr
instance:Yi Tryz.prog 153 3 3 3:=Yr
instance:Yi Tryz.prog 153 4 4 3:=Yr
instance:Yi Tryz.prog 153 5 5 4:=Yr
instance:ZB Tryz.prog 153 (([(0,1),(1,1),(2,1),(3,1),(4,1),(5,1)]:List (Nat×Nat))[·]?):=Zw (by kernel_rfl)
instance:TyS Tryz.prog 155:=tqS
instance:Zk Tryz.prog 155 false:=tqI
instance:Yf Tryz.prog 155:=tqF
instance:Zx Tryz.prog 155 1:=tqN
instance:Zh Tryz.prog 155 8:=tqB
instance:Zl Tryz.prog 155 (.nilFunc):=tqO
instance:TyA Tryz.prog 156 64:=tqA
instance:Zk Tryz.prog 156 false:=tqI
instance:Zx Tryz.prog 156 64:=tqN
instance:Zh Tryz.prog 156 64:=tqB
instance:Zl Tryz.prog 156 (.agg ⟨List.replicate 64 (.int .u8 0)⟩):=tqO
instance:ZH Tryz.prog 156:=⟨by kernel_rfl⟩
instance:TyArr Tryz.prog 156 64 5:=⟨by kernel_rfl⟩
instance:ZB Tryz.prog 156 (fun i=>some (i*1,1)):=mkTyPlacesA (n:=64) (e:=5) (by kernel_rfl) (by kernel_rfl)
instance:TyA Tryz.prog 157 64:=tqA
instance:Zk Tryz.prog 157 false:=tqI
instance:Zx Tryz.prog 157 64:=tqN
instance:Zh Tryz.prog 157 64:=tqB
instance:Zl Tryz.prog 157 (.agg ⟨List.replicate 64 (.int .u8 0)⟩):=tqO
instance:ZH Tryz.prog 157:=⟨by kernel_rfl⟩
instance:TyArr Tryz.prog 157 64 5:=⟨by kernel_rfl⟩
instance:ZB Tryz.prog 157 (fun i=>some (i*1,1)):=mkTyPlacesA (n:=64) (e:=5) (by kernel_rfl) (by kernel_rfl)
instance:TyS Tryz.prog 158:=tqS
instance:Zk Tryz.prog 158 false:=tqI
instance:Yf Tryz.prog 158:=tqF
instance:Zx Tryz.prog 158 1:=tqN
instance:Zh Tryz.prog 158 8:=tqB
instance:Zl Tryz.prog 158 (.nilFunc):=tqO
instance:TyA Tryz.prog 159 5:=tqA
instance:Zk Tryz.prog 159 false:=tqI
instance:Zx Tryz.prog 159 5:=tqN
instance:Zh Tryz.prog 159 56:=tqB
instance:Zl Tryz.prog 159 (.agg ⟨[.int .u64 0,.int .u64 0,.int .i64 0,.int .i64 0,.slice none 0 0]⟩):=tqO
instance:ZH Tryz.prog 159:=⟨by kernel_rfl⟩
instance:Yi Tryz.prog 159 0 0 33:=Yr
instance:Yi Tryz.prog 159 1 1 33:=Yr
instance:Yi Tryz.prog 159 2 2 3:=Yr
instance:Yi Tryz.prog 159 3 3 3:=Yr
instance:Yi Tryz.prog 159 4 4 22:=Yr
instance:ZB Tryz.prog 159 (([(0,1),(1,1),(2,1),(3,1),(4,1)]:List (Nat×Nat))[·]?):=Zw (by kernel_rfl)
instance:TyA Tryz.prog 160 5:=tqA
instance:Zk Tryz.prog 160 false:=tqI
instance:Zx Tryz.prog 160 5:=tqN
instance:Zh Tryz.prog 160 56:=tqB
instance:Zl Tryz.prog 160 (.agg ⟨[.int .u64 0,.int .u64 0,.int .i64 0,.int .i64 0,.slice none 0 0]⟩):=tqO
instance:ZH Tryz.prog 160:=⟨by kernel_rfl⟩
instance:XB Tryz.prog 160 [(0,33),(1,33),(2,3),(3,3),(4,22)]:=YI (by kernel_rfl)
instance:Yi Tryz.prog 160 0 0 33:=Yr
instance:Yi Tryz.prog 160 1 1 33:=Yr
instance:Yi Tryz.prog 160 2 2 3:=Yr
instance:Yi Tryz.prog 160 3 3 3:=Yr
instance:Yi Tryz.prog 160 4 4 22:=Yr
instance:ZB Tryz.prog 160 (([(0,1),(1,1),(2,1),(3,1),(4,1)]:List (Nat×Nat))[·]?):=Zw (by kernel_rfl)
instance:TyA Tryz.prog 162 9:=tqA
instance:Zk Tryz.prog 162 false:=tqI
instance:Zx Tryz.prog 162 9:=tqN
instance:Zh Tryz.prog 162 104:=tqB
instance:Zl Tryz.prog 162 (.agg ⟨[.int .u64 0,.int .u64 0,.int .i64 0,.int .i64 0,.slice none 0 0,.pointer none,.slice none 0 0,.int .i64 0,.bool false]⟩):=tqO
instance:ZH Tryz.prog 162:=⟨by kernel_rfl⟩
instance:Yi Tryz.prog 162 0 0 160:=Yr
instance:Yi Tryz.prog 162 1 5 26:=Yr
instance:Yi Tryz.prog 162 2 6 24:=Yr
instance:Yi Tryz.prog 162 3 7 3:=Yr
instance:Yi Tryz.prog 162 4 8 4:=Yr
instance:ZB Tryz.prog 162 (([(0,5),(5,1),(6,1),(7,1),(8,1)]:List (Nat×Nat))[·]?):=Zw (by kernel_rfl)
instance:TyA Tryz.prog 163 9:=tqA
instance:Zk Tryz.prog 163 false:=tqI
instance:Zx Tryz.prog 163 9:=tqN
instance:Zh Tryz.prog 163 104:=tqB
instance:Zl Tryz.prog 163 (.agg ⟨[.int .u64 0,.int .u64 0,.int .i64 0,.int .i64 0,.slice none 0 0,.pointer none,.slice none 0 0,.int .i64 0,.bool false]⟩):=tqO
instance:ZH Tryz.prog 163:=⟨by kernel_rfl⟩
instance:XB Tryz.prog 163 [(0,160),(5,26),(6,24),(7,3),(8,4)]:=YI (by kernel_rfl)
instance:Yi Tryz.prog 163 0 0 160:=Yr
instance:Yi Tryz.prog 163 1 5 26:=Yr
instance:Yi Tryz.prog 163 2 6 24:=Yr
instance:Yi Tryz.prog 163 3 7 3:=Yr
instance:Yi Tryz.prog 163 4 8 4:=Yr
instance:ZB Tryz.prog 163 (([(0,5),(5,1),(6,1),(7,1),(8,1)]:List (Nat×Nat))[·]?):=Zw (by kernel_rfl)
instance:TyA Tryz.prog 164 7:=tqA
instance:Zk Tryz.prog 164 false:=tqI
instance:Zx Tryz.prog 164 7:=tqN
instance:Zh Tryz.prog 164 120:=tqB
instance:Zl Tryz.prog 164 (.agg ⟨[.int .i64 0,.int .i64 0,.slice none 0 0,.slice none 0 0,.int .i64 0,.slice none 0 0,.slice none 0 0]⟩):=tqO
instance:ZH Tryz.prog 164:=⟨by kernel_rfl⟩
instance:Yi Tryz.prog 164 0 0 3:=Yr
instance:Yi Tryz.prog 164 1 1 112:=Yr
instance:Yi Tryz.prog 164 2 4 112:=Yr
instance:ZB Tryz.prog 164 (([(0,1),(1,3),(4,3)]:List (Nat×Nat))[·]?):=Zw (by kernel_rfl)
instance:TyA Tryz.prog 165 7:=tqA
instance:Zk Tryz.prog 165 false:=tqI
instance:Zx Tryz.prog 165 7:=tqN
instance:Zh Tryz.prog 165 120:=tqB
instance:Zl Tryz.prog 165 (.agg ⟨[.int .i64 0,.int .i64 0,.slice none 0 0,.slice none 0 0,.int .i64 0,.slice none 0 0,.slice none 0 0]⟩):=tqO
instance:ZH Tryz.prog 165:=⟨by kernel_rfl⟩
instance:XB Tryz.prog 165 [(0,3),(1,112),(4,112)]:=YI (by kernel_rfl)
instance:Yi Tryz.prog 165 0 0 3:=Yr
instance:Yi Tryz.prog 165 1 1 112:=Yr
instance:Yi Tryz.prog 165 2 4 112:=Yr
instance:ZB Tryz.prog 165 (([(0,1),(1,3),(4,3)]:List (Nat×Nat))[·]?):=Zw (by kernel_rfl)
instance:TyS Tryz.prog 167:=tqS
instance:Zk Tryz.prog 167 false:=tqI
instance:Zx Tryz.prog 167 1:=tqN
instance:Zh Tryz.prog 167 2:=tqB
instance:Zl Tryz.prog 167 (.int .u16 0):=tqO
instance:Xi Tryz.prog 167 .u16:=⟨by kernel_rfl⟩
instance:TyA Tryz.prog 168 2:=tqA
instance:Zk Tryz.prog 168 false:=tqI
instance:Zx Tryz.prog 168 2:=tqN
instance:Zh Tryz.prog 168 16:=tqB
instance:Zl Tryz.prog 168 (.agg ⟨[.int .i64 0,.int .u16 0]⟩):=tqO
instance:ZH Tryz.prog 168:=⟨by kernel_rfl⟩
instance:Yi Tryz.prog 168 0 0 3:=Yr
instance:Yi Tryz.prog 168 1 1 167:=Yr
instance:ZB Tryz.prog 168 (([(0,1),(1,1)]:List (Nat×Nat))[·]?):=Zw (by kernel_rfl)
instance:TyA Tryz.prog 169 2:=tqA
instance:Zk Tryz.prog 169 false:=tqI
instance:Zx Tryz.prog 169 2:=tqN
instance:Zh Tryz.prog 169 16:=tqB
instance:Zl Tryz.prog 169 (.agg ⟨[.int .i64 0,.int .u16 0]⟩):=tqO
instance:ZH Tryz.prog 169:=⟨by kernel_rfl⟩
instance:XB Tryz.prog 169 [(0,3),(1,167)]:=YI (by kernel_rfl)
instance:Yi Tryz.prog 169 0 0 3:=Yr
instance:Yi Tryz.prog 169 1 1 167:=Yr
instance:ZB Tryz.prog 169 (([(0,1),(1,1)]:List (Nat×Nat))[·]?):=Zw (by kernel_rfl)
instance:TyA Tryz.prog 170 4:=tqA
instance:Zk Tryz.prog 170 false:=tqI
instance:Zx Tryz.prog 170 4:=tqN
instance:Zh Tryz.prog 170 40:=tqB
instance:Zl Tryz.prog 170 (.agg ⟨[.int .i64 0,.int .u16 0,.int .i64 0,.string ⟨⟨[]⟩⟩]⟩):=tqO
instance:ZH Tryz.prog 170:=⟨by kernel_rfl⟩
instance:Yi Tryz.prog 170 0 0 169:=Yr
instance:Yi Tryz.prog 170 1 2 2:=Yr
instance:Yi Tryz.prog 170 2 3 9:=Yr
instance:ZB Tryz.prog 170 (([(0,2),(2,1),(3,1)]:List (Nat×Nat))[·]?):=Zw (by kernel_rfl)
instance:TyA Tryz.prog 171 4:=tqA
instance:Zk Tryz.prog 171 false:=tqI
instance:Zx Tryz.prog 171 4:=tqN
instance:Zh Tryz.prog 171 40:=tqB
instance:Zl Tryz.prog 171 (.agg ⟨[.int .i64 0,.int .u16 0,.int .i64 0,.string ⟨⟨[]⟩⟩]⟩):=tqO
instance:ZH Tryz.prog 171:=⟨by kernel_rfl⟩
instance:XB Tryz.prog 171 [(0,169),(2,2),(3,9)]:=YI (by kernel_rfl)
instance:Yi Tryz.prog 171 0 0 169:=Yr
instance:Yi Tryz.prog 171 1 2 2:=Yr
instance:Yi Tryz.prog 171 2 3 9:=Yr
instance:ZB Tryz.prog 171 (([(0,2),(2,1),(3,1)]:List (Nat×Nat))[·]?):=Zw (by kernel_rfl)
instance:TyA Tryz.prog 172 6:=tqA
instance:Zk Tryz.prog 172 false:=tqI
instance:Zx Tryz.prog 172 6:=tqN
instance:Zh Tryz.prog 172 56:=tqB
instance:Zl Tryz.prog 172 (.agg ⟨[.int .i64 0,.int .i64 0,.int .u16 0,.int .i64 0,.string ⟨⟨[]⟩⟩,.int .i64 0]⟩):=tqO
instance:ZH Tryz.prog 172:=⟨by kernel_rfl⟩
instance:Yi Tryz.prog 172 0 0 3:=Yr
instance:Yi Tryz.prog 172 1 1 171:=Yr
instance:Yi Tryz.prog 172 2 5 2:=Yr
instance:ZB Tryz.prog 172 (([(0,1),(1,4),(5,1)]:List (Nat×Nat))[·]?):=Zw (by kernel_rfl)
instance:TyA Tryz.prog 173 6:=tqA
instance:Zk Tryz.prog 173 false:=tqI
instance:Zx Tryz.prog 173 6:=tqN
instance:Zh Tryz.prog 173 56:=tqB
instance:Zl Tryz.prog 173 (.agg ⟨[.int .i64 0,.int .i64 0,.int .u16 0,.int .i64 0,.string ⟨⟨[]⟩⟩,.int .i64 0]⟩):=tqO
instance:ZH Tryz.prog 173:=⟨by kernel_rfl⟩
instance:XB Tryz.prog 173 [(0,3),(1,171),(5,2)]:=YI (by kernel_rfl)
instance:Yi Tryz.prog 173 0 0 3:=Yr
instance:Yi Tryz.prog 173 1 1 171:=Yr
instance:Yi Tryz.prog 173 2 5 2:=Yr
instance:ZB Tryz.prog 173 (([(0,1),(1,4),(5,1)]:List (Nat×Nat))[·]?):=Zw (by kernel_rfl)
instance:TyS Tryz.prog 176:=tqS
instance:Zk Tryz.prog 176 false:=tqI
instance:Yf Tryz.prog 176:=tqF
instance:Zx Tryz.prog 176 1:=tqN
instance:Zh Tryz.prog 176 8:=tqB
instance:Zl Tryz.prog 176 (.nilFunc):=tqO
instance:TyS Tryz.prog 179:=tqS
instance:Zk Tryz.prog 179 false:=tqI
instance:Yf Tryz.prog 179:=tqF
instance:Zx Tryz.prog 179 1:=tqN
instance:Zh Tryz.prog 179 8:=tqB
instance:Zl Tryz.prog 179 (.nilFunc):=tqO
instance:TyS Tryz.prog 181:=tqS
instance:Zk Tryz.prog 181 false:=tqI
instance:Yf Tryz.prog 181:=tqF
instance:Zx Tryz.prog 181 1:=tqN
instance:Zh Tryz.prog 181 8:=tqB
instance:Zl Tryz.prog 181 (.nilFunc):=tqO
instance:TyA Tryz.prog 186 5:=tqA
instance:Zk Tryz.prog 186 false:=tqI
instance:Zx Tryz.prog 186 5:=tqN
instance:Zh Tryz.prog 186 40:=tqB
instance:Zl Tryz.prog 186 (.agg ⟨[.int .i64 0,.int .u64 0,.int .u64 0,.int .u64 0,.int .i64 0]⟩):=tqO
instance:ZH Tryz.prog 186:=⟨by kernel_rfl⟩
instance:Yi Tryz.prog 186 0 0 3:=Yr
instance:Yi Tryz.prog 186 1 1 33:=Yr
instance:Yi Tryz.prog 186 2 2 33:=Yr
instance:Yi Tryz.prog 186 3 3 33:=Yr
instance:Yi Tryz.prog 186 4 4 3:=Yr
instance:ZB Tryz.prog 186 (([(0,1),(1,1),(2,1),(3,1),(4,1)]:List (Nat×Nat))[·]?):=Zw (by kernel_rfl)
instance:TyA Tryz.prog 187 5:=tqA
instance:Zk Tryz.prog 187 false:=tqI
instance:Zx Tryz.prog 187 5:=tqN
instance:Zh Tryz.prog 187 40:=tqB
instance:Zl Tryz.prog 187 (.agg ⟨[.int .i64 0,.int .u64 0,.int .u64 0,.int .u64 0,.int .i64 0]⟩):=tqO
instance:ZH Tryz.prog 187:=⟨by kernel_rfl⟩
instance:XB Tryz.prog 187 [(0,3),(1,33),(2,33),(3,33),(4,3)]:=YI (by kernel_rfl)
instance:Yi Tryz.prog 187 0 0 3:=Yr
instance:Yi Tryz.prog 187 1 1 33:=Yr
instance:Yi Tryz.prog 187 2 2 33:=Yr
instance:Yi Tryz.prog 187 3 3 33:=Yr
instance:Yi Tryz.prog 187 4 4 3:=Yr
instance:ZB Tryz.prog 187 (([(0,1),(1,1),(2,1),(3,1),(4,1)]:List (Nat×Nat))[·]?):=Zw (by kernel_rfl)
instance:TyA Tryz.prog 192 7:=tqA
instance:Zk Tryz.prog 192 false:=tqI
instance:Zx Tryz.prog 192 7:=tqN
instance:Zh Tryz.prog 192 72:=tqB
instance:Zl Tryz.prog 192 (.agg ⟨[.pointer none,.int .u64 0,.int .u64 0,.int .u64 0,.int .i64 0,.slice none 0 0,.int .i64 0]⟩):=tqO
instance:ZH Tryz.prog 192:=⟨by kernel_rfl⟩
instance:Yi Tryz.prog 192 0 0 30:=Yr
instance:Yi Tryz.prog 192 1 1 33:=Yr
instance:Yi Tryz.prog 192 2 2 33:=Yr
instance:Yi Tryz.prog 192 3 3 33:=Yr
instance:Yi Tryz.prog 192 4 4 3:=Yr
instance:Yi Tryz.prog 192 5 5 23:=Yr
instance:Yi Tryz.prog 192 6 6 3:=Yr
instance:ZB Tryz.prog 192 (([(0,1),(1,1),(2,1),(3,1),(4,1),(5,1),(6,1)]:List (Nat×Nat))[·]?):=Zw (by kernel_rfl)
instance:TyA Tryz.prog 193 7:=tqA
instance:Zk Tryz.prog 193 false:=tqI
instance:Zx Tryz.prog 193 7:=tqN
instance:Zh Tryz.prog 193 72:=tqB
instance:Zl Tryz.prog 193 (.agg ⟨[.pointer none,.int .u64 0,.int .u64 0,.int .u64 0,.int .i64 0,.slice none 0 0,.int .i64 0]⟩):=tqO
instance:ZH Tryz.prog 193:=⟨by kernel_rfl⟩
instance:XB Tryz.prog 193 [(0,30),(1,33),(2,33),(3,33),(4,3),(5,23),(6,3)]:=YI (by kernel_rfl)
instance:Yi Tryz.prog 193 0 0 30:=Yr
instance:Yi Tryz.prog 193 1 1 33:=Yr
instance:Yi Tryz.prog 193 2 2 33:=Yr
instance:Yi Tryz.prog 193 3 3 33:=Yr
instance:Yi Tryz.prog 193 4 4 3:=Yr
instance:Yi Tryz.prog 193 5 5 23:=Yr
instance:Yi Tryz.prog 193 6 6 3:=Yr
instance:ZB Tryz.prog 193 (([(0,1),(1,1),(2,1),(3,1),(4,1),(5,1),(6,1)]:List (Nat×Nat))[·]?):=Zw (by kernel_rfl)
instance:TyS Tryz.prog 194:=tqS
instance:Zk Tryz.prog 194 false:=tqI
instance:Yf Tryz.prog 194:=tqF
instance:Zx Tryz.prog 194 1:=tqN
instance:Zh Tryz.prog 194 8:=tqB
instance:Zl Tryz.prog 194 (.nilFunc):=tqO
instance:TyS Tryz.prog 201:=tqS
instance:Zk Tryz.prog 201 false:=tqI
instance:Yf Tryz.prog 201:=tqF
instance:Zx Tryz.prog 201 1:=tqN
instance:Zh Tryz.prog 201 8:=tqB
instance:Zl Tryz.prog 201 (.nilFunc):=tqO
instance:TyS Tryz.prog 202:=tqS
instance:Zk Tryz.prog 202 false:=tqI
instance:Yf Tryz.prog 202:=tqF
instance:Zx Tryz.prog 202 1:=tqN
instance:Zh Tryz.prog 202 8:=tqB
instance:Zl Tryz.prog 202 (.nilFunc):=tqO
instance:TyS Tryz.prog 229:=tqS
instance:Zk Tryz.prog 229 false:=tqI
instance:Yf Tryz.prog 229:=tqF
instance:Zx Tryz.prog 229 1:=tqN
instance:Zh Tryz.prog 229 8:=tqB
instance:Zl Tryz.prog 229 (.nilFunc):=tqO
instance:TyS Tryz.prog 230:=tqS
instance:Zk Tryz.prog 230 false:=tqI
instance:Yf Tryz.prog 230:=tqF
instance:Zx Tryz.prog 230 1:=tqN
instance:Zh Tryz.prog 230 8:=tqB
instance:Zl Tryz.prog 230 (.nilFunc):=tqO
instance:TyA Tryz.prog 237 3:=tqA
instance:Zk Tryz.prog 237 false:=tqI
instance:Zx Tryz.prog 237 3:=tqN
instance:Zh Tryz.prog 237 24:=tqB
instance:Zl Tryz.prog 237 (.agg ⟨[.int .i64 0,.int .u16 0,.int .i64 0]⟩):=tqO
instance:ZH Tryz.prog 237:=⟨by kernel_rfl⟩
instance:Yi Tryz.prog 237 0 0 169:=Yr
instance:Yi Tryz.prog 237 1 2 3:=Yr
instance:ZB Tryz.prog 237 (([(0,2),(2,1)]:List (Nat×Nat))[·]?):=Zw (by kernel_rfl)
instance:TyA Tryz.prog 238 3:=tqA
instance:Zk Tryz.prog 238 false:=tqI
instance:Zx Tryz.prog 238 3:=tqN
instance:Zh Tryz.prog 238 24:=tqB
instance:Zl Tryz.prog 238 (.agg ⟨[.int .i64 0,.int .u16 0,.int .i64 0]⟩):=tqO
instance:ZH Tryz.prog 238:=⟨by kernel_rfl⟩
instance:XB Tryz.prog 238 [(0,169),(2,3)]:=YI (by kernel_rfl)
instance:Yi Tryz.prog 238 0 0 169:=Yr
instance:Yi Tryz.prog 238 1 2 3:=Yr
instance:ZB Tryz.prog 238 (([(0,2),(2,1)]:List (Nat×Nat))[·]?):=Zw (by kernel_rfl)
instance:TyS Tryz.prog 252:=tqS
instance:Zk Tryz.prog 252 false:=tqI
instance:Yf Tryz.prog 252:=tqF
instance:Zx Tryz.prog 252 1:=tqN
instance:Zh Tryz.prog 252 8:=tqB
instance:Zl Tryz.prog 252 (.nilFunc):=tqO
instance:TyS Tryz.prog 273:=tqS
instance:Zk Tryz.prog 273 false:=tqI
instance:Yf Tryz.prog 273:=tqF
instance:Zx Tryz.prog 273 1:=tqN
instance:Zh Tryz.prog 273 8:=tqB
instance:Zl Tryz.prog 273 (.nilFunc):=tqO
instance:TyA Tryz.prog 278 128:=tqA
instance:Zk Tryz.prog 278 false:=tqI
instance:Zx Tryz.prog 278 128:=tqN
instance:Zh Tryz.prog 278 128:=tqB
instance:Zl Tryz.prog 278 (.agg ⟨List.replicate 128 (.int .u8 0)⟩):=tqO
instance:ZH Tryz.prog 278:=⟨by kernel_rfl⟩
instance:TyArr Tryz.prog 278 2 157:=⟨by kernel_rfl⟩
instance:ZB Tryz.prog 278 (fun i=>some (i*64,64)):=mkTyPlacesA (n:=2) (e:=157) (by kernel_rfl) (by kernel_rfl)
instance:TyS Tryz.prog 280:=tqS
instance:Zk Tryz.prog 280 false:=tqI
instance:Yf Tryz.prog 280:=tqF
instance:Zx Tryz.prog 280 1:=tqN
instance:Zh Tryz.prog 280 8:=tqB
instance:Zl Tryz.prog 280 (.nilFunc):=tqO
instance:TyS Tryz.prog 284:=tqS
instance:Zk Tryz.prog 284 false:=tqI
instance:Zx Tryz.prog 284 1:=tqN
instance:Zh Tryz.prog 284 8:=tqB
instance:Zl Tryz.prog 284 (.pointer none):=tqO
instance:TyPtr Tryz.prog 284 288:=⟨by kernel_rfl⟩
instance:TyS Tryz.prog 285:=tqS
instance:Zk Tryz.prog 285 false:=tqI
instance:Zx Tryz.prog 285 1:=tqN
instance:Zh Tryz.prog 285 8:=tqB
instance:Zl Tryz.prog 285 (.pointer none):=tqO
instance:TyPtr Tryz.prog 285 341:=⟨by kernel_rfl⟩
instance:TyA Tryz.prog 287 13:=tqA
instance:Zk Tryz.prog 287 false:=tqI
instance:Zx Tryz.prog 287 13:=tqN
instance:Zh Tryz.prog 287 184:=tqB
instance:Zl Tryz.prog 287 (.agg ⟨[.pointer none,.slice none 0 0,.int .i64 0,.int .u64 0,.int .i64 0,.int .u64 0,.int .u64 0,.slice none 0 0,.slice none 0 0,.int .i64 0,.slice none 0 0,.slice none 0 0,.bool false]⟩):=tqO
instance:ZH Tryz.prog 287:=⟨by kernel_rfl⟩
instance:Yi Tryz.prog 287 0 0 285:=Yr
instance:Yi Tryz.prog 287 1 1 22:=Yr
instance:Yi Tryz.prog 287 2 2 39:=Yr
instance:Yi Tryz.prog 287 3 12 4:=Yr
instance:ZB Tryz.prog 287 (([(0,1),(1,1),(2,10),(12,1)]:List (Nat×Nat))[·]?):=Zw (by kernel_rfl)
instance:TyA Tryz.prog 288 13:=tqA
instance:Zk Tryz.prog 288 false:=tqI
instance:Zx Tryz.prog 288 13:=tqN
instance:Zh Tryz.prog 288 184:=tqB
instance:Zl Tryz.prog 288 (.agg ⟨[.pointer none,.slice none 0 0,.int .i64 0,.int .u64 0,.int .i64 0,.int .u64 0,.int .u64 0,.slice none 0 0,.slice none 0 0,.int .i64 0,.slice none 0 0,.slice none 0 0,.bool false]⟩):=tqO
instance:ZH Tryz.prog 288:=⟨by kernel_rfl⟩
instance:XB Tryz.prog 288 [(0,285),(1,22),(2,39),(12,4)]:=YI (by kernel_rfl)
instance:Yi Tryz.prog 288 0 0 285:=Yr
instance:Yi Tryz.prog 288 1 1 22:=Yr
instance:Yi Tryz.prog 288 2 2 39:=Yr
instance:Yi Tryz.prog 288 3 12 4:=Yr
instance:ZB Tryz.prog 288 (([(0,1),(1,1),(2,10),(12,1)]:List (Nat×Nat))[·]?):=Zw (by kernel_rfl)
instance:TyS Tryz.prog 290:=tqS
instance:Zk Tryz.prog 290 false:=tqI
instance:Zx Tryz.prog 290 1:=tqN
instance:Zh Tryz.prog 290 4:=tqB
instance:Zl Tryz.prog 290 (.int .u32 0):=tqO
instance:Xi Tryz.prog 290 .u32:=⟨by kernel_rfl⟩
instance:TyS Tryz.prog 292:=tqS
instance:Zk Tryz.prog 292 false:=tqI
instance:Zx Tryz.prog 292 1:=tqN
instance:Zh Tryz.prog 292 8:=tqB
instance:Zl Tryz.prog 292 (.map none):=tqO
instance:TyMap Tryz.prog 292 3 1:=⟨by kernel_rfl⟩
instance:TyS Tryz.prog 295:=tqS
instance:Zk Tryz.prog 295 false:=tqI
instance:Zx Tryz.prog 295 1:=tqN
instance:Zh Tryz.prog 295 24:=tqB
instance:Zl Tryz.prog 295 (.slice none 0 0):=tqO
instance:ZR Tryz.prog 295 33:=⟨by kernel_rfl⟩
instance:TyS Tryz.prog 307:=tqS
instance:Zk Tryz.prog 307 false:=tqI
instance:Yf Tryz.prog 307:=tqF
instance:Zx Tryz.prog 307 1:=tqN
instance:Zh Tryz.prog 307 8:=tqB
instance:Zl Tryz.prog 307 (.nilFunc):=tqO
instance:TyS Tryz.prog 313:=tqS
instance:Zk Tryz.prog 313 false:=tqI
instance:Zx Tryz.prog 313 1:=tqN
instance:Zh Tryz.prog 313 8:=tqB
instance:Zl Tryz.prog 313 (.pointer none):=tqO
instance:TyPtr Tryz.prog 313 315:=⟨by kernel_rfl⟩
instance:TyA Tryz.prog 314 10:=tqA
instance:Zk Tryz.prog 314 false:=tqI
instance:Zx Tryz.prog 314 10:=tqN
instance:Zh Tryz.prog 314 144:=tqB
instance:Zl Tryz.prog 314 (.agg ⟨[.int .i64 0,.int .u64 0,.int .i64 0,.int .u64 0,.int .u64 0,.slice none 0 0,.slice none 0 0,.int .i64 0,.slice none 0 0,.slice none 0 0]⟩):=tqO
instance:ZH Tryz.prog 314:=⟨by kernel_rfl⟩
instance:Yi Tryz.prog 314 0 0 39:=Yr
instance:ZB Tryz.prog 314 (([(0,10)]:List (Nat×Nat))[·]?):=Zw (by kernel_rfl)
instance:TyA Tryz.prog 315 10:=tqA
instance:Zk Tryz.prog 315 false:=tqI
instance:Zx Tryz.prog 315 10:=tqN
instance:Zh Tryz.prog 315 144:=tqB
instance:Zl Tryz.prog 315 (.agg ⟨[.int .i64 0,.int .u64 0,.int .i64 0,.int .u64 0,.int .u64 0,.slice none 0 0,.slice none 0 0,.int .i64 0,.slice none 0 0,.slice none 0 0]⟩):=tqO
instance:ZH Tryz.prog 315:=⟨by kernel_rfl⟩
instance:XB Tryz.prog 315 [(0,39)]:=YI (by kernel_rfl)
instance:Yi Tryz.prog 315 0 0 39:=Yr
instance:ZB Tryz.prog 315 (([(0,10)]:List (Nat×Nat))[·]?):=Zw (by kernel_rfl)
instance:TyS Tryz.prog 316:=tqS
instance:Zk Tryz.prog 316 false:=tqI
instance:Zx Tryz.prog 316 1:=tqN
instance:Zh Tryz.prog 316 8:=tqB
instance:Zl Tryz.prog 316 (.map none):=tqO
instance:TyMap Tryz.prog 316 3 25:=⟨by kernel_rfl⟩
instance:TyS Tryz.prog 339:=tqS
instance:Zk Tryz.prog 339 false:=tqI
instance:Zx Tryz.prog 339 1:=tqN
instance:Zh Tryz.prog 339 24:=tqB
instance:Zl Tryz.prog 339 (.slice none 0 0):=tqO
instance:ZR Tryz.prog 339 5:=⟨by kernel_rfl⟩
instance:TyA Tryz.prog 340 2:=tqA
instance:Zk Tryz.prog 340 false:=tqI
instance:Zx Tryz.prog 340 2:=tqN
instance:Zh Tryz.prog 340 32:=tqB
instance:Zl Tryz.prog 340 (.agg ⟨[.slice none 0 0,.int .i64 0]⟩):=tqO
instance:ZH Tryz.prog 340:=⟨by kernel_rfl⟩
instance:Yi Tryz.prog 340 0 0 339:=Yr
instance:Yi Tryz.prog 340 1 1 27:=Yr
instance:ZB Tryz.prog 340 (([(0,1),(1,1)]:List (Nat×Nat))[·]?):=Zw (by kernel_rfl)
instance:TyA Tryz.prog 341 2:=tqA
instance:Zk Tryz.prog 341 false:=tqI
instance:Zx Tryz.prog 341 2:=tqN
instance:Zh Tryz.prog 341 32:=tqB
instance:Zl Tryz.prog 341 (.agg ⟨[.slice none 0 0,.int .i64 0]⟩):=tqO
instance:ZH Tryz.prog 341:=⟨by kernel_rfl⟩
instance:XB Tryz.prog 341 [(0,339),(1,27)]:=YI (by kernel_rfl)
instance:Yi Tryz.prog 341 0 0 339:=Yr
instance:Yi Tryz.prog 341 1 1 27:=Yr
instance:ZB Tryz.prog 341 (([(0,1),(1,1)]:List (Nat×Nat))[·]?):=Zw (by kernel_rfl)
instance:TyS Tryz.prog 345:=tqS
instance:Zk Tryz.prog 345 false:=tqI
instance:Yf Tryz.prog 345:=tqF
instance:Zx Tryz.prog 345 1:=tqN
instance:Zh Tryz.prog 345 8:=tqB
instance:Zl Tryz.prog 345 (.nilFunc):=tqO
instance:TyS Tryz.prog 346:=tqS
instance:Zk Tryz.prog 346 false:=tqI
instance:Yf Tryz.prog 346:=tqF
instance:Zx Tryz.prog 346 1:=tqN
instance:Zh Tryz.prog 346 8:=tqB
instance:Zl Tryz.prog 346 (.nilFunc):=tqO
instance:TyS Tryz.prog 349:=tqS
instance:Zk Tryz.prog 349 false:=tqI
instance:Yf Tryz.prog 349:=tqF
instance:Zx Tryz.prog 349 1:=tqN
instance:Zh Tryz.prog 349 8:=tqB
instance:Zl Tryz.prog 349 (.nilFunc):=tqO
instance:TyS Tryz.prog 351:=tqS
instance:Zk Tryz.prog 351 false:=tqI
instance:Yf Tryz.prog 351:=tqF
instance:Zx Tryz.prog 351 1:=tqN
instance:Zh Tryz.prog 351 8:=tqB
instance:Zl Tryz.prog 351 (.nilFunc):=tqO
instance:TyS Tryz.prog 353:=tqS
instance:Zk Tryz.prog 353 false:=tqI
instance:Yf Tryz.prog 353:=tqF
instance:Zx Tryz.prog 353 1:=tqN
instance:Zh Tryz.prog 353 8:=tqB
instance:Zl Tryz.prog 353 (.nilFunc):=tqO
instance:TyS Tryz.prog 355:=tqS
instance:Zk Tryz.prog 355 false:=tqI
instance:Yf Tryz.prog 355:=tqF
instance:Zx Tryz.prog 355 1:=tqN
instance:Zh Tryz.prog 355 8:=tqB
instance:Zl Tryz.prog 355 (.nilFunc):=tqO
instance:TyS Tryz.prog 356:=tqS
instance:Zk Tryz.prog 356 false:=tqI
instance:Zx Tryz.prog 356 1:=tqN
instance:Zh Tryz.prog 356 8:=tqB
instance:Zl Tryz.prog 356 (.pointer none):=tqO
instance:TyPtr Tryz.prog 356 358:=⟨by kernel_rfl⟩
instance:TyA Tryz.prog 357 2:=tqA
instance:Zk Tryz.prog 357 false:=tqI
instance:Zx Tryz.prog 357 2:=tqN
instance:Zh Tryz.prog 357 32:=tqB
instance:Zl Tryz.prog 357 (.agg ⟨[.slice none 0 0,.bool false]⟩):=tqO
instance:ZH Tryz.prog 357:=⟨by kernel_rfl⟩
instance:Yi Tryz.prog 357 0 0 22:=Yr
instance:Yi Tryz.prog 357 1 1 4:=Yr
instance:ZB Tryz.prog 357 (([(0,1),(1,1)]:List (Nat×Nat))[·]?):=Zw (by kernel_rfl)
instance:TyA Tryz.prog 358 2:=tqA
instance:Zk Tryz.prog 358 false:=tqI
instance:Zx Tryz.prog 358 2:=tqN
instance:Zh Tryz.prog 358 32:=tqB
instance:Zl Tryz.prog 358 (.agg ⟨[.slice none 0 0,.bool false]⟩):=tqO
instance:ZH Tryz.prog 358:=⟨by kernel_rfl⟩
instance:XB Tryz.prog 358 [(0,22),(1,4)]:=YI (by kernel_rfl)
instance:Yi Tryz.prog 358 0 0 22:=Yr
instance:Yi Tryz.prog 358 1 1 4:=Yr
instance:ZB Tryz.prog 358 (([(0,1),(1,1)]:List (Nat×Nat))[·]?):=Zw (by kernel_rfl)
instance:TyS Tryz.prog 360:=tqS
instance:Zk Tryz.prog 360 false:=tqI
instance:Zx Tryz.prog 360 1:=tqN
instance:Zh Tryz.prog 360 8:=tqB
instance:Zl Tryz.prog 360 (.pointer none):=tqO
instance:TyPtr Tryz.prog 360 362:=⟨by kernel_rfl⟩
instance:TyA Tryz.prog 361 11:=tqA
instance:Zk Tryz.prog 361 false:=tqI
instance:Zx Tryz.prog 361 11:=tqN
instance:Zh Tryz.prog 361 168:=tqB
instance:Zl Tryz.prog 361 (.agg ⟨[.int .i64 0,.int .u64 0,.int .i64 0,.int .u64 0,.int .u64 0,.slice none 0 0,.slice none 0 0,.int .i64 0,.slice none 0 0,.slice none 0 0,.slice none 0 0]⟩):=tqO
instance:ZH Tryz.prog 361:=⟨by kernel_rfl⟩
instance:Yi Tryz.prog 361 0 0 39:=Yr
instance:Yi Tryz.prog 361 1 10 22:=Yr
instance:ZB Tryz.prog 361 (([(0,10),(10,1)]:List (Nat×Nat))[·]?):=Zw (by kernel_rfl)
instance:TyA Tryz.prog 362 11:=tqA
instance:Zk Tryz.prog 362 false:=tqI
instance:Zx Tryz.prog 362 11:=tqN
instance:Zh Tryz.prog 362 168:=tqB
instance:Zl Tryz.prog 362 (.agg ⟨[.int .i64 0,.int .u64 0,.int .i64 0,.int .u64 0,.int .u64 0,.slice none 0 0,.slice none 0 0,.int .i64 0,.slice none 0 0,.slice none 0 0,.slice none 0 0]⟩):=tqO
instance:ZH Tryz.prog 362:=⟨by kernel_rfl⟩
instance:XB Tryz.prog 362 [(0,39),(10,22)]:=YI (by kernel_rfl)
instance:Yi Tryz.prog 362 0 0 39:=Yr
instance:Yi Tryz.prog 362 1 10 22:=Yr
instance:ZB Tryz.prog 362 (([(0,10),(10,1)]:List (Nat×Nat))[·]?):=Zw (by kernel_rfl)
instance:TyS Tryz.prog 375:=tqS
instance:Zk Tryz.prog 375 false:=tqI
instance:Yf Tryz.prog 375:=tqF
instance:Zx Tryz.prog 375 1:=tqN
instance:Zh Tryz.prog 375 8:=tqB
instance:Zl Tryz.prog 375 (.nilFunc):=tqO
instance:TyS Tryz.prog 376:=tqS
instance:Zk Tryz.prog 376 false:=tqI
instance:Yf Tryz.prog 376:=tqF
instance:Zx Tryz.prog 376 1:=tqN
instance:Zh Tryz.prog 376 8:=tqB
instance:Zl Tryz.prog 376 (.nilFunc):=tqO
instance:TyS Tryz.prog 378:=tqS
instance:Zk Tryz.prog 378 false:=tqI
instance:Yf Tryz.prog 378:=tqF
instance:Zx Tryz.prog 378 1:=tqN
instance:Zh Tryz.prog 378 8:=tqB
instance:Zl Tryz.prog 378 (.nilFunc):=tqO
instance:TyS Tryz.prog 379:=tqS
instance:Zk Tryz.prog 379 false:=tqI
instance:Yf Tryz.prog 379:=tqF
instance:Zx Tryz.prog 379 1:=tqN
instance:Zh Tryz.prog 379 8:=tqB
instance:Zl Tryz.prog 379 (.nilFunc):=tqO
instance:TyS Tryz.prog 391:=tqS
instance:Zk Tryz.prog 391 false:=tqI
instance:Zx Tryz.prog 391 1:=tqN
instance:Zh Tryz.prog 391 8:=tqB
instance:Zl Tryz.prog 391 (.pointer none):=tqO
instance:TyPtr Tryz.prog 391 3:=⟨by kernel_rfl⟩
instance:TyS Tryz.prog 395:=tqS
instance:Zk Tryz.prog 395 false:=tqI
instance:Zx Tryz.prog 395 1:=tqN
instance:Zh Tryz.prog 395 8:=tqB
instance:Zl Tryz.prog 395 (.pointer none):=tqO
instance:TyPtr Tryz.prog 395 427:=⟨by kernel_rfl⟩
instance:TyS Tryz.prog 401:=tqS
instance:Zk Tryz.prog 401 false:=tqI
instance:Yf Tryz.prog 401:=tqF
instance:Zx Tryz.prog 401 1:=tqN
instance:Zh Tryz.prog 401 8:=tqB
instance:Zl Tryz.prog 401 (.nilFunc):=tqO
instance:TyS Tryz.prog 406:=tqS
instance:Zk Tryz.prog 406 false:=tqI
instance:Yf Tryz.prog 406:=tqF
instance:Zx Tryz.prog 406 1:=tqN
instance:Zh Tryz.prog 406 8:=tqB
instance:Zl Tryz.prog 406 (.nilFunc):=tqO
instance:TyS Tryz.prog 408:=tqS
instance:Zk Tryz.prog 408 false:=tqI
instance:Yf Tryz.prog 408:=tqF
instance:Zx Tryz.prog 408 1:=tqN
instance:Zh Tryz.prog 408 8:=tqB
instance:Zl Tryz.prog 408 (.nilFunc):=tqO
instance:TyS Tryz.prog 410:=tqS
instance:Zk Tryz.prog 410 false:=tqI
instance:Yf Tryz.prog 410:=tqF
instance:Zx Tryz.prog 410 1:=tqN
instance:Zh Tryz.prog 410 8:=tqB
instance:Zl Tryz.prog 410 (.nilFunc):=tqO
instance:TyS Tryz.prog 411:=tqS
instance:Zk Tryz.prog 411 false:=tqI
instance:Yf Tryz.prog 411:=tqF
instance:Zx Tryz.prog 411 1:=tqN
instance:Zh Tryz.prog 411 8:=tqB
instance:Zl Tryz.prog 411 (.nilFunc):=tqO
instance:TyS Tryz.prog 416:=tqS
instance:Zk Tryz.prog 416 false:=tqI
instance:Yf Tryz.prog 416:=tqF
instance:Zx Tryz.prog 416 1:=tqN
instance:Zh Tryz.prog 416 8:=tqB
instance:Zl Tryz.prog 416 (.nilFunc):=tqO
instance:TyA Tryz.prog 426 6:=tqA
instance:Zk Tryz.prog 426 false:=tqI
instance:Zx Tryz.prog 426 6:=tqN
instance:Zh Tryz.prog 426 80:=tqB
instance:Zl Tryz.prog 426 (.agg ⟨[.pointer none,.int .i64 0,.bool false,.int .i64 0,.slice none 0 0,.slice none 0 0]⟩):=tqO
instance:ZH Tryz.prog 426:=⟨by kernel_rfl⟩
instance:Yi Tryz.prog 426 0 0 285:=Yr
instance:Yi Tryz.prog 426 1 1 3:=Yr
instance:Yi Tryz.prog 426 2 2 4:=Yr
instance:Yi Tryz.prog 426 3 3 112:=Yr
instance:ZB Tryz.prog 426 (([(0,1),(1,1),(2,1),(3,3)]:List (Nat×Nat))[·]?):=Zw (by kernel_rfl)
instance:TyA Tryz.prog 427 6:=tqA
instance:Zk Tryz.prog 427 false:=tqI
instance:Zx Tryz.prog 427 6:=tqN
instance:Zh Tryz.prog 427 80:=tqB
instance:Zl Tryz.prog 427 (.agg ⟨[.pointer none,.int .i64 0,.bool false,.int .i64 0,.slice none 0 0,.slice none 0 0]⟩):=tqO
instance:ZH Tryz.prog 427:=⟨by kernel_rfl⟩
instance:XB Tryz.prog 427 [(0,285),(1,3),(2,4),(3,112)]:=YI (by kernel_rfl)
instance:Yi Tryz.prog 427 0 0 285:=Yr
instance:Yi Tryz.prog 427 1 1 3:=Yr
instance:Yi Tryz.prog 427 2 2 4:=Yr
instance:Yi Tryz.prog 427 3 3 112:=Yr
instance:ZB Tryz.prog 427 (([(0,1),(1,1),(2,1),(3,3)]:List (Nat×Nat))[·]?):=Zw (by kernel_rfl)
instance:TyS Tryz.prog 436:=tqS
instance:Zk Tryz.prog 436 false:=tqI
instance:Yf Tryz.prog 436:=tqF
instance:Zx Tryz.prog 436 1:=tqN
instance:Zh Tryz.prog 436 8:=tqB
instance:Zl Tryz.prog 436 (.nilFunc):=tqO
instance:TyS Tryz.prog 451:=tqS
instance:Zk Tryz.prog 451 false:=tqI
instance:Yf Tryz.prog 451:=tqF
instance:Zx Tryz.prog 451 1:=tqN
instance:Zh Tryz.prog 451 8:=tqB
instance:Zl Tryz.prog 451 (.nilFunc):=tqO
instance:TyS Tryz.prog 452:=tqS
instance:Zk Tryz.prog 452 false:=tqI
instance:Zx Tryz.prog 452 1:=tqN
instance:Zh Tryz.prog 452 8:=tqB
instance:Zl Tryz.prog 452 (.pointer none):=tqO
instance:TyPtr Tryz.prog 452 5:=⟨by kernel_rfl⟩
instance:TyA Tryz.prog 455 11:=tqA
instance:Zk Tryz.prog 455 false:=tqI
instance:Zx Tryz.prog 455 11:=tqN
instance:Zh Tryz.prog 455 48:=tqB
instance:Zl Tryz.prog 455 (.agg ⟨[.int .u64 0,.int .u64 0,.int .u32 0,.int .u8 0,.int .u8 0,.int .u8 0,.int .u8 0,.nilFunc,.pointer none,.int .i32 0,.int .i32 0]⟩):=tqO
instance:ZH Tryz.prog 455:=⟨by kernel_rfl⟩
instance:Yi Tryz.prog 455 0 0 12:=Yr
instance:Yi Tryz.prog 455 1 1 12:=Yr
instance:Yi Tryz.prog 455 2 2 290:=Yr
instance:Yi Tryz.prog 455 3 3 449:=Yr
instance:Yi Tryz.prog 455 4 4 5:=Yr
instance:Yi Tryz.prog 455 5 5 5:=Yr
instance:Yi Tryz.prog 455 6 6 450:=Yr
instance:Yi Tryz.prog 455 7 7 451:=Yr
instance:Yi Tryz.prog 455 8 8 452:=Yr
instance:Yi Tryz.prog 455 9 9 453:=Yr
instance:Yi Tryz.prog 455 10 10 454:=Yr
instance:ZB Tryz.prog 455 (([(0,1),(1,1),(2,1),(3,1),(4,1),(5,1),(6,1),(7,1),(8,1),(9,1),(10,1)]:List (Nat×Nat))[·]?):=Zw (by kernel_rfl)
instance:ZO Tryz.prog 3:=ZW
instance:ZO Tryz.prog 11:=ZW
instance:ZO Tryz.prog 12:=ZW
instance:ZO Tryz.prog 13:=ZW
instance:ZO Tryz.prog 14:=ZW
instance:ZO Tryz.prog 15:=ZW
instance:ZO Tryz.prog 16:=ZW
instance:ZO Tryz.prog 17:=ZW
instance:ZO Tryz.prog 18:=ZW
instance:ZO Tryz.prog 19:=ZW
instance:ZO Tryz.prog 20:=ZW
instance:ZO Tryz.prog 21:=ZW
instance:ZO Tryz.prog 22:=ZW
instance:ZO Tryz.prog 23:=ZW
instance:ZO Tryz.prog 24:=ZW
instance:ZO Tryz.prog 26:=ZW
instance:ZO Tryz.prog 27:=ZW
instance:ZO Tryz.prog 28:=ZW
instance:ZO Tryz.prog 29:=ZW
instance:ZO Tryz.prog 30:=ZW
instance:ZO Tryz.prog 31:=ZW
instance:ZO Tryz.prog 33:=ZW
instance:ZO Tryz.prog 34:=ZW
instance:ZO Tryz.prog 44:=ZW
instance:ZO Tryz.prog 48:=ZW
instance:ZO Tryz.prog 73:=ZW
instance:ZO Tryz.prog 74:=ZW
instance:ZO Tryz.prog 75:=ZW
instance:ZO Tryz.prog 76:=ZW
instance:ZO Tryz.prog 77:=ZW
instance:ZO Tryz.prog 78:=ZW
instance:ZO Tryz.prog 79:=ZW
instance:ZO Tryz.prog 80:=ZW
instance:ZO Tryz.prog 81:=ZW
instance:ZO Tryz.prog 82:=ZW
instance:ZO Tryz.prog 83:=ZW
instance:ZO Tryz.prog 84:=ZW
instance:ZO Tryz.prog 85:=ZW
instance:ZO Tryz.prog 86:=ZW
instance:ZO Tryz.prog 87:=ZW
instance:ZO Tryz.prog 88:=ZW
instance:ZO Tryz.prog 89:=ZW
instance:ZO Tryz.prog 90:=ZW
instance:ZO Tryz.prog 91:=ZW
instance:ZO Tryz.prog 92:=ZW
instance:ZO Tryz.prog 93:=ZW
instance:ZO Tryz.prog 94:=ZW
instance:ZO Tryz.prog 95:=ZW
instance:ZO Tryz.prog 96:=ZW
instance:ZO Tryz.prog 97:=ZW
instance:ZO Tryz.prog 98:=ZW
instance:ZO Tryz.prog 99:=ZW
instance:ZO Tryz.prog 100:=ZW
instance:ZO Tryz.prog 101:=ZW
instance:ZO Tryz.prog 102:=ZW
instance:ZO Tryz.prog 103:=ZW
instance:ZO Tryz.prog 104:=ZW
instance:ZO Tryz.prog 105:=ZW
instance:ZO Tryz.prog 106:=ZW
instance:ZO Tryz.prog 107:=ZW
instance:ZO Tryz.prog 108:=ZW
instance:ZO Tryz.prog 109:=ZW
instance:ZO Tryz.prog 118:=ZW
instance:ZO Tryz.prog 125:=ZW
instance:ZO Tryz.prog 126:=ZW
instance:ZO Tryz.prog 129:=ZW
instance:ZO Tryz.prog 130:=ZW
instance:ZO Tryz.prog 139:=ZW
instance:ZO Tryz.prog 162:=ZW
instance:ZO Tryz.prog 163:=ZW
instance:ZO Tryz.prog 164:=ZW
instance:ZO Tryz.prog 165:=ZW
instance:ZO Tryz.prog 166:=ZW
instance:ZO Tryz.prog 167:=ZW
instance:ZO Tryz.prog 168:=ZW
instance:ZO Tryz.prog 169:=ZW
instance:ZO Tryz.prog 170:=ZW
instance:ZO Tryz.prog 171:=ZW
instance:ZO Tryz.prog 173:=ZW
instance:ZO Tryz.prog 174:=ZW
instance:ZO Tryz.prog 175:=ZW
instance:ZO Tryz.prog 176:=ZW
instance:ZO Tryz.prog 177:=ZW
instance:ZO Tryz.prog 178:=ZW
instance:ZO Tryz.prog 179:=ZW
instance:ZO Tryz.prog 180:=ZW
instance:ZO Tryz.prog 181:=ZW
instance:ZO Tryz.prog 182:=ZW
instance:ZO Tryz.prog 183:=ZW
instance:ZO Tryz.prog 184:=ZW
instance:ZO Tryz.prog 185:=ZW
instance:ZO Tryz.prog 186:=ZW
instance:ZO Tryz.prog 187:=ZW
instance:ZO Tryz.prog 188:=ZW
instance:ZO Tryz.prog 189:=ZW
instance:ZO Tryz.prog 190:=ZW
instance:ZO Tryz.prog 191:=ZW
instance:ZO Tryz.prog 193:=ZW
instance:ZO Tryz.prog 194:=ZW
instance:ZO Tryz.prog 195:=ZW
instance:ZO Tryz.prog 204:=ZW
instance:ZO Tryz.prog 205:=ZW
instance:ZO Tryz.prog 209:=ZW
instance:ZO Tryz.prog 210:=ZW
instance:ZO Tryz.prog 211:=ZW
instance:ZO Tryz.prog 212:=ZW
instance:ZO Tryz.prog 213:=ZW
instance:ZO Tryz.prog 214:=ZW
instance:ZO Tryz.prog 215:=ZW
instance:ZO Tryz.prog 218:=ZW
instance:ZO Tryz.prog 230:=ZW
instance:ZO Tryz.prog 231:=ZW
instance:ZO Tryz.prog 232:=ZW
instance:ZO Tryz.prog 233:=ZW
instance:ZO Tryz.prog 234:=ZW
instance:ZO Tryz.prog 235:=ZW
instance:ZO Tryz.prog 236:=ZW
instance:ZO Tryz.prog 237:=ZW
instance:ZO Tryz.prog 238:=ZW
instance:ZO Tryz.prog 239:=ZW
instance:ZO Tryz.prog 240:=ZW
instance:ZO Tryz.prog 241:=ZW
instance:ZO Tryz.prog 242:=ZW
instance:ZO Tryz.prog 243:=ZW
instance:ZO Tryz.prog 244:=ZW
instance:ZO Tryz.prog 245:=ZW
instance:ZO Tryz.prog 246:=ZW
instance:ZO Tryz.prog 247:=ZW
instance:ZO Tryz.prog 248:=ZW
instance:ZO Tryz.prog 249:=ZW
instance:ZO Tryz.prog 250:=ZW
instance:ZO Tryz.prog 251:=ZW
instance:ZO Tryz.prog 252:=ZW
instance:ZO Tryz.prog 253:=ZW
instance:ZO Tryz.prog 254:=ZW
instance:ZO Tryz.prog 255:=ZW
instance:ZO Tryz.prog 256:=ZW
instance:ZO Tryz.prog 257:=ZW
instance:ZO Tryz.prog 258:=ZW
instance:ZO Tryz.prog 259:=ZW
instance:ZO Tryz.prog 260:=ZW
instance:ZO Tryz.prog 261:=ZW
instance:ZO Tryz.prog 262:=ZW
instance:ZO Tryz.prog 263:=ZW
instance:ZO Tryz.prog 264:=ZW
instance:ZO Tryz.prog 265:=ZW
instance:ZO Tryz.prog 266:=ZW
instance:ZO Tryz.prog 267:=ZW
instance:ZO Tryz.prog 268:=ZW
instance:ZO Tryz.prog 269:=ZW
instance:ZO Tryz.prog 270:=ZW
instance:ZO Tryz.prog 271:=ZW
instance:ZO Tryz.prog 272:=ZW
instance:ZO Tryz.prog 273:=ZW
instance:ZO Tryz.prog 274:=ZW
instance:ZO Tryz.prog 275:=ZW
instance:ZO Tryz.prog 280:=ZW
instance:ZO Tryz.prog 281:=ZW
instance:ZO Tryz.prog 282:=ZW
instance:ZO Tryz.prog 283:=ZW
instance:ZO Tryz.prog 284:=ZW
instance:ZO Tryz.prog 285:=ZW
instance:ZO Tryz.prog 286:=ZW
instance:ZO Tryz.prog 287:=ZW
instance:ZO Tryz.prog 288:=ZW
instance:ZO Tryz.prog 289:=ZW
instance:ZO Tryz.prog 290:=ZW
instance:ZO Tryz.prog 291:=ZW
instance:ZO Tryz.prog 292:=ZW
instance:ZO Tryz.prog 300:=ZW
instance:ZO Tryz.prog 301:=ZW
instance:ZO Tryz.prog 302:=ZW
instance:ZO Tryz.prog 303:=ZW
instance:ZO Tryz.prog 304:=ZW
instance:ZO Tryz.prog 305:=ZW
instance:ZO Tryz.prog 306:=ZW
instance:ZO Tryz.prog 307:=ZW
instance:ZO Tryz.prog 308:=ZW
instance:ZO Tryz.prog 309:=ZW
instance:ZO Tryz.prog 310:=ZW
instance:ZO Tryz.prog 311:=ZW
instance:ZO Tryz.prog 312:=ZW
instance:ZO Tryz.prog 313:=ZW
instance:ZO Tryz.prog 314:=ZW
instance:ZO Tryz.prog 315:=ZW
instance:ZO Tryz.prog 316:=ZW
instance:ZO Tryz.prog 317:=ZW
instance:ZO Tryz.prog 318:=ZW
instance:ZO Tryz.prog 319:=ZW
instance:ZO Tryz.prog 320:=ZW
instance:ZO Tryz.prog 321:=ZW
instance:ZO Tryz.prog 322:=ZW
instance:ZO Tryz.prog 323:=ZW
instance:ZO Tryz.prog 324:=ZW
instance:ZO Tryz.prog 325:=ZW
instance:ZO Tryz.prog 327:=ZW
instance:ZO Tryz.prog 328:=ZW
instance:ZO Tryz.prog 329:=ZW
instance:ZO Tryz.prog 330:=ZW
instance:ZO Tryz.prog 338:=ZW
instance:ZO Tryz.prog 339:=ZW
instance:ZO Tryz.prog 340:=ZW
instance:ZO Tryz.prog 341:=ZW
instance:ZO Tryz.prog 342:=ZW
instance:ZO Tryz.prog 343:=ZW
instance:ZO Tryz.prog 344:=ZW
instance:ZO Tryz.prog 345:=ZW
instance:ZO Tryz.prog 351:=ZW
instance:ZO Tryz.prog 352:=ZW
instance:ZO Tryz.prog 353:=ZW
instance:ZO Tryz.prog 354:=ZW
instance:ZO Tryz.prog 355:=ZW
instance:ZO Tryz.prog 359:=ZW
instance:Mixed Tryz.prog:=⟨by kernel_rfl⟩
end Go.Proofs.E
namespace Go.Proofs.E
open Go
set_option linter.unusedVariables false
set_option linter.unusedSimpArgs false
set_option linter.unusedSectionVars false
set_option maxRecDepth 4000
set_option maxHeartbeats 1000000
attribute [local irreducible] Yl TL TC TE Spec ZI R1 Hp.le EnvLe TS TR YS Zp
def be:Nat→Nat→List UInt8
 | 0,_=>[]
 | n+1,x=>UInt8.ofNat (x / 256 ^ n)::be n x
def ZY (l:List UInt8):Nat:=l.foldl (fun a b=>a*256+b.toNat) 0
theorem Zf (n x:Nat):(be n x).length=n:=by induction n<;>simp[be, *]
theorem foldl_be (l:List UInt8)(a:Nat):l.foldl (fun a b=>a*256+b.toNat) a=a*256 ^ l.length+ZY l:=by
 unfold ZY
 induction l generalizing a with
 | nil=>simp
 | cons b l ih=>
  simp only[List.foldl_cons,List.length_cons]
  rw[ih (a*256+b.toNat),ih (0*256+b.toNat)]
  rw[Nat.pow_succ]
  simp only[Nat.zero_mul,Nat.zero_add,Nat.add_mul,Nat.mul_assoc,Nat.mul_comm 256,Nat.add_assoc]
theorem unbe_cons (b:UInt8)(l:List UInt8):ZY (b::l)=b.toNat*256 ^ l.length+ZY l:=by
 have:=foldl_be l (0*256+b.toNat)
 simp only[Nat.zero_mul,Nat.zero_add] at this
 rw[←this];simp[ZY]
theorem unbe_snoc (b:UInt8)(l:List UInt8):ZY (l++[b])=ZY l*256+b.toNat:=by simp[ZY]
theorem Xw (l:List UInt8):ZY l<256 ^ l.length:=by
 induction l with
 | nil=>simp[ZY]
 | cons b l ih=>
  rw[unbe_cons,List.length_cons,Nat.pow_succ]
  have hb:b.toNat<256:=b.toNat_lt
  have:(b.toNat+1)*256 ^ l.length≤256*256 ^ l.length:=Nat.mul_le_mul_right _ (by omega)
  rw[Nat.add_mul] at this
  omega
theorem WW (n x:Nat):ZY (be n x)=x % 256 ^ n:=by
 induction n with
 | zero=>simp[be,ZY,Nat.mod_one]
 | succ n ih=>
  rw[be,unbe_cons,Zf,ih,UInt8.toNat_ofNat']
  have h1:=Nat.mod_mul (x:=x) (a:=256 ^ n) (b:=256)
  have e:256 ^ (n+1)=256 ^ n*256:=by rw[Nat.pow_succ]
  have e2:(2:Nat) ^ 8=256:=by decide
  rw[e,h1,e2,Nat.mul_comm]
  omega
theorem be_mod (n x:Nat):be n (x % 256 ^ n)=be n x:=by
 have key:∀m,m≤n→be m (x % 256 ^ n)=be m x:=by
  intro m
  induction m with
  | zero=>intro _;rfl
  | succ m ih=>
   intro hm
   rw[be,be,ih (by omega)]
   congr 1
   apply UInt8.toNat_inj.1
   simp only[UInt8.toNat_ofNat']
   obtain⟨k,rfl⟩:∃k,n=m+1+k:=⟨n-(m+1),by omega⟩
   have e:256 ^ (m+1+k)=256 ^ m*(256*256 ^ k):=by rw[Nat.pow_add,Nat.pow_succ,Nat.mul_assoc]
   rw[e,Nat.mod_mul_right_div_self,Nat.mod_mul_right_mod]
 exact key n (Nat.le_refl _)
theorem be_unbe (l:List UInt8):be l.length (ZY l)=l:=by
 induction l with
 | nil=>rfl
 | cons b l ih=>
  rw[List.length_cons,be,unbe_cons]
  have hlt:=Xw l
  have hp:0<256 ^ l.length:=Nat.pow_pos (by decide)
  have h1:(b.toNat*256 ^ l.length+ZY l) / 256 ^ l.length=b.toNat:=by
   rw[Nat.mul_comm,Nat.mul_add_div hp,Nat.div_eq_of_lt hlt];simp
  have h2:be l.length (b.toNat*256 ^ l.length+ZY l)=l:=by
   rw[←be_mod,Nat.mul_comm,Nat.mul_add_mod,Nat.mod_eq_of_lt hlt,ih]
  rw[h1,h2];simp
def z8 (n:Nat):List UInt8:=List.replicate n 0
theorem stc_mid (A B vs ws:List Value)(h:ws.length=vs.length):stc (A++(vs++B)) A.length ws=A++(ws++B):=by
 unfold stc
 rw[List.take_left,h,←List.drop_drop,List.drop_left,List.drop_left,List.append_assoc]
theorem u8_wrap (y:Nat):Value.int .u8 (IntKind.u8.wrap (y:Int))=Zo (UInt8.ofNat y):=by
 simp only[Zo,UInt8.toNat_ofNat',IntKind.wrap,IntKind.bits,IntKind.signed,Bool.false_and,Bool.false_eq_true,if_false]
 congr 1
theorem made_z8 (m:Nat):madeCells (Value.int .u8 0).cells m=⟨(z8 m).map Zo⟩:=by
 have hz:(Value.int IntKind.u8 0).cells=⟨[Zo 0]⟩:=rfl
 rw[hz]
 apply Array.ext'
 apply List.ext_getElem?
 intro i
 by_cases hi:i<m
 ·simp[madeCells,z8,hi,Nat.mod_one]
 ·rw[List.getElem?_eq_none (by simp[madeCells];omega),List.getElem?_eq_none (by simp[z8];omega)]
theorem own_chunk (b n c:Nat){xs:List Value}{T:TypeId}:[(b,Obj.cells ⟨xs⟩ T (0,0))]=Zz (.slice (some ⟨b,0,none⟩) n c) xs [] T:=by simp[Zz]
theorem stand_spec (ρ:Hp)(a:Option Addr)(n c:Nat)(l:List UInt8)(h:SIn ρ Zo a n l)(x p:Nat)(hx:x<18446744073709551616)(hp:p≤8)(hp1:1≤p)(hn:n≤1000000) :
  Spec Tryz.prog 325 [.slice a n c,.int .u64 x,.int .i64 p] ρ [] (fun v ρ' L'=>ρ'=ρ∧∃sp,OwnS v (n+p) ((l++be p x).map Zo) sp 1∧L'=[Zz v ((l++be p x).map Zo) sp 5]):=by
 have hl:=h.len
 refine Zb Tryz.func325 rfl rfl rfl fun u R=>?_
 simp only[Zd,kA]
 repeat' (first|(refine tl_makeSlice rfl rfl (by omega) (by omega) (by omega) (by omega) rfl (fun hbn=>?_))|refine zW ?_|intro _)
 simp only[show ((n:Int)+(p:Int)).toNat=n+p by omega,Nat.mul_one,made_z8]
 have hinit:stc ((z8 (n+p)).map Zo) 0 ((l.map Zo).take (n+p))=(l++(z8 (p-0)++be 0 x)).map Zo:=by
  rw[List.take_of_length_le (by simp;omega)]
  unfold stc
  have e:z8 (n+p)=z8 n++z8 p:=by simp[z8,List.replicate_append_replicate]
  rw[e]
  simp[be,hl,z8]
 refine tl_copy (ys:=l.map Zo) rfl rfl (SIn.srcV h) (by simpa using hl) (Yn l) (by simp[z8]) rfl ?_
 simp only[hinit]
 repeat' (first|refine zW ?_|intro _)
 refine Zi [(6,_),(7,_),(17,_)] (fun (ζ:(Nat)×(Nat))=>[(18,.int .i64 ζ.1),(1,.int .u64 (ζ.2:Nat))]) (fun (ζ:(Nat)×(Nat))=>ρ) (fun (ζ:(Nat)×(Nat))=>[[(hbn,.cells ⟨(l++(z8 (p-ζ.1)++be ζ.1 x)).map Zo⟩ 5 (0,0))]]) (fun (ζ:(Nat)×(Nat))=>ζ.1≤p∧ζ.2=x / 256 ^ ζ.1) (fun (ζ:(Nat)×(Nat))=>p-ζ.1) ((0,x)) (⟨Nat.zero_le _,by simp⟩) Zc Zc rfl tk ?_
 rintro⟨k,y⟩ hI
 try simp only[kA,List.append_assoc] at hI ⊢
 try dsimp only at hI ⊢
 obtain⟨hk,hy⟩:=hI
 by_cases hlt:k<p
 ·have hlen:((l++(z8 (p-k)++be k x)).map Zo).length=n+p:=by simp[z8,Zf,hl];omega
  have hst:stc ((l++(z8 (p-k)++be k x)).map Zo) (0+((n:Int)+(p:Int)-1-k).toNat*1) [Zo (UInt8.ofNat y)]=(l++(z8 (p-(k+1))++be (k+1) x)).map Zo:=by
   have e1:z8 (p-k)=z8 (p-(k+1))++[0]:=by
    rw[show p-k=(p-(k+1))+1 by omega];simp[z8,List.replicate_succ']
   have e2:0+((n:Int)+(p:Int)-1-k).toNat*1=((l++z8 (p-(k+1))).map Zo).length:=by simp[z8,hl];omega
   have e3:(l++(z8 (p-k)++be k x)).map Zo=(l++z8 (p-(k+1))).map Zo++([Zo 0]++(be k x).map Zo):=by rw[e1];simp
   rw[e2,e3,stc_mid _ _ [Zo 0] [Zo (UInt8.ofNat y)] rfl,be,←hy]
   simp
  have hyy:y / 256=x / 256 ^ (k+1):=by rw[hy,Nat.div_div_eq_div_mul,Nat.pow_succ]
  repeat' (first|refine zW ?_|intro _)
  have e8:(y:Int) / 2 ^ 8=((x / 256 ^ (k+1):Nat):Int):=by
   rw[←hyy]
   have:(2:Int) ^ 8=256:=by decide
   omega
  rw[e8,u8_wrap,Int.natCast_add,hst]
  refine Ze (k+1,x / 256 ^ (k+1)) (⟨hlt,rfl⟩) Zc Zc rfl tk inferInstance (by first|omega|(dsimp only;omega))
 ·have hk2:k=p:=by omega
  subst hk2
  simp only[Nat.sub_self,z8,List.replicate_zero,List.nil_append]
  repeat' (first|refine zW ?_|intro _)
  rw[own_chunk hbn (n+k) (n+k)]
  exact qE ⟨rfl,[],⟨.inr ⟨hbn,n+k,rfl,by simp[Zf,hl],by simp[Zf,hl],Nat.le_refl _⟩⟩,rfl⟩
theorem put16_spec (ρ:Hp)(a:Option Addr)(n c:Nat)(l:List UInt8)(h:SIn ρ Zo a n l)(x:Nat)(hx:x<65536)(hn:n≤1000000) :
  Spec Tryz.prog 314 [.slice a n c,.int .u16 x] ρ [] (fun v ρ' L'=>ρ'=ρ∧∃sp,OwnS v (n+2) ((l++be 2 x).map Zo) sp 1∧L'=[Zz v ((l++be 2 x).map Zo) sp 5]):=by
 have hw:IntKind.u64.wrap (x:Int)=x:=Wz (by simp only[lo,hi];omega)
 have hs:=stand_spec ρ a n c l h x 2 (by omega) (by omega) (by omega) hn
 refine Zb Tryz.func314 rfl rfl rfl fun u R=>?_
 simp only[Zd,kA]
 repeat' (first|(refine iCv ?_;refine tl_y (y_conv rfl) rfl rfl ?_;rw[hw])|(refine Za (.func 325) ?_;refine qC rfl rfl (hs) ?_;rintro v ρ' L' hle ⟨rfl,sp,hown,rfl⟩<;>(try simp only[kA]))|refine zW ?_|intro _)
 exact qE ⟨rfl,sp,hown,rfl⟩
theorem put64_spec (ρ:Hp)(a:Option Addr)(n c:Nat)(l:List UInt8)(h:SIn ρ Zo a n l)(x:Nat)(hx:x<18446744073709551616)(hn:n≤1000000) :
  Spec Tryz.prog 274 [.slice a n c,.int .u64 x] ρ [] (fun v ρ' L'=>ρ'=ρ∧∃sp,OwnS v (n+8) ((l++be 8 x).map Zo) sp 1∧L'=[Zz v ((l++be 8 x).map Zo) sp 5]):=by
 have hs:=stand_spec ρ a n c l h x 8 (by omega) (by omega) (by omega) hn
 refine Zb Tryz.func274 rfl rfl rfl fun u R=>?_
 simp only[Zd,kA]
 repeat' (first|(refine Za (.func 325) ?_;refine qC rfl rfl (hs) ?_;rintro v ρ' L' hle ⟨rfl,sp,hown,rfl⟩<;>(try simp only[kA]))|refine zW ?_|intro _)
 exact qE ⟨rfl,sp,hown,rfl⟩
theorem OwnS.zero (b sz:Nat):OwnS (.slice (some ⟨b,0,none⟩) 0 0) 0 [] [] sz:=⟨.inr ⟨b,0,rfl,by simp,by simp,Nat.le_refl _⟩⟩
abbrev rdC (br:Nat)(a:Option Addr)(n c:Nat)(st:Int):List (Nat×Obj):=[(br,.cells ⟨[.slice a n c,.int .i64 st]⟩ 341 (0,0))]
theorem bclone_spec (ρ:Hp)(a:Option Addr)(n c:Nat)(l:List UInt8)(h:SIn ρ Zo a n l)(hn:n≤1000000) :
  Spec Tryz.prog 242 [.slice a n c] ρ [] (fun v ρ' L'=>ρ.le ρ'∧∃a' c',v=.slice a' n c'∧n≤c'∧SIn ρ' Zo a' n l∧L'=[]):=by
 refine Zb Tryz.func242 rfl rfl rfl fun u R=>?_
 simp only[Zd,kA]
 cases a with
 | none=>
  have hn0:n=0:=by
   rcases h.out with h0|⟨b,off,C,T,fr,h1,_⟩
   ·exact h0
   ·cases h1
  subst hn0
  repeat' (first|refine zW ?_|intro _)
  exact qE ⟨Hp.le_refl _,none,0,rfl,Nat.le_refl _,⟨h.len,.inl rfl⟩,rfl⟩
 | some a=>
  repeat' (first|refine zW ?_|intro _)
  refine ZK (n:=0) (xs:=[]) (sp:=[]) (ys:=l.map Zo) (sz:=1) rfl rfl (OwnS.zero _ 1) (hR:=Zq) (SIn.srcV h) (by simpa using h.len) (Yn l) (by decide) rfl (by omega) (by omega) rfl (fun v' sp' hown'=>?_)
  simp only[Nat.zero_add,List.nil_append] at hown' ⊢
  repeat' (first|refine zW ?_|intro _)
  refine ZM _ (h:=Rem.here) (fun ρ' hle hfz=>?_)
  obtain⟨a',c',rfl,hc,hs⟩:=hown'.sIn hfz
  exact qE ⟨hle,a',c',rfl,hc,hs,rfl⟩
theorem read_spec (ρ:Hp)(a:Option Addr)(n c:Nat)(l:List UInt8)(h:SIn ρ Zo a n l)(hn:n≤1000000) :
  Spec Tryz.prog 177 [.slice a n c] ρ [] (fun v ρ' L'=>ρ.le ρ'∧∃br a' c',v=.pointer (some ⟨br,0,none⟩)∧n≤c'∧SIn ρ' Zo a' n l∧L'=[rdC br a' n c' 0]):=by
 have hc:=bclone_spec ρ a n c l h hn
 refine Zb Tryz.func177 rfl rfl rfl fun u R=>?_
 simp only[Zd,kA]
 repeat' (first|(refine Za (.func 242) ?_;refine qC rfl rfl (hc) ?_;rintro v ρ' L' hle ⟨hle,a',c',rfl,hc',hs,rfl⟩<;>(try simp only[kA]))|refine zW ?_|intro _)
 exact qE ⟨hle,_,a',c',rfl,hc',hs,rfl⟩
theorem XE (ρ:Hp)(br:Nat)(a:Option Addr)(n c:Nat)(st:Int) :
  Spec Tryz.prog 257 [.pointer (some ⟨br,0,none⟩)] ρ [rdC br a n c st] (fun v ρ' L'=>v=.int .i64 st∧ρ'=ρ∧L'=[rdC br a n c st]):=by
 refine Zb Tryz.func257 rfl rfl rfl fun u R=>?_
 simp only[Zd,kA]
 repeat' (first|refine zW ?_|intro _)
 exact qE ⟨rfl,rfl,rfl⟩
theorem Vi (ρ:Hp)(br:Nat)(a:Option Addr)(n c:Nat)(st:Int) :
  Spec Tryz.prog 187 [.pointer (some ⟨br,0,none⟩)] ρ [rdC br a n c st] (fun v ρ' L'=>v=.int .i64 n∧ρ'=ρ∧L'=[rdC br a n c st]):=by
 refine Zb Tryz.func187 rfl rfl rfl fun u R=>?_
 simp only[Zd,kA]
 repeat' (first|refine zW ?_|intro _)
 exact qE ⟨rfl,rfl,rfl⟩
theorem gives_stuck (ρ:Hp)(br:Nat)(a:Option Addr)(n c:Nat)(st:Int)(hst:st≠0)(k:Int)(f:Value) :
  Spec Tryz.prog 302 [.pointer (some ⟨br,0,none⟩),.int .i64 k,f] ρ [rdC br a n c st] (fun v ρ' L'=>v=.tuple ⟨[]⟩∧ρ'=ρ∧L'=[rdC br a n c st]):=by
 refine Zb Tryz.func302 rfl rfl rfl fun u R=>?_
 simp only[Zd,kA]
 repeat' (first|(refine Za (.func 257) ?_;refine qR rfl rfl (XE _ br a n c st) ?_;try simp only[kA])|refine zW ?_|intro _)
 exact qE ⟨rfl,rfl,rfl⟩
theorem gives_short (ρ:Hp)(br:Nat)(a:Option Addr)(n c:Nat)(k:Int)(hk:(n:Int)<k)(f:Value) :
  Spec Tryz.prog 302 [.pointer (some ⟨br,0,none⟩),.int .i64 k,f] ρ [rdC br a n c 0] (fun v ρ' L'=>v=.tuple ⟨[]⟩∧ρ'=ρ∧L'=[rdC br a n c 7]):=by
 refine Zb Tryz.func302 rfl rfl rfl fun u R=>?_
 simp only[Zd,kA]
 repeat' (first|(refine Za (.func 257) ?_;refine qR rfl rfl (XE _ br a n c 0) ?_;try simp only[kA])|refine zW ?_|intro _)
 exact qE ⟨rfl,rfl,rfl⟩
theorem gives_ok (ρ:Hp)(br:Nat)(a:Option Addr)(n c:Nat)(l:List UInt8)(h:SIn ρ Zo a n l)(hc:n≤c)(k:Nat)(hk:k≤n)(g:Nat)(cs:List Value)(X X':SH)[ZO Tryz.prog g]
  (hS:SIn ρ Zo a k (l.take k)→Spec Tryz.prog g ([.slice a k c]++cs) ρ X (fun v ρ' L'=>v=.tuple ⟨[]⟩∧ρ'=ρ∧L'=X')) :
  Spec Tryz.prog 302 [.pointer (some ⟨br,0,none⟩),.int .i64 k,.func (.func g) ⟨[]⟩ ⟨cs⟩] ρ (rdC br a n c 0::X)
   (fun v ρ' L'=>v=.tuple ⟨[]⟩∧ρ'=ρ∧∃a' c',SIn ρ Zo a' (n-k) (l.drop k)∧n-k≤c'∧L'=rdC br a' (n-k) c' 0::X'):=by
 replace hS:=hS (h.take hk)
 have hl:=h.len
 have hsub:=h.sub (lo':=k) (hi':=n) (cap:=c) hk (Nat.le_refl _) hc
 rw[List.take_of_length_le (by simp;omega)] at hsub
 refine Zb Tryz.func302 rfl rfl rfl fun u R=>?_
 simp only[Zd,kA] at hS ⊢
 repeat' (first|(refine Za (.func 257) ?_;refine qR rfl rfl (XE _ br a n c 0) ?_;try simp only[kA])|(refine Za (.tmp 9) ?_;refine qR rfl rfl (hS) ?_;try simp only[kA])|refine zW ?_|intro _)
 exact qE ⟨rfl,rfl,_,c-k,hsub,by omega,rfl⟩
end Go.Proofs.E
namespace Go.Proofs.E
open Go
set_option linter.unusedVariables false
set_option linter.unusedSimpArgs false
set_option linter.unusedSectionVars false
set_option maxRecDepth 4000
set_option maxHeartbeats 1000000
attribute [local irreducible] Yl TL TC TE Spec ZI R1 Hp.le EnvLe TS TR YS Zp TP QP
theorem Vy (l:List UInt8)(k:Nat)(h:k<l.length):ZY (l.take (k+1))=ZY (l.take k)*256+l[k].toNat:=by
 rw[List.take_succ_eq_append_getElem h,unbe_snoc]
theorem unbe_take_lt (l:List UInt8)(k:Nat)(h:k<l.length)(h8:l.length≤8):ZY (l.take k)<72057594037927936:=by
 have h1:=Xw (l.take k)
 have h2:(l.take k).length≤7:=by simp;omega
 have h3:256 ^ (l.take k).length≤256 ^ 7:=Nat.pow_le_pow_right (by decide) h2
 have h4:256 ^ 7=72057594037927936:=by decide
 omega
theorem number1_spec (ρ:Hp)(bx:Nat)(a:Option Addr)(n c:Nat)(l:List UInt8)(h:SIn ρ Zo a n l)(hn:n≤8) :
  Spec Tryz.prog 303 [.slice a n c,.pointer (some ⟨bx,0,none⟩)] ρ [[(bx,.cells ⟨[.int .u64 0]⟩ 33 (0,0))]]
   (fun v ρ' L'=>v=.tuple ⟨[]⟩∧ρ'=ρ∧L'=[[(bx,.cells ⟨[.int .u64 (ZY l:Nat)]⟩ 33 (0,0))]]):=by
 have hl:=h.len
 refine Zb Tryz.func303 rfl rfl rfl fun u R=>?_
 simp only[Zd,kA]
 repeat' (first|refine zW ?_|intro _)
 refine Zi [(0,_),(1,_),(5,_)] (fun (ζ:(Nat)×(Nat))=>[(6,.int .i64 ζ.1)]) (fun (ζ:(Nat)×(Nat))=>ρ) (fun (ζ:(Nat)×(Nat))=>[[(bx,.cells ⟨[.int .u64 (ζ.2:Nat)]⟩ 33 (0,0))]]) (fun (ζ:(Nat)×(Nat))=>ζ.1≤n∧ζ.2=ZY (l.take ζ.1)) (fun (ζ:(Nat)×(Nat))=>n-ζ.1) ((0,0)) (⟨Nat.zero_le _,rfl⟩) Zc Zc rfl tk ?_
 rintro⟨k,z⟩ hI
 try simp only[kA,List.append_assoc] at hI ⊢
 try dsimp only at hI ⊢
 obtain⟨hk,hz⟩:=hI
 by_cases hlt:k<n
 ·obtain⟨b,off,C,T,fr,rfl,hb,hc⟩:=h.get (show k<l.length by omega)
  have hzl:=unbe_take_lt l k (by omega) (by omega)
  rw[←hz] at hzl
  have hs:=Vy l k (by omega)
  have hbt:l[k].toNat<256:=l[k].toNat_lt
  generalize l[k]=b8 at *
  simp only[Zo] at hc
  repeat' (first|refine zW ?_|intro _)
  refine tpA [2,3,4,5,6] (.e 0 [1,7] (.e 8 [] .o)) ([]) ?_
  repeat' (refine iT ?_;first|refine rA ?_|((refine iE ?_;refine rE ?_)<;>((try refine Zn ?_);(first|(refine i_qq ?_;refine qQ ?_)|(refine Yj ?_;try intro _))<;>((try simp only[kA]);refine Zj ?_;refine rN ?_))))
  have e:256*(z:Int)+(b8.toNat:Int)=((z*256+b8.toNat:Nat):Int):=by omega
  rw[e]
  repeat' (first|refine zW ?_|intro _)
  refine Ze (k+1,z*256+b8.toNat) (⟨hlt,by dsimp only;rw[hs,hz]⟩) Zc Zc rfl tk inferInstance (by first|omega|(dsimp only;omega))
 ·have hk2:k=n:=by omega
  subst hk2
  rw[List.take_of_length_le (by omega)] at hz
  subst hz
  repeat' (first|refine zW ?_|intro _)
  exact qE ⟨rfl,rfl,rfl⟩
def Yg (k:Nat)(l:List UInt8)(st:Int):Nat×List UInt8×Int:=if st≠0 then (0,l,st) else if l.length<k then (0,l,7) else (ZY (l.take k),l.drop k,0)
theorem Wm (k:Nat)(l:List UInt8)(st:Int):(Yg k l st).1<256 ^ k:=by
 unfold Yg
 have h0:0<256 ^ k:=Nat.pow_pos (by decide)
 split
 ·exact h0
 ·split
  ·exact h0
  ·have:=Xw (l.take k)
   have e:(l.take k).length=k:=by simp;omega
   rwa [e] at this
theorem number_spec (ρ:Hp)(br:Nat)(a:Option Addr)(n c:Nat)(l:List UInt8)(h:SIn ρ Zo a n l)(hc:n≤c)(st:Int)(k:Nat)(hk:k≤8) :
  Spec Tryz.prog 243 [.pointer (some ⟨br,0,none⟩),.int .i64 k] ρ [rdC br a n c st]
   (fun v ρ' L'=>v=.int .u64 ((Yg k l st).1:Nat)∧ρ'=ρ∧∃a' n' c',SIn ρ Zo a' n' (Yg k l st).2.1∧n'≤c'∧L'=[rdC br a' n' c' (Yg k l st).2.2]):=by
 have hl:=h.len
 by_cases hst:st=0
 ·subst hst
  by_cases hs:n<k
  ·have e:Yg k l 0=(0,l,7):=by simp[Yg,hl,hs]
   rw[e]
   refine Zb Tryz.func243 rfl rfl rfl fun u R=>?_
   simp only[Zd,kA]
   repeat' (first|(refine Za (.func 302) ?_;refine qR rfl rfl (gives_short _ br a n c k (by omega) _) ?_;try simp only[kA])|refine zW ?_|intro _)
   exact qE ⟨rfl,rfl,a,n,c,h,hc,rfl⟩
  ·have e:Yg k l 0=(ZY (l.take k),l.drop k,0):=by simp[Yg,hl,hs]
   rw[e]
   refine Zb Tryz.func243 rfl rfl rfl fun u R=>?_
   simp only[Zd,kA]
   repeat' (first|refine zW ?_|intro _)
   rename_i bx
   have hg:=gives_ok ρ br a n c l h hc k (by omega) 303 [.pointer (some ⟨bx,0,none⟩)] [[(bx,.cells ⟨[.int .u64 0]⟩ 33 (0,0))]] [[(bx,.cells ⟨[.int .u64 (ZY (l.take k):Nat)]⟩ 33 (0,0))]] (fun hs=>number1_spec ρ bx a k c (l.take k) hs hk)
   repeat' (first|(refine Za (.func 302) ?_;refine qC rfl rfl (hg) ?_;rintro v ρ' L' hle ⟨rfl,rfl,a',c',hs',hc',rfl⟩<;>(try simp only[kA]))|refine zW ?_|intro _)
   exact qE ⟨rfl,rfl,a',n-k,c',hs',hc',rfl⟩
 ·have e:Yg k l st=(0,l,st):=by simp[Yg,hst]
  rw[e]
  refine Zb Tryz.func243 rfl rfl rfl fun u R=>?_
  simp only[Zd,kA]
  repeat' (first|(refine Za (.func 302) ?_;refine qR rfl rfl (gives_stuck _ br a n c st hst k _) ?_;try simp only[kA])|refine zW ?_|intro _)
  exact qE ⟨rfl,rfl,a,n,c,h,hc,rfl⟩
theorem u8_spec (ρ:Hp)(br:Nat)(a:Option Addr)(n c:Nat)(l:List UInt8)(h:SIn ρ Zo a n l)(hc:n≤c)(st:Int) :
  Spec Tryz.prog 178 [.pointer (some ⟨br,0,none⟩)] ρ [rdC br a n c st]
   (fun v ρ' L'=>v=.int .u8 ((Yg 1 l st).1:Nat)∧ρ'=ρ∧∃a' n' c',SIn ρ Zo a' n' (Yg 1 l st).2.1∧n'≤c'∧L'=[rdC br a' n' c' (Yg 1 l st).2.2]):=by
 have hb:=Wm 1 l st
 have hn:=number_spec ρ br a n c l h hc st 1 (by omega)
 generalize Yg 1 l st=r at *
 refine Zb Tryz.func178 rfl rfl rfl fun u R=>?_
 simp only[Zd,kA]
 repeat' (first|(refine Za (.func 243) ?_;refine qC rfl rfl (hn) ?_;rintro v ρ' L' hle ⟨rfl,rfl,a',n',c',hs',hc',rfl⟩<;>(try simp only[kA]))|refine zW ?_|intro _)
 exact qE ⟨rfl,rfl,a',n',c',hs',hc',rfl⟩
theorem u16_spec (ρ:Hp)(br:Nat)(a:Option Addr)(n c:Nat)(l:List UInt8)(h:SIn ρ Zo a n l)(hc:n≤c)(st:Int) :
  Spec Tryz.prog 252 [.pointer (some ⟨br,0,none⟩)] ρ [rdC br a n c st]
   (fun v ρ' L'=>v=.int .u16 ((Yg 2 l st).1:Nat)∧ρ'=ρ∧∃a' n' c',SIn ρ Zo a' n' (Yg 2 l st).2.1∧n'≤c'∧L'=[rdC br a' n' c' (Yg 2 l st).2.2]):=by
 have hb:=Wm 2 l st
 have hn:=number_spec ρ br a n c l h hc st 2 (by omega)
 generalize Yg 2 l st=r at *
 refine Zb Tryz.func252 rfl rfl rfl fun u R=>?_
 simp only[Zd,kA]
 repeat' (first|(refine Za (.func 243) ?_;refine qC rfl rfl (hn) ?_;rintro v ρ' L' hle ⟨rfl,rfl,a',n',c',hs',hc',rfl⟩<;>(try simp only[kA]))|refine zW ?_|intro _)
 exact qE ⟨rfl,rfl,a',n',c',hs',hc',rfl⟩
theorem u64_spec (ρ:Hp)(br:Nat)(a:Option Addr)(n c:Nat)(l:List UInt8)(h:SIn ρ Zo a n l)(hc:n≤c)(st:Int) :
  Spec Tryz.prog 179 [.pointer (some ⟨br,0,none⟩)] ρ [rdC br a n c st]
   (fun v ρ' L'=>v=.int .u64 ((Yg 8 l st).1:Nat)∧ρ'=ρ∧∃a' n' c',SIn ρ Zo a' n' (Yg 8 l st).2.1∧n'≤c'∧L'=[rdC br a' n' c' (Yg 8 l st).2.2]):=by
 have hn:=number_spec ρ br a n c l h hc st 8 (by omega)
 refine Zb Tryz.func179 rfl rfl rfl fun u R=>?_
 simp only[Zd,kA]
 repeat' (first|(refine Za (.func 243) ?_;refine qC rfl rfl (hn) ?_;rintro v ρ' L' hle ⟨rfl,rfl,a',n',c',hs',hc',rfl⟩<;>(try simp only[kA]))|refine zW ?_|intro _)
 exact qE ⟨rfl,rfl,a',n',c',hs',hc',rfl⟩
def Vc (k:Nat)(l:List UInt8)(st:Int):List UInt8×List UInt8×Int:=if st≠0 then ([],l,st) else if l.length<k then ([],l,7) else (l.take k,l.drop k,0)
theorem raw1_spec (ρ:Hp)(bx:Nat)(a:Option Addr)(n c:Nat)(l:List UInt8)(h:SIn ρ Zo a n l)(hn:n≤1000000) :
  Spec Tryz.prog 338 [.slice a n c,.pointer (some ⟨bx,0,none⟩)] ρ [[(bx,.cells ⟨[.slice none 0 0]⟩ 22 (0,0))]]
   (fun v ρ' L'=>v=.tuple ⟨[]⟩∧ρ.le ρ'∧∃a' c',SIn ρ' Zo a' n l∧n≤c'∧L'=[[(bx,.cells ⟨[.slice a' n c']⟩ 22 (0,0))]]):=by
 refine Zb Tryz.func338 rfl rfl rfl fun u R=>?_
 simp only[Zd,kA]
 repeat' (first|refine zW ?_|intro _)
 refine ZK (n:=0) (xs:=[]) (sp:=[]) (ys:=l.map Zo) (sz:=1) rfl rfl (OwnS.nil 1) (hR:=rem_nil') (SIn.srcV h) (by simpa using h.len) (Yn l) (by decide) rfl (by omega) (by omega) rfl (fun v' sp' hown'=>?_)
 simp only[Nat.zero_add,List.nil_append] at hown' ⊢
 refine ZS _ (h:=Rem.here) (fun ρ' hle hfz=>?_)
 obtain⟨a',c',rfl,hc,hs⟩:=hown'.sIn hfz
 repeat' (first|refine zW ?_|intro _)
 exact qE ⟨rfl,hle,a',c',hs,hc,rfl⟩
end Go.Proofs.E
