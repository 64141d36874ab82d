/- Laws of PoolRule. Part 2 of 26. -/
import Derived.Test.YthjhjmnmnbcioaaGreatE1
import Derived.OrdersHeld
import Derived.Stop.BytesEq
import Derived.Deep.Upon
import Derived.Laws.Externs
import Derived.Laws.BytesString
import Derived.Laws.CopyRow
import Derived.Laws.IdiomCopy
import Derived.Lib.AppendStr
import Derived.Laws.StructEq
import Derived.Laws.Slices
import Derived.Scope
set_option linter.unusedVariables false
set_option linter.unusedSimpArgs false
set_option linter.unusedSectionVars false
namespace Go.Proofs.E
open Go
section
variable {P:Program}{ops:Array Oper}{md:Region.Mode}{S:World->Prop}{ro:Option Nat}{Q:Exit->Act->World->Prop}
theorem YieldsIf.wpOpInN {i:Nat}{o:Oper}{v:Value}{a:Act}(hn:Wb o.op=true)(hi:ops[i]?=some o)(hy:YieldsIf P ops S o v a)
  {K:Act->World->Prop} {w:World} (hS:S w) (h:K (a.put o.dst v) w):wpOpIn (Fw ro) 0 P ops Q i K a w:=by
 unfold wpOpIn
 simp only[hi]
 rcases hy with⟨hw,hv⟩|⟨hw,rfl⟩
 ·simp only[hw,if_true]
  refine⟨λ _ _=>trivial, ?_⟩
  rw[show (Fw ro).round=ro from rfl,semAt_nd hn,hv w hS]
  exact h
 ·simp only[hw,aB,if_false];exact⟨λ _ _=>trivial,h⟩
theorem wpOpIn_putIf {j:Nat}{oi oj:Oper}{v:Value}(hnj:Wb oj.op=true)(hj:ops[j]?=some oj)(hap:oi.apart ops oj=true)
  (hsi:∀cs b,oi.op≠.select cs b) (hsj:∀cs b,oj.op≠.select cs b)
  (hQ:∀c a w,¬Q (.panic c) a w) {K:Act->World->Prop} {a:Act} {w:World}
  (hy:YieldsIf P ops S oi v a) (h:wpOpIn (Fw ro) 0 P ops Q j K (a.put oi.dst v) w) :
  wpOpIn (Fw ro) 0 P ops Q j (λ a' w'=>YieldsIf P ops S oi v a'/\K (a'.put oi.dst v) w') a w:=by
 obtain⟨h1,h2,h3⟩:=Oper.apart_spec hap
 have keep:∀(a:Act),YieldsIf P ops S oi v a->∀u,YieldsIf P ops S oi v (a.put oj.dst u):=λ a hy u=>
  hy.of_same (execOp_put oi hsi a oj.dst u h3) (wanted_put oi a oj.dst u h3)
 have keepD:∀d,YieldsIf P ops S oi v { a with defers:=d::a.defers }:=λ d=>hy.of_same rfl rfl
 unfold wpOpIn at *
 simp only[hj] at *
 rw[wanted_put oj a oi.dst v h1] at h
 split
 ·rename_i hw
  simp only[hw,if_true] at h
  unfold Oper.wpIn at *
  refine⟨λ _ _=>trivial, ?_⟩
  have h:=h.2
  rw[semAt_nd hnj,execOp_put oj hsj a oi.dst v h1] at h
  rw[semAt_nd hnj]
  generalize (execOp a.eval oj).run P w=r at *
  cases r with
  | ok x w'=>
   cases x<;>simp only[Oper.uponIn] at h ⊢
   case value u=>exact⟨keep a hy u,by rw[<-Act.put_comm a v u h2];exact h⟩
   case skip=>exact⟨keep a hy _,by rw[<-Act.put_comm a v undef h2];exact h⟩
   case defer d=>
    refine⟨keep _ (keepD d) _, ?_⟩
    rw[<-Act.put_comm _ v undef h2,<-Act.put_defers]
    exact h
   case enter f args=>
    refine⟨h.1,CallsIn.mono h.2 λ e w'' he=>?_⟩
    cases e with
    | returned u=>exact⟨keep a hy u,by rw[<-Act.put_comm a v u h2];exact he⟩
    | panicked c=>exact absurd he (hQ _ _ _)
    | outgrown=>exact he
   case row row args=>exact⟨h.1,RowsIn.mono h.2 λ u w'' he=>⟨keep a hy u,by rw[<-Act.put_comm a v u h2];exact he⟩⟩
   case round l f tmps assign body=>
    refine⟨h.1,RoundIn.mono h.2 λ e w'' he=>?_⟩
    cases e with
    | returned u=>exact⟨keep a hy u,by rw[<-Act.put_comm a v u h2];exact he⟩
    | panicked c=>exact absurd he (hQ _ _ _)
    | outgrown=>exact he
  | halt x w'=>
   cases x<;>simp only[Oper.uponIn] at h ⊢
   case panic u=>exact absurd h (hQ _ _ _)
 ·rename_i hw
  simp only[hw] at h
  exact⟨λ _ _=>trivial,keep a hy _,by rw[<-Act.put_comm a v undef h2];exact h.2⟩
def wpAnyG (ro:Option Nat)(P:Program)(md:Region.Mode)(ops:Array Oper)(Q:Exit->Act->World->Prop)(S:World->Prop):Nat->Array Bool->Act->World->Prop
 | 0,listed,a,w=>Region.ready md ops listed=[]/\Q .normal a w
 | fuel+1,listed,a,w=>
  (Region.ready md ops listed=[]->Q .normal a w) /\
  ∀i∈Region.ready md ops listed,wpOpIn (Fw ro) 0 P ops Q i (λ a' w'=>S w'/\wpAnyG ro P md ops Q S fuel (listed.setIfInBounds i true) a' w') a w
theorem wpAnyIn_of_G:∀(fuel:Nat) (listed:Array Bool) (a:Act) (w:World),wpAnyG ro P md ops Q S fuel listed a w->wpAnyIn (Fw ro) 0 P md ops Q fuel listed a w
 | 0,_,_,_,h=>h
 | fuel+1,_,_,_,h=>⟨h.1,λ i hi=>wpOpIn_mono (λ a' w' h'=>wpAnyIn_of_G fuel _ a' w' h'.2) (h.2 i hi)⟩
theorem wpAnyG_first {i:Nat}{oi:Oper}{v:Value}(hnd:ops.all (λ o=>Wb o.op)=true)(hi:ops[i]?=some oi)(hsel:∀(j:Nat) (o:Oper) cs b,ops[j]?=some o->o.op≠.select cs b)
  (hQ:∀c a w,¬Q (.panic c) a w) :
  ∀(fuel:Nat) (listed:Array Bool) (a:Act) (w:World),
   (∀j oj,ops[j]?=some oj->j≠i->listed.getD j true=false->(∀e∈oj.after,Region.binds md e=true->e.on≠i)->oi.apart ops oj=true) ->
   i∈Region.ready md ops listed->YieldsIf P ops S oi v a->S w ->
   wpAnyG ro P md ops Q S fuel (listed.setIfInBounds i true) (a.put oi.dst v) w->wpAnyG ro P md ops Q S (fuel+1) listed a w:=by
 have hnd':∀(j:Nat) (o:Oper),ops[j]?=some o->Wb o.op=true:=λ j o ho=>
  (Array.all_eq_true_iff_forall_mem.1 hnd) o (Array.mem_of_getElem? ho)
 intro fuel
 induction fuel with
 | zero=>
  intro listed a w _ hr hy hS H
  refine⟨λ h=>(by rw[h] at hr;cases hr),λ j hj=>?_⟩
  by_cases hji:j=i
  ·subst hji;exact YieldsIf.wpOpInN (hnd' _ _ hi) hi hy hS ⟨hS,H⟩
  ·have:=ready_mono hj hji
   rw[H.1] at this
   cases this
 | succ fuel ih=>
  intro listed a w hfree hr hy hS H
  refine⟨λ h=>(by rw[h] at hr;cases hr),λ j hj=>?_⟩
  by_cases hji:j=i
  ·subst hji;exact YieldsIf.wpOpInN (hnd' _ _ hi) hi hy hS ⟨hS,H⟩
  ·have h1:=H.2 j (ready_mono hj hji)
   obtain⟨hjun,oj,hoj,hall⟩:=mem_ready.1 hj
   have hnot:∀e∈oj.after,Region.binds md e=true->e.on≠i:=λ e he hb heq=>by
    have h1:=hall e he hb
    have h0:=(mem_ready.1 hr).1
    rw[heq] at h1
    rcases Nat.lt_or_ge i listed.size with h'|h'
    ·simp[h'] at h0 h1;rw[h0] at h1;cases h1
    ·simp[Array.getElem?_eq_none h'] at h1
   have h2:=wpOpIn_putIf (hnd' _ _ hoj) hoj (hfree j oj hoj hji hjun hnot) (λ cs b=>hsel i oi cs b hi) (λ cs b=>hsel j oj cs b hoj) hQ hy h1
   have hfree':∀k ok,ops[k]?=some ok->k≠i->(listed.setIfInBounds j true).getD k true=false ->
     (∀e∈ok.after,Region.binds md e=true->e.on≠i)->oi.apart ops ok=true:=λ k ok hk hki hun hno=>by
    refine hfree k ok hk hki ?_ hno
    by_cases hjk:j=k
    ·subst hjk;exact hjun
    ·rw[getD_set_ne true hjk] at hun;exact hun
   refine wpOpIn_mono (λ a' w' h3=>⟨h3.2.1,ih (listed.setIfInBounds j true) a' w' hfree' (ready_mono hr (Ne.symm hji)) h3.1 h3.2.1 ?_⟩) h2
   rw[Array.setIfInBounds_comm _ _ hji]
   exact h3.2.2
end
def QN (Q:Exit->Act->World->Prop):Exit->Act->World->Prop:=λ e a w=>match e with|.normal=>Q .normal a w|_=>False
def TR (x:Cx)(l:List Oper)(S:World->Prop)(fuel:Nat)(listed:List Bool)(Q:Exit->Act->World->Prop)(E:Env)(ρ:Hp)(L:SH):Prop:=
 ∀a w,Ok x.D x.N E a->Sat x.u ρ L w->S w->wpAnyG x.ro x.P .any l.toArray (QN Q) S fuel ⟨listed⟩ a w
def YS (x:Cx)(S:World->Prop)(op:Op)(ty:TypeId)(E:Env)(v:Value):Prop:=
 ∀a w dst pos after guard,Ok x.D x.N E a->S w->(execOp a.eval ⟨dst,op,ty,pos,after,guard⟩).run x.P w=.ok (.value v) w
def Zv (x:Cx)(ρ:Hp)(Ls:SH)(w:World):Prop:=∃ρ',ρ.le ρ'/\Sat x.u ρ' Ls w
def WH:List Bool->Nat->List Bool
 | [],_=>[]
 | b::r,0=>true::r
 | b::r,n+1=>b::WH r n
theorem lset_eq:∀(l:List Bool) (n:Nat),WH l n=l.set n true
 | [],n=>by simp[WH]
 | b::r,0=>rfl
 | b::r,n+1=>by simp[WH,lset_eq r n]
def Vl (l:List Oper)(listed:List Bool)(i:Nat):Bool:=
 Region.noSelect l.toArray && l.toArray.all (λ o=>Wb o.op) && Region.free .any l.toArray ⟨listed⟩ i && (Region.ready .any l.toArray ⟨listed⟩).contains i
def QR (x:Cx)(l:List Oper)(S:World->Prop)(fuel:Nat)(listed:List Bool)(Q:Exit->Act->World->Prop):Exit->Act->World->Prop:=
 λ e a w=>match e with|.normal=>S w/\wpAnyG x.ro x.P .any l.toArray (QN Q) S fuel ⟨listed⟩ a w|_=>False
section
variable {x:Cx}{Q:Exit->Act->World->Prop}{E:Env}{ρ:Hp}{L:SH}{S:World->Prop}{l:List Oper}{listed:List Bool}{fuel:Nat}
theorem tc_any {id:Nat}(S:World->Prop)[hm:Mixed x.P](hS:∀w,Sat x.u ρ L w->S w)(h:TR x l S l.length (List.replicate l.length false) Q E ρ L):TC x (.region id l.toArray true) Q E ρ L:=λ a w ha hw=>by
 refine wpIn_mono (Q:=QN Q) ?_ (λ e a w q=>by cases e<;>first|exact q|exact q.elim)
 refine wpIn_region_any hm.out ?_
 have:=h a _ ha hw.drew (hS _ hw.drew)
 have:=wpAnyIn_of_G _ _ _ _ this
 simpa using this
theorem tr_done (hr:Region.ready .any l.toArray ⟨listed⟩=[])(h:TE x .normal Q E ρ L):TR x l S fuel listed Q E ρ L:=λ a w ha hw hS=>by
 cases fuel with
 | zero=>exact⟨hr,h a w ha hw⟩
 | succ n=>exact⟨λ _=>h a w ha hw,by rw[hr];simp⟩
theorem tr_take (i:Nat){d:Nat}{op:Op}{ty:TypeId}{pos:String}{af:Array Edge}{v:Value}(hb:Vl l listed i=true)(hi:l[i]?=some ⟨some d,op,ty,pos,af,none⟩)(hy:YS x S op ty E v)(hd:Nat.blt d x.N=true)
  (k:TR x l S fuel (WH listed i) Q ((d,v)::E) ρ L):TR x l S (fuel+1) listed Q E ρ L:=λ a w ha hw hS=>by
 simp only[Vl,aE] at hb
 obtain⟨⟨⟨h1,h2⟩,h3⟩,h4⟩:=hb
 have hi':l.toArray[i]?=some ⟨some d,op,ty,pos,af,none⟩:=by simpa using hi
 refine wpAnyG_first (v:=v) h2 hi' (Region.noSelect_spec h1) (λ _ _ _ h=>h) fuel _ a w (Region.free_spec hi' h3) (by simpa using h4) (.inl ⟨by simp[Region.wanted],λ w hS=>hy a w _ _ _ _ ha hS⟩) hS ?_
 have:=k _ w (ha.put (Nat.le_of_ble_eq_true hd) v) hw hS
 rw[lset_eq] at this
 simpa using this
theorem tr_want (i:Nat){d:Nat}{op:Op}{ty:TypeId}{pos:String}{af:Array Edge}{j t:Nat}{b:Bool}{v:Value}(hb:Vl l listed i=true)(hi:l[i]?=some ⟨some d,op,ty,pos,af,some (j,b)⟩)(hj:(l[j]?).bind (·.dst)=some t)(he:lk E t=some (.bool b))
  (hy:YS x S op ty E v) (hd:Nat.blt d x.N=true)
  (k:TR x l S fuel (WH listed i) Q ((d,v)::E) ρ L):TR x l S (fuel+1) listed Q E ρ L:=λ a w ha hw hS=>by
 simp only[Vl,aE] at hb
 obtain⟨⟨⟨h1,h2⟩,h3⟩,h4⟩:=hb
 have hyl:yielded l.toArray a.tmps j=some b:=by
  unfold yielded
  simp only[List.getElem?_toArray]
  rw[hj];simp[ha.get t _ he]
 have hi':l.toArray[i]?=some ⟨some d,op,ty,pos,af,some (j,b)⟩:=by simpa using hi
 refine wpAnyG_first (v:=v) h2 hi' (Region.noSelect_spec h1) (λ _ _ _ h=>h) fuel _ a w (Region.free_spec hi' h3) (by simpa using h4) (.inl ⟨by simp[Region.wanted,hyl],λ w hS=>hy a w _ _ _ _ ha hS⟩) hS ?_
 have:=k _ w (ha.put (Nat.le_of_ble_eq_true hd) v) hw hS
 rw[lset_eq] at this
 simpa using this
theorem tr_skip (i:Nat){d:Nat}{op:Op}{ty:TypeId}{pos:String}{af:Array Edge}{j t:Nat}{b c:Bool}(hb:Vl l listed i=true)(hi:l[i]?=some ⟨some d,op,ty,pos,af,some (j,c)⟩)(hj:(l[j]?).bind (·.dst)=some t)(he:lk E t=some (.bool b))(hbc:(b == c)=false)
  (hd:Nat.blt d x.N=true)
  (k:TR x l S fuel (WH listed i) Q ((d,undef)::E) ρ L):TR x l S (fuel+1) listed Q E ρ L:=λ a w ha hw hS=>by
 simp only[Vl,aE] at hb
 obtain⟨⟨⟨h1,h2⟩,h3⟩,h4⟩:=hb
 have hyl:yielded l.toArray a.tmps j=some b:=by
  unfold yielded
  simp only[List.getElem?_toArray]
  rw[hj];simp[ha.get t _ he]
 have hi':l.toArray[i]?=some ⟨some d,op,ty,pos,af,some (j,c)⟩:=by simpa using hi
 have hne:(some b == some c)=false:=by cases b<;>cases c<;>simp_all
 refine wpAnyG_first (v:=undef) h2 hi' (Region.noSelect_spec h1) (λ _ _ _ h=>h) fuel _ a w (Region.free_spec hi' h3) (by simpa using h4) (.inr ⟨by simp only[Region.wanted,hyl,hne],rfl⟩) hS ?_
 have:=k _ w (ha.put (Nat.le_of_ble_eq_true hd) undef) hw hS
 rw[lset_eq] at this
 simpa using this
theorem tr_guard {t:Nat}{b:Bool}(he:lk E t=some (.bool b))(h1:b=true->TR x l S fuel listed Q ((t,.bool true)::E) ρ L)(h2:b=false->TR x l S fuel listed Q ((t,.bool false)::E) ρ L) :
  TR x l S fuel listed Q E ρ L:=λ a w ha hw hS=>by
 have key:∀e:Bool,b=e->Ok x.D x.N ((t,.bool e)::E) a:=λ e hbe=>ha.le (EnvLe.cons (by rw[he,hbe]) (EnvLe.refl E))
 cases hb:b with
 | true=>exact h1 hb a w (key _ hb) hw hS
 | false=>exact h2 hb a w (key _ hb) hw hS
def OneOf (x:Cx)(l:List Oper)(S:World->Prop)(fuel:Nat)(listed:List Bool)(Q:Exit->Act->World->Prop)(E:Env)(ρ:Hp)(L:SH)(i:Nat):Prop:=
 ∃o,l[i]?=some o/\TL x l.toArray [o] (QR x l S fuel (WH listed i) Q) E ρ L
theorem tr_step {is:List Nat}(hr:Region.ready .any l.toArray ⟨listed⟩=is)(hne:is≠[])(h:∀i∈is,OneOf x l S fuel listed Q E ρ L i):TR x l S (fuel+1) listed Q E ρ L:=λ a w ha hw hS=>by
 refine⟨λ h0=>absurd (hr ▸ h0) hne,λ i hi=>?_⟩
 rw[hr] at hi
 obtain⟨o,ho,hT⟩:=h i hi
 have ho':l.toArray[i]?=some o:=by simpa using ho
 have:=hT a w ha hw
 unfold wpOpIn
 simp only[ho']
 simp only[wpListIn] at this
 rw[lset_eq] at this
 have e:(⟨listed⟩:Array Bool).setIfInBounds i true=⟨listed.set i true⟩:=by simp
 rw[e]
 by_cases hw':Region.wanted o (yielded l.toArray a.tmps)=true
 ·simp only[hw',if_true] at this ⊢
  refine⟨this.1, ?_⟩
  have h2:=this.2
  generalize (o.semAt (Fw x.ro).round a.eval).run x.P w=r at *
  cases r with
  | ok n w'=>
   cases n<;>simp only[Oper.uponIn] at h2 ⊢<;>try exact h2
   all_goals exact⟨h2.1,h2.2.mono λ e w'' he=>by cases e<;>first|exact he|exact he.elim|exact (let ⟨_,_,q⟩:=he;q.elim)⟩
  | halt h w'=>cases h<;>simp only[Oper.uponIn] at h2 ⊢<;>first|exact h2|exact h2.elim
 ·simp only[hw'] at this ⊢
  exact this
theorem tr_step1 {i:Nat}{o:Oper}(hr:Region.ready .any l.toArray ⟨listed⟩=[i])(ho:l[i]?=some o)(h:TL x l.toArray [o] (QR x l S fuel (WH listed i) Q) E ρ L):TR x l S (fuel+1) listed Q E ρ L:=
 tr_step hr (by simp) (λ j hj=>by
  have:j=i:=by simpa using hj
  subst this;exact⟨o,ho,h⟩)
theorem tr_step2 {i j:Nat}{o p:Oper}(hr:Region.ready .any l.toArray ⟨listed⟩=[i,j])(ho:l[i]?=some o)(hp:l[j]?=some p)(h:TL x l.toArray [o] (QR x l S fuel (WH listed i) Q) E ρ L)
  (h':TL x l.toArray [p] (QR x l S fuel (WH listed j) Q) E ρ L):TR x l S (fuel+1) listed Q E ρ L:=
 tr_step hr (by simp) (λ k hk=>by
  rcases List.mem_cons.1 hk with rfl|hk
  ·exact⟨o,ho,h⟩
  ·have:k=j:=by simpa using hk
   subst this;exact⟨p,hp,h'⟩)
theorem te_any (hS:∀w,Sat x.u ρ L w->S w)(h:TR x l S fuel listed Q E ρ L):TE x .normal (QR x l S fuel listed Q) E ρ L:=λ a w ha hw=>⟨hS w hw,h a w ha hw (hS w hw)⟩
theorem stays_refl:∀w,Sat x.u ρ L w->Zv x ρ L w:=λ w hw=>⟨ρ,Hp.le_refl _,hw⟩
theorem stays_of {ρ0:Hp}{Ls R:SH}(hle:ρ0.le ρ)[hT:Xj L Ls R]:∀w,Sat x.u ρ L w->Zv x ρ0 Ls w:=λ w hw=>⟨ρ,hle,(hw.perm hT.out).sub (by simp)⟩
theorem wpAnyG_mono {ro:Option Nat}{P:Program}{md:Region.Mode}{ops:Array Oper}{Q:Exit->Act->World->Prop}{S S':World->Prop}(h:∀w,S' w->S w):∀(fuel:Nat) (listed:Array Bool) (a:Act) (w:World),wpAnyG ro P md ops Q S' fuel listed a w->wpAnyG ro P md ops Q S fuel listed a w
 | 0,_,_,_,H=>H
 | fuel+1,_,_,_,H=>⟨H.1,λ i hi=>wpOpIn_mono (λ a' w' h'=>⟨h w' h'.1,wpAnyG_mono h fuel _ a' w' h'.2⟩) (H.2 i hi)⟩
theorem tr_full {ρ0:Hp}{Ls R:SH}(hle:ρ0.le ρ)(hT:Xj L Ls R)(h:TR x l (Zv x ρ L) fuel listed Q E ρ L):TR x l (Zv x ρ0 Ls) fuel listed Q E ρ L:=λ a w ha hw hS=>by
 refine wpAnyG_mono (S':=Zv x ρ L) ?_ fuel _ a w (h a w ha hw ⟨ρ,Hp.le_refl _,hw⟩)
 rintro w' ⟨ρ',hle',hw'⟩
 exact⟨ρ',Hp.le_trans hle hle',(hw'.perm hT.out).sub (by simp)⟩
end
def YP (S:SH)(Jn Jx:Hp->SH->Prop):Bool->Hp->SH->Prop:=λ b ρ' L'=>∃Lj',L'=S++Lj'/\(b=true/\Jn ρ' Lj'\/b=false/\Jx ρ' Lj')
def Iter (P:Program)(g:FuncId)(fs cs:List Value){α:Type}(enc:α->List Value)(ρ0:Hp)(S:SH)(xs:List α):Prop:=
 ∀(l:Nat) (J:List α->Hp->SH->Prop) (Jx:Hp->SH->Prop),
  (∀pre y ρ Lj,(pre++[y]) <+: xs->ρ0.le ρ->J pre ρ Lj->YW P l (enc y) ρ (S++Lj) (YP S (J (pre++[y])) Jx)) ->
  ∀ρ Lj,ρ0.le ρ->J [] ρ Lj->Spec P g (fs++[.func (.yield l) ⟨[]⟩ ⟨[]⟩]++cs) ρ (S++Lj) (λ v ρ' L'=>∃Lj',L'=S++Lj'/\(J xs ρ' Lj'\/Jx ρ' Lj'))
def envP:List Nat->List Value->Env->Env
 | p::ps,v::vs,E=>envP ps vs ((p,v)::E)
 | _,_,E=>E
theorem Ok.putP {N:Nat}:∀(ps:List Nat) (vs:List Value) (E:Env) (tm:Array Value),ps.all (λ p=>Nat.blt p N)=true->Ok [] N E { tmps:=tm,defers:=[] } ->
  Ok [] N (envP ps vs E) { tmps:=(ps.zip vs).foldl (λ tmps x=>tmps.setIfInBounds x.1 x.2) tm,defers:=[] }
 | [],vs,E,tm,_,h=>by simpa [envP] using h
 | p::ps,[],E,tm,_,h=>by simpa [envP] using h
 | p::ps,v::vs,E,tm,hp,h=>by
  simp only[List.all_cons,aE] at hp
  have h1:Ok [] N ((p,v)::E) { tmps:=tm.setIfInBounds p v,defers:=[] }:=h.put (Nat.le_of_ble_eq_true hp.1) v
  have:=Ok.putP ps vs _ _ hp.2 h1
  simpa [envP] using this
structure Rec (a:Array Value)(ps:Array Tmp)(assign body:Code)(r:Loop):Prop where
 tmps:r.tmps=a
 params:r.params=ps
 assign:r.assign=assign
 body:r.body=body
def JH (l:Nat)(rec0:Loop->Prop)(J:Hp->SH->Prop)(ρ:Hp)(Lj:SH):Prop:=∃r Lu,Lj=[(l,.loop r)]::Lu/\r.state=.ready/\r.pending=none/\rec0 r/\J ρ Lu
def XH (l:Nat)(rec0:Loop->Prop)(Jx:Code->Hp->SH->Prop)(ρ:Hp)(Lj:SH):Prop:=∃r Lu c,Lj=[(l,.loop r)]::Lu/\r.state=.done/\r.pending=some c/\rec0 r/\Jx c ρ Lu
def RQ (P:Program)(u:World)(ρ:Hp)(R:SH)(l:Nat)(Post:Bool->Hp->SH->Prop):Exit->Act->World->Prop:=
 roundPost P l (λ e w'=>∃b ρ' L',e=.returned (.bool b)/\ρ.le ρ'/\Sat u ρ' (L'++R) w'/\Post b ρ' L')
def KB (P:Program)(l:Nat)(body:Code)(Q:Exit->Act->World->Prop):Act->World->Prop:=λ a w=>
 ∃w₂,(Instr.beginRound l).run P w=.ok () w₂/\body.wpIn (Fw (some l)) 0 P Q a w₂
def QF:Exit->Act->World->Prop:=λ _ _ _=>False
section
variable {x:Cx}{Q:Exit->Act->World->Prop}{E:Env}{ρ ρ0:Hp}{L:SH}{l:Nat}{r:Loop}
theorem te_begin {body:Code}(hro:x.ro=some l)(hr:r.state=.ready)(h:∀r',r'.state=.busy->Rec r.tmps r.params r.assign r.body r'->TC x body Q E ρ ([(l,.loop r')]::L)) :
  TE x .normal (Exit.then (KB x.P l body Q) QF) E ρ ([(l,.loop r)]::L):=λ a w ha hw=>by
 have hl:=hw.here (l,.loop r) (by simp)
 refine⟨_,run_beginRound hl hr, ?_⟩
 have:=h { r with state:=.busy } rfl ⟨rfl,rfl,rfl,rfl⟩ a _ ha (hw.put _)
 rw[hro] at this
 exact this
theorem sh_perm3 {c:List (Nat×Obj)}{S Lu R:SH}:(c::(S++Lu++R)).flatten.Perm (S++(c::Lu)++R).flatten:=by
 simp only[aF,List.flatten_append,aA,List.cons_append]
 rw[<-aA,<-aA (S.flatten)]
 exact List.Perm.append_right _ List.perm_append_comm
theorem Sat.parts {u w}{L2 S R1 Lu R2 R:SH}{c:List (Nat×Obj)}(h:Sat u ρ (c::L2) w)(k1:Xj L2 S R1)(k2:Xj R1 Lu R2)(e:Ends R2 R):Sat u ρ (S++(c::Lu)++R) w:=by
 have h1:Sat u ρ (c::(S++Lu++R2)) w:=h.perm (by
  simp only[aF]
  refine List.Perm.append_left c ?_
  refine k1.out.trans ?_
  simp only[List.flatten_append,aA]
  exact List.Perm.append_left _ (by simpa using k2.out))
 have h2:=h1.perm sh_perm3
 refine h2.sub ?_
 simp only[List.flatten_append]
 exact List.Sublist.append (List.Sublist.refl _) e.out
theorem te_next {u:World}{R:SH}{S Lu L2 R1 R2:SH}{tm:Array Value}{ps:Array Tmp}{assign body:Code}{J:Hp->SH->Prop}{Jx:Code->Hp->SH->Prop}(hu:x.u=u)(hle:ρ0.le ρ)(hrec:Rec tm ps assign body r)(k1:Xj L2 S R1)(k2:Xj R1 Lu R2)(e:Ends R2 R)(hJ:J ρ Lu) :
  TE x .normal (RQ x.P u ρ0 R l (YP S (JH l (Rec tm ps assign body) J) (XH l (Rec tm ps assign body) Jx))) E ρ ([(l,.loop r)]::L2):=λ a w ha hw=>by
 subst hu
 have hl:=hw.here (l,.loop r) (by simp)
 refine⟨_,_,run_endRound none hl,true,ρ,S++([(l,.loop { r with state:=.ready,pending:=none })]::Lu),rfl,hle, ?_,_,rfl,.inl ⟨rfl,_,Lu,rfl,rfl,rfl,⟨hrec.tmps,hrec.params,hrec.assign,hrec.body⟩,hJ⟩⟩
 exact (hw.put _).parts k1 k2 e
def jumpOf:Exit->Option Code
 | .ret=>some .ret
 | .exit id=>some (.exit id)
 | .goto t=>some (.goto t)
 | _=>none
theorem te_leave {ex:Exit}{c:Code}{u:World}{R:SH}{S Lu L2 R1 R2:SH}{tm:Array Value}{ps:Array Tmp}{assign body:Code}{J:Hp->SH->Prop}{Jx:Code->Hp->SH->Prop}(hc:jumpOf ex=some c)(hu:x.u=u)(hle:ρ0.le ρ)(hrec:Rec tm ps assign body r)(k1:Xj L2 S R1)(k2:Xj R1 Lu R2)(e:Ends R2 R)(hJ:Jx c ρ Lu) :
  TE x ex (RQ x.P u ρ0 R l (YP S (JH l (Rec tm ps assign body) J) (XH l (Rec tm ps assign body) Jx))) E ρ ([(l,.loop r)]::L2):=λ a w ha hw=>by
 subst hu
 have hl:=hw.here (l,.loop r) (by simp)
 have key:∀c',c'=c->∃v w',(Instr.endRound l (some c')).run x.P w=.ok v w'/\∃b ρ' L',(Ending.returned v)=.returned (.bool b)/\ρ0.le ρ'/\Sat x.u ρ' (L'++R) w'/\YP S (JH l (Rec tm ps assign body) J) (XH l (Rec tm ps assign body) Jx) b ρ' L':=λ c' hc'=>by
  subst hc'
  refine⟨_,_,run_endRound (some c') hl,false,ρ,S++([(l,.loop { r with state:=.done,pending:=some c' })]::Lu),rfl,hle, ?_,_,rfl,.inr ⟨rfl,_,Lu,c',rfl,rfl,rfl,⟨hrec.tmps,hrec.params,hrec.assign,hrec.body⟩,hJ⟩⟩
  exact (hw.put _).parts k1 k2 e
 cases ex<;>simp only[jumpOf,Option.some.injEq,reduceCtorEq] at hc<;>exact key _ hc
theorem tc_rangeFunc {fo:Operand}{ps:List Nat}{assign body:Code}{g:Nat}{fs cs:List Value}{α:Type}{enc:α->List Value}{S L0 R0 R:SH}{xs:List α}(hro:x.ro=none)
  (hf:ev E fo=some (.func (.func g) ⟨fs⟩ ⟨cs⟩)) [hF:Zz x.P g] (hI:Iter x.P g fs cs enc ρ0 S xs) (hle:ρ0.le ρ) (hps:∀y,(enc y).length=ps.length) (hpN:ps.all (λ p=>Nat.blt p x.N)=true)
  (J:List α->Hp->SH->Prop) (Jx:Code->Hp->SH->Prop) (k1:Xj L S R0) (k2:Xj R0 L0 R) (h0:J [] ρ L0)
  (hround:∀l tm r pre y ρ' Lu u R',(pre++[y]) <+: xs->ρ0.le ρ'->J pre ρ' Lu->r.state=.ready->Rec tm ⟨ps⟩ assign body r ->
   TC ⟨some l,x.P,u,[],x.N⟩ assign (Exit.then (KB x.P l body (RQ x.P u ρ' R' l (YP S (JH l (Rec tm ⟨ps⟩ assign body) (J (pre++[y]))) (XH l (Rec tm ⟨ps⟩ assign body) Jx)))) QF)
    (envP ps (enc y) E) ρ' ([(l,.loop r)]::(S++(Lu++R'))))
  (hdone:∀D0 ρ' Lu,ρ.le ρ'->J xs ρ' Lu->TE { x with D:=[{ target:=.collected D0,args:=#[] }]++x.D } .normal Q E ρ' ([(D0,.deferred (some []))]::(S++(Lu++R))))
  (hstop:∀D0 c ρ' Lu,ρ.le ρ'->Jx c ρ' Lu->TC { x with D:=[{ target:=.collected D0,args:=#[] }]++x.D } c Q E ρ' ([(D0,.deferred (some []))]::(S++(Lu++R)))) :
  TC x (.rangeFunc fo ⟨ps⟩ assign body) Q E ρ L:=λ a w ha hw=>by
 obtain⟨ro,P,u,D,N⟩:=x
 simp only at hro;subst hro
 dsimp only at *
 refine wpIn_rangeFunc λ fn _=>?_
 have hw0:Sat u ρ (S++(L0++R)) w:=hw.perm (by
  refine k1.out.trans ?_
  simp only[List.flatten_append]
  exact List.Perm.append_left _ (by simpa using k2.out))
 have hw1:=hw0.new (.deferred (some []))
 generalize hr0:({ state:=.ready,pending:=none,fn,tmps:=a.tmps,params:=⟨ps⟩,assign,body,defers:=w.heap.size }:Loop)=r0
 have hw2:=hw1.new (.loop r0)
 have hsz:({ w with heap:=w.heap.push (.deferred (some [])) }:World).heap.size=w.heap.size+1:=by simp
 rw[hsz] at hw2
 have hrec0:Rec a.tmps ⟨ps⟩ assign body r0:=by subst hr0;exact⟨rfl,rfl,rfl,rfl⟩
 have hst0:r0.state=.ready/\r0.pending=none:=by subst hr0;exact⟨rfl,rfl⟩
 have henter:=run_enterLoop_outer (P:=P) (w:=w) fn a.tmps ⟨ps⟩ assign body
 rw[hr0] at henter
 have hres:(resolve a.eval (rangeCall fo (w.heap.size+1)) 0).run P ((w.alloc (.deferred (some []))).alloc (.loop r0)) =
   .ok { target:=.fn (.func g) ⟨cs⟩,args:=⟨fs++[.func (.yield (w.heap.size+1)) ⟨[]⟩ ⟨[]⟩]⟩ } ((w.alloc (.deferred (some []))).alloc (.loop r0)):=by
  simp only[resolve,ha.eval hf,Deferred.ofValue,Sem.run_pure]
  simp[Act.eval]
 refine⟨w.heap.size+1,_,_,_,_,g,⟨fs++[.func (.yield (w.heap.size+1)) ⟨[]⟩ ⟨[]⟩]++cs⟩,(w.alloc (.deferred (some []))).alloc (.loop r0),henter,hres,λ _ _=>trivial, ?_,λ h=>by simp[Fw,Fence.wide] at h, ?_⟩
 ·simp only[invoke]
  have:=run_callFunc hF (⟨fs++[.func (.yield (w.heap.size+1)) ⟨[]⟩ ⟨[]⟩]⟩++⟨cs⟩) ((w.alloc (.deferred (some []))).alloc (.loop r0))
  simpa using this
 generalize hl:w.heap.size+1=l at *
 generalize hD0:w.heap.size=D0 at *
 have hy:∀pre y ρ' Lj,(pre++[y]) <+: xs->ρ0.le ρ'->JH l (Rec a.tmps ⟨ps⟩ assign body) (J pre) ρ' Lj->YW P l (enc y) ρ' (S++Lj) (YP S (JH l (Rec a.tmps ⟨ps⟩ assign body) (J (pre++[y]))) (XH l (Rec a.tmps ⟨ps⟩ assign body) Jx)):=by
  intro pre y ρ' Lj hpre hle' hJ
  obtain⟨r,Lu,rfl,hrs,hrp,hrr,hJu⟩:=hJ
  intro u' R' w' hw'
  have hlr:=hw'.here (l,.loop r) (by simp)
  have hargs:(⟨enc y⟩:Array Value).size=r.params.size:=by rw[hrr.params];simpa using hps y
  refine⟨_,_,_,_,run_yield hlr hargs, ?_⟩
  have hround':=hround l a.tmps r pre y ρ' Lu u' R' hpre hle' hJu hrs hrr
  have hsat:Sat u' ρ' ([(l,.loop r)]::(S++(Lu++R'))) w':=hw'.perm (by simp)
  have hok:Ok [] N (envP ps (enc y) E) { tmps:=(r.params.zip ⟨enc y⟩).foldl (λ tmps (t,a)=>tmps.setIfInBounds t a) r.tmps,defers:=[] }:=by
   have h1:Ok [] N E { tmps:=a.tmps,defers:=[] }:=⟨rfl,ha.size,ha.get⟩
   have:=Ok.putP ps (enc y) E a.tmps hpN h1
   rw[hrr.params,hrr.tmps]
   have e:((⟨ps⟩:Array Nat).zip ⟨enc y⟩)=⟨ps.zip (enc y)⟩:=by simp
   rw[e]
   simpa using this
  have hwp:=hround' _ w' hok hsat
  rw[hrr.assign,hrr.body]
  refine roundIn_of_wpIn (F:=Fw none) (n:=0) trivial ?_
  exact hwp
 have hspec:=hI l (λ pre=>JH l (Rec a.tmps ⟨ps⟩ assign body) (J pre)) (XH l (Rec a.tmps ⟨ps⟩ assign body) Jx) hy ρ ([(l,.loop r0)]::L0) hle ⟨r0,L0,rfl,hst0.1,hst0.2,hrec0,h0⟩
 have hcall:=hspec u ([(D0,.deferred (some []))]::R) ((w.alloc (.deferred (some []))).alloc (.loop r0)) (hw2.perm (by
  simp only[aF,List.flatten_append,aA,List.cons_append,List.singleton_append,List.nil_append]
  refine List.Perm.trans (l₂:=S.flatten++((l,.loop r0)::(D0,.deferred (some []))::(L0.flatten++R.flatten))) ?_ ?_
  ·refine List.Perm.trans ?_ List.perm_middle.symm
   refine List.Perm.cons _ ?_
   exact List.perm_middle.symm
  ·refine List.Perm.append_left _ (List.Perm.cons _ ?_)
   exact List.perm_middle.symm))
 refine calls_ro (CallsIn.mono hcall ?_)
 rintro e w3 ⟨v,ρ',L',rfl,hle',hsat,Lj',rfl,hor⟩
 have perm4:∀(c:List (Nat×Obj)) (Lu:SH),(S++(c::Lu)++([(D0,.deferred (some []))]::R)).flatten.Perm (c::([(D0,.deferred (some []))]::(S++(Lu++R)))).flatten:=λ c Lu=>by
  simp only[aF,List.flatten_append,aA,List.cons_append,List.singleton_append,List.nil_append]
  refine List.Perm.trans ?_ (List.Perm.append_left c (List.perm_middle (l₁:=S.flatten++Lu.flatten) (a:=(D0,.deferred (some []))) (l₂:=R.flatten) |>.trans (by simp)))
  rw[<-aA,<-aA c]
  refine List.Perm.trans (List.Perm.append_right _ List.perm_append_comm) ?_
  simp only[aA]
  exact List.Perm.refl _
 rcases hor with⟨r,Lu,rfl,hrs,hrp,hrr,hJu⟩|⟨r,Lu,c,rfl,hrs,hrp,hrr,hJu⟩
 ·have hs1:=hsat.perm (perm4 [(l,.loop r)] Lu)
  have hlr:=hs1.here (l,.loop r) (by simp)
  refine⟨r.pending,_,run_endLoop hlr (by rw[hrs];simp), ?_⟩
  rw[hrp]
  have hs2:=(hs1.put (.loop { r with state:=.exhausted,pending:=none })).sub (L':=[(D0,.deferred (some []))]::(S++(Lu++R))) (by simp)
  exact hdone D0 ρ' Lu hle' hJu _ _ ⟨by simp[ha.defers],ha.size,ha.get⟩ hs2
 ·have hs1:=hsat.perm (perm4 [(l,.loop r)] Lu)
  have hlr:=hs1.here (l,.loop r) (by simp)
  refine⟨r.pending,_,run_endLoop hlr (by rw[hrs];simp), ?_⟩
  rw[hrp]
  have hs2:=(hs1.put (.loop { r with state:=.exhausted,pending:=some c })).sub (L':=[(D0,.deferred (some []))]::(S++(Lu++R))) (by simp)
  exact hstop D0 c ρ' Lu hle' hJu _ _ ⟨by simp[ha.defers],ha.size,ha.get⟩ hs2
theorem te_round_e {Y:Type}{S:Y->LS}{I:Y->Prop}{μ:Y->Nat}{y:Y}{Lm G R:SH}(y':Y)(hL:(S y').L=Lm++R)(hI:I y')(hE:EnvLe (S y').E E)(hρ:(S y').ρ=ρ)(k:Xj L Lm G)(e:Ends G R)(hμ:μ y'<μ y) :
  TE x .normal (Exit.then (KR x S I μ y) Q) E ρ L:=λ a w ha hw=>⟨y',⟨ha.le hE,by rw[hρ,hL];exact hw.ends k e,hI⟩,hμ⟩
theorem tc_loop_e {Y:Type}{c:Code}{Lm G R:SH}(S:Y->LS)(I:Y->Prop)(μ:Y->Nat)(y0:Y)(hL:(S y0).L=Lm++R)(h0:I y0)
  (hE:EnvLe (S y0).E E) (hρ:(S y0).ρ=ρ) (k:Xj L Lm G) (e:Ends G R)
  (round:∀y,I y->TC x c (Exit.then (KR x S I μ y) Q) (S y).E (S y).ρ (S y).L) :
  TC x (.loop c) Q E ρ L:=λ a w ha hw=>
 tc_loop (E:=(S y0).E) (ρ:=(S y0).ρ) (L:=(S y0).L) S I μ y0 h0 (EnvLe.refl _) rfl (List.Perm.refl _) round a w (ha.le hE) (by rw[hρ,hL];exact hw.ends k e)
theorem We {e:Exit}{fn:Func}{u:World}{ρ0:Hp}{R:SH}{Post:Value->Hp->SH->Prop}{L' G:SH}{v:Value}{D0:Nat}{f:Obj->SH}(he:isEnd e=true)(hD:x.D=[{ target:=.collected D0,args:=#[] }])(hu:x.u=u)(kU:Upd D0 L (.deferred (some [])) f)
  (hr:∀a w,Ok x.D x.N E a->Sat x.u ρ (f (.deferred none)) w->(results fn a.tmps).run x.P w=.ok v w)
  (hle:ρ0.le ρ) (k:Xj (f (.deferred none)) L' G) (en:Ends G R) (hp:Post v ρ L'):TE x e (bodyPostM (Fw none) 0 x.P fn (RK u ρ0 R Post)) E ρ L:=λ a w ha hw=>by
 subst hu
 have hd:=ha.defers
 rw[hD] at hd
 obtain⟨hw',hb⟩:=hw.upd kU (.deferred none)
 have h:=hr a _ ha hw'
 have hrun:=run_takeDeferred (P:=x.P) hb
 have key:LeavesInM (Fw none) 0 x.P fn a.tmps (RK x.u ρ0 R Post) a.defers .returning w:=by
  rw[hd]
  refine⟨by simp,.inl ⟨D0,_,rfl,hrun, ?_⟩⟩
  exact⟨v,h,v,ρ,L',rfl,hle,hw'.ends k en,hp⟩
 cases e<;>simp only[isEnd,aB] at he<;>exact key
end
class SetL (l:List Value)(off:Nat)(v:Value)(l':outParam (List Value)):Prop where
 out:off<l.length/\stc l off [v]=l'
instance SetL.zero {a v:Value}{r:List Value}:SetL (a::r) 0 v (v::r):=⟨by simp,by simp[stc]⟩
instance SetL.succ {a v:Value}{r r':List Value}{n:Nat}[h:SetL r n v r']:SetL (a::r) (n+1) v (a::r'):=⟨by
 have:=h.out.1;simp;omega,by
 have:=h.out.2
 simp only[stc,List.length_singleton,List.take_succ_cons,List.drop_succ_cons,List.cons_append] at this ⊢
 rw[<-this]⟩
section
variable {x:Cx}{Q:Exit->Act->World->Prop}{E:Env}{ρ:Hp}{L:SH}{ops:Array Oper}{rest:List Oper}{ty:TypeId}{pos:String}{af:Array Edge}
theorem tl_store_set {t b off:Nat}{o p:Operand}{l l':List Value}{T:TypeId}{v:Value}{f:Obj->SH}(ho:ev E o=some (.pointer (some ⟨b,off,none⟩)))(hp:ev E p=some v)(h1:v.oneCell'=true)[hZ:Zm x.P t 1][hU:Upd b L (.cells ⟨l⟩ T (0,0)) f]
  [hS:SetL l off v l'] (k:TL x ops rest Q E ρ (f (.cells ⟨l'⟩ T (0,0)))) :
  TL x ops (⟨none,.store t o p,ty,pos,af,none⟩::rest) Q E ρ L:=
 tl_store_s ho hp h1 (ble_le (by have:=hS.out.1;omega)) (by rw[hS.out.2];exact k)
theorem tl_store_all {t b n:Nat}{o p:Operand}{l vs:List Value}{T:TypeId}{f:Obj->SH}(ho:ev E o=some (.pointer (some ⟨b,0,none⟩)))(hp:ev E p=some (.agg ⟨vs⟩))[hZ:Zm x.P t n][hU:Upd b L (.cells ⟨l⟩ T (0,0)) f](hn:vs.length=n)(hl:l.length=n)(h1:vs.all (·.oneCell')=true)
  (k:TL x ops rest Q E ρ (f (.cells ⟨vs⟩ T (0,0)))) :
  TL x ops (⟨none,.store t o p,ty,pos,af,none⟩::rest) Q E ρ L:=
 tl_store_a ho hp hn h1 (ble_le (by omega)) (by
  have:stc l 0 vs=vs:=by simp[stc,hn,<-hl]
  rw[this];exact k)
theorem y_fieldAddr0 {o:Operand}{s f b d ft:Nat}(h:ev E o=some (.pointer (some ⟨b,0,none⟩)))[hF:Zw x.P s f d ft]:Yl x (.fieldAddr s o f) ty E ρ L (.pointer (some ⟨b,d,none⟩)):=by
 have:=y_fieldAddr (x:=x) (E:=E) (ρ:=ρ) (L:=L) (ty:=ty) h (hF:=hF)
 simpa using this
theorem y_indexAddr_nat {o i:Operand}{t e sz b off len cap:Nat}{k:IntKind}{n:Nat}(h:ev E o=some (.slice (some ⟨b,off,none⟩) len cap))(hi:ev E i=some (.int k (n:Int)))[hS:ZE x.P t e][hZ:Zm x.P e sz](h1:n<len) :
  Yl x (.indexAddr t o i) ty E ρ L (.pointer (some ⟨b,off+n*sz,none⟩)):=by
 have:=y_indexAddr (x:=x) (E:=E) (ρ:=ρ) (L:=L) (ty:=ty) h hi (hS:=hS) (hZ:=hZ) (by omega) (by omega)
 simpa using this
theorem tl_buildSlice0 {d t e sz:Nat}[hS:ZE x.P t e][hZ:Zm x.P e sz](hd:Nat.blt d x.N=true)
  (k:∀b,TL x ops rest Q ((d,.slice (some ⟨b,0,none⟩) 0 0)::E) ρ ([(b,.cells ⟨[]⟩ e (0,0))]::L)) :
  TL x ops (⟨some d,.buildSlice t 0 ⟨[]⟩,ty,pos,af,none⟩::rest) Q E ρ L:=
 tl_new (g:=λ b=>.slice (some ⟨b,0,none⟩) 0 0) (λ a w ha hw=>by
  obtain⟨i,g1,g2⟩:=hZ.out
  have e0:(Array.map (λ x:Nat=>(default:Value)) (Array.range 0))=⟨[]⟩:=by simp[Array.range]
  simp[execOp,Instr.buildSlice,underlying,hS.out,sizeOf,typeInfo,g1,newRow,Instr.fill,e0]) hd rfl k
theorem ys_of' {S:World->Prop}{op ty v}{Ls:SH}(hS:∀w,S w->Zv x ρ Ls w)(h:∀ρ',ρ.le ρ'->Yl x op ty E ρ' Ls v):YS x S op ty E v:=λ a w dst pos after guard ha hs=>by
 obtain⟨ρ',hle,hw⟩:=hS w hs
 exact h ρ' hle a w dst pos after guard ha hw
theorem Sat.cell {u:World}{w:World}{b off:Nat}{l:List Value}{T:TypeId}{fr:Nat×Nat}{v:Value}(hw:Sat u ρ L w)[hF:Find b L (.cells ⟨l⟩ T fr)](h:l[off]?=some v):w.cell? ⟨b,off,none⟩=some v:=by
 simp[World.cell?,hw.find hF,h]
end
def Zk (b:UInt8):Value:=.int .u8 b.toNat
theorem ZH (l:List UInt8):(l.map Zk).all (·.oneCell')=true:=by
 rw[List.all_eq_true];intro v hv;obtain⟨b,_,rfl⟩:=List.mem_map.1 hv;rfl
section
variable {x:Cx}{Q:Exit->Act->World->Prop}{E:Env}{ρ:Hp}{L:SH}{ops:Array Oper}{rest:List Oper}{ty:TypeId}{pos:String}{af:Array Edge}
class Zn (P:Program)(t:TypeId):Prop where
 out:P.eqGuardType P.depth t=false
theorem y_eq_bytes {o:BinOp}{p q:Operand}{t t' n e:Nat}{l m:List UInt8}{b:Bool}[hA:WY x.P t n e][hE:YV x.P e .u8][hz:Zm x.P e 1][hG:Zn x.P t](h1:ev E p=some (.agg ⟨l.map Zk⟩))(h2:ev E q=some (.agg ⟨m.map Zk⟩))
  (hl:l.length=n) (hm:m.length=n) (hb:eqB o (l == m)=some b):Yl x (.binOp o t p q t') ty E ρ L (.bool b):=λ a w _ _ _ _ ha _=>by
 obtain⟨i,g1,g2⟩:=hz.out
 have hsz:∀w,(sizeOf e).run x.P w=.ok 1 w:=λ w=>by simp[sizeOf,typeInfo,g1,g2]
 have hr:=run_equalIn_bytes (P:=x.P) w 9998 t e n hA.out hE.out hsz l m hl hm
 have e1:∀l:List UInt8,(l.map Extern.Stop.cell).toArray=⟨l.map Zk⟩:=λ l=>rfl
 rw[e1,e1] at hr
 have hg:=run_eqGuard_agg (P:=x.P) (w:=w) o t p q ⟨l.map Zk⟩ ⟨m.map Zk⟩ hG.out
 cases o<;>simp only[eqB,Option.some.injEq,reduceCtorEq] at hb<;>subst hb
 ·have hb:=run_eql_struct (P:=x.P) (w:=w) t ⟨l.map Zk⟩ ⟨m.map Zk⟩
  rw[hr] at hb
  simp only[execOp,ha.eval h1,ha.eval h2,Sem.run_bind,hg,Result.andThen_ok,hb,Sem.run_pure]
 ·have hb:=run_neq_struct (P:=x.P) (w:=w) t ⟨l.map Zk⟩ ⟨m.map Zk⟩
  rw[hr] at hb
  simp only[execOp,ha.eval h1,ha.eval h2,Sem.run_bind,hg,Result.andThen_ok,hb,Sem.run_pure]
end
instance (priority:=800) Find.app {b:Nat}{X L:SH}{o:Obj}[h:Find b L o]:Find b (X++L) o:=⟨by
 simp only[List.flatten_append,List.mem_append];exact .inr h.out⟩
instance (priority:=800) Upd.app {b:Nat}{X L:SH}{o:Obj}{f:Obj->SH}[h:Upd b L o f]:Upd b (X++L) o (λ o'=>X++f o'):=by
 obtain⟨pre,post,h1,h2⟩:=h.out
 exact⟨X++pre,post,by simp[h1],λ o'=>by simp[h2]⟩
instance (priority:=800) Rem.app {c:List (Nat×Obj)}{X L L':SH}[h:Rem c L L']:Rem c (X++L) (X++L'):=rem_app' h
instance (priority:=800) Ends.app {G R X:SH}[h:Ends G R]:Ends (X++G) R:=⟨by
 simp only[List.flatten_append];exact h.out.trans (List.sublist_append_right _ _)⟩
theorem fill_scalars:∀(vs:List Value) (k:Nat) (done rest:List Value),done.length=k->rest.length=vs.length->vs.all (·.oneCell')=true ->
  Instr.fill (λ i=>some (i*1,1)) ⟨done++rest⟩ ((List.range' k vs.length).zip vs)=some ⟨done++vs⟩
 | [],k,done,rest,h1,h2,h3=>by
  have:rest=[]:=by simpa using h2
  simp[Instr.fill,this]
 | v::vs,k,done,rest,h1,h2,h3=>by
  obtain⟨r,rest',rfl⟩:∃r rest',rest=r::rest':=by
   cases rest with
   | nil=>simp at h2
   | cons r t=>exact⟨r,t,rfl⟩
  simp only[List.all_cons,aE] at h3
  have hc:=Vb h3.1
  have hset:(⟨done++r::rest'⟩:Array Value).setIfInBounds (k*1+0) v=⟨(done++[v])++rest'⟩:=by
   simp[List.set_append,h1]
  have ih:=fill_scalars vs (k+1) (done++[v]) rest' (by simp[h1]) (by simpa using h2) h3.2
  simp only[aC,List.range'_succ,List.zip_cons_cons,Instr.fill,hc]
  have hz:(⟨[v]⟩:Array Value).zipIdx=#[(v,0)]:=by simp[Array.zipIdx]
  have hsz:¬((⟨[v]⟩:Array Value).size≠1\/k*1+(⟨[v]⟩:Array Value).size > (⟨done++r::rest'⟩:Array Value).size):=by simp[h1]
  simp only[hz]
  have hif:(decide ((⟨[v]⟩:Array Value).size≠1) || decide (k*1+(⟨[v]⟩:Array Value).size > (⟨done++r::rest'⟩:Array Value).size))=false:=by
   simp[h1]
  simp only[hif,aB,if_false]
  rw[show Array.foldl (λ cs (x:Value×Nat)=>cs.setIfInBounds (k*1+x.2) x.1) (⟨done++r::rest'⟩:Array Value) #[(v,0)]=(⟨done++r::rest'⟩:Array Value).setIfInBounds (k*1+0) v from by simp]
  rw[hset,ih]
  simp
theorem take_append' {L S R1 Lf R:SH}(h:Xj L S R1)(k:Xj R1 Lf R):Xj L (S++Lf) R:=⟨by
 refine h.out.trans ?_
 simp only[List.flatten_append,aA]
 exact List.Perm.append_left _ (by simpa using k.out)⟩
theorem ZR {x:Cx}{e:Exit}{Q:Exit->Act->World->Prop}{E:Env}{ρ:Hp}{L L':SH}(c:List (Nat×Obj))[h:Rem c L L'](k:TE x e Q E ρ (c::L')):TE x e Q E ρ L:=λ a w ha hw=>
 k a w ha (hw.perm (by simpa using h.out))
section
variable {x:Cx}{Q:Exit->Act->World->Prop}{E:Env}{ρ:Hp}{L:SH}{ops:Array Oper}{rest:List Oper}{ty:TypeId}{pos:String}{af:Array Edge}
theorem Zl {d t e len:Nat}{z:Value}{ps:List (Nat×Operand)}{vs:List Value}[hS:ZE x.P t e][hZ:Zm x.P e 1][hz:Zf x.P e z](hv:evs E (ps.map (·.2))=some vs)(hz1:z.oneCell'=true)
  (hix:ps.map (·.1)=List.range' 0 vs.length) (hlen:vs.length=len) (h0:(0<len/\len<=16777216)=True) (h1:vs.all (·.oneCell')=true) (hd:Nat.blt d x.N=true)
  (k:∀b,TL x ops rest Q ((d,.slice (some ⟨b,0,none⟩) len len)::E) ρ ([(b,.cells ⟨vs⟩ e (0,0))]::L)) :
  TL x ops (⟨some d,.buildSlice t len ⟨ps⟩,ty,pos,af,none⟩::rest) Q E ρ L:=by
 refine tl_buildSlice (sz:=1) hv (by simpa using h0) ?_ hd k
 rw[hix]
 have:=fill_scalars vs 0 [] (List.replicate len z) rfl (by simp[hlen]) h1
 simp only[List.nil_append] at this
 have hcell:Array.map (λ i:Nat=>z.cells[i % z.cells.size]!) (Array.range (len*1))=⟨List.replicate len z⟩:=by
  rw[Vb hz1]
  apply Array.ext'
  apply List.ext_getElem
  ·simp
  ·intro i h1 h2
   simp[Nat.mod_one]
 rw[hcell];exact this
end
section
variable {x:Cx}{Q:Exit->Act->World->Prop}{E:Env}{ρ:Hp}{L L1:SH}{ops:Array Oper}{rest tail:List Oper}{ty:TypeId}{pos:String}{af:Array Edge}
theorem y_slice_h {o h:Operand}{t e sz len cap:Nat}{a:Option Addr}{k:IntKind}{n:Int}(ho:ev E o=some (.slice a len cap))(hh:ev E h=some (.int k n))[hS:ZE x.P t e][hZ:Zm x.P e sz](h0:0<=n)(h1:n<=cap) :
  Yl x (.slice t o none (some h) none) ty E ρ L (.slice a n.toNat cap):=λ a' w _ _ _ _ ha hw=>by
 obtain⟨inf,g1,g2⟩:=hZ.out
 have hel:x.P.elem t=e:=by simp[Program.elem,hS.out]
 have ht:x.P.underlying t=some (.slice (x.P.elem t)):=by rw[hel];exact hS.out
 have ea:(if cap=0 then a else a.map (·.add (0*sz)))=a:=by
  split
  ·rfl
  ·cases a with
   | none=>rfl
   | some a=>simp[Addr.add]
 have:=run_slice_h (P:=x.P) (w:=w) t a len cap ht k n h0 h1
 simp only[execOp,ha.eval ho,ha.eval hh,Option.map_some,Option.map_none,Sem.run_bind,run_sliceAt_slice _ _ _ _ _ _ ht,this,sizeOf,typeInfo,hel]
 simp only[run_program,g1,Sem.run_pure,Result.andThen_ok,sliced,g2,Nat.sub_zero,ea]
theorem y_append0 {s y:Operand}{t e sz n cap cy:Nat}{a ay:Option Addr}[hS:ZE x.P t e][hZ:Zm x.P e sz](hs:ev E s=some (.slice a n cap))(hy:ev E y=some (.slice ay 0 cy))(hn:n<=cap) :
  Yl x (.call { callee:=.builtin .append,args:=#[s,y],argTypes:=#[t,t] }) ty E ρ L (.slice a n cap):=λ a' w _ _ _ _ ha hw=>by
 obtain⟨inf,g1,g2⟩:=hZ.out
 have hsrc:Go.Src x.P inf.size t (.slice ay 0 cy) 0 [] w:=by
  cases ay with
  | none=>exact Go.Src.ofNil w hS.out cy
  | some ad=>exact Go.Src.ofSlice w hS.out ad 0 cy [] (by simp) (by simp) (by simp)
 have hr:=run_append_nothing (P:=x.P) w t t ty e inf hS.out g1 a n cap hn (.slice ay 0 cy) hsrc
 simp only[execOp,resolve,Sem.run_bind,Sem.run_pure,Result.andThen_ok,invoke,builtin]
 have hargs:Array.map a'.eval #[s,y]=#[.slice a n cap,.slice ay 0 cy]:=by simp[ha.eval hs,ha.eval hy]
 rw[hargs,hr]
 rfl
theorem y_indexAddr_arrN {o i:Operand}{t len e sz b off n:Nat}{k:IntKind}(h:ev E o=some (.pointer (some ⟨b,off,none⟩)))(hi:ev E i=some (.int k (n:Int)))[hS:WY x.P t len e][hZ:Zm x.P e sz](h1:n<len) :
  Yl x (.indexAddr t o i) ty E ρ L (.pointer (some ⟨b,off+n*sz,none⟩)):=by
 have:=WT (x:=x) (E:=E) (ρ:=ρ) (L:=L) (ty:=ty) h hi (hS:=hS) (hZ:=hZ) (by omega) (by omega)
 simpa using this
end
instance Ends.napp {L R:SH}[h:Ends L R]:Ends (List.append [] L) R:=h
instance (priority:=700) Ends.lapp {X L R:SH}[h:Ends L R]:Ends (List.append X L) R:=Ends.app (X:=X)
theorem fill_cons {pl:Nat->Option (Nat×Nat)}{i off size:Nat}{v:Value}{cells cs:List Value}{rest:List (Nat×Value)}(hp:pl i=some (off,size))(hv:v.cells=⟨cs⟩)(hs:cs.length=size)(hf:off+size<=cells.length) :
  Instr.fill pl ⟨cells⟩ ((i,v)::rest)=Instr.fill pl ⟨stc cells off cs⟩ rest:=by
 have key:∀(cs:List Value) (k:Nat) (l:List Value),off+k+cs.length<=l.length->List.foldl (λ (acc:Array Value) (x:Value×Nat)=>acc.setIfInBounds (off+x.2) x.1) ⟨l⟩ (cs.zipIdx k)=⟨stc l (off+k) cs⟩:=by
  intro cs
  induction cs with
  | nil=>intro k l h;simp[stc]
  | cons c r ih=>
   intro k l h
   simp only[List.zipIdx_cons,List.foldl_cons]
   have e:(⟨l⟩:Array Value).setIfInBounds (off+k) c=⟨l.set (off+k) c⟩:=by simp
   rw[e,ih (k+1) (l.set (off+k) c) (by simp at h ⊢;omega)]
   congr 1
   simp only[stc,aC] at h ⊢
   have h1:(l.set (off+k) c).take (off+(k+1))=l.take (off+k)++[c]:=by
    rw[show off+(k+1)=(off+k)+1 by omega,aG (by simp;omega)]
    simp[List.take_set_of_le]
   have h2:(l.set (off+k) c).drop (off+(k+1)+r.length)=l.drop (off+k+(r.length+1)):=by
    rw[List.drop_set_of_lt (by omega)]
    congr 1;omega
   rw[h1,h2];simp
 simp only[Instr.fill,hp,hv]
 have hc:(decide ((⟨cs⟩:Array Value).size≠size) || decide (off+(⟨cs⟩:Array Value).size > (⟨cells⟩:Array Value).size))=false:=by
  simp[hs];omega
 rw[if_neg (by simp[hs];omega)]
 congr 1
 have:=key cs 0 cells (by omega)
 simp only[Nat.add_zero] at this
 rw[<-this]
 simp[Array.zipIdx,List.mapIdx_eq_zipIdx_map]
class GetP (pl:List (Nat×Nat))(i:Nat)(off:outParam Nat):Prop where
 out:pl[i]?=some (off,1)
instance GetP.zero {off:Nat}{r:List (Nat×Nat)}:GetP ((off,1)::r) 0 off:=⟨rfl⟩
instance GetP.succ {p:Nat×Nat}{r:List (Nat×Nat)}{i off:Nat}[h:GetP r i off]:GetP (p::r) (i+1) off:=⟨by simpa using h.out⟩
class BuildL (pl:List (Nat×Nat))(cells:List Value)(ps:List (Nat×Operand))(vs:List Value)(out:outParam (List Value)):Prop where
 out:vs.all (·.oneCell')=true->Instr.fill (pl[·]?) ⟨cells⟩ ((ps.map (·.1)).zip vs)=some ⟨out⟩
instance BuildL.nil {pl:List (Nat×Nat)}{cells:List Value}:BuildL pl cells [] [] cells:=⟨λ _=>rfl⟩
instance BuildL.cons {pl:List (Nat×Nat)}{cells cells' out:List Value}{i off:Nat}{o:Operand}{ps:List (Nat×Operand)}{v:Value}{vs:List Value}[h1:GetP pl i off][h2:SetL cells off v cells'][h3:BuildL pl cells' ps vs out]:BuildL pl cells ((i,o)::ps) (v::vs) out:=⟨λ hone=>by
 simp only[List.all_cons,aE] at hone
 simp only[List.map_cons,List.zip_cons_cons]
 have hlt:=h2.out.1
 rw[fill_cons (pl:=(pl[·]?)) h1.out (Vb hone.1) rfl (by omega),h2.out.2]
 exact h3.out hone.2⟩
theorem hp_get {ρ ρ':Hp}{b:Nat}{o:Obj}(h:ρ.le ρ')(hb:ρ b=some o):ρ' b=some o:=h _ _ hb
class Ze (P:Program)(t:TypeId)(b:outParam Bool):Prop where
 out:∃d,P.underlying t=some d/\(match d with|.interface _=>true|_=>false)=b
def isIfaceD:TypeDesc->Bool
 | .interface _=>true
 | _=>false
theorem mkTyIface {P:Program}{t:TypeId}{b:Bool}(h:(P.underlying t).map isIfaceD=some b):Ze P t b:=by
 obtain⟨d,hd,he⟩:=Option.map_eq_some_iff.1 h
 exact⟨d,hd,by cases d<;>simp_all[isIfaceD]⟩
section
variable {x:Cx}{Q:Exit->Act->World->Prop}{E:Env}{ρ:Hp}{L:SH}{ops:Array Oper}{rest:List Oper}{ty:TypeId}{pos:String}{af:Array Edge}
theorem run_equal_slice_nil {P:Program}{t e:TypeId}(hP:ZE P t e)(s:Option Addr)(n c:Nat)(w:World):(Op.equal t (.slice s n c) (.slice none 0 0)).run P w=.ok s.isNone w:=by
 have hd:Op.maxDepth=9999+1:=rfl
 rw[Op.equal,hd,Op.equalIn]
 simp only[Sem.run_bind,underlying,run_program,Result.andThen_ok,hP.out,Sem.run_pure]
 cases s<;>rfl
theorem run_equal_map_nil {P:Program}{t k e:TypeId}(hP:WZ P t k e)(s:Option Nat)(w:World):(Op.equal t (.map s) (.map none)).run P w=.ok s.isNone w:=by
 have hd:Op.maxDepth=9999+1:=rfl
 rw[Op.equal,hd,Op.equalIn]
 simp only[Sem.run_bind,underlying,run_program,Result.andThen_ok,hP.out,Sem.run_pure]
 cases s<;>rfl
theorem y_slice_nil {o:BinOp}{p q:Operand}{t t' e:TypeId}{s:Option Addr}{n c:Nat}{b:Bool}[hP:ZE x.P t e](h1:ev E p=some (.slice s n c))(h2:ev E q=some (.slice none 0 0))
  (hb:eqB o s.isNone=some b):Yl x (.binOp o t p q t') ty E ρ L (.bool b):=
 y_eq h1 h2 rfl (λ w=>run_equal_slice_nil hP s n c w) hb
theorem y_map_nil {o:BinOp}{p q:Operand}{t t' k e:TypeId}{s:Option Nat}{b:Bool}[hP:WZ x.P t k e](h1:ev E p=some (.map s))(h2:ev E q=some (.map none))
  (hb:eqB o s.isNone=some b):Yl x (.binOp o t p q t') ty E ρ L (.bool b):=
 y_eq h1 h2 rfl (λ w=>run_equal_map_nil hP s w) hb
theorem y_makeInterface {p:Operand}{t:TypeId}{v:Value}[hI:Ze x.P t false](h:ev E p=some v):Yl x (.makeInterface t p) ty E ρ L (.iface t v):=λ a w _ _ _ _ ha _=>by
 obtain⟨d,h1,h2⟩:=hI.out
 cases d<;>simp at h2<;>simp[execOp,ha.eval h,Instr.makeInterface,underlying,h1]
theorem y_typeAssert {p:Operand}{xt t:TypeId}{v:Value}[hI:Ze x.P t false](h:ev E p=some (.iface t v)):Yl x (.typeAssert p xt t false) ty E ρ L v:=λ a w _ _ _ _ ha _=>by
 obtain⟨d,h1,h2⟩:=hI.out
 cases d<;>simp at h2<;>simp[execOp,ha.eval h,Instr.typeAssert,underlying,h1]
theorem y_buildS {t:Nat}{pl:List (Nat×Nat)}{z out:List Value}{ps:List (Nat×Operand)}{vs:List Value}[hP:Zj x.P t (pl[·]?)][hz:Zf x.P t (.agg ⟨z⟩)](hv:evs E (ps.map (·.2))=some vs)(h1:vs.all (·.oneCell')=true)
  [hB:BuildL pl z ps vs out]:Yl x (.build t ⟨ps⟩) ty E ρ L (.agg ⟨out⟩):=
 y_build (z:=.agg ⟨z⟩) hv (hB.out h1)
end
theorem fill_flat {sz:Nat}(h0:0<sz):∀(css:List (List Value)) (vs:List Value) (k:Nat) (done rest:List Value),done.length=k*sz->rest.length=css.length*sz->vs.map (·.cells)=css.map (λ c=>(⟨c⟩:Array Value))->(∀c∈css,c.length=sz) ->
  Instr.fill (λ i=>some (i*sz,sz)) ⟨done++rest⟩ ((List.range' k css.length).zip vs)=some ⟨done++css.flatten⟩
 | [],vs,k,done,rest,h1,h2,h3,h4=>by
  have:rest=[]:=by simpa using h2
  simp[Instr.fill,this]
 | c::css,[],k,done,rest,h1,h2,h3,h4=>by simp at h3
 | c::css,v::vs,k,done,rest,h1,h2,h3,h4=>by
  simp only[List.map_cons,List.cons.injEq] at h3
  have hc:=h4 c (by simp)
  simp only[aC,Nat.add_mul,Nat.one_mul] at h2
  have hst:stc (done++rest) (k*sz) c=(done++c)++rest.drop sz:=by
   unfold stc
   rw[<-h1,List.take_left,List.drop_append,List.drop_eq_nil_of_le (by omega),hc]
   simp
  simp only[aC,List.range'_succ,List.zip_cons_cons]
  rw[fill_cons (size:=sz) rfl h3.1 hc (by simp;omega),hst]
  have:=fill_flat h0 css vs (k+1) (done++c) (rest.drop sz) (by simp[h1,hc,Nat.add_mul]) (by simp;omega) h3.2 (λ d hd=>h4 d (by simp[hd]))
  rw[this];simp
section
variable {x:Cx}{Q:Exit->Act->World->Prop}{E:Env}{ρ:Hp}{L:SH}{ops:Array Oper}{rest:List Oper}{ty:TypeId}{pos:String}{af:Array Edge}
theorem Ys {d t e len sz:Nat}{z:Value}{ps:List (Nat×Operand)}{vs:List Value}{css:List (List Value)}[hS:ZE x.P t e][hZ:Zm x.P e sz][hz:Zf x.P e z](hv:evs E (ps.map (·.2))=some vs)
  (hcs:vs.map (·.cells)=css.map (λ c=>(⟨c⟩:Array Value))) (hix:ps.map (·.1)=List.range' 0 css.length) (hlen:css.length=len) (hsz:∀c∈css,c.length=sz) (h0:(0<sz/\0<len*sz/\len*sz<=16777216)=True) (hd:Nat.blt d x.N=true)
  (k:∀b,TL x ops rest Q ((d,.slice (some ⟨b,0,none⟩) len len)::E) ρ ([(b,.cells ⟨css.flatten⟩ e (0,0))]::L)) :
  TL x ops (⟨some d,.buildSlice t len ⟨ps⟩,ty,pos,af,none⟩::rest) Q E ρ L:=by
 obtain⟨g0,g1,g2⟩:=of_eq_true h0
 refine tl_buildSlice (sz:=sz) hv (by simp[g1,g2]) ?_ hd k
 rw[hix]
 have:=fill_flat g0 css vs 0 [] ((Array.range (len*sz)).map (λ i:Nat=>z.cells[i % z.cells.size]!)).toList (by simp) (by simp[hlen]) hcs hsz
 simp only[List.nil_append] at this
 exact this
theorem Zt {l:List Oper}{L':SH}(c:List (Nat×Obj))[h:Rem c L L'](k:∀ρ',ρ.le ρ'->(∀p∈c,ρ' p.1=some p.2)->TL x ops l Q E ρ' L'):TL x ops l Q E ρ L:=λ a w ha hw=>by
 obtain⟨h1,h2,h3⟩:=(hw.perm (L':=c::L') (by simpa using h.out)).freeze
 exact k _ h2 h3 a w ha h1
theorem ZB {e:Exit}{L':SH}(c:List (Nat×Obj))[h:Rem c L L'](k:∀ρ',ρ.le ρ'->(∀p∈c,ρ' p.1=some p.2)->TE x e Q E ρ' L'):TE x e Q E ρ L:=λ a w ha hw=>by
 obtain⟨h1,h2,h3⟩:=(hw.perm (L':=c::L') (by simpa using h.out)).freeze
 exact k _ h2 h3 a w ha h1
theorem Vn {y:Code}{L':SH}(c:List (Nat×Obj))[h:Rem c L L'](k:∀ρ',ρ.le ρ'->(∀p∈c,ρ' p.1=some p.2)->TC x y Q E ρ' L'):TC x y Q E ρ L:=λ a w ha hw=>by
 obtain⟨h1,h2,h3⟩:=(hw.perm (L':=c::L') (by simpa using h.out)).freeze
 exact k _ h2 h3 a w ha h1
theorem y_shr {p q:Operand}{t t':TypeId}{k k':IntKind}{m n:Int}{c:Nat}(h1:ev E p=some (.int k m))(h2:ev E q=some (.int k' n))(h0:0<=n)(hc:min n.toNat k.bits=c):Yl x (.binOp .shr t p q t') ty E ρ L (.int k (m / 2 ^ c)):=λ a w _ _ _ _ ha _=>by
 have hn:¬n<0:=by omega
 have hp:(0:Int)<=2 ^ c:=by exact Int.le_of_lt (Int.pow_pos (by decide))
 have hf:m.fdiv (2 ^ c)=m / 2 ^ c:=Int.fdiv_eq_ediv_of_nonneg m hp
 simp[execOp,ha.eval h1,ha.eval h2,eqGuard,binOp,Op.shift,hn,hc,hf]
theorem y_shl {p q:Operand}{t t':TypeId}{k k':IntKind}{m n:Int}{c:Nat}(h1:ev E p=some (.int k m))(h2:ev E q=some (.int k' n))(h0:0<=n)(hc:min n.toNat k.bits=c):Yl x (.binOp .shl t p q t') ty E ρ L (.int k (k.wrap (m*2 ^ c))):=λ a w _ _ _ _ ha _=>by
 have hn:¬n<0:=by omega
 simp[execOp,ha.eval h1,ha.eval h2,eqGuard,binOp,Op.shift,hn,hc]
theorem y_neg {p:Operand}{t:TypeId}{k:IntKind}{n:Int}(h1:ev E p=some (.int k n)):Yl x (.unOp .neg t p) ty E ρ L (.int k (k.wrap (0-n))):=λ a w _ _ _ _ ha _=>by
 simp[execOp,ha.eval h1,Op.unary,Op.intArith]
theorem y_cap {p:Operand}{t e:TypeId}{s:Option Addr}{n c:Nat}[hS:ZE x.P t e](h:ev E p=some (.slice s n c)):Yl x (.call { callee:=.builtin .cap,args:=#[p],argTypes:=#[t] }) ty E ρ L (.int .i64 c):=λ a w _ _ _ _ ha _=>by
 simp[execOp,ha.eval h,resolve,invoke,builtin,Builtin.cap_,underlying,hS.out,goInt]
class TyBool (P:Program)(t:TypeId):Prop where
 out:P.underlying t=some .bool
theorem run_equal_bool {P:Program}{t:TypeId}(hP:TyBool P t)(b c:Bool)(w:World):(Op.equal t (.bool b) (.bool c)).run P w=.ok (b == c) w:=by
 have hd:Op.maxDepth=9999+1:=rfl
 rw[Op.equal,hd,Op.equalIn]
 simp only[Sem.run_bind,underlying,run_program,Result.andThen_ok,hP.out,Sem.run_pure]
theorem y_bool_eq {o:BinOp}{p q:Operand}{t t':TypeId}{b c r:Bool}[hP:TyBool x.P t](h1:ev E p=some (.bool b))(h2:ev E q=some (.bool c))(hr:eqB o (b == c)=some r):Yl x (.binOp o t p q t') ty E ρ L (.bool r):=
 y_eq h1 h2 rfl (λ w=>run_equal_bool hP b c w) hr
theorem eqB_bool_self {b:Bool}:eqB .eql (b == b)=some true:=by simp[eqB]
theorem eqB_bool_nself {b:Bool}:eqB .neq (b == b)=some false:=by simp[eqB]
theorem run_slice_lh {P:Program}{w:World}{t e sz:Nat}{a:Option Addr}{len cap:Nat}(ht:P.underlying t=some (.slice e))(hsz:(sizeOf e).run P w=.ok sz w){lo hi':Option Value}{l h:Nat}
  (hl:(match lo with|some v=>∃k,v=.int k (l:Int)|none=>l=0)) (hh:(match hi' with|some v=>∃k,v=.int k (h:Int)|none=>h=len)) (h1:l<=h) (h2:h<=cap) (h3:len<=cap) :
  (Instr.slice t (.slice a len cap) lo hi' none).run P w=.ok (.slice (if cap=l then a else a.map (·.add (l*sz))) (h-l) (cap-l)) w:=by
 cases lo with
 | none=>
  cases hi' with
  | none=>subst hl;subst hh;simp[Instr.slice,underlying,ht,Instr.sliceBounds,hsz]
  | some v=>subst hl;obtain⟨k,rfl⟩:=hh;simp[Instr.slice,underlying,ht,Instr.sliceBounds,Instr.sliceBound,asIntOf,h2,hsz]
 | some u=>
  obtain⟨k,rfl⟩:=hl
  cases hi' with
  | none=>subst hh;simp[Instr.slice,underlying,ht,Instr.sliceBounds,Instr.sliceBound,asIntOf,h1,hsz]
  | some v=>obtain⟨k',rfl⟩:=hh;simp[Instr.slice,underlying,ht,Instr.sliceBounds,Instr.sliceBound,asIntOf,h1,h2,hsz]
end
end Go.Proofs.E
namespace Go.Proofs.E
open Go Go.Lib
def noGotoQ (Q:Exit->Act->World->Prop):Exit->Act->World->Prop
 | .goto _,_,_=>False
 | e,a,w=>Q e a w
theorem Vk {P:Program}{b:Frame}{a:Act}{k:List Item}{cs:List Frame}{w:World}{c:Code}:step P (lone (b.atR a (.code (.scope c)::k)) cs w)=.next (lone (b.atR a (.code c::.inScope c::k)) cs w):=
 step_lone_go (by simp[stepG,stepG.exec,Frame.atR])
theorem stepR_inScope {P:Program}{b:Frame}{a:Act}{k:List Item}{cs:List Frame}{w:World}{c:Code}:step P (lone (b.atR a (.inScope c::k)) cs w)=.next (lone (b.atR a k) cs w):=
 step_lone_go (by simp[stepG,stepG.exec,Frame.atR])
theorem wpIn_scope {F:Fence}{n:Nat}{P:Program}{a:Act}{w:World}{Q:Exit->Act->World->Prop}{c:Code}(h:c.wpIn F n P (noGotoQ Q) a w):(Code.scope c).wpIn F n P Q a w:=by
 intro b k cs hro hb hr
 have h0:(lone (b.atR a (.code (.scope c)::k)) cs w).fenced P F:=fenced_calm hb hr rfl
 obtain⟨e,a₁,w₁,hq,harr⟩:=h b (.inScope c::k) cs hro hb hr
 cases e with
 | normal=>exact⟨.normal,a₁,w₁,hq,.head h0 Vk (StepsIn.trans harr (.one (fenced_calm hb hr rfl) stepR_inScope))⟩
 | exit id=>
  have hx:exitTo id (.inScope c::k)=exitTo id k:=by simp[exitTo]
  exact⟨.exit id,a₁,w₁,hq,λ k' hk=>.head h0 Vk (harr.1 k' (by rw[hx];exact hk)),
   λ hr' hk=>let ⟨k₁,h1,h2⟩:=harr.2 hr' (by rw[hx];exact hk);⟨k₁,h1,.head h0 Vk h2⟩⟩
 | goto l=>exact hq.elim
 | ret=>exact⟨_,a₁,w₁,hq,.of_steps (.one h0 Vk) harr⟩
 | panic ch=>exact⟨_,a₁,w₁,hq,.of_steps (.one h0 Vk) harr⟩
 | outgrown=>exact⟨_,a₁,w₁,hq,.of_steps (.one h0 Vk) harr⟩
section
variable {x:Cx}{Q:Exit->Act->World->Prop}{E:Env}{ρ:Hp}{L:SH}
theorem tc_scope {c:Code}(h:TC x c (noGotoQ Q) E ρ L):TC x (.scope c) Q E ρ L:=λ a w ha hw=>wpIn_scope (h a w ha hw)
theorem te_scope_normal (h:TE x .normal Q E ρ L):TE x .normal (noGotoQ Q) E ρ L:=h
theorem te_scope_exit {id}(h:TE x (.exit id) Q E ρ L):TE x (.exit id) (noGotoQ Q) E ρ L:=h
theorem te_scope_ret (h:TE x .ret Q E ρ L):TE x .ret (noGotoQ Q) E ρ L:=h
end
@[reducible] def strV (l:List UInt8):Value:=.string ⟨⟨l⟩⟩
theorem Xc (l:List UInt8):(⟨⟨l⟩⟩:ByteArray).size=l.length:=rfl
theorem str_extract (l:List UInt8)(a b:Nat):(⟨⟨l⟩⟩:ByteArray).extract a b=⟨⟨(l.drop a).take (b-a)⟩⟩:=by
 apply ByteArray.ext
 simp only[ByteArray.data_extract]
 apply Array.ext'
 simp[List.extract]
theorem strCells_eq (l:List UInt8):strCells ⟨⟨l⟩⟩=l.map Zk:=by simp[strCells,Zk]
section
variable {x:Cx}{Q:Exit->Act->World->Prop}{E:Env}{ρ:Hp}{L L1:SH}{ops:Array Oper}{rest tail:List Oper}{ty:TypeId}{pos:String}{af:Array Edge}
theorem y_len_str {p:Operand}{t:TypeId}{l:List UInt8}[hS:TyStr x.P t](h:ev E p=some (strV l)):Yl x (.call { callee:=.builtin .len,args:=#[p],argTypes:=#[t] }) ty E ρ L (.int .i64 l.length):=λ a w _ _ _ _ ha _=>by
 simp[execOp,ha.eval h,resolve,invoke,builtin,Builtin.len_,underlying,hS.out,goInt,Xc]
theorem y_slice_str_h {o h:Operand}{t:Nat}{l:List UInt8}{k:IntKind}{n:Int}(ho:ev E o=some (strV l))(hh:ev E h=some (.int k n))[hS:TyStr x.P t](h0:0<=n)(h1:n<=l.length) :
  Yl x (.slice t o none (some h) none) ty E ρ L (strV (l.take n.toNat)):=λ a' w _ _ _ _ ha hw=>by
 have:=run_slice_string_h (P:=x.P) w t ⟨⟨l⟩⟩ hS.out k n h0 (by rw[Xc];exact h1)
 rw[str_extract,List.drop_zero,Nat.sub_zero] at this
 simp only[execOp,ha.eval ho,ha.eval hh,Option.map_some,Option.map_none,Sem.run_bind,run_sliceAt_string _ _ _ _ _ _ hS.out,this,Result.andThen_ok,Sem.run_pure]
theorem y_slice_str_l {o h:Operand}{t:Nat}{l:List UInt8}{k:IntKind}{n:Int}(ho:ev E o=some (strV l))(hh:ev E h=some (.int k n))[hS:TyStr x.P t](h0:0<=n)(h1:n<=l.length) :
  Yl x (.slice t o (some h) none none) ty E ρ L (strV (l.drop n.toNat)):=λ a' w _ _ _ _ ha hw=>by
 have:=run_slice_string_l (P:=x.P) w t ⟨⟨l⟩⟩ hS.out k n h0 (by rw[Xc];exact h1)
 rw[str_extract,Xc,aT (by simp)] at this
 simp only[execOp,ha.eval ho,ha.eval hh,Option.map_some,Option.map_none,Sem.run_bind,run_sliceAt_string _ _ _ _ _ _ hS.out,this,Result.andThen_ok,Sem.run_pure]
theorem str_beq (l m:List UInt8):((⟨⟨l⟩⟩:ByteArray).toList == (⟨⟨m⟩⟩:ByteArray).toList)=decide (l=m):=by
 rw[ByteArray.toList_eq,ByteArray.toList_eq]
 by_cases h:l=m
 ·subst h;simp
 ·simp[h]
theorem y_str_eq {o:BinOp}{p q:Operand}{t t':TypeId}{l m:List UInt8}{r:Bool}(h1:ev E p=some (strV l))(h2:ev E q=some (strV m))(hr:eqB o (decide (l=m))=some r):Yl x (.binOp o t p q t') ty E ρ L (.bool r):=λ a w _ _ _ _ ha _=>by
 have hb:=str_beq l m
 cases o<;>simp only[eqB,Option.some.injEq,reduceCtorEq] at hr<;>subst hr<;>simp[execOp,ha.eval h1,ha.eval h2,eqGuard,binOp,Op.stringOp,<-hb,beq_toListBytes]
def SrcV (x:Cx)(ρ:Hp)(L:SH)(a:Option Addr)(ys:List Value):Prop:=ys=[]\/∃b off,a=some ⟨b,off,none⟩/\Src x ρ L b off ys
theorem y_conv_bs {p:Operand}{s t e:TypeId}{a:Option Addr}{n c:Nat}{l:List UInt8}[hT:TyStr x.P t][hS:ZE x.P s e][hE:YV x.P e .u8](h:ev E p=some (.slice a n c))(hs:SrcV x ρ L a (l.map Zk))(hn:l.length=n) :
  Yl x (.convert s t p) ty E ρ L (strV l):=λ a' w _ _ _ _ ha hw=>by
 have key:(Conv.bytesToString (.slice a n c)).run x.P w=.ok (strV l) w:=by
  by_cases h0:l=[]
  ·subst h0
   have hn0:n=0:=by simpa using hn.symm
   subst hn0
   cases a with
   | none=>simp[Conv.bytesToString];rfl
   | some ad=>
    have hl:(loadCells ad 0).run x.P w=.ok #[] w:=by simpa using run_loadCells_list (P:=x.P) w ad [] (by simp)
    have:=run_bytesToString (P:=x.P) w ad 0 c [] hl
    simp only[List.foldl_nil] at this
    exact this
  ·obtain⟨b,off,rfl,hsrc⟩:=hs.resolve_left (by simpa using h0)
   have hl:=run_loadCells_list (P:=x.P) w ⟨b,off,none⟩ (l.map Zk) (λ j v hj=>by rw[YY];exact hsrc w hw j v hj)
   have hmm:(l.map Zk)=(l.map λ b=>(b.toNat:Int)).map (Value.int .u8):=by simp[Zk]
   rw[List.length_map,hn,hmm] at hl
   have:=run_bytesToString (P:=x.P) w ⟨b,off,none⟩ n c _ hl
   rw[this]
   congr 1
   have hf:∀(l:List UInt8) (r:ByteArray),(l.map λ b=>(b.toNat:Int)).foldl (λ r n=>r.push (UInt8.ofNat n.toNat)) r=r++⟨⟨l⟩⟩:=by
    intro l
    induction l with
    | nil=>intro r;apply ByteArray.ext;simp
    | cons b l ih=>
     intro r
     simp only[List.map_cons,List.foldl_cons,ih]
     apply ByteArray.ext
     simp only[ByteArray.data_append,ByteArray.data_push,Int.toNat_natCast,UInt8.ofNat_toNat]
     apply Array.ext'
     simp
   rw[hf]
   congr 1
 have hsu:(underlying s).run x.P w=.ok (.slice e) w:=by simp[underlying,hS.out]
 have heu:(underlying e).run x.P w=.ok (.int .u8) w:=by simp[underlying,hE.out]
 have htu:(underlying t).run x.P w=.ok .string w:=by simp[underlying,hT.out]
 simp only[execOp,ha.eval h,convert,Sem.run_bind,hsu,htu,heu,Result.andThen_ok,key,Sem.run_pure]
theorem OwnS.slice {v n xs sp sz}(h:OwnS v n xs sp sz):∃a cap,v=.slice a n cap/\n<=cap:=by
 rcases h.out with⟨rfl,rfl,rfl,rfl⟩|⟨b,cap,rfl,h1,h2,h3⟩
 ·exact⟨none,0,rfl,aR _⟩
 ·exact⟨_,cap,rfl,h3⟩
theorem YA {d t e sz by' n m cx:Nat}{s y:Operand}{v z:Value}{xs sp ys:List Value}{a:Option Addr}[hS:ZE x.P t e][hZ:Zm x.P e sz][hB:Zd x.P e by'][hz:Zf x.P e z]
  (hs:ev E s=some v) (hy:ev E y=some (.slice a m cx)) (hown:OwnS v n xs sp sz) [hR:Rem (ZG v xs sp e) L L1] (hsrc:SrcV x ρ L1 a ys) (hlen:ys.length=m*sz)
  (h1:ys.all (·.oneCell')=true) (hsz:0<sz) (hzs:z.cells.toList.length=sz) (hb:(n+m)*by'<=140737488355328) (hm:n+m<=9223372036854775807) (hd:Nat.blt d x.N=true)
  (k:∀v' sp',OwnS v' (n+m) (xs++ys) sp' sz->TL x ops rest Q ((d,v')::E) ρ (ZG v' (xs++ys) sp' e::L1)) :
  TL x ops (⟨some d,.call { callee:=.builtin .append,args:=#[s,y],argTypes:=#[t,t] },ty,pos,af,none⟩::rest) Q E ρ L:=by
 by_cases h0:m=0
 ·subst h0
  have hy0:ys=[]:=List.eq_nil_of_length_eq_zero (by rw[hlen];simp)
  subst hy0
  obtain⟨a',cap,rfl,hc⟩:=hown.slice
  have:=k (.slice a' n cap) sp (by simpa using hown)
  rw[aN] at this
  exact tl_y (y_append0 hs hy hc) hd rfl (this.perm (by simpa using hR.out))
 ·have hne:ys≠[]:=λ h=>by
   rw[h] at hlen
   have:0<m*sz:=Nat.mul_pos (by omega) hsz
   simp at hlen;omega
  obtain⟨b,off,rfl,hsr⟩:=hsrc.resolve_left hne
  exact tl_append hs hy hown hsr hlen h1 (by omega) hzs hb hm hd k
theorem tl_app_str {d t u e n:Nat}{s y:Operand}{v:Value}{xs sp:List Value}{l:List UInt8}[hS:ZE x.P t e][hU:TyStr x.P u][hZ:Zm x.P e 1][hB:Zd x.P e 1][hz:Zf x.P e (.int .u8 0)]
  (hs:ev E s=some v) (hy:ev E y=some (strV l)) (hown:OwnS v n xs sp 1) [hR:Rem (ZG v xs sp e) L L1] (hb:n+l.length<=140737488355328) (hd:Nat.blt d x.N=true)
  (k:∀v' sp',OwnS v' (n+l.length) (xs++l.map Zk) sp' 1->TL x ops rest Q ((d,v')::E) ρ (ZG v' (xs++l.map Zk) sp' e::L1)) :
  TL x ops (⟨some d,.call { callee:=.builtin .append,args:=#[s,y],argTypes:=#[t,u] },ty,pos,af,none⟩::rest) Q E ρ L:=λ a w ha hw=>by
 refine Ye rfl rfl ?_
 have hw':=hw.perm (L':=ZG v xs sp e::L1) (by simpa using hR.out)
 have hwL:Sat x.u ρ L1 w:=hw'.sub (by simp)
 obtain⟨i,g1,g2⟩:=hZ.out
 obtain⟨i2,g3,g4⟩:=hB.out
 obtain⟨i3,g5,g6⟩:=hz.out
 rw[g1] at g3 g5
 cases g3;cases g5
 have hexec:∀(v':Value) (w':World),(Builtin.append_ #[t,u] ty #[v,strV l]).run x.P w=.ok v' w' ->
   (execOp a.eval ⟨some d,.call { callee:=.builtin .append,args:=#[s,y],argTypes:=#[t,u] },ty,pos,af,none⟩).run x.P w=.ok (.value v') w':=λ v' w' hr=>by
  simp only[execOp,resolve,Sem.run_bind,Sem.run_pure,Result.andThen_ok,invoke,builtin]
  have hargs:Array.map a.eval #[s,y]=#[v,strV l]:=by simp[ha.eval hs,ha.eval hy]
  rw[hargs,hr]
  rfl
 have hgc:∀(w:World) (need old:Nat),need<=grownCap w need old e:=λ w need old=>by simp only[grownCap,Question.cut];omega
 have hzc:(Value.int IntKind.u8 0).cells=#[Value.int .u8 0]:=rfl
 have hzl:∀c,(Builtin.zeroCells (Value.int IntKind.u8 0).cells c).toList.length=c:=λ c=>by
  have:=size_zeroCells (Value.int IntKind.u8 0).cells c
  rw[Array.length_toList,this,hzc];simp
 by_cases hl0:l=[]
 ·subst hl0
  obtain⟨a',cap,rfl,hc⟩:=hown.slice
  have hr:(Builtin.append_ #[t,u] ty #[.slice a' n cap,strV []]).run x.P w=.ok (.slice a' n cap) w:=by
   rcases hown.out with⟨e1,rfl,rfl,rfl⟩|⟨b,cap',e1,e2,e3,e4⟩
   ·cases e1
    have hf:=run_firstCells_string (P:=x.P) w 1 ⟨⟨[]⟩⟩
    simp[Builtin.append_,run_underlying hS.out,run_underlying hU.out,sizeOf,typeInfo,g1,g2,Builtin.lenOf,Xc] at hf ⊢
    simp[hf]
   ·cases e1
    have hbk:w.heap[b]?=some (.cells ⟨xs++sp⟩ e (0,0)):=hw'.here (b,.cells ⟨xs++sp⟩ e (0,0)) (by simp[ZG])
    have:=run_append_room_string (P:=x.P) w t u ty e i hS.out hU.out g1 g2 b n cap ⟨xs++sp⟩ hbk ⟨⟨[]⟩⟩ (by rw[Xc];simpa using e4) (by rw[Xc];simp;omega)
    rw[this]
    simp only[Xc,List.length_nil,Nat.add_zero,strCells_eq,List.map_nil,aN]
    congr 1
    rw[List.take_append_drop,setRow_eq hbk]
    have hq:=(Array.getElem?_eq_some_iff.1 hbk).1
    have hset:w.heap.setIfInBounds b (.cells ⟨xs++sp⟩ e (0,0))=w.heap:=by
     apply Array.ext_getElem?
     intro j
     by_cases hj:b=j
     ·subst hj;rw[hbk];simp[hq]
     ·rw[Array.getElem?_setIfInBounds_ne hj]
    unfold Vq
    rw[hset]
  rw[hexec _ _ hr]
  have:=k (.slice a' n cap) sp (by simpa using hown) _ w (ha.put (Nat.le_of_ble_eq_true hd) _) (by simpa using hw')
  exact this
 ·have hpos:0<l.length:=List.length_pos_iff.2 hl0
  rcases hown.out with⟨rfl,rfl,rfl,rfl⟩|⟨b,cap,rfl,e1,e2,e3⟩
  ·have hrun:=run_append_nil_string (P:=x.P) w t u ty e i _ hS.out hU.out g1 g6 ⟨⟨l⟩⟩ (by rw[Xc];exact hpos) (by rw[Xc];omega) (by rw[Xc,g4];omega)
   rw[hexec _ _ hrun]
   simp only[Xc] at *
   have hs2:=(hwL.drew).new (.cells ((⟨l⟩:Array UInt8).map (λ b=>Value.int .u8 b.toNat)++Builtin.zeroCells (Value.int .u8 0).cells (grownCap w l.length 0 e-l.length)) e (0,0))
   have hg:=hgc w l.length 0
   refine k (.slice (some ⟨w.heap.size,0,none⟩) (0+l.length) (grownCap w l.length 0 e)) (Builtin.zeroCells (Value.int .u8 0).cells (grownCap w l.length 0 e-l.length)).toList ?_ _ _ (by
    have:=ha.put (Nat.le_of_ble_eq_true hd) (.slice (some ⟨w.heap.size,0,none⟩) l.length (grownCap w l.length 0 e));simpa using this) ?_
   ·refine⟨.inr ⟨w.heap.size,grownCap w l.length 0 e,rfl,by simp, ?_,by omega⟩⟩
    rw[hzl];simp;omega
   ·have:ZG (.slice (some ⟨w.heap.size,0,none⟩) (0+l.length) (grownCap w l.length 0 e)) ([]++l.map Zk) (Builtin.zeroCells (Value.int .u8 0).cells (grownCap w l.length 0 e-l.length)).toList e=[(w.heap.size,.cells ((⟨l⟩:Array UInt8).map (λ b=>Value.int .u8 b.toNat)++Builtin.zeroCells (Value.int .u8 0).cells (grownCap w l.length 0 e-l.length)) e (0,0))]:=by
     simp only[ZG,List.nil_append]
     congr 3
     apply Array.ext';simp[Zk]
    rw[this]
    exact hs2
  ·have hbk:w.heap[b]?=some (.cells ⟨xs++sp⟩ e (0,0)):=hw'.here (b,.cells ⟨xs++sp⟩ e (0,0)) (by simp[ZG])
   by_cases hroom:n+l.length<=cap
   ·have hylen:(l.map Zk).length<=sp.length:=by simp;omega
    have hrun:=run_append_room_string (P:=x.P) w t u ty e i hS.out hU.out g1 g2 b n cap ⟨xs++sp⟩ hbk ⟨⟨l⟩⟩ (by rw[Xc];exact hroom) (by rw[Xc];simp;omega)
    rw[hexec _ _ hrun]
    simp only[Xc,strCells_eq]
    have hset:w.setRow b (List.take n (xs++sp)++l.map Zk++List.drop (n+l.length) (xs++sp)).toArray=Vq w b (.cells ⟨(xs++l.map Zk)++sp.drop (l.map Zk).length⟩ e (0,0)):=by
     rw[setRow_eq hbk]
     have:=stc_end xs sp (l.map Zk) hylen
     unfold stc at this
     rw[Nat.mul_one] at e1
     rw[<-this,e1]
     simp
    have hs2:=hw'.put (.cells ⟨(xs++l.map Zk)++sp.drop (l.map Zk).length⟩ e (0,0))
    refine k (.slice (some ⟨b,0,none⟩) (n+l.length) cap) (sp.drop (l.map Zk).length) ⟨.inr ⟨b,cap,rfl,by simp[e1],by simp;omega,hroom⟩⟩ _ _ (ha.put (Nat.le_of_ble_eq_true hd) _) ?_
    rw[hset]
    exact hs2
   ·have hold:∀j c,xs[j]?=some c->w.cell? ((⟨b,0,none⟩:Addr).add j)=some c:=λ j c hj=>by
     rw[YY]
     simp only[World.cell?,hbk,Option.isSome_none,aB,if_false,Nat.zero_add]
     have hlt:=(List.getElem?_eq_some_iff.1 hj).1
     simp only[List.getElem?_toArray]
     rw[List.getElem?_append_left hlt];exact hj
    have hfit:Builtin.nextslicecap (n+l.length) cap*1<=281474976710656:=growslice_fits (by omega) (by omega)
    have hrun:=run_append_grow_string (P:=x.P) w t u ty e i _ hS.out hU.out g1 g6 ⟨b,0,none⟩ n cap xs (by rw[g2];exact e1) hold ⟨⟨l⟩⟩ (by rw[Xc];omega) (by rw[Xc];omega) (by rw[Xc,g4];exact hfit)
    rw[hexec _ _ hrun]
    simp only[Xc,strCells_eq]
    have hs2:=(hwL.drew).new (.cells (xs.toArray++(l.map Zk).toArray++Builtin.zeroCells (Value.int .u8 0).cells (grownCap w (n+l.length) cap e-(n+l.length))) e (0,0))
    have hg:=hgc w (n+l.length) cap
    refine k (.slice (some ⟨w.heap.size,0,none⟩) (n+l.length) (grownCap w (n+l.length) cap e)) (Builtin.zeroCells (Value.int .u8 0).cells (grownCap w (n+l.length) cap e-(n+l.length))).toList ?_ _ _ (ha.put (Nat.le_of_ble_eq_true hd) _) ?_
    ·refine⟨.inr ⟨w.heap.size,_,rfl,by simp[e1], ?_,hg⟩⟩
     rw[hzl];simp[e1];omega
    ·have:ZG (.slice (some ⟨w.heap.size,0,none⟩) (n+l.length) (grownCap w (n+l.length) cap e)) (xs++l.map Zk) (Builtin.zeroCells (Value.int .u8 0).cells (grownCap w (n+l.length) cap e-(n+l.length))).toList e=[(w.heap.size,.cells (xs.toArray++(l.map Zk).toArray++Builtin.zeroCells (Value.int .u8 0).cells (grownCap w (n+l.length) cap e-(n+l.length))) e (0,0))]:=by
      simp only[ZG]
      congr 3
      apply Array.ext';simp
     rw[this]
     exact hs2
end
section
variable {x:Cx}{Q:Exit->Act->World->Prop}{E:Env}{ρ:Hp}{L L1:SH}{ops:Array Oper}{rest tail:List Oper}{ty:TypeId}{pos:String}{af:Array Edge}
theorem y_slice_lh {o h g:Operand}{t e sz len cap:Nat}{a:Option Addr}{k k':IntKind}{lo' hi':Int}(ho:ev E o=some (.slice a len cap))(hg:ev E g=some (.int k' lo'))(hh:ev E h=some (.int k hi'))[hS:ZE x.P t e][hZ:Zm x.P e sz]
  (h0:0<=lo') (h1:lo'<=hi') (h2:hi'<=cap) (h3:len<=cap) :
  Yl x (.slice t o (some g) (some h) none) ty E ρ L (.slice (if cap=lo'.toNat then a else a.map (·.add (lo'.toNat*sz))) (hi'.toNat-lo'.toNat) (cap-lo'.toNat)):=λ a' w _ _ _ _ ha hw=>by
 obtain⟨inf,g1,g2⟩:=hZ.out
 have hel:x.P.elem t=e:=by simp[Program.elem,hS.out]
 have ht:x.P.underlying t=some (.slice (x.P.elem t)):=by rw[hel];exact hS.out
 have hsz:(sizeOf e).run x.P w=.ok sz w:=by simp[sizeOf,typeInfo,g1,g2]
 have:=run_slice_lh (P:=x.P) (w:=w) (t:=t) (e:=e) (sz:=sz) (a:=a) (len:=len) (cap:=cap) hS.out hsz (lo:=some (.int k' lo')) (hi':=some (.int k hi')) (l:=lo'.toNat) (h:=hi'.toNat) ⟨k',by rw[Int.toNat_of_nonneg h0]⟩ ⟨k,by rw[Int.toNat_of_nonneg (by omega)]⟩ (by omega) (by omega) h3
 simp only[execOp,ha.eval ho,ha.eval hh,ha.eval hg,Option.map_some,Option.map_none,Sem.run_bind,run_sliceAt_slice _ _ _ _ _ _ ht,this,Result.andThen_ok,Sem.run_pure]
theorem y_slice_l {o g:Operand}{t e sz len cap:Nat}{a:Option Addr}{k':IntKind}{lo':Int}(ho:ev E o=some (.slice a len cap))(hg:ev E g=some (.int k' lo'))[hS:ZE x.P t e][hZ:Zm x.P e sz]
  (h0:0<=lo') (h1:lo'<=len) (h3:len<=cap) :
  Yl x (.slice t o (some g) none none) ty E ρ L (.slice (if cap=lo'.toNat then a else a.map (·.add (lo'.toNat*sz))) (len-lo'.toNat) (cap-lo'.toNat)):=λ a' w _ _ _ _ ha hw=>by
 obtain⟨inf,g1,g2⟩:=hZ.out
 have hel:x.P.elem t=e:=by simp[Program.elem,hS.out]
 have ht:x.P.underlying t=some (.slice (x.P.elem t)):=by rw[hel];exact hS.out
 have hsz:(sizeOf e).run x.P w=.ok sz w:=by simp[sizeOf,typeInfo,g1,g2]
 have:=run_slice_lh (P:=x.P) (w:=w) (t:=t) (e:=e) (sz:=sz) (a:=a) (len:=len) (cap:=cap) hS.out hsz (lo:=some (.int k' lo')) (hi':=none) (l:=lo'.toNat) (h:=len) ⟨k',by rw[Int.toNat_of_nonneg h0]⟩ rfl (by omega) h3 h3
 simp only[execOp,ha.eval ho,ha.eval hg,Option.map_some,Option.map_none,Sem.run_bind,run_sliceAt_slice _ _ _ _ _ _ ht,this,Result.andThen_ok,Sem.run_pure]
theorem Upd.same {b:Nat}{L:SH}{o:Obj}{f:Obj->SH}(h:Upd b L o f):f o=L:=by
 obtain⟨pre,post,h1,h2⟩:=h.out
 rw[h2,h1]
theorem tl_copy {d dT sT e b o dl dc sl sc:Nat}{T:TypeId}{dst src:Operand}{a:Option Addr}{l ys:List Value}{f:Obj->SH}[hS:ZE x.P dT e][hZ:Zm x.P e 1]
  (hdst:ev E dst=some (.slice (some ⟨b,o,none⟩) dl dc)) (hs:ev E src=some (.slice a sl sc)) [hU:Upd b L (.cells ⟨l⟩ T (0,0)) f] (hsrc:SrcV x ρ L a ys) (hlen:ys.length=sl)
  (h1:ys.all (·.oneCell')=true) (hfit:o+min sl dl<=l.length) (hd:Nat.blt d x.N=true)
  (k:TL x ops rest Q ((d,.int .i64 (min sl dl:Nat))::E) ρ (f (.cells ⟨stc l o (ys.take dl)⟩ T (0,0)))) :
  TL x ops (⟨some d,.call { callee:=.builtin .copy,args:=#[dst,src],argTypes:=#[dT,sT] },ty,pos,af,none⟩::rest) Q E ρ L:=λ a' w ha hw=>by
 refine Ye rfl rfl ?_
 obtain⟨inf,g1,g2⟩:=hZ.out
 have hs1:(x.P.info? e).map (·.size)=some 1:=by rw[g1];simp[g2]
 obtain⟨hw2,hb⟩:=hw.upd hU (.cells ⟨stc l o (ys.take dl)⟩ T (0,0))
 have hcl:(ys.take dl).length=min sl dl:=by rw[List.length_take,hlen,Nat.min_comm]
 have hexec:∀(w':World),(Builtin.copy_ #[dT,sT] ty #[.slice (some ⟨b,o,none⟩) dl dc,.slice a sl sc]).run x.P w=.ok (goInt (min sl dl:Nat)) w' ->
   (execOp a'.eval ⟨some d,.call { callee:=.builtin .copy,args:=#[dst,src],argTypes:=#[dT,sT] },ty,pos,af,none⟩).run x.P w=.ok (.value (.int .i64 (min sl dl:Nat))) w':=λ w' hr=>by
  simp only[execOp,resolve,Sem.run_bind,Sem.run_pure,Result.andThen_ok,invoke,builtin]
  have hargs:Array.map a'.eval #[dst,src]=#[.slice (some ⟨b,o,none⟩) dl dc,.slice a sl sc]:=by simp[ha.eval hdst,ha.eval hs]
  rw[hargs,hr]
  rfl
 by_cases h0:ys.take dl=[]
 ·have hm0:min sl dl=0:=by rw[<-hcl,h0];rfl
  have hr:=run_copy_none (P:=x.P) w dT sT ty e (some ⟨b,o,none⟩) a dl dc sl sc hS.out hs1 hm0
  rw[hexec w (by rw[hm0];exact hr)]
  have hst:stc l o (ys.take dl)=l:=by rw[h0];simp[stc]
  rw[hst,hU.same] at k
  exact k _ _ (ha.put (Nat.le_of_ble_eq_true hd) _) hw
 ·obtain⟨b2,off,rfl,hsr⟩:=hsrc.resolve_left (λ h=>h0 (by rw[h];simp))
  have hr:=run_copy_row (P:=x.P) w dT sT ty e b o dl dc ⟨b2,off,none⟩ sl sc ⟨l⟩ T (ys.take dl) hS.out hs1 hb hcl (λ j v hj=>by
   have hlt:j<(ys.take dl).length:=(List.getElem?_eq_some_iff.1 hj).1
   rw[YY]
   refine hsr w hw j v ?_
   rw[List.getElem?_take_of_lt (by simp at hlt;omega)] at hj
   exact hj) (by rw[hcl];exact hfit) (λ v hv=>List.all_eq_true.1 h1 v (List.mem_of_mem_take hv))
  rw[hcl] at hr
  rw[hexec _ hr]
  have hset:w.setRow b ((⟨l⟩:Array Value).toList.take o++ys.take dl++(⟨l⟩:Array Value).toList.drop (o+min sl dl)).toArray=Vq w b (.cells ⟨stc l o (ys.take dl)⟩ T (0,0)):=by
   rw[setRow_eq hb]
   unfold stc
   rw[hcl]
  rw[hset]
  exact k _ _ (ha.put (Nat.le_of_ble_eq_true hd) _) hw2
theorem ZV {m i p:Operand}{t kt e b:Nat}{kk:IntKind}{es:List MapEntry}{ck:Nat}{k:Int}{v:Value}{f:Obj->SH}(hm:ev E m=some (.map (some b)))(hi:ev E i=some (.int kk k))(hp:ev E p=some v)
  [hM:WZ x.P t kt e] [hK:YV x.P kt kk] [hU:Upd b L (.map ⟨es⟩ ck) f] (hes:ZP kk es)
  (kk':∀es' ck',ZP kk es'->(∀j,Ym es' j=if j=k then some v else Ym es j)->TL x ops rest Q E ρ (f (.map ⟨es'⟩ ck'))) :
  TL x ops (⟨none,.insert t m i p,ty,pos,af,none⟩::rest) Q E ρ L:=λ a w ha hw=>by
 refine Ye rfl rfl ?_
 obtain⟨es',ck',hrun,h1,h2⟩:=run_mapUpdate_int hM hK (hw.upd hU (.map ⟨es⟩ ck)).2 hes k v
 have hs:=(hw.upd hU (.map ⟨es'⟩ ck')).1
 have:(execOp a.eval ⟨none,.insert t m i p,ty,pos,af,none⟩).run x.P w=.ok .skip (Vq w b (.map ⟨es'⟩ ck')):=by
  simp only[execOp,ha.eval hm,ha.eval hi,ha.eval hp,Sem.run_bind,hrun,Result.andThen_ok,Sem.run_pure]
 rw[this]
 exact kk' es' ck' h1 h2 _ _ (ha.put_none undef) hs
end
class EqC (P:Program)(m:Nat)(t:TypeId)(a b:Value)(r:outParam Bool):Prop where
 out:∀d w,m<=d->(Op.equalIn d t a b).run P w=.ok r w
instance EqC.int {P:Program}{m t:Nat}{k:IntKind}{a b:Int}[h:YV P t k]:EqC P (m+1) t (.int k a) (.int k b) (a == b):=⟨λ d w hd=>by
 obtain⟨d,rfl⟩:∃d',d=d'+1:=⟨d-1,by omega⟩
 exact run_equalIn_int w d t k k a b h.out⟩
instance EqC.bool {P:Program}{m t:Nat}{a b:Bool}[h:TyBool P t]:EqC P (m+1) t (.bool a) (.bool b) (a == b):=⟨λ d w hd=>by
 obtain⟨d,rfl⟩:∃d',d=d'+1:=⟨d-1,by omega⟩
 exact run_equalIn_bool' w d t a b h.out⟩
instance EqC.str {P:Program}{m t:Nat}{a b:List UInt8}[h:TyStr P t]:EqC P (m+1) t (strV a) (strV b) (decide (a=b)):=⟨λ d w hd=>by
 obtain⟨d,rfl⟩:∃d',d=d'+1:=⟨d-1,by omega⟩
 rw[<-str_beq]
 exact run_equalIn_string w d t _ _ h.out⟩
class GetL (l:List Value)(off:Nat)(v:outParam Value):Prop where
 out:l[off]?=some v
instance GetL.zero {a:Value}{r:List Value}:GetL (a::r) 0 a:=⟨rfl⟩
instance GetL.succ {a v:Value}{r:List Value}{n:Nat}[h:GetL r n v]:GetL (a::r) (n+1) v:=⟨by simpa using h.out⟩
class SubL (l:List Value)(off n:Nat)(m:outParam (List Value)):Prop where
 out:(l.drop off).take n=m
 len:m.length=n
instance SubL.nil {l:List Value}:SubL l 0 0 []:=⟨by simp,rfl⟩
instance SubL.take {a:Value}{r m:List Value}{n:Nat}[h:SubL r 0 n m]:SubL (a::r) 0 (n+1) (a::m):=⟨by have:=h.out;simp at this ⊢;exact this,by simp[h.len]⟩
instance SubL.drop {a:Value}{r m:List Value}{o n:Nat}[h:SubL r o n m]:SubL (a::r) (o+1) n m:=⟨by simpa using h.out,h.len⟩
class EqF (P:Program)(m:Nat)(fs:List (Nat×TypeId))(xs ys:List Value)(r:outParam Bool):Prop where
 out:∀d w (gs:List Field),m<=d->gs.map (λ f=>(f.offset,f.type))=fs->(∀f∈gs,f.name≠"_")->(Op.eqFields d ⟨xs⟩ ⟨ys⟩ gs).run P w=.ok r w
instance EqF.nil {P:Program}{m:Nat}{xs ys:List Value}:EqF P m [] xs ys true:=⟨λ d w gs _ hg _=>by
 have:gs=[]:=by simpa using hg
 subst this
 simp[Op.eqFields]⟩
theorem EqF.step {P:Program}{m off:Nat}{ft:TypeId}{fs:List (Nat×TypeId)}{xs ys:List Value}{a b:Value}{r1 r2:Bool}
  (ha:∀w,(part ft ⟨xs⟩ off).run P w=.ok a w) (hb:∀w,(part ft ⟨ys⟩ off).run P w=.ok b w) (h1:EqC P m ft a b r1) (h2:EqF P m fs xs ys r2):EqF P m ((off,ft)::fs) xs ys (r1 && r2):=⟨λ d w gs hd hg hn=>by
 cases gs with
 | nil=>simp at hg
 | cons g gs=>
  simp only[List.map_cons,List.cons.injEq,Prod.mk.injEq] at hg
  obtain⟨⟨rfl,rfl⟩,hg⟩:=hg
  have hn0:=hn g (by simp)
  simp only[Op.eqFields,hn0,ne_eq,not_false_eq_true,if_true,Sem.run_bind,ha,hb,Result.andThen_ok,h1.out d w hd]
  cases r1
  ·simp
  ·simpa using h2.out d w gs hd hg (λ f hf=>hn f (by simp[hf]))⟩
instance EqF.cons_s {P:Program}{m off:Nat}{ft:TypeId}{fs:List (Nat×TypeId)}{xs ys:List Value}{a b:Value}{r1 r2:Bool}[hT:TyS P ft][ha:GetL xs off a][hb:GetL ys off b][h1:EqC P m ft a b r1][h2:EqF P m fs xs ys r2] :
  EqF P m ((off,ft)::fs) xs ys (r1 && r2):=by
 obtain⟨d,i,g1,g2,g3,g4⟩:=hT.out
 have hag:∀w,(isAgg ft).run P w=.ok false w:=λ w=>by
  simp only[isAgg,underlying,Sem.run_bind,run_program,Result.andThen_ok,g1,Sem.run_pure]
  cases d<;>simp_all
 have ea:=ha.out
 have eb:=hb.out
 exact EqF.step (λ w=>by simp[part,hag,ea]) (λ w=>by simp[part,hag,eb]) h1 h2
instance EqF.cons_a {P:Program}{m off n:Nat}{ft:TypeId}{fs:List (Nat×TypeId)}{xs ys as bs:List Value}{r1 r2:Bool}[hT:TyA P ft n][ha:SubL xs off n as][hb:SubL ys off n bs][h1:EqC P m ft (.agg ⟨as⟩) (.agg ⟨bs⟩) r1][h2:EqF P m fs xs ys r2] :
  EqF P m ((off,ft)::fs) xs ys (r1 && r2):=by
 obtain⟨d,i,g1,g2,g3,g4⟩:=hT.out
 have hag:∀w,(isAgg ft).run P w=.ok true w:=λ w=>by
  simp only[isAgg,underlying,Sem.run_bind,run_program,Result.andThen_ok,g1,Sem.run_pure]
  cases d<;>simp_all
 have ea:=ha.out
 have eb:=hb.out
 refine EqF.step (λ w=>?_) (λ w=>?_) h1 h2
 ·simp[part,hag,sizeOf,typeInfo,g3,g4,ea]
 ·simp[part,hag,sizeOf,typeInfo,g3,g4,eb]
class YB (P:Program)(t:TypeId)(fs:outParam (List (Nat×TypeId))):Prop where
 out:P.underlying t=some (.struct (P.fieldsOf t))/\P.stoodInHeld t=false/\(P.fieldsOf t).toList.map (λ f=>(f.offset,f.type))=fs/\∀f∈(P.fieldsOf t).toList,f.name≠"_"
def fldsB (P:Program)(t:TypeId):Option (List (Nat×TypeId)):=
 match P.underlying t with
 | some (.struct fs)=>if !P.stoodInHeld t && fs.toList.all (λ f=>f.name != "_") then some (fs.toList.map (λ f=>(f.offset,f.type))) else none
 | _=>none
theorem ZQ {P:Program}{t:TypeId}{fs:List (Nat×TypeId)}(h:fldsB P t=some fs):YB P t fs:=by
 unfold fldsB at h
 split at h
 ·rename_i gs hg
  split at h
  ·rename_i hc
   simp only[aE,Bool.not_eq_true',List.all_eq_true,bne_iff_ne,ne_eq] at hc
   simp only[Option.some.injEq] at h
   have hf:P.fieldsOf t=gs:=by simp[Program.fieldsOf,hg]
   exact⟨by rw[hf];exact hg,hc.1,by rw[hf];exact h,by rw[hf];exact hc.2⟩
  ·cases h
 ·cases h
instance EqC.struct {P:Program}{m t:Nat}{fs:List (Nat×TypeId)}{xs ys:List Value}{r:Bool}[hF:YB P t fs][h:EqF P m fs xs ys r]:EqC P (m+1) t (.agg ⟨xs⟩) (.agg ⟨ys⟩) r:=⟨λ d w hd=>by
 obtain⟨d,rfl⟩:∃d',d=d'+1:=⟨d-1,by omega⟩
 obtain⟨h1,h2,h3,h4⟩:=hF.out
 rw[run_equalIn_struct w d t _ _ h1 h2]
 exact h.out d w _ (by omega) h3 h4⟩
section
variable {x:Cx}{E:Env}{ρ:Hp}{L:SH}{ty:TypeId}
theorem y_eqc {o:BinOp}{p q:Operand}{t t':TypeId}{u v:List Value}{b c:Bool}(h1:ev E p=some (.agg ⟨u⟩))(h2:ev E q=some (.agg ⟨v⟩))[hG:Zn x.P t][hC:EqC x.P 8 t (.agg ⟨u⟩) (.agg ⟨v⟩) c]
  (hb:eqB o c=some b):Yl x (.binOp o t p q t') ty E ρ L (.bool b):=λ a w _ _ _ _ ha _=>by
 have hd:Op.maxDepth=10000:=rfl
 have hr:(Op.equal t (.agg ⟨u⟩) (.agg ⟨v⟩)).run x.P w=.ok c w:=by rw[Op.equal,hd];exact hC.out 10000 w (by decide)
 have hg:=run_eqGuard_agg (P:=x.P) w o t p q ⟨u⟩ ⟨v⟩ hG.out
 have hbin:(binOp o t (.agg ⟨u⟩) (.agg ⟨v⟩)).run x.P w=.ok (.bool b) w:=by
  cases o<;>simp only[eqB,Option.some.injEq,reduceCtorEq] at hb<;>subst hb<;>simp only[binOp,Sem.run_bind,hr,Result.andThen_ok,Sem.run_pure]
 simp only[execOp,ha.eval h1,ha.eval h2,Sem.run_bind,hg,Result.andThen_ok,hbin,Sem.run_pure]
end
end Go.Proofs.E
namespace Go.Proofs.E
open Go
structure SIn (ρ:Hp){α:Type}(g:α->Value)(a:Option Addr)(n:Nat)(l:List α):Prop where
 len:l.length=n
 out:n=0\/∃b off C T fr,a=some ⟨b,off,none⟩/\ρ b=some (.cells ⟨C⟩ T fr)/\(C.drop off).take n=l.map g
structure AIn (ρ:Hp){α:Type}(sz:Nat)(g:α->List Value)(a:Option Addr)(n:Nat)(l:List α):Prop where
 len:l.length=n
 out:n=0\/∃b off C T fr,a=some ⟨b,off,none⟩/\ρ b=some (.cells ⟨C⟩ T fr)/\off+n*sz<=C.length/\(C.drop off).take (n*sz)=(l.map g).flatten
 sz:∀x∈l,(g x).length=sz
section
variable {α:Type}{ρ ρ':Hp}{a:Option Addr}{n:Nat}{l:List α}
theorem SIn.mono {g:α->Value}(h:SIn ρ g a n l)(hle:ρ.le ρ'):SIn ρ' g a n l:=⟨h.len,h.out.imp id λ ⟨b,off,C,T,fr,h1,h2,h3⟩=>⟨b,off,C,T,fr,h1,hle _ _ h2,h3⟩⟩
theorem AIn.mono {sz}{g:α->List Value}(h:AIn ρ sz g a n l)(hle:ρ.le ρ'):AIn ρ' sz g a n l:=⟨h.len,h.out.imp id λ ⟨b,off,C,T,fr,h1,h2,h3⟩=>⟨b,off,C,T,fr,h1,hle _ _ h2,h3⟩,h.sz⟩
theorem SIn.nil {g:α->Value}:SIn ρ g a 0 []:=⟨rfl,.inl rfl⟩
theorem AIn.nil {sz}{g:α->List Value}:AIn ρ sz g a 0 []:=⟨rfl,.inl rfl,by simp⟩
theorem SIn.srcV {g:α->Value}{x:Cx}{L:SH}(h:SIn ρ g a n l):SrcV x ρ L a (l.map g):=by
 rcases h.out with h0|⟨b,off,C,T,fr,rfl,h2,h3⟩
 ·left
  have:=h.len
  rw[h0] at this
  simp[List.eq_nil_of_length_eq_zero this]
 ·exact .inr ⟨b,off,rfl,Src.imm (n:=n) h2 h3⟩
theorem AIn.srcV {sz}{g:α->List Value}{x:Cx}{L:SH}(h:AIn ρ sz g a n l):SrcV x ρ L a ((l.map g).flatten):=by
 rcases h.out with h0|⟨b,off,C,T,fr,rfl,h2,h4,h3⟩
 ·left
  have:=h.len
  rw[h0] at this
  simp[List.eq_nil_of_length_eq_zero this]
 ·exact .inr ⟨b,off,rfl,Src.imm (n:=n*sz) h2 h3⟩
theorem SIn.get {g:α->Value}(h:SIn ρ g a n l){i:Nat}(hi:i<l.length):∃b off C T fr,a=some ⟨b,off,none⟩/\ρ b=some (.cells ⟨C⟩ T fr)/\C[off+i*1]?=some (g l[i]):=by
 have hn:=h.len
 obtain⟨b,off,C,T,fr,h1,h2,h3⟩:=h.out.resolve_left (by omega)
 refine⟨b,off,C,T,fr,h1,h2, ?_⟩
 have:=congrArg (λ l:List Value=>l[i]?) h3
 simp only[List.getElem?_map] at this
 rw[List.getElem?_take_of_lt (by omega),List.getElem?_drop,List.getElem?_eq_getElem hi] at this
 rw[Nat.mul_one];simpa using this
theorem flat_at (g:α->List Value)(sz:Nat):∀(l:List α) (i:Nat) (h:i<l.length),(∀x∈l,(g x).length=sz)->(((l.map g).flatten).drop (i*sz)).take sz=g l[i]
 | [],i,h,_=>by simp at h
 | p::r,0,h,hl=>by
  have h1:=hl p (by simp)
  simp only[List.map_cons,aF,Nat.zero_mul,List.drop_zero,List.getElem_cons_zero]
  rw[List.take_append_of_le_length (by omega),aT (by omega)]
 | p::r,i+1,h,hl=>by
  have h1:=hl p (by simp)
  have ih:=flat_at g sz r i (by simpa using h) (λ q hq=>hl q (by simp[hq]))
  simp only[List.map_cons,aF,List.getElem_cons_succ]
  have e:(i+1)*sz=(g p).length+i*sz:=by rw[h1,Nat.add_mul];omega
  rw[e,<-List.drop_drop,List.drop_left]
  exact ih
theorem flat_len (g:α->List Value)(sz:Nat):∀(l:List α),(∀x∈l,(g x).length=sz)->((l.map g).flatten).length=l.length*sz
 | [],_=>by simp
 | p::r,hl=>by
  have h1:=hl p (by simp)
  have ih:=flat_len g sz r (λ q hq=>hl q (by simp[hq]))
  simp only[List.map_cons,aF,aL,aC,ih,h1,Nat.add_mul];omega
theorem AIn.get {sz}{g:α->List Value}(h:AIn ρ sz g a n l){i:Nat}(hi:i<l.length):∃b off C T fr,a=some ⟨b,off,none⟩/\ρ b=some (.cells ⟨C⟩ T fr)/\off+i*sz+sz<=C.length/\(C.drop (off+i*sz)).take sz=g l[i]:=by
 have hn:=h.len
 obtain⟨b,off,C,T,fr,h1,h2,h4,h3⟩:=h.out.resolve_left (by omega)
 have hle:(i+1)*sz<=n*sz:=Nat.mul_le_mul_right _ (by omega)
 rw[Nat.add_mul] at hle
 refine⟨b,off,C,T,fr,h1,h2,by omega, ?_⟩
 have:=flat_at g sz l i hi h.sz
 rw[<-h3] at this
 rw[<-this,List.drop_take,List.take_take,List.drop_drop]
 congr 1
 omega
theorem SIn.sub {g:α->Value}(h:SIn ρ g a n l){lo' hi':Nat}(h1:lo'<=hi')(h2:hi'<=n){cap:Nat}(hc:n<=cap):SIn ρ g (if cap=lo' then a else a.map (·.add (lo'*1))) (hi'-lo') ((l.drop lo').take (hi'-lo')):=by
 have hn:=h.len
 refine⟨by simp;omega, ?_⟩
 by_cases h0:hi'-lo'=0
 ·exact .inl h0
 ·right
  obtain⟨b,off,C,T,fr,rfl,e2,e3⟩:=h.out.resolve_left (by omega)
  rw[if_neg (by omega)]
  refine⟨b,off+lo',C,T,fr,by simp[YY],e2, ?_⟩
  rw[List.map_take,List.map_drop,<-e3,List.drop_take,List.take_take,List.drop_drop,Nat.min_eq_left (by omega)]
theorem SIn.take {g:α->Value}(h:SIn ρ g a n l){hi':Nat}(h2:hi'<=n):SIn ρ g a hi' (l.take hi'):=by
 have hn:=h.len
 refine⟨by simp;omega, ?_⟩
 by_cases h0:hi'=0
 ·exact .inl h0
 ·right
  obtain⟨b,off,C,T,fr,rfl,e2,e3⟩:=h.out.resolve_left (by omega)
  refine⟨b,off,C,T,fr,rfl,e2, ?_⟩
  rw[List.map_take,<-e3,List.take_take,Nat.min_eq_left h2]
theorem AIn.take {sz}{g:α->List Value}(h:AIn ρ sz g a n l){hi':Nat}(h2:hi'<=n):AIn ρ sz g a hi' (l.take hi'):=by
 have hn:=h.len
 refine⟨by simp;omega, ?_,λ x hx=>h.sz x (List.mem_of_mem_take hx)⟩
 by_cases h0:hi'=0
 ·exact .inl h0
 ·right
  obtain⟨b,off,C,T,fr,rfl,e2,e4,e3⟩:=h.out.resolve_left (by omega)
  have hle:hi'*sz<=n*sz:=Nat.mul_le_mul_right _ h2
  refine⟨b,off,C,T,fr,rfl,e2,by omega, ?_⟩
  have hl1:((l.take hi').map g).flatten=((l.map g).flatten).take (hi'*sz):=by
   have hsplit:(l.map g).flatten=((l.take hi').map g).flatten++((l.drop hi').map g).flatten:=by
    rw[<-List.flatten_append,<-List.map_append,List.take_append_drop]
   rw[hsplit,List.take_left' (by rw[flat_len g sz _ (λ x hx=>h.sz x (List.mem_of_mem_take hx)),List.length_take,Nat.min_eq_left (by omega)])]
  rw[hl1,<-e3,List.take_take,Nat.min_eq_left hle]
theorem OwnS.sIn {g:α->Value}{v:Value}{sp:List Value}{T:TypeId}(h:OwnS v n (l.map g) sp 1)(hf:∀p∈ZG v (l.map g) sp T,ρ p.1=some p.2):∃a cap,v=.slice a n cap/\n<=cap/\SIn ρ g a n l:=by
 rcases h.out with⟨rfl,rfl,h2,h3⟩|⟨b,c,rfl,h2,h3,h4⟩
 ·have:l=[]:=by simpa using h2
  subst this
  exact⟨none,0,rfl,aR _,SIn.nil⟩
 ·refine⟨some ⟨b,0,none⟩,c,rfl,h4,by simpa using h2,.inr ⟨b,0,_,T,(0,0),rfl,hf (b,_) (List.mem_singleton.2 rfl), ?_⟩⟩
  rw[List.drop_zero,List.take_left' (by simpa using h2)]
theorem OwnS.aIn {sz:Nat}{g:α->List Value}{v:Value}{sp:List Value}{T:TypeId}(h:OwnS v n ((l.map g).flatten) sp sz)(hl:l.length=n)(hg:∀x∈l,(g x).length=sz)(hf:∀p∈ZG v ((l.map g).flatten) sp T,ρ p.1=some p.2):∃a cap,v=.slice a n cap/\n<=cap/\AIn ρ sz g a n l:=by
 rcases h.out with⟨rfl,rfl,h2,h3⟩|⟨b,c,rfl,h2,h3,h4⟩
 ·have:l=[]:=List.eq_nil_of_length_eq_zero hl
  subst this
  exact⟨none,0,rfl,aR _,AIn.nil⟩
 ·refine⟨some ⟨b,0,none⟩,c,rfl,h4,hl,.inr ⟨b,0,_,T,(0,0),rfl,hf (b,_) (List.mem_singleton.2 rfl),by simp[aL];simp at h2;omega, ?_⟩,hg⟩
  rw[List.drop_zero,List.take_left' h2]
end
section
variable {x:Cx}{Q:Exit->Act->World->Prop}{E:Env}{ρ:Hp}{L L1:SH}{ops:Array Oper}{rest tail:List Oper}{ty:TypeId}{pos:String}{af:Array Edge}
theorem y_conv_i {p:Operand}{s t:TypeId}{k k':IntKind}{n:Int}(h:ev E p=some (.int k' n))[hk:YV x.P t k][hs:YV x.P s k'](hb:lo k<=n/\n<=hi k):Yl x (.convert s t p) ty E ρ L (.int k n):=by
 have:=y_conv (x:=x) (E:=E) (ρ:=ρ) (L:=L) (ty:=ty) (s:=s) (t:=t) h
 rwa [WL hb] at this
theorem y_lookup0 {m i:Operand}{t kt e b:Nat}{kk:IntKind}{z:Value}{es:List MapEntry}{ck:Nat}{k:Int}(hm:ev E m=some (.map (some b)))(hi:ev E i=some (.int kk k))[hM:WZ x.P t kt e][hK:YV x.P kt kk][hz:Zf x.P e z]
  [hF:Find b L (.map ⟨es⟩ ck)] (hes:ZP kk es) (hg:Ym es k=none):Yl x (.lookup t m i false) ty E ρ L z:=by
 have:=y_lookup (x:=x) (ty:=ty) (ρ:=ρ) hm hi (hM:=hM) (hK:=hK) (hz:=hz) (hF:=hF) hes
 rw[hg] at this;exact this
theorem y_conv_in {p:Operand}{s t e:TypeId}{a:Option Addr}{n c:Nat}{l:List UInt8}[hT:TyStr x.P t][hS:ZE x.P s e][hE:YV x.P e .u8](h:ev E p=some (.slice a n c))(hs:SIn ρ Zk a n l):Yl x (.convert s t p) ty E ρ L (strV l):=y_conv_bs h hs.srcV hs.len
theorem y_eqc_l {o:BinOp}{p q:Operand}{t t':TypeId}{u v:List Value}{b c d:Bool}(h1:ev E p=some (.agg ⟨u⟩))(h2:ev E q=some (.agg ⟨v⟩))[hG:Zn x.P t][hC:EqC x.P 8 t (.agg ⟨u⟩) (.agg ⟨v⟩) c](hc:c=d)
  (hb:eqB o d=some b):Yl x (.binOp o t p q t') ty E ρ L (.bool b):=by subst hc;exact y_eqc h1 h2 hb
theorem SrcV.find {b off n:Nat}{l ys:List Value}{T:TypeId}{fr:Nat×Nat}[hF:Find b L (.cells ⟨l⟩ T fr)](h:(l.drop off).take n=ys):SrcV x ρ L (some ⟨b,off,none⟩) ys:=.inr ⟨b,off,rfl,Src.find (n:=n) h⟩
theorem SrcV.lit {b:Nat}{ys:List Value}{T:TypeId}{fr:Nat×Nat}[hF:Find b L (.cells ⟨ys⟩ T fr)]:SrcV x ρ L (some ⟨b,0,none⟩) ys:=.inr ⟨b,0,rfl,Src.find (n:=ys.length) (by simp)⟩
theorem SrcV.own {v:Value}{a:Option Addr}{n cap:Nat}{xs sp:List Value}{sz:Nat}{T:TypeId}{L':SH}(h:OwnS (.slice a n cap) n xs sp sz)[hR:Rem (ZG (.slice a n cap) xs sp T) L L']:SrcV x ρ L a xs:=by
 rcases h.out with⟨e1,rfl,h2,h3⟩|⟨b,c,e1,h2,h3,h4⟩
 ·exact .inl h2
 ·cases e1
  refine .inr ⟨b,0,rfl,λ w hw j c hj=>?_⟩
  have hw':=hw.perm (L':=ZG (.slice (some ⟨b,0,none⟩) n cap) xs sp T::L') (by simpa using hR.out)
  have hb:w.heap[b]?=some (.cells ⟨xs++sp⟩ T (0,0)):=hw'.here (b,.cells ⟨xs++sp⟩ T (0,0)) (by simp[ZG])
  simp only[World.cell?,hb,Option.isSome_none,aB,if_false,Nat.zero_add]
  simp only[List.getElem?_toArray]
  rw[List.getElem?_append_left (List.getElem?_eq_some_iff.1 hj).1];exact hj
theorem y_load_sub {o:Operand}{t b off n:Nat}{l m:List Value}{T:TypeId}{fr:Nat×Nat}(h:ev E o=some (.pointer (some ⟨b,off,none⟩)))[hA:TyA x.P t n][hF:Find b L (.cells ⟨l⟩ T fr)][hS:SubL l off n m]:Yl x (.load t o) ty E ρ L (.agg ⟨m⟩):=by
 by_cases h0:n=0
 ·subst h0
  have hm:m=[]:=List.eq_nil_of_length_eq_zero hS.len
  by_cases hl:off<=l.length
  ·exact y_load_part h (by omega) hS.out
  ·intro a w _ _ _ _ ha hw
   obtain⟨d,i,h1,h2,h3,h4⟩:=hA.out
   have hag:(isAgg t).run x.P w=.ok true w:=by
    simp only[isAgg,underlying,Sem.run_bind,run_program,Result.andThen_ok,h1,Sem.run_pure]
    cases d<;>simp_all
   have hl0:=run_loadCells_list (P:=x.P) w ⟨b,off,none⟩ [] (by simp)
   simp only[List.length_nil] at hl0
   simp[execOp,ha.eval h,Instr.loadAt,Instr.sureAddr,loadVar,hag,sizeOf,typeInfo,h3,h4,hl0,hm]
 ·have:=hS.out
  have hl:=hS.len
  rw[<-this] at hl
  simp at hl
  exact y_load_part h (by omega) this
theorem y_field_sub {o:Operand}{s f d ft n:Nat}{l m:List Value}(h:ev E o=some (.agg ⟨l⟩))[hF:Zw x.P s f d ft][hT:TyA x.P ft n][hS:SubL l d n m]:Yl x (.field s o f) ty E ρ L (.agg ⟨m⟩):=y_field_a h hS.out
class SetS (l:List Value)(off:Nat)(vs:List Value)(l':outParam (List Value)):Prop where
 out:stc l off vs=l'
 fit:off+vs.length<=l.length
instance SetS.nil {l:List Value}:SetS l 0 [] l:=⟨by simp[stc],by simp⟩
instance SetS.cons {a v:Value}{r vs r':List Value}[h:SetS r 0 vs r']:SetS (a::r) 0 (v::vs) (v::r'):=⟨by
 have:=h.out
 simp[stc] at this ⊢
 exact this,by have:=h.fit;simp at this ⊢;omega⟩
instance SetS.drop {a:Value}{r vs r':List Value}{n:Nat}[h:SetS r n vs r']:SetS (a::r) (n+1) vs (a::r'):=⟨by
 have:=h.out
 simp only[stc,List.take_succ_cons,List.cons_append,List.cons.injEq,true_and] at this ⊢
 rw[<-this,show n+1+vs.length=n+vs.length+1 by omega,List.drop_succ_cons],by have:=h.fit;simp;omega⟩
theorem tl_store_sub {t b off n:Nat}{o p:Operand}{l l' vs:List Value}{T:TypeId}{f:Obj->SH}(ho:ev E o=some (.pointer (some ⟨b,off,none⟩)))(hp:ev E p=some (.agg ⟨vs⟩))[hZ:Zm x.P t n][hU:Upd b L (.cells ⟨l⟩ T (0,0)) f][hS:SetS l off vs l'](hn:vs.length=n)(h1:vs.all (·.oneCell')=true)
  (k:TL x ops rest Q E ρ (f (.cells ⟨l'⟩ T (0,0)))):TL x ops (⟨none,.store t o p,ty,pos,af,none⟩::rest) Q E ρ L:=by
 refine tl_store_a ho hp hn h1 (ble_le (by rw[<-hn];exact hS.fit)) ?_
 rw[hS.out];exact k
end
end Go.Proofs.E
