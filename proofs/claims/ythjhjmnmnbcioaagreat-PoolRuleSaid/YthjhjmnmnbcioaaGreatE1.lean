/- Laws of PoolRule. Part 1 of 26. -/
import Derived.WalkKit
import Derived.OrdersIn
import Derived.RangeFuncLeaves
import Derived.RangeFuncIn
import Derived.KernelRfl
import Derived.MapKept
import Derived.RangeFuncNested
import Derived.StillTail
set_option linter.unusedVariables false
set_option linter.unusedSimpArgs false
set_option linter.unusedSectionVars false
namespace Go.Proofs.E
theorem aA {α:Type _}(a b c:List α):a++b++c=a++(b++c):=List.append_assoc a b c
theorem aL {α:Type _}{a b:List α}:(a++b).length=a.length+b.length:=List.length_append
theorem aT {α:Type _}{l:List α}{i:Nat}(h:l.length<=i):l.take i=l:=List.take_of_length_le h
theorem aF {α:Type _}{l:List α}{L:List (List α)}:(l::L).flatten=l++L.flatten:=List.flatten_cons
theorem aN {α:Type _}(a:List α):a++[]=a:=List.append_nil a
theorem aG {α:Type _}{i:Nat}{l:List α}(h:i<l.length):l.take (i+1)=l.take i++[l[i]]:=List.take_succ_eq_append_getElem h
theorem aM {α:Type _}{l:List α}{n:Nat}(h:n<l.length):l[n]'h∈l:=List.getElem_mem h
theorem aB:(false=true)=False:=Bool.false_eq_true
theorem aZ (n:Nat):0<=n:=Nat.zero_le n
theorem aR (n:Nat):n<=n:=Nat.le_refl n
theorem aC {α:Type _}{a:α}{l:List α}:(a::l).length=l.length+1:=List.length_cons
theorem aE (a b:Bool):((a && b)=true)=(a=true/\b=true):=Bool.and_eq_true a b
theorem kk:(∀{p:Prop} [Decidable p],(decide p=true)=p)/\(∀{p:Prop} [Decidable p],(decide p=false)↔¬p)/\(∀(b:Bool),(¬b=true)=(b=false))/\(∀(b:Bool),(¬b=false)=(b=true)) /\
  (∀{a b:Int},(a == b)=true↔a=b)/\(∀{a b:Int},(a != b)=true↔a≠b)/\(∀{a b:Bool},(a == b)=true↔a=b)/\(∀{a b:Bool},(a != b)=true↔a≠b)/\(∀{α:Type} (a b:α),(a≠b)=¬(a=b))/\(∀{a b:Bool},((!a)=b)↔(a=!b))/\((!true)=false)/\((!false)=true) /\
  (∀{a b:Int},(a == b)=false↔a≠b)/\(∀{a b:Int},(a != b)=false↔a=b)/\(∀{a b:Bool},(a == b)=false↔a≠b)/\(∀{a b:Bool},(a != b)=false↔a=b):=
 ⟨decide_eq_true_eq,decide_eq_false_iff_not,Bool.not_eq_true,Bool.not_eq_false,beq_iff_eq,bne_iff_ne,beq_iff_eq,bne_iff_ne,λ a b=>ne_eq a b,Bool.not_eq_eq_eq_not,rfl,rfl,beq_eq_false_iff_ne,bne_eq_false_iff_eq,beq_eq_false_iff_ne,bne_eq_false_iff_eq⟩
end Go.Proofs.E
namespace Go.Proofs.E
open Go
abbrev Hp:=Nat->Option Obj
abbrev SH:=List (List (Nat×Obj))
def Hp.le (ρ ρ':Hp):Prop:=∀b o,ρ b=some o->ρ' b=some o
theorem Hp.le_refl (ρ:Hp):ρ.le ρ:=λ _ _ h=>h
theorem Hp.le_trans {a b c:Hp}(h:a.le b)(k:b.le c):a.le c:=λ _ _ x=>k _ _ (h _ _ x)
structure Sat (u:World)(ρ:Hp)(L:SH)(w:World):Prop where
 os:w.os=u.os
 tape:w.tape=u.tape
 output:w.output=u.output
 nodup:(L.flatten.map Prod.fst).Nodup
 here:∀p∈L.flatten,w.heap[p.1]?=some p.2
 apart:∀p∈L.flatten,ρ p.1=none
 imm:∀b o,ρ b=some o->w.heap[b]?=some o
theorem Sat.perm {u ρ w}{L L':SH}(h:Sat u ρ L w)(hp:L.flatten.Perm L'.flatten):Sat u ρ L' w:=
 ⟨h.os,h.tape,h.output,(hp.map _).nodup_iff.1 h.nodup,λ p hm=>h.here p (hp.mem_iff.2 hm),λ p hm=>h.apart p (hp.mem_iff.2 hm),h.imm⟩
theorem Sat.sub {u ρ w}{L L':SH}(h:Sat u ρ L w)(hp:List.Sublist L'.flatten L.flatten):Sat u ρ L' w:=
 ⟨h.os,h.tape,h.output,(hp.map _).nodup h.nodup,λ p hm=>h.here p (hp.subset hm),λ p hm=>h.apart p (hp.subset hm),h.imm⟩
theorem Sat.drew {u ρ w}{L:SH}(h:Sat u ρ L w):Sat u ρ L { w with drawn:=w.drawn+1 }:=
 ⟨h.os,h.tape,h.output,h.nodup,h.here,h.apart,h.imm⟩
theorem Sat.new {u ρ w}{L:SH}(h:Sat u ρ L w)(o:Obj):Sat u ρ ([(w.heap.size,o)]::L) { w with heap:=w.heap.push o }:=by
 have hlt:∀p∈L.flatten,p.1<w.heap.size:=λ p hp=>(Array.getElem?_eq_some_iff.1 (h.here p hp)).1
 have old:∀b x,w.heap[b]?=some x->(w.heap.push o)[b]?=some x:=λ b x hx=>by
  have:=(Array.getElem?_eq_some_iff.1 hx).1
  rw[Array.getElem?_push,if_neg (by omega)];exact hx
 refine⟨h.os,h.tape,h.output, ?_, ?_, ?_,λ b x hx=>old b x (h.imm b x hx)⟩
 ·simp only[aF,List.singleton_append,List.map_cons,List.nodup_cons]
  refine⟨λ hm=>?_,h.nodup⟩
  obtain⟨p,hp,he⟩:=List.mem_map.1 hm
  have:=hlt p hp;omega
 ·intro p hp
  simp only[aF,List.singleton_append,List.mem_cons] at hp
  rcases hp with rfl|hp
  ·simp
  ·exact old _ _ (h.here p hp)
 ·intro p hp
  simp only[aF,List.singleton_append,List.mem_cons] at hp
  rcases hp with rfl|hp
  ·cases hx:ρ w.heap.size with
   | none=>rfl
   | some x=>have:=(Array.getElem?_eq_some_iff.1 (h.imm _ _ hx)).1;omega
  ·exact h.apart p hp
def Vq (w:World)(b:Nat)(o:Obj):World:={ w with heap:=w.heap.setIfInBounds b o }
theorem Sat.put {u ρ w}{b:Nat}{o:Obj}{L:SH}(h:Sat u ρ ([(b,o)]::L) w)(o':Obj):Sat u ρ ([(b,o')]::L) (Vq w b o'):=by
 have hb:=h.here (b,o) (by simp)
 have hlt:=(Array.getElem?_eq_some_iff.1 hb).1
 have hnd:=h.nodup
 simp only[aF,List.singleton_append,List.map_cons,List.nodup_cons] at hnd
 have other:∀c,c≠b->(w.heap.setIfInBounds b o')[c]?=w.heap[c]?:=λ c hc=>by
  rw[Array.getElem?_setIfInBounds_ne (by omega)]
 refine⟨h.os,h.tape,h.output,by simpa using hnd, ?_, ?_, ?_⟩
 ·intro p hp
  simp only[aF,List.singleton_append,List.mem_cons] at hp
  rcases hp with rfl|hp
  ·simp[Vq,hlt]
  ·have hne:p.1≠b:=λ e=>hnd.1 (e ▸ List.mem_map_of_mem hp)
   simp only[Vq]
   rw[other _ hne]
   exact h.here p (by simp[hp])
 ·intro p hp
  simp only[aF,List.singleton_append,List.mem_cons] at hp
  rcases hp with rfl|hp
  ·exact h.apart (b,o) (by simp)
  ·exact h.apart p (by simp[hp])
 ·intro c x hx
  have hne:c≠b:=λ e=>by
   have:=h.apart (b,o) (by simp)
   simp only at this
   rw[e,this] at hx;cases hx
  simp only[Vq]
  rw[other _ hne]
  exact h.imm c x hx
def Hp.with (ρ:Hp)(c:List (Nat×Obj)):Hp:=λ b=>match c.find? (λ p=>p.1 == b) with|some p=>some p.2|none=>ρ b
theorem Sat.freeze {u ρ w}{c:List (Nat×Obj)}{L:SH}(h:Sat u ρ (c::L) w):Sat u (ρ.with c) L w/\ρ.le (ρ.with c)/\∀p∈c,(ρ.with c) p.1=some p.2:=by
 have hnd:=h.nodup
 simp only[aF,List.map_append,List.nodup_append] at hnd
 have inc:∀p∈c,(ρ.with c) p.1=some p.2:=by
  intro p hp
  unfold Hp.with
  cases hf:c.find? (λ q=>q.1 == p.1) with
  | none=>simpa using List.find?_eq_none.1 hf p hp
  | some q=>
   have hq:=List.mem_of_find?_eq_some hf
   have he:q.1=p.1:=by simpa using List.find?_some hf
   have h1:=h.here q (by simp[hq])
   have h2:=h.here p (by simp[hp])
   rw[he,h2] at h1
   simp only[Option.some.injEq] at h1
   simp[h1]
 have outc:∀b,(∀p∈c,p.1≠b)->(ρ.with c) b=ρ b:=by
  intro b hb
  unfold Hp.with
  rw[List.find?_eq_none.2 (λ p hp=>by simpa using hb p hp)]
 refine⟨⟨h.os,h.tape,h.output,hnd.2.1,λ p hp=>h.here p (by simp[hp]),λ p hp=>?_,λ b o hb=>?_⟩,λ b o hb=>?_,inc⟩
 ·rw[outc p.1 (λ q hq e=>hnd.2.2 q.1 (List.mem_map_of_mem hq) p.1 (List.mem_map_of_mem hp) e)]
  exact h.apart p (by simp[hp])
 ·unfold Hp.with at hb
  cases hf:c.find? (λ q=>q.1 == b) with
  | none=>rw[hf] at hb;exact h.imm b o hb
  | some q=>
   rw[hf] at hb
   simp only[Option.some.injEq] at hb
   have hq:=List.mem_of_find?_eq_some hf
   have he:q.1=b:=by simpa using List.find?_some hf
   have:=h.here q (by simp[hq])
   rw[he,hb] at this;exact this
 ·rw[outc b (λ p hp e=>by have:=h.apart p (by simp[hp]);rw[e,hb] at this;cases this)]
  exact hb
def lk:List (Nat×Value)->Nat->Option Value
 | [],_=>none
 | (k,v)::r,t=>match Nat.beq k t with|true=>some v|false=>lk r t
abbrev Env:=List (Nat×Value)
def ev (E:Env):Operand->Option Value
 | .tmp t=>lk E t
 | .const v=>some v
 | .global g=>some (.pointer (some ⟨g,0,none⟩))
 | .func f=>some (.func (.func f) #[] #[])
def evs (E:Env):List Operand->Option (List Value)
 | []=>some []
 | x::r=>match ev E x,evs E r with|some v,some vs=>some (v::vs)|_,_=>none
structure Ok (D:List Deferred)(N:Nat)(E:Env)(a:Act):Prop where
 defers:a.defers=D
 size:a.tmps.size=N
 get:∀t v,lk E t=some v->a.tmps[t]?=some v
theorem Ok.eval {D N E a}(h:Ok D N E a){x:Operand}{v:Value}(hx:ev E x=some v):a.eval x=v:=by
 cases x with
 | tmp t=>simp only[ev] at hx;simp[Act.eval,h.get t v hx]
 | const c=>simp only[ev,Option.some.injEq] at hx;exact hx
 | global g=>simp only[ev,Option.some.injEq] at hx;exact hx
 | func f=>simp only[ev,Option.some.injEq] at hx;exact hx
theorem Ok.evals {D N E a}(h:Ok D N E a):∀{xs:List Operand} {vs:List Value},evs E xs=some vs->xs.map a.eval=vs
 | [],vs,hx=>by simp only[evs,Option.some.injEq] at hx;simp[<-hx]
 | x::r,vs,hx=>by
  simp only[evs] at hx
  cases h1:ev E x with
  | none=>simp[h1] at hx
  | some v=>
   cases h2:evs E r with
   | none=>simp[h1,h2] at hx
   | some ws=>
    simp only[h1,h2,Option.some.injEq] at hx
    simp[<-hx,h.eval h1,h.evals h2]
theorem Ok.put {D N E a}(h:Ok D N E a){d:Nat}(hd:d<N)(v:Value):Ok D N ((d,v)::E) (a.put (some d) v):=by
 refine⟨by simp[Act.put,h.defers],by simp[Act.put,h.size],λ t x hx=>?_⟩
 simp only[lk] at hx
 simp only[Act.put]
 cases hb:Nat.beq d t with
 | true=>
  rw[hb] at hx
  simp only[Option.some.injEq] at hx
  have he:d=t:=Nat.eq_of_beq_eq_true hb
  subst he;subst hx
  simp[h.size,hd]
 | false=>
  rw[hb] at hx
  have hne:d≠t:=Nat.ne_of_beq_eq_false hb
  rw[Array.getElem?_setIfInBounds_ne hne]
  exact h.get t x hx
theorem Ok.put_none {D N E a}(h:Ok D N E a)(v:Value):Ok D N E (a.put none v):=h
def EnvLe (E' E:Env):Prop:=∀t v,lk E' t=some v->lk E t=some v
theorem EnvLe.refl (E:Env):EnvLe E E:=λ _ _ h=>h
theorem EnvLe.nil (E:Env):EnvLe [] E:=λ _ _ h=>by cases h
theorem EnvLe.cons {E' E:Env}{t:Nat}{v:Value}(h:lk E t=some v)(k:EnvLe E' E):EnvLe ((t,v)::E') E:=by
 intro s x hx
 simp only[lk] at hx
 cases hb:Nat.beq t s with
 | true=>
  rw[hb] at hx
  simp only[Option.some.injEq] at hx
  have he:t=s:=Nat.eq_of_beq_eq_true hb
  subst he;subst hx;exact h
 | false=>rw[hb] at hx;exact k s x hx
theorem Ok.le {D N E E' a}(h:Ok D N E a)(k:EnvLe E' E):Ok D N E' a:=⟨h.defers,h.size,λ t v hv=>h.get t v (k t v hv)⟩
def Fw (ro:Option Nat):Fence:={ Fence.wide with round:=ro }
structure Cx where
 ro:Option Nat
 P:Program
 u:World
 D:List Deferred
 N:Nat
def TC (x:Cx)(c:Code)(Q:Exit->Act->World->Prop)(E:Env)(ρ:Hp)(L:SH):Prop:=
 ∀a w,Ok x.D x.N E a->Sat x.u ρ L w->c.wpIn (Fw x.ro) 0 x.P Q a w
def TL (x:Cx)(ops:Array Oper)(l:List Oper)(Q:Exit->Act->World->Prop)(E:Env)(ρ:Hp)(L:SH):Prop:=
 ∀a w,Ok x.D x.N E a->Sat x.u ρ L w->wpListIn (Fw x.ro) 0 x.P ops Q l a w
def TE (x:Cx)(e:Exit)(Q:Exit->Act->World->Prop)(E:Env)(ρ:Hp)(L:SH):Prop:=
 ∀a w,Ok x.D x.N E a->Sat x.u ρ L w->Q e a w
section
variable {x:Cx}{Q:Exit->Act->World->Prop}{E:Env}{ρ:Hp}{L:SH}
def KC (x:Cx)(y:Code)(Q:Exit->Act->World->Prop):Act->World->Prop:=λ a w=>y.wpIn (Fw x.ro) 0 x.P Q a w
theorem tc_seq {y z:Code}(h:TC x y (Exit.then (KC x z Q) Q) E ρ L):TC x (.seq y z) Q E ρ L:=λ a w ha hw=>wpIn_seq (h a w ha hw)
theorem te_seq {z:Code}(h:TC x z Q E ρ L):TE x .normal (Exit.then (KC x z Q) Q) E ρ L:=λ a w ha hw=>h a w ha hw
theorem te_then_ret {K}(h:TE x .ret Q E ρ L):TE x .ret (Exit.then K Q) E ρ L:=h
theorem te_then_exit {K id}(h:TE x (.exit id) Q E ρ L):TE x (.exit id) (Exit.then K Q) E ρ L:=h
theorem tc_block {id:Nat}{c:Code}(h:TC x c (Exit.inBlock id Q) E ρ L):TC x (.block id c) Q E ρ L:=λ a w ha hw=>wpIn_block (h a w ha hw)
theorem te_block_normal {id}(h:TE x .normal Q E ρ L):TE x .normal (Exit.inBlock id Q) E ρ L:=h
theorem te_block_ret {id}(h:TE x .ret Q E ρ L):TE x .ret (Exit.inBlock id Q) E ρ L:=h
theorem te_block_hit {id}(h:TE x .normal Q E ρ L):TE x (.exit id) (Exit.inBlock id Q) E ρ L:=λ a w ha hw=>by
 simp only[Exit.inBlock,if_true];exact h a w ha hw
theorem te_block_miss {id id':Nat}(hne:Nat.beq id' id=false)(h:TE x (.exit id') Q E ρ L):TE x (.exit id') (Exit.inBlock id Q) E ρ L:=λ a w ha hw=>by
 simp only[Exit.inBlock,if_neg (Nat.ne_of_beq_eq_false hne)];exact h a w ha hw
theorem tc_ret (h:TE x .ret Q E ρ L):TC x .ret Q E ρ L:=λ a w ha hw=>wpIn_ret (h a w ha hw)
theorem tc_skip (h:TE x .normal Q E ρ L):TC x .skip Q E ρ L:=λ a w ha hw=>wpIn_skip (h a w ha hw)
theorem tc_label {l}(h:TE x .normal Q E ρ L):TC x (.label l) Q E ρ L:=λ a w ha hw=>wpIn_label (h a w ha hw)
theorem tc_exit {id}(h:TE x (.exit id) Q E ρ L):TC x (.exit id) Q E ρ L:=λ a w ha hw=>wpIn_exit (h a w ha hw)
theorem tc_cond_t {c:Operand}{y z:Code}(hc:ev E c=some (.bool true))(h:TC x y Q E ρ L):TC x (.cond c y z) Q E ρ L:=
 λ a w ha hw=>wpIn_cond_true (ha.eval hc) (h a w ha hw)
theorem tc_cond_f {c:Operand}{y z:Code}(hc:ev E c=some (.bool false))(h:TC x z Q E ρ L):TC x (.cond c y z) Q E ρ L:=
 λ a w ha hw=>wpIn_cond_false (ha.eval hc) (h a w ha hw)
theorem tc_cond {c:Operand}{y z:Code}{b:Bool}(hc:ev E c=some (.bool b))(h1:b=true->TC x y Q E ρ L)(h2:b=false->TC x z Q E ρ L):TC x (.cond c y z) Q E ρ L:=
 λ a w ha hw=>wpIn_cond_split (ha.eval hc) (λ hb=>h1 hb a w ha hw) (λ hb=>h2 hb a w ha hw)
theorem tc_region {id:Nat}{l:List Oper}(h:TL x l.toArray l Q E ρ L):TC x (.region id l.toArray false) Q E ρ L:=
 λ a w ha hw=>wpIn_region_lit (h a w ha hw)
theorem tl_nil {ops}(h:TE x .normal Q E ρ L):TL x ops [] Q E ρ L:=λ a w ha hw=>wpListIn_nil (h a w ha hw)
theorem TC.perm {c:Code}{L':SH}(h:TC x c Q E ρ L')(hL:L.flatten.Perm L'.flatten):TC x c Q E ρ L:=
 λ a w ha hw=>h a w ha (hw.perm hL)
theorem TL.perm {ops l}{L':SH}(h:TL x ops l Q E ρ L')(hL:L.flatten.Perm L'.flatten):TL x ops l Q E ρ L:=
 λ a w ha hw=>h a w ha (hw.perm hL)
theorem wpIn_loop_ghost {F:Fence}{n:Nat}{P:Program}{Y:Type}{c:Code}(I:Y->Act->World->Prop)(μ:Y->Nat){Q:Exit->Act->World->Prop}{a:Act}{w:World}(y0:Y)(h₀:I y0 a w)
  (round:∀y a w,I y a w->c.wpIn F n P (Exit.then (λ a' w'=>∃y',I y' a' w'/\μ y'<μ y) Q) a w):(Code.loop c).wpIn F n P Q a w:=by
 intro b k cs hro hb hr
 have key:∀j y a w,μ y=j->I y a w ->
   ∃e a' w',Q e a' w'/\ArrivesIn (Machine.fenced P F) P (lone (b.atR a (.code c::.inLoop c::k)) cs w) b k cs e a' w':=by
  intro j
  induction j using Nat.strongRecOn with
  | _ j ih=>
   intro y a w hn hI
   obtain⟨e,a₁,w₁,hq,harr⟩:=round y a w hI b (.inLoop c::k) cs hro hb hr
   cases e with
   | normal=>
    obtain⟨y₁,hI₁,hlt⟩:=hq
    obtain⟨e₂,a₂,w₂,hq₂,harr₂⟩:=ih (μ y₁) (hn ▸ hlt) y₁ a₁ w₁ rfl hI₁
    exact⟨e₂,a₂,w₂,hq₂,.of_steps (StepsIn.trans harr (.one (fenced_calm hb hr rfl) stepR_inLoop)) harr₂⟩
   | exit id=>exact⟨_,a₁,w₁,hq,.pass (x:=.inLoop c) rfl (λ _ _=>.inl (by simp)) harr⟩
   | goto l=>exact⟨_,a₁,w₁,hq,.pass (x:=.inLoop c) rfl (λ _ _=>.inl (by simp)) harr⟩
   | ret=>exact⟨_,a₁,w₁,hq,.pass (x:=.inLoop c) rfl (λ _ _=>.inl (by simp)) harr⟩
   | panic ch=>exact⟨_,a₁,w₁,hq,.pass (x:=.inLoop c) rfl (λ _ _=>.inl (by simp)) harr⟩
   | outgrown=>exact⟨_,a₁,w₁,hq,.pass (x:=.inLoop c) rfl (λ _ _=>.inl (by simp)) harr⟩
 obtain⟨e,a',w',hq,harr⟩:=key _ y0 a w rfl h₀
 exact⟨e,a',w',hq,.of_steps (.one (fenced_calm hb hr rfl) stepR_loop) harr⟩
structure LS where
 E:Env
 ρ:Hp
 L:SH
def KR (x:Cx){Y:Type}(S:Y->LS)(I:Y->Prop)(μ:Y->Nat)(y:Y):Act->World->Prop:=
 λ a w=>∃y',(Ok x.D x.N (S y').E a/\Sat x.u (S y').ρ (S y').L w/\I y')/\μ y'<μ y
theorem tc_loop {Y:Type}{c:Code}(S:Y->LS)(I:Y->Prop)(μ:Y->Nat)(y0:Y)(h0:I y0)
  (hE:EnvLe (S y0).E E) (hρ:(S y0).ρ=ρ) (hL:L.flatten.Perm (S y0).L.flatten)
  (round:∀y,I y->TC x c (Exit.then (KR x S I μ y) Q) (S y).E (S y).ρ (S y).L) :
  TC x (.loop c) Q E ρ L:=by
 intro a w ha hw
 refine wpIn_loop_ghost (λ y a w=>Ok x.D x.N (S y).E a/\Sat x.u (S y).ρ (S y).L w/\I y) μ y0 ⟨ha.le hE,by rw[hρ];exact hw.perm hL,h0⟩ ?_
 rintro y a w ⟨h1,h2,h3⟩
 exact round y h3 a w h1 h2
end
class TyS (P:Program)(t:TypeId):Prop where
 out:∃d i,P.underlying t=some d/\(match d with|.struct _|.array _ _=>true|_=>false)=false/\P.info? t=some i/\i.size=1
class TyA (P:Program)(t:TypeId)(n:outParam Nat):Prop where
 out:∃d i,P.underlying t=some d/\(match d with|.struct _|.array _ _=>true|_=>false)=true/\P.info? t=some i/\i.size=n
class Zm (P:Program)(t:TypeId)(n:outParam Nat):Prop where
 out:∃i,P.info? t=some i/\i.size=n
class Zd (P:Program)(t:TypeId)(n:outParam Nat):Prop where
 out:∃i,P.info? t=some i/\i.bytes=n
class Zf (P:Program)(t:TypeId)(z:outParam Value):Prop where
 out:∃i,P.info? t=some i/\i.zero=some z
class ZE (P:Program)(t:TypeId)(e:outParam TypeId):Prop where
 out:P.underlying t=some (.slice e)
class WY (P:Program)(t:TypeId)(n:outParam Nat)(e:outParam TypeId):Prop where
 out:P.underlying t=some (.array n e)
class WZ (P:Program)(t:TypeId)(k e:outParam TypeId):Prop where
 out:P.underlying t=some (.map k e)
class YV (P:Program)(t:TypeId)(k:outParam IntKind):Prop where
 out:P.underlying t=some (.int k)
class Va (P:Program)(t:TypeId)(e:outParam TypeId):Prop where
 out:P.underlying t=some (.pointer e)
class TyStr (P:Program)(t:TypeId):Prop where
 out:P.underlying t=some .string
class ZT (P:Program)(t:TypeId):Prop where
 out:∃a b c,P.underlying t=some (.func a b c)
class Zw (P:Program)(s:TypeId)(f:Nat)(off:outParam Nat)(ft:outParam TypeId):Prop where
 out:∃fs fd i,P.underlying s=some (.struct fs)/\fs[f]?=some fd/\fd.offset=off/\fd.type=ft/\P.info? ft=some i/\i.size≠0
class Find (b:Nat)(L:SH)(o:outParam Obj):Prop where
 out:(b,o)∈L.flatten
instance (priority:=1100) Find.here {b:Nat}{L:SH}{o:Obj}:Find b ([(b,o)]::L) o:=⟨by simp⟩
instance (priority:=900) Find.there {b:Nat}{c:List (Nat×Obj)}{L:SH}{o:Obj}[h:Find b L o]:Find b (c::L) o:=⟨by
 simp only[aF,List.mem_append];exact .inr h.out⟩
class Upd (b:Nat)(L:SH)(o:outParam Obj)(f:outParam (Obj->SH)):Prop where
 out:∃pre post:SH,L=pre++[(b,o)]::post/\∀o',f o'=pre++[(b,o')]::post
instance (priority:=1100) Upd.here {b:Nat}{L:SH}{o:Obj}:Upd b ([(b,o)]::L) o (λ o'=>[(b,o')]::L):=⟨[],L,rfl,λ _=>rfl⟩
instance (priority:=900) Upd.there {b:Nat}{c:List (Nat×Obj)}{L:SH}{o:Obj}{f:Obj->SH}[h:Upd b L o f]:Upd b (c::L) o (λ o'=>c::f o'):=by
 obtain⟨pre,post,h1,h2⟩:=h.out
 exact⟨c::pre,post,by simp[h1],λ o'=>by simp[h2]⟩
class Rem (c:List (Nat×Obj))(L:SH)(L':outParam SH):Prop where
 out:L.flatten.Perm (c++L'.flatten)
instance (priority:=1100) Rem.here {c:List (Nat×Obj)}{L:SH}:Rem c (c::L) L:=⟨by simp⟩
instance (priority:=900) Rem.there {c d:List (Nat×Obj)}{L L':SH}[h:Rem c L L']:Rem c (d::L) (d::L'):=⟨by
 simp only[aF]
 refine (List.Perm.append_left d h.out).trans ?_
 rw[<-aA,<-aA]
 exact List.Perm.append_right _ List.perm_append_comm⟩
class Xj (L:SH)(Lf:SH)(R:outParam SH):Prop where
 out:L.flatten.Perm (Lf++R).flatten
instance Xj.nil {L:SH}:Xj L [] L:=⟨by simp⟩
instance Xj.cons {L L1 R Lf:SH}{c:List (Nat×Obj)}[h:Rem c L L1][k:Xj L1 Lf R]:Xj L (c::Lf) R:=⟨by
 refine h.out.trans ?_
 simp only[List.cons_append,aF]
 exact List.Perm.append_left c k.out⟩
theorem take_app' {L R:SH}:Xj (L++R) L R:=⟨List.Perm.refl _⟩
theorem rem_app' {c:List (Nat×Obj)}{X L L':SH}(h:Rem c L L'):Rem c (X++L) (X++L'):=⟨by
 simp only[List.flatten_append]
 refine (List.Perm.append_left _ h.out).trans ?_
 rw[<-aA,<-aA]
 exact List.Perm.append_right _ List.perm_append_comm⟩
theorem take_all' {R:SH}:Xj R R []:=⟨by simp⟩
theorem take_skip' {L R G:SH}{c:List (Nat×Obj)}(h:Xj L R G):Xj (c::L) R (c::G):=⟨by
 simp only[aF,List.flatten_append]
 refine (List.Perm.append_left c h.out).trans ?_
 simp only[List.flatten_append]
 rw[<-aA,<-aA]
 exact List.Perm.append_right _ List.perm_append_comm⟩
theorem rem_nil' {L:SH}:Rem [] L L:=⟨by simp⟩
theorem take_nil' {L:SH}:Xj L [] L:=Xj.nil
theorem take_cons' {L L1 R Lf:SH}{c:List (Nat×Obj)}(h:Rem c L L1)(k:Xj L1 Lf R):Xj L (c::Lf) R:=Xj.cons
theorem ZJ {c:List (Nat×Obj)}{L:SH}:Rem c (c::L) L:=Rem.here
theorem Ya {c d:List (Nat×Obj)}{L L':SH}(h:Rem c L L'):Rem c (d::L) (d::L'):=Rem.there
theorem flatten_mid {pre post:SH}{c:List (Nat×Obj)}:(pre++c::post).flatten.Perm (c::(pre++post)).flatten:=by
 simp only[List.flatten_append,aF]
 rw[<-aA,<-aA]
 exact List.Perm.append_right _ List.perm_append_comm
theorem Sat.upd {u ρ w}{b:Nat}{o:Obj}{L:SH}{f:Obj->SH}(h:Sat u ρ L w)(k:Upd b L o f)(o':Obj):Sat u ρ (f o') (Vq w b o')/\w.heap[b]?=some o:=by
 obtain⟨pre,post,rfl,h2⟩:=k.out
 have h':=h.perm flatten_mid
 refine⟨?_,h'.here (b,o) (by simp)⟩
 rw[h2]
 exact (h'.put o').perm flatten_mid.symm
theorem Sat.find {u ρ w}{b:Nat}{o:Obj}{L:SH}(h:Sat u ρ L w)(k:Find b L o):w.heap[b]?=some o:=h.here _ k.out
def Yl (x:Cx)(op:Op)(ty:TypeId)(E:Env)(ρ:Hp)(L:SH)(v:Value):Prop:=
 ∀a w dst pos after guard,Ok x.D x.N E a->Sat x.u ρ L w->(execOp a.eval ⟨dst,op,ty,pos,after,guard⟩).run x.P w=.ok (.value v) w
def Wb:Op->Bool
 | .defer _=>false
 | _=>true
theorem semAt_nd {ro:Option Nat}{r:Operand->Value}{o:Oper}(h:Wb o.op=true):o.semAt ro r=execOp r o:=
 Oper.semAt_eq ro r o λ c hc=>by rw[hc] at h;cases h
section
variable {x:Cx}{Q:Exit->Act->World->Prop}{E:Env}{ρ:Hp}{L:SH}{ops:Array Oper}{rest:List Oper}{ty:TypeId}{pos:String}{af:Array Edge}
theorem wpIn_intro {o:Oper}{a:Act}{w:World}{K:Act->World->Prop}(hn:Wb o.op=true)(h:o.uponIn (Fw x.ro) 0 x.P a K Q ((execOp a.eval o).run x.P w)):o.wpIn (Fw x.ro) 0 x.P a w K Q:=
 ⟨λ _ _=>trivial,by rw[semAt_nd hn];exact h⟩
theorem Ye {o:Oper}{a:Act}{w:World}(hg:o.guard=none)(hn:Wb o.op=true)
  (h:o.uponIn (Fw x.ro) 0 x.P a (wpListIn (Fw x.ro) 0 x.P ops Q rest) Q ((execOp a.eval o).run x.P w)):wpListIn (Fw x.ro) 0 x.P ops Q (o::rest) a w:=by
 simp only[wpListIn,Region.wanted,hg,if_true]
 exact wpIn_intro hn h
theorem tl_y {d:Nat}{op:Op}{v:Value}(hy:Yl x op ty E ρ L v)(hd:Nat.blt d x.N=true)(hn:Wb op=true)
  (k:TL x ops rest Q ((d,v)::E) ρ L):TL x ops (⟨some d,op,ty,pos,af,none⟩::rest) Q E ρ L:=λ a w ha hw=>by
 refine Ye rfl hn ?_
 rw[hy a w _ _ _ _ ha hw]
 exact k _ _ (ha.put (Nat.le_of_ble_eq_true hd) v) hw
theorem tl_want {d:Option Nat}{op:Op}{j t:Nat}{b:Bool}(hj:(ops[j]?).bind (·.dst)=some t)(he:lk E t=some (.bool b))
  (k:TL x ops (⟨d,op,ty,pos,af,none⟩::rest) Q E ρ L):TL x ops (⟨d,op,ty,pos,af,some (j,b)⟩::rest) Q E ρ L:=λ a w ha hw=>by
 have hy:yielded ops a.tmps j=some b:=by
  unfold yielded
  rw[hj]
  simp[ha.get t _ he]
 have h:=k a w ha hw
 simp only[wpListIn,Region.wanted,hy,if_true] at h
 simp only[wpListIn,Region.wanted,hy,beq_self_eq_true,if_true]
 exact h
theorem tl_skip {d:Nat}{op:Op}{j t:Nat}{b c:Bool}(hj:(ops[j]?).bind (·.dst)=some t)(he:lk E t=some (.bool b))(hbc:(b == c)=false)(hd:Nat.blt d x.N=true)
  (k:TL x ops rest Q ((d,undef)::E) ρ L):TL x ops (⟨some d,op,ty,pos,af,some (j,c)⟩::rest) Q E ρ L:=λ a w ha hw=>by
 have hy:yielded ops a.tmps j=some b:=by
  unfold yielded
  rw[hj]
  simp[ha.get t _ he]
 have hne:¬(some b == some c)=true:=by cases b<;>cases c<;>simp_all
 simp only[wpListIn,Region.wanted,hy,hne]
 exact⟨λ _ _=>trivial,k _ _ (ha.put (Nat.le_of_ble_eq_true hd) undef) hw⟩
theorem tl_skip0 {op:Op}{j t:Nat}{b c:Bool}(hj:(ops[j]?).bind (·.dst)=some t)(he:lk E t=some (.bool b))(hbc:(b == c)=false)
  (k:TL x ops rest Q E ρ L):TL x ops (⟨none,op,ty,pos,af,some (j,c)⟩::rest) Q E ρ L:=λ a w ha hw=>by
 have hy:yielded ops a.tmps j=some b:=by
  unfold yielded
  rw[hj]
  simp[ha.get t _ he]
 have hne:¬(some b == some c)=true:=by cases b<;>cases c<;>simp_all
 simp only[wpListIn,Region.wanted,hy,hne]
 exact⟨λ _ _=>trivial,k a w ha hw⟩
theorem tl_guard {d:Option Nat}{op:Op}{j t:Nat}{b c:Bool}(hj:(ops[j]?).bind (·.dst)=some t)(he:lk E t=some (.bool b))
  (h1:b=c->TL x ops (⟨d,op,ty,pos,af,some (j,c)⟩::rest) Q ((t,.bool c)::E) ρ L)
  (h2:b=!c->TL x ops (⟨d,op,ty,pos,af,some (j,c)⟩::rest) Q ((t,.bool !c)::E) ρ L) :
  TL x ops (⟨d,op,ty,pos,af,some (j,c)⟩::rest) Q E ρ L:=λ a w ha hw=>by
 have key:∀e:Bool,b=e->Ok x.D x.N ((t,.bool e)::E) a:=λ e hbe=>ha.le (EnvLe.cons (by rw[he,hbe]) (EnvLe.refl E))
 by_cases hb:b=c
 ·exact h1 hb a w (key c hb) hw
 ·have hb':b=!c:=by cases b<;>cases c<;>simp_all
  exact h2 hb' a w (key _ hb') hw
theorem y_move {o:Operand}{v:Value}(h:ev E o=some v):Yl x (.move o) ty E ρ L v:=λ a w _ _ _ _ ha _=>by
 simp[execOp,ha.eval h]
theorem y_assign {o:Operand}{v:Value}(h:ev E o=some v):Yl x (.assign o) ty E ρ L v:=λ a w _ _ _ _ ha _=>by
 simp[execOp,ha.eval h]
theorem y_pick_t {c p q:Operand}{v:Value}(hc:ev E c=some (.bool true))(h:ev E p=some v):Yl x (.pick c p q) ty E ρ L v:=λ a w _ _ _ _ ha _=>by
 simp[execOp,ha.eval h,ha.eval hc,asBool]
theorem y_pick_f {c p q:Operand}{v:Value}(hc:ev E c=some (.bool false))(h:ev E q=some v):Yl x (.pick c p q) ty E ρ L v:=λ a w _ _ _ _ ha _=>by
 simp[execOp,ha.eval h,ha.eval hc,asBool]
theorem y_nilCheck {o:Operand}{p:Addr}(h:ev E o=some (.pointer (some p))):Yl x (.nilCheck o) ty E ρ L (.pointer (some p)):=λ a w _ _ _ _ ha _=>by
 simp[execOp,ha.eval h]
theorem y_nilCheck_f {o:Operand}{f:FuncId}{p q:Array Value}(h:ev E o=some (.func (.func f) p q)):Yl x (.nilCheck o) ty E ρ L (.func (.func f) p q):=λ a w _ _ _ _ ha _=>by
 simp[execOp,ha.eval h]
theorem y_nilCheck_y {o:Operand}{l:Nat}{p q:Array Value}(h:ev E o=some (.func (.yield l) p q)):Yl x (.nilCheck o) ty E ρ L (.func (.yield l) p q):=λ a w _ _ _ _ ha _=>by
 simp[execOp,ha.eval h]
theorem y_extract {o:Operand}{i:Nat}{vs:List Value}{v:Value}(h:ev E o=some (.tuple ⟨vs⟩))(hv:vs[i]?=some v):Yl x (.extract o i) ty E ρ L v:=λ a w _ _ _ _ ha _=>by
 simp[execOp,ha.eval h,Instr.extract,hv]
theorem y_makeFunc {fn:Fn}{p q:List Operand}{vs us:List Value}(h:evs E p=some vs)(k:evs E q=some us) :
  Yl x (.makeFunc fn ⟨p⟩ ⟨q⟩) ty E ρ L (.func fn ⟨vs⟩ ⟨us⟩):=λ a w _ _ _ _ ha _=>by
 have e1:Array.map a.eval (⟨p⟩:Array Operand)=⟨vs⟩:=by rw[List.map_toArray,ha.evals h]
 have e2:Array.map a.eval (⟨q⟩:Array Operand)=⟨us⟩:=by rw[List.map_toArray,ha.evals k]
 simp[execOp,Instr.makeFunc,e1,e2]
theorem y_not {o:Operand}{t:TypeId}{b:Bool}(h:ev E o=some (.bool b)):Yl x (.unOp .not t o) ty E ρ L (.bool (!b)):=λ a w _ _ _ _ ha _=>by
 simp[execOp,ha.eval h,Op.unary]
theorem VB {w:World}{P:Program}{b:Nat}{l:List Value}{T:TypeId}{fr:Nat×Nat}{t n off:Nat}(hA:TyA P t n)(hb:w.heap[b]?=some (.cells ⟨l⟩ T fr))(hn:off+n<=l.length) :
  (Instr.loadAt t (.pointer (some ⟨b,off,none⟩))).run P w=.ok (.agg ⟨(l.drop off).take n⟩) w:=by
 obtain⟨d,i,h1,h2,h3,h4⟩:=hA.out
 have hl:=run_loadCells_list (P:=P) w ⟨b,off,none⟩ ((l.drop off).take n) (λ j v hj=>by
  have hj':j<n:=by have:=(List.getElem?_eq_some_iff.1 hj).1;simp at this;omega
  have e:(⟨b,off,none⟩:Addr).add j=⟨b,off+j,none⟩:=by unfold Addr.add;split<;>simp_all
  rw[e]
  simp only[World.cell?,hb,Option.isSome_none,aB,if_false]
  rw[List.getElem?_take_of_lt hj',List.getElem?_drop] at hj
  simpa using hj)
 have hlen:((l.drop off).take n).length=n:=by simp;omega
 rw[hlen] at hl
 have ha:(isAgg t).run P w=.ok true w:=by
  simp only[isAgg,underlying,Sem.run_bind,run_program,Result.andThen_ok,h1,Sem.run_pure]
  cases d<;>simp_all
 simp only[Instr.loadAt,Instr.sureAddr,loadVar,Sem.run_bind,Sem.run_pure,Result.andThen_ok,ha,if_true,sizeOf,typeInfo,run_program,h3,h4,hl]
theorem run_loadAt_cell {w:World}{P:Program}{b:Nat}{C:Array Value}{T:TypeId}{fr:Nat×Nat}{t off:Nat}{v:Value}(hA:TyS P t)(hb:w.heap[b]?=some (.cells C T fr))(hn:C[off]?=some v) :
  (Instr.loadAt t (.pointer (some ⟨b,off,none⟩))).run P w=.ok v w:=by
 obtain⟨d,i,h1,h2,h3,h4⟩:=hA.out
 have ha:(isAgg t).run P w=.ok false w:=by
  simp only[isAgg,underlying,Sem.run_bind,run_program,Result.andThen_ok,h1,Sem.run_pure]
  cases d<;>simp_all
 have hc:w.cell? ⟨b,off,none⟩=some v:=by simp[World.cell?,hb,hn]
 simp[Instr.loadAt,Instr.sureAddr,loadVar,ha,hc]
theorem y_load_s {o:Operand}{t b off:Nat}{C:List Value}{T:TypeId}{fr:Nat×Nat}{v:Value}(h:ev E o=some (.pointer (some ⟨b,off,none⟩)))[hA:TyS x.P t][hF:Find b L (.cells ⟨C⟩ T fr)](hc:C[off]?=some v) :
  Yl x (.load t o) ty E ρ L v:=λ a w _ _ _ _ ha hw=>by
 simp[execOp,ha.eval h,run_loadAt_cell hA (hw.find hF) (v:=v) (by simpa using hc)]
theorem y_load_a {o:Operand}{t b n:Nat}{l:List Value}{T:TypeId}{fr:Nat×Nat}(h:ev E o=some (.pointer (some ⟨b,0,none⟩)))[hA:TyA x.P t n][hF:Find b L (.cells ⟨l⟩ T fr)](hn:l.length=n) :
  Yl x (.load t o) ty E ρ L (.agg ⟨l⟩):=λ a w _ _ _ _ ha hw=>by
 have:=VB (off:=0) hA (hw.find hF) (by omega)
 rw[List.drop_zero,aT (by omega)] at this
 simp[execOp,ha.eval h,this]
theorem y_load_part {o:Operand}{t b off n:Nat}{l m:List Value}{T:TypeId}{fr:Nat×Nat}(h:ev E o=some (.pointer (some ⟨b,off,none⟩)))[hA:TyA x.P t n][hF:Find b L (.cells ⟨l⟩ T fr)](hn:off+n<=l.length)
  (hm:(l.drop off).take n=m):Yl x (.load t o) ty E ρ L (.agg ⟨m⟩):=λ a w _ _ _ _ ha hw=>by
 have:=VB (off:=off) hA (hw.find hF) hn
 rw[hm] at this
 simp[execOp,ha.eval h,this]
theorem y_load_is {o:Operand}{t b off:Nat}{C:List Value}{T:TypeId}{fr:Nat×Nat}{v:Value}(h:ev E o=some (.pointer (some ⟨b,off,none⟩)))[hA:TyS x.P t](hF:ρ b=some (.cells ⟨C⟩ T fr))(hc:C[off]?=some v) :
  Yl x (.load t o) ty E ρ L v:=λ a w _ _ _ _ ha hw=>by
 simp[execOp,ha.eval h,run_loadAt_cell hA (hw.imm _ _ hF) (v:=v) (by simpa using hc)]
theorem WM {o:Operand}{t b off n:Nat}{l m:List Value}{T:TypeId}{fr:Nat×Nat}(h:ev E o=some (.pointer (some ⟨b,off,none⟩)))[hA:TyA x.P t n](hF:ρ b=some (.cells ⟨l⟩ T fr))(hn:off+n<=l.length)
  (hm:(l.drop off).take n=m):Yl x (.load t o) ty E ρ L (.agg ⟨m⟩):=λ a w _ _ _ _ ha hw=>by
 have:=VB (off:=off) hA (hw.imm _ _ hF) hn
 rw[hm] at this
 simp[execOp,ha.eval h,this]
theorem YY (b o n:Nat):(⟨b,o,none⟩:Addr).add n=⟨b,o+n,none⟩:=by unfold Addr.add;split<;>simp_all
theorem y_fieldAddr {o:Operand}{s f b off d ft:Nat}(h:ev E o=some (.pointer (some ⟨b,off,none⟩)))[hF:Zw x.P s f d ft]:Yl x (.fieldAddr s o f) ty E ρ L (.pointer (some ⟨b,off+d,none⟩)):=λ a w _ _ _ _ ha hw=>by
 obtain⟨fs,fd,i,h1,h2,h3,h4,h5,h6⟩:=hF.out
 simp[execOp,ha.eval h,Instr.fieldAt,underlying,h1,h2,Instr.sureAddr,fieldPlace,sizeOf,typeInfo,h4,h5,h6,h3,YY]
theorem y_indexAddr {o i:Operand}{t e sz b off len cap:Nat}{k:IntKind}{n:Int}(h:ev E o=some (.slice (some ⟨b,off,none⟩) len cap))(hi:ev E i=some (.int k n))[hS:ZE x.P t e][hZ:Zm x.P e sz](h0:0<=n)(h1:n<len) :
  Yl x (.indexAddr t o i) ty E ρ L (.pointer (some ⟨b,off+n.toNat*sz,none⟩)):=λ a w _ _ _ _ ha hw=>by
 obtain⟨inf,g1,g2⟩:=hZ.out
 simp[execOp,ha.eval h,ha.eval hi,Instr.indexAt,asIntOf,underlying,hS.out,h0,h1,sizeOf,typeInfo,g1,g2,YY]
theorem WT {o i:Operand}{t len e sz b off:Nat}{k:IntKind}{n:Int}(h:ev E o=some (.pointer (some ⟨b,off,none⟩)))(hi:ev E i=some (.int k n))[hS:WY x.P t len e][hZ:Zm x.P e sz](h0:0<=n)(h1:n<len) :
  Yl x (.indexAddr t o i) ty E ρ L (.pointer (some ⟨b,off+n.toNat*sz,none⟩)):=λ a w _ _ _ _ ha hw=>by
 obtain⟨inf,g1,g2⟩:=hZ.out
 simp[execOp,ha.eval h,ha.eval hi,Instr.indexAt,asIntOf,underlying,hS.out,h0,h1,sizeOf,typeInfo,g1,g2,YY,Instr.sureAddr]
theorem y_field_s {o:Operand}{s f d ft:Nat}{C:List Value}{v:Value}(h:ev E o=some (.agg ⟨C⟩))[hF:Zw x.P s f d ft][hT:TyS x.P ft](hc:C[d]?=some v):Yl x (.field s o f) ty E ρ L v:=λ a w _ _ _ _ ha hw=>by
 obtain⟨fs,fd,i,h1,h2,h3,h4,h5,h6⟩:=hF.out
 obtain⟨de,i',g1,g2,g3,g4⟩:=hT.out
 have hag:(isAgg ft).run x.P w=.ok false w:=by
  simp only[isAgg,underlying,Sem.run_bind,run_program,Result.andThen_ok,g1,Sem.run_pure]
  cases de<;>simp_all
 simp[execOp,ha.eval h,Instr.field,underlying,h1,h2,asAgg,part,h4,hag,h3,hc]
theorem y_field_a {o:Operand}{s f d ft n:Nat}{l:List Value}(h:ev E o=some (.agg ⟨l⟩))[hF:Zw x.P s f d ft][hT:TyA x.P ft n]{m:List Value}(hm:(l.drop d).take n=m):Yl x (.field s o f) ty E ρ L (.agg ⟨m⟩):=λ a w _ _ _ _ ha hw=>by
 obtain⟨fs,fd,i,h1,h2,h3,h4,h5,h6⟩:=hF.out
 obtain⟨de,i',g1,g2,g3,g4⟩:=hT.out
 have hag:(isAgg ft).run x.P w=.ok true w:=by
  simp only[isAgg,underlying,Sem.run_bind,run_program,Result.andThen_ok,g1,Sem.run_pure]
  cases de<;>simp_all
 simp[execOp,ha.eval h,Instr.field,underlying,h1,h2,asAgg,part,h4,hag,h3,sizeOf,typeInfo,g3,g4,hm]
def lo:IntKind->Int
 | .i8=>-128|.i16=>-32768|.i32=>-2147483648|.i64=>-9223372036854775808|_=>0
def hi:IntKind->Int
 | .i8=>127|.i16=>32767|.i32=>2147483647|.i64=>9223372036854775807|.u8=>255|.u16=>65535|.u32=>4294967295|.u64=>18446744073709551615
theorem WL {k:IntKind}{n:Int}(h:lo k<=n/\n<=hi k):k.wrap n=n:=by
 obtain⟨h1,h2⟩:=h
 cases k<;>simp only[lo,hi] at h1 h2<;>simp only[IntKind.wrap,IntKind.bits,IntKind.signed,Bool.true_and,Bool.false_and,aB,if_false]<;>(try split)<;>simp_all<;>omega
theorem y_add_w {p q:Operand}{t t':TypeId}{k:IntKind}{m n:Int}(h1:ev E p=some (.int k m))(h2:ev E q=some (.int k n)):Yl x (.binOp .add t p q t') ty E ρ L (.int k (k.wrap (m+n))):=λ a w _ _ _ _ ha _=>by
 simp[execOp,ha.eval h1,ha.eval h2,eqGuard,binOp,Op.intArith]
theorem y_add {p q:Operand}{t t':TypeId}{k:IntKind}{m n:Int}(h1:ev E p=some (.int k m))(h2:ev E q=some (.int k n))(h:lo k<=m+n/\m+n<=hi k):Yl x (.binOp .add t p q t') ty E ρ L (.int k (m+n)):=by
 have:=y_add_w (x:=x) (E:=E) (ρ:=ρ) (L:=L) (ty:=ty) (t:=t) (t':=t') h1 h2
 rwa [WL h] at this
theorem y_sub_w {p q:Operand}{t t':TypeId}{k:IntKind}{m n:Int}(h1:ev E p=some (.int k m))(h2:ev E q=some (.int k n)):Yl x (.binOp .sub t p q t') ty E ρ L (.int k (k.wrap (m-n))):=λ a w _ _ _ _ ha _=>by
 simp[execOp,ha.eval h1,ha.eval h2,eqGuard,binOp,Op.intArith]
theorem y_sub {p q:Operand}{t t':TypeId}{k:IntKind}{m n:Int}(h1:ev E p=some (.int k m))(h2:ev E q=some (.int k n))(h:lo k<=m-n/\m-n<=hi k):Yl x (.binOp .sub t p q t') ty E ρ L (.int k (m-n)):=by
 have:=y_sub_w (x:=x) (E:=E) (ρ:=ρ) (L:=L) (ty:=ty) (t:=t) (t':=t') h1 h2
 rwa [WL h] at this
theorem y_mul_w {p q:Operand}{t t':TypeId}{k:IntKind}{m n:Int}(h1:ev E p=some (.int k m))(h2:ev E q=some (.int k n)):Yl x (.binOp .mul t p q t') ty E ρ L (.int k (k.wrap (m*n))):=λ a w _ _ _ _ ha _=>by
 simp[execOp,ha.eval h1,ha.eval h2,eqGuard,binOp,Op.intArith]
theorem y_mul {p q:Operand}{t t':TypeId}{k:IntKind}{m n:Int}(h1:ev E p=some (.int k m))(h2:ev E q=some (.int k n))(h:lo k<=m*n/\m*n<=hi k):Yl x (.binOp .mul t p q t') ty E ρ L (.int k (m*n)):=by
 have:=y_mul_w (x:=x) (E:=E) (ρ:=ρ) (L:=L) (ty:=ty) (t:=t) (t':=t') h1 h2
 rwa [WL h] at this
theorem y_rem {p q:Operand}{t t':TypeId}{k:IntKind}{m n:Int}(h1:ev E p=some (.int k m))(h2:ev E q=some (.int k n))(hn:n≠0):Yl x (.binOp .rem t p q t') ty E ρ L (.int k (m.tmod n)):=λ a w _ _ _ _ ha _=>by
 simp[execOp,ha.eval h1,ha.eval h2,eqGuard,binOp,Op.intDiv,hn]
theorem y_quo_w {p q:Operand}{t t':TypeId}{k:IntKind}{m n:Int}(h1:ev E p=some (.int k m))(h2:ev E q=some (.int k n))(hn:n≠0):Yl x (.binOp .quo t p q t') ty E ρ L (.int k (k.wrap (m.tdiv n))):=λ a w _ _ _ _ ha _=>by
 simp[execOp,ha.eval h1,ha.eval h2,eqGuard,binOp,Op.intDiv,hn]
def cmpB:BinOp->Int->Int->Option Bool
 | .eql,a,b=>some (a == b)|.neq,a,b=>some (a != b)|.lss,a,b=>some (a<b)|.leq,a,b=>some (a<=b)|.gtr,a,b=>some (a > b)|.geq,a,b=>some (a≥b)
 | _,_,_=>none
theorem y_cmp {o:BinOp}{p q:Operand}{t t':TypeId}{k:IntKind}{m n:Int}{b:Bool}(h1:ev E p=some (.int k m))(h2:ev E q=some (.int k n))(hb:cmpB o m n=some b):Yl x (.binOp o t p q t') ty E ρ L (.bool b):=λ a w _ _ _ _ ha _=>by
 cases o<;>simp[cmpB] at hb<;>subst hb<;>simp[execOp,ha.eval h1,ha.eval h2,eqGuard,binOp,Op.intCmp]
theorem y_conv {p:Operand}{s t:TypeId}{k k':IntKind}{n:Int}(h:ev E p=some (.int k' n))[hk:YV x.P t k][hs:YV x.P s k']:Yl x (.convert s t p) ty E ρ L (.int k (k.wrap n)):=λ a w _ _ _ _ ha _=>by
 simp[execOp,ha.eval h,convert,underlying,hk.out,hs.out,Conv.intToInt]
theorem y_len {p:Operand}{t e:TypeId}{s:Option Addr}{n c:Nat}[hS:ZE x.P t e](h:ev E p=some (.slice s n c)):Yl x (.call { callee:=.builtin .len,args:=#[p],argTypes:=#[t] }) ty E ρ L (.int .i64 n):=λ a w _ _ _ _ ha _=>by
 simp[execOp,ha.eval h,resolve,invoke,builtin,Builtin.len_,underlying,hS.out,goInt]
theorem y_max {p q:Operand}{ats:Array TypeId}{k k':IntKind}{m n:Int}(h1:ev E p=some (.int k m))(h2:ev E q=some (.int k' n)):Yl x (.call { callee:=.builtin .max,args:=#[p,q],argTypes:=ats }) ty E ρ L (.int k (max m n)):=λ a w _ _ _ _ ha _=>by
 have:(if n > m then n else m)=max m n:=by omega
 simp[execOp,ha.eval h1,ha.eval h2,resolve,invoke,builtin,Builtin.max_,Builtin.max2]
 omega
theorem y_min {p q:Operand}{ats:Array TypeId}{k k':IntKind}{m n:Int}(h1:ev E p=some (.int k m))(h2:ev E q=some (.int k' n)):Yl x (.call { callee:=.builtin .min,args:=#[p,q],argTypes:=ats }) ty E ρ L (.int k (min m n)):=λ a w _ _ _ _ ha _=>by
 simp[execOp,ha.eval h1,ha.eval h2,resolve,invoke,builtin,Builtin.min_,Builtin.min2]
 omega
theorem run_equal_ptr_nil {P:Program}{t e:TypeId}(hP:Va P t e)(s:Option Addr)(w:World):(Op.equal t (.pointer s) (.pointer none)).run P w=.ok s.isNone w:=by
 have hd:Op.maxDepth=9999+1:=rfl
 rw[Op.equal,hd,Op.equalIn]
 simp only[Sem.run_bind,underlying,run_program,Result.andThen_ok,hP.out,Sem.run_pure]
 cases s<;>rfl
def isFuncB:Value->Option Bool
 | .nilFunc=>some false
 | .func _ _ _=>some true
 | _=>none
theorem run_equal_func_nil {P:Program}{t:TypeId}(hP:ZT P t){v:Value}{c:Bool}(hv:isFuncB v=some c)(w:World):(Op.equal t v .nilFunc).run P w=.ok (!c) w:=by
 have hd:Op.maxDepth=9999+1:=rfl
 obtain⟨f1,f2,f3,hf⟩:=hP.out
 rw[Op.equal,hd,Op.equalIn]
 simp only[Sem.run_bind,underlying,run_program,Result.andThen_ok,hf,Sem.run_pure]
 cases v<;>simp[isFuncB] at hv<;>subst hv<;>rfl
def eqB:BinOp->Bool->Option Bool
 | .eql,b=>some b
 | .neq,b=>some (!b)
 | _,_=>none
def plainEq:Value->Bool
 | .int _ _|.float _ _|.complex _ _ _|.string _|.nilIface|.agg _=>false
 | _=>true
theorem y_eq {o:BinOp}{p q:Operand}{t t':TypeId}{u v:Value}{b c:Bool}(h1:ev E p=some u)(h2:ev E q=some v)(hu:plainEq u=true)(hr:∀w,(Op.equal t u v).run x.P w=.ok c w)
  (hb:eqB o c=some b):Yl x (.binOp o t p q t') ty E ρ L (.bool b):=λ a w _ _ _ _ ha _=>by
 have hg:(eqGuard o t p q u v).run x.P w=.ok () w:=by
  cases o<;>simp[eqB] at hb<;>cases u<;>simp[plainEq] at hu<;>simp[eqGuard]
 have hbin:(binOp o t u v).run x.P w=.ok (.bool b) w:=by
  cases o<;>simp only[eqB,Option.some.injEq,reduceCtorEq] at hb<;>subst hb<;>cases u<;>simp only[plainEq,aB] at hu<;>simp only[binOp,Sem.run_bind,hr,Result.andThen_ok,Sem.run_pure]
 simp only[execOp,ha.eval h1,ha.eval h2,Sem.run_bind,hg,Result.andThen_ok,hbin,Sem.run_pure]
theorem y_ptr_nil {o:BinOp}{p q:Operand}{t t' e:TypeId}{s:Option Addr}{b:Bool}[hP:Va x.P t e](h1:ev E p=some (.pointer s))(h2:ev E q=some (.pointer none))
  (hb:eqB o s.isNone=some b):Yl x (.binOp o t p q t') ty E ρ L (.bool b):=
 y_eq h1 h2 rfl (λ w=>run_equal_ptr_nil hP s w) hb
theorem y_func_nil {o:BinOp}{p q:Operand}{t t':TypeId}{v:Value}{b c:Bool}[hP:ZT x.P t](h1:ev E p=some v)(h2:ev E q=some .nilFunc)(hv:isFuncB v=some c)
  (hb:eqB o (!c)=some b):Yl x (.binOp o t p q t') ty E ρ L (.bool b):=
 y_eq h1 h2 (by cases v<;>simp[isFuncB] at hv<;>rfl) (λ w=>run_equal_func_nil hP hv w) hb
end
section
variable {x:Cx}{Q:Exit->Act->World->Prop}{E:Env}{ρ:Hp}{L:SH}{ops:Array Oper}{rest:List Oper}{ty:TypeId}{pos:String}{af:Array Edge}
theorem WP {P:Program}{t:TypeId}{z:Value}(h:Zf P t z)(w:World):(zeroValue t).run P w=.ok z w:=by
 obtain⟨i,h1,h2⟩:=h.out
 simp[zeroValue,typeInfo,h1,h2]
theorem tl_new {d:Nat}{op:Op}{o:Obj}{g:Nat->Value}(hr:∀a w,Ok x.D x.N E a->Sat x.u ρ L w->(execOp a.eval ⟨some d,op,ty,pos,af,none⟩).run x.P w=.ok (.value (g w.heap.size)) { w with heap:=w.heap.push o })
  (hd:Nat.blt d x.N=true) (hn:Wb op=true) (k:∀b,TL x ops rest Q ((d,g b)::E) ρ ([(b,o)]::L)) :
  TL x ops (⟨some d,op,ty,pos,af,none⟩::rest) Q E ρ L:=λ a w ha hw=>by
 refine Ye rfl hn ?_
 rw[hr a w ha hw]
 exact k _ _ _ (ha.put (Nat.le_of_ble_eq_true hd) _) (hw.new o)
theorem tl_alloc {d t:Nat}{z:Value}[hz:Zf x.P t z](hd:Nat.blt d x.N=true)(k:∀b,TL x ops rest Q ((d,.pointer (some ⟨b,0,none⟩))::E) ρ ([(b,.cells z.cells t (0,0))]::L)) :
  TL x ops (⟨some d,.alloc t,ty,pos,af,none⟩::rest) Q E ρ L:=
 tl_new (g:=λ b=>.pointer (some ⟨b,0,none⟩)) (λ a w ha hw=>by simp[execOp,Instr.alloc,WP hz,newVar,newRow]) hd rfl k
theorem tl_box {d t:Nat}{o:Operand}{v:Value}(h:ev E o=some v)(hd:Nat.blt d x.N=true)(k:∀b,TL x ops rest Q ((d,.pointer (some ⟨b,0,none⟩))::E) ρ ([(b,.cells v.cells t (0,0))]::L)) :
  TL x ops (⟨some d,.box t o,ty,pos,af,none⟩::rest) Q E ρ L:=
 tl_new (g:=λ b=>.pointer (some ⟨b,0,none⟩)) (λ a w ha hw=>by simp[execOp,Instr.box,newVar,newRow,ha.eval h]) hd rfl k
theorem Vb {v:Value}(h:v.oneCell'=true):v.cells=⟨[v]⟩:=by cases v<;>simp_all[Value.oneCell',Value.cells]
theorem tl_alloc_s {d t:Nat}{z:Value}[hz:Zf x.P t z](h:z.oneCell'=true)(hd:Nat.blt d x.N=true)(k:∀b,TL x ops rest Q ((d,.pointer (some ⟨b,0,none⟩))::E) ρ ([(b,.cells ⟨[z]⟩ t (0,0))]::L)) :
  TL x ops (⟨some d,.alloc t,ty,pos,af,none⟩::rest) Q E ρ L:=tl_alloc hd (by rw[Vb h];exact k)
theorem tl_alloc_a {d t:Nat}{l:List Value}[hz:Zf x.P t (.agg ⟨l⟩)](hd:Nat.blt d x.N=true)(k:∀b,TL x ops rest Q ((d,.pointer (some ⟨b,0,none⟩))::E) ρ ([(b,.cells ⟨l⟩ t (0,0))]::L)) :
  TL x ops (⟨some d,.alloc t,ty,pos,af,none⟩::rest) Q E ρ L:=tl_alloc (z:=.agg ⟨l⟩) hd k
theorem tl_box_s {d t:Nat}{o:Operand}{v:Value}(h:ev E o=some v)(h1:v.oneCell'=true)(hd:Nat.blt d x.N=true)(k:∀b,TL x ops rest Q ((d,.pointer (some ⟨b,0,none⟩))::E) ρ ([(b,.cells ⟨[v]⟩ t (0,0))]::L)) :
  TL x ops (⟨some d,.box t o,ty,pos,af,none⟩::rest) Q E ρ L:=tl_box h hd (by rw[Vb h1];exact k)
theorem tl_box_a {d t:Nat}{o:Operand}{l:List Value}(h:ev E o=some (.agg ⟨l⟩))(hd:Nat.blt d x.N=true)(k:∀b,TL x ops rest Q ((d,.pointer (some ⟨b,0,none⟩))::E) ρ ([(b,.cells ⟨l⟩ t (0,0))]::L)) :
  TL x ops (⟨some d,.box t o,ty,pos,af,none⟩::rest) Q E ρ L:=tl_box (v:=.agg ⟨l⟩) h hd k
theorem tl_makeMap {d t:Nat}(hd:Nat.blt d x.N=true)(k:∀b,TL x ops rest Q ((d,.map (some b))::E) ρ ([(b,.map ⟨[]⟩ 0)]::L)) :
  TL x ops (⟨some d,.makeMap t none,ty,pos,af,none⟩::rest) Q E ρ L:=
 tl_new (g:=λ b=>.map (some b)) (λ a w ha hw=>by simp[execOp,Instr.makeMap]) hd rfl k
theorem WK {d t e sz by':Nat}{l c:Operand}{kl kc:IntKind}{m n:Int}{z:Value}[hS:ZE x.P t e][hZ:Zm x.P e sz][hB:Zd x.P e by'][hz:Zf x.P e z](hl:ev E l=some (.int kl m))(hc:ev E c=some (.int kc n))
  (h0:0<=m) (h1:m<=n) (h2:(by':Int)*n<=281474976710656) (h3:n<=9223372036854775807) (hd:Nat.blt d x.N=true)
  (k:∀b,TL x ops rest Q ((d,.slice (some ⟨b,0,none⟩) m.toNat n.toNat)::E) ρ ([(b,.cells (madeCells z.cells (n.toNat*sz)) e (0,0))]::L)) :
  TL x ops (⟨some d,.makeSlice t l c,ty,pos,af,none⟩::rest) Q E ρ L:=
 tl_new (g:=λ b=>.slice (some ⟨b,0,none⟩) m.toNat n.toNat) (λ a w ha hw=>by
  obtain⟨i,g1,g2⟩:=hZ.out
  obtain⟨i2,g3,g4⟩:=hB.out
  obtain⟨i3,g5,g6⟩:=hz.out
  rw[g1] at g3 g5
  cases g3;cases g5
  have:=run_make (P:=x.P) w t e i z hS.out g1 g6 kl kc m n h0 h1 (by rw[g4];exact h2) h3
  simp only[execOp,ha.eval hl,ha.eval hc,Sem.run_bind,this,Result.andThen_ok,Sem.run_pure,g2]
  rfl) hd rfl k
theorem evsP {D N E a}(h:Ok D N E a){ps:List (Nat×Operand)}{vs:List Value}(hv:evs E (ps.map (·.2))=some vs):(ps.map λ p=>(p.1,a.eval p.2))=(ps.map (·.1)).zip vs:=by
 have:=h.evals hv
 rw[<-this]
 clear this hv
 induction ps with
 | nil=>rfl
 | cons p r ih=>simp[ih]
class Zj (P:Program)(t:TypeId)(f:outParam (Nat->Option (Nat×Nat))):Prop where
 out:(∃fs,P.underlying t=some (.struct fs)/\∃ps:Array (Nat×Nat),(∀w,(fs.mapM λ f=>do pure (f.offset,<-sizeOf f.type):Sem (Array (Nat×Nat))).run P w=.ok ps w)/\f=(ps[·]?)) \/
  (∃n e sz,P.underlying t=some (.array n e)/\(∀w,(sizeOf e).run P w=.ok sz w)/\f=λ i=>some (i*sz,sz))
theorem y_build {t:Nat}{f:Nat->Option (Nat×Nat)}{z:Value}{ps:List (Nat×Operand)}{vs:List Value}{cells:Array Value}[hP:Zj x.P t f][hz:Zf x.P t z](hv:evs E (ps.map (·.2))=some vs)
  (hf:Instr.fill f z.cells ((ps.map (·.1)).zip vs)=some cells):Yl x (.build t ⟨ps⟩) ty E ρ L (.agg cells):=λ a w _ _ _ _ ha _=>by
 have e:Array.map (λ (p:Nat×Operand)=>(p.1,a.eval p.2)) (⟨ps⟩:Array (Nat×Operand))=⟨(ps.map (·.1)).zip vs⟩:=by
  rw[List.map_toArray,evsP ha hv]
 have e':(Array.map (λ x:Nat×Operand=>match x with|(i,x)=>(i,a.eval x)) (⟨ps⟩:Array (Nat×Operand)))=⟨(ps.map (·.1)).zip vs⟩:=e
 rcases hP.out with⟨fs,h1,places,h2,rfl⟩|⟨n,el,sz,h1,h2,rfl⟩
 ·simp only[execOp,e',Instr.build,Sem.run_bind,WP hz,Result.andThen_ok,underlying,run_program,h1,Sem.run_pure,h2,hf]
 ·simp only[execOp,e',Instr.build,Sem.run_bind,WP hz,Result.andThen_ok,underlying,run_program,h1,Sem.run_pure,h2,hf]
theorem tl_buildSlice {d t e sz len:Nat}{z:Value}{ps:List (Nat×Operand)}{vs:List Value}{cells:Array Value}[hS:ZE x.P t e][hZ:Zm x.P e sz][hz:Zf x.P e z](hv:evs E (ps.map (·.2))=some vs)
  (hlen:(0<len*sz/\len*sz<=16777216)=True)
  (hf:Instr.fill (λ i=>some (i*sz,sz)) ((Array.range (len*sz)).map (z.cells[· % z.cells.size]!)) ((ps.map (·.1)).zip vs)=some cells) (hd:Nat.blt d x.N=true)
  (k:∀b,TL x ops rest Q ((d,.slice (some ⟨b,0,none⟩) len len)::E) ρ ([(b,.cells cells e (0,0))]::L)) :
  TL x ops (⟨some d,.buildSlice t len ⟨ps⟩,ty,pos,af,none⟩::rest) Q E ρ L:=
 tl_new (g:=λ b=>.slice (some ⟨b,0,none⟩) len len) (λ a w ha hw=>by
  have e':(Array.map (λ x:Nat×Operand=>match x with|(i,x)=>(i,a.eval x)) (⟨ps⟩:Array (Nat×Operand)))=⟨(ps.map (·.1)).zip vs⟩:=by
   have e:Array.map (λ (p:Nat×Operand)=>(p.1,a.eval p.2)) (⟨ps⟩:Array (Nat×Operand))=⟨(ps.map (·.1)).zip vs⟩:=by
    rw[List.map_toArray,evsP ha hv]
   exact e
  obtain⟨i,g1,g2⟩:=hZ.out
  obtain⟨hp,hq⟩:=of_eq_true hlen
  have h0:¬(16777216<len*sz):=by omega
  have h1:¬(len*sz=0):=by omega
  have hsz:(sizeOf e).run x.P w=.ok sz w:=by simp[sizeOf,typeInfo,g1,g2]
  simp only[execOp,e',Instr.buildSlice,Sem.run_bind,underlying,run_program,Result.andThen_ok,hS.out,Sem.run_pure,hsz,gt_iff_lt,Nat.reducePow,h0,if_false,h1,WP hz,hf,newRow,run_newObj]) hd rfl k
theorem setRow_eq {w:World}{b:Nat}{old new:Array Value}{T:TypeId}{fr:Nat×Nat}(h:w.heap[b]?=some (.cells old T fr)):w.setRow b new=Vq w b (.cells new T fr):=by
 obtain⟨hlt,hv⟩:=Array.getElem?_eq_some_iff.1 h
 unfold World.setRow Vq
 congr 1
 apply Array.ext_getElem?
 intro i
 rw[Array.getElem?_modify]
 by_cases hi:b=i
 ·subst hi;simp[hlt,hv]
 ·rw[if_neg hi,Array.getElem?_setIfInBounds_ne hi]
theorem run_storeAt_row {w:World}{P:Program}{b off n t:Nat}{l:List Value}{T:TypeId}{v:Value}(hZ:Zm P t n)(hb:w.heap[b]?=some (.cells ⟨l⟩ T (0,0)))(hn:v.cells.size=n)(hfit:off+n<=l.length)(h1:∀c∈v.cells.toList,c.oneCell'=true) :
  (Instr.storeAt t (.pointer (some ⟨b,off,none⟩)) v).run P w=.ok () (Vq w b (.cells ⟨l.take off++v.cells.toList++l.drop (off+n)⟩ T (0,0))):=by
 obtain⟨i,g1,g2⟩:=hZ.out
 have hst:=run_storeCells_at P b off T v.cells.toList 0 ⟨l⟩ w hb (by simpa [hn] using hfit) h1
 have hlen:v.cells.toList.length=n:=by simpa using hn
 rw[setRow_eq hb] at hst
 simp only[Nat.add_zero,hlen] at hst
 simp only[Instr.storeAt,Instr.sureAddr,storeVar,Sem.run_bind,Sem.run_pure,Result.andThen_ok,sizeOf,typeInfo,run_program,g1,g2,hn,ne_eq,not_true_eq_false,if_false,hst]
def stc (l:List Value)(off:Nat)(vs:List Value):List Value:=l.take off++vs++l.drop (off+vs.length)
theorem tl_store {t b off n:Nat}{o p:Operand}{l:List Value}{T:TypeId}{v:Value}{f:Obj->SH}(ho:ev E o=some (.pointer (some ⟨b,off,none⟩)))(hp:ev E p=some v)[hZ:Zm x.P t n][hU:Upd b L (.cells ⟨l⟩ T (0,0)) f]
  (hn:v.cells.toList.length=n) (hfit:off+n<=l.length) (h1:v.cells.toList.all (·.oneCell')=true)
  (k:TL x ops rest Q E ρ (f (.cells ⟨stc l off v.cells.toList⟩ T (0,0)))) :
  TL x ops (⟨none,.store t o p,ty,pos,af,none⟩::rest) Q E ρ L:=λ a w ha hw=>by
 refine Ye rfl rfl ?_
 obtain⟨hs,hb⟩:=hw.upd hU (.cells ⟨stc l off v.cells.toList⟩ T (0,0))
 have hrun:=run_storeAt_row (P:=x.P) (off:=off) (v:=v) hZ hb (by simpa using hn) hfit (λ c hc=>List.all_eq_true.1 h1 c hc)
 have:(execOp a.eval ⟨none,.store t o p,ty,pos,af,none⟩).run x.P w=.ok .skip (Vq w b (.cells ⟨stc l off v.cells.toList⟩ T (0,0))):=by
  simp only[execOp,ha.eval ho,ha.eval hp,Sem.run_bind,hrun,Result.andThen_ok,Sem.run_pure,stc,hn]
 rw[this]
 exact k _ _ (ha.put_none undef) hs
theorem tl_store_s {t b off:Nat}{o p:Operand}{l:List Value}{T:TypeId}{v:Value}{f:Obj->SH}(ho:ev E o=some (.pointer (some ⟨b,off,none⟩)))(hp:ev E p=some v)(h1:v.oneCell'=true)[hZ:Zm x.P t 1][hU:Upd b L (.cells ⟨l⟩ T (0,0)) f]
  (hfit:Nat.ble (off+1) l.length=true)
  (k:TL x ops rest Q E ρ (f (.cells ⟨stc l off [v]⟩ T (0,0)))) :
  TL x ops (⟨none,.store t o p,ty,pos,af,none⟩::rest) Q E ρ L:=
 tl_store ho hp (by rw[Vb h1];rfl) (Nat.le_of_ble_eq_true hfit) (by rw[Vb h1];simp[h1]) (by rw[Vb h1];exact k)
theorem tl_store_a {t b off n:Nat}{o p:Operand}{l vs:List Value}{T:TypeId}{f:Obj->SH}(ho:ev E o=some (.pointer (some ⟨b,off,none⟩)))(hp:ev E p=some (.agg ⟨vs⟩))[hZ:Zm x.P t n](hn:vs.length=n)(h1:vs.all (·.oneCell')=true)[hU:Upd b L (.cells ⟨l⟩ T (0,0)) f]
  (hfit:Nat.ble (off+n) l.length=true)
  (k:TL x ops rest Q E ρ (f (.cells ⟨stc l off vs⟩ T (0,0)))) :
  TL x ops (⟨none,.store t o p,ty,pos,af,none⟩::rest) Q E ρ L:=
 tl_store ho hp hn (Nat.le_of_ble_eq_true hfit) h1 k
theorem ble_le {m n:Nat}(h:m<=n):Nat.ble m n=true:=Nat.ble_eq_true_of_le h
def Ym (es:List MapEntry)(k:Int):Option Value:=(es.find? λ e=>match e.key with|.int _ a=>a == k|_=>false).map (·.val)
def ZP (kk:IntKind)(es:List MapEntry):Prop:=∀e∈es,∃a,e.key=.int kk a
theorem XP {kk:IntKind}{k:Int}:∀(es:List MapEntry) (i:Nat),ZP kk es ->
  (Ym es k=none/\Instr.findNow (.int kk) (.int kk k) es i=some none) \/
  ∃pre e post,es=pre++e::post/\e.key=.int kk k/\Ym pre k=none/\Ym es k=some e.val/\Instr.findNow (.int kk) (.int kk k) es i=some (some (i+pre.length,e.val))
 | [],i,_=>.inl ⟨rfl,rfl⟩
 | e::r,i,h=>by
  obtain⟨a,ha⟩:=h e (by simp)
  have hr:ZP kk r:=λ e' he=>h e' (by simp[he])
  by_cases hk:k=a
  ·subst hk
   refine .inr ⟨[],e,r,rfl,ha,rfl,by simp[Ym,ha],by simp[Instr.findNow,Instr.sameNow,ha]⟩
  ·have hf:Instr.findNow (.int kk) (.int kk k) (e::r) i=Instr.findNow (.int kk) (.int kk k) r (i+1):=by
    have:(k == a)=false:=by simpa using hk
    simp[Instr.findNow,Instr.sameNow,ha,this]
   have hg:∀l,Ym (e::l) k=Ym l k:=λ l=>by
    have:(a == k)=false:=by simpa using λ e:a=k=>hk e.symm
    simp[Ym,List.find?_cons,ha,this]
   rcases XP r (i+1) hr with⟨h1,h2⟩|⟨pre,e',post,rfl,h1,h2,h3,h4⟩
   ·exact .inl ⟨by rw[hg];exact h1,by rw[hf];exact h2⟩
   ·exact .inr ⟨e::pre,e',post,rfl,h1,by rw[hg];exact h2,by rw[hg];exact h3,by rw[hf,h4];simp;omega⟩
theorem run_checkKey_int' {P:Program}{kt:TypeId}{kk:IntKind}(h:YV P kt kk)(e:Bool)(n:Nat)(k:Int)(w:World):(Instr.checkKey e (n+1) kt (.int kk k)).run P w=.ok () w:=by
 simp[Instr.checkKey,underlying,h.out]
theorem WI {P:Program}{kt:TypeId}{kk:IntKind}(h:YV P kt kk)(e:Bool)(k:Int)(w:World):(Instr.checkKey e 10000 kt (.int kk k)).run P w=.ok () w:=
 run_checkKey_int' h e 9999 k w
theorem run_lookup_int {P:Program}{t kt e:TypeId}{kk:IntKind}{z:Value}(hM:WZ P t kt e)(hK:YV P kt kk)(hz:Zf P e z){w:World}{b:Nat}{es:List MapEntry}{ck:Nat}
  (hb:w.heap[b]?=some (.map ⟨es⟩ ck)) (hes:ZP kk es) (k:Int) (ok:Bool) :
  (Instr.lookup t (.map (some b)) (.int kk k) ok).run P w=.ok (if ok then .tuple #[(Ym es k).getD z,.bool (Ym es k).isSome] else (Ym es k).getD z) w:=by
 have hck:=λ e=>WI hK e k w
 have hfk:(Instr.findKey kt (.int kk k) es).run P w=.ok ((Instr.findNow (.int kk) (.int kk k) es 0).getD none) w/\True:=by
  refine⟨?_,trivial⟩
  simp only[Instr.findKey,Sem.run_bind,underlying,run_program,Result.andThen_ok,hK.out,Sem.run_pure]
  rcases XP (k:=k) es 0 hes with⟨h1,h2⟩|⟨pre,e',post,h0,h1,h2,h3,h4⟩
  ·simp[h2]
  ·simp[h4]
 rcases XP (k:=k) es 0 hes with⟨h1,h2⟩|⟨pre,e',post,h0,h1,h2,h3,h4⟩
 ·rw[h2] at hfk
  cases ok<;>simp[Instr.lookup,underlying,hM.out,MapKept.run_getObj_map hb,hck,hfk.1,WP hz,h1]
 ·rw[h4] at hfk
  cases ok<;>simp[Instr.lookup,underlying,hM.out,MapKept.run_getObj_map hb,hck,hfk.1,h3]
theorem y_lookup_ok {m i:Operand}{t kt e b:Nat}{kk:IntKind}{z:Value}{es:List MapEntry}{ck:Nat}{k:Int}(hm:ev E m=some (.map (some b)))(hi:ev E i=some (.int kk k))[hM:WZ x.P t kt e][hK:YV x.P kt kk][hz:Zf x.P e z]
  [hF:Find b L (.map ⟨es⟩ ck)] (hes:ZP kk es):Yl x (.lookup t m i true) ty E ρ L (.tuple #[(Ym es k).getD z,.bool (Ym es k).isSome]):=λ a w _ _ _ _ ha hw=>by
 simp only[execOp,ha.eval hm,ha.eval hi,Sem.run_bind,run_lookup_int hM hK hz (hw.find hF) hes,Result.andThen_ok,Sem.run_pure,if_true]
theorem y_lookup {m i:Operand}{t kt e b:Nat}{kk:IntKind}{z:Value}{es:List MapEntry}{ck:Nat}{k:Int}(hm:ev E m=some (.map (some b)))(hi:ev E i=some (.int kk k))[hM:WZ x.P t kt e][hK:YV x.P kt kk][hz:Zf x.P e z]
  [hF:Find b L (.map ⟨es⟩ ck)] (hes:ZP kk es):Yl x (.lookup t m i false) ty E ρ L ((Ym es k).getD z):=λ a w _ _ _ _ ha hw=>by
 simp only[execOp,ha.eval hm,ha.eval hi,Sem.run_bind,run_lookup_int hM hK hz (hw.find hF) hes,Result.andThen_ok,Sem.run_pure,aB,if_false]
theorem y_lookup_ok2 {m i:Operand}{t kt e b:Nat}{kk:IntKind}{z:Value}{es:List MapEntry}{ck:Nat}{k:Int}{r:Option Value}(hm:ev E m=some (.map (some b)))(hi:ev E i=some (.int kk k))[hM:WZ x.P t kt e][hK:YV x.P kt kk][hz:Zf x.P e z]
  [hF:Find b L (.map ⟨es⟩ ck)] (hes:ZP kk es) (hg:Ym es k=r):Yl x (.lookup t m i true) ty E ρ L (.tuple ⟨[r.getD z,.bool r.isSome]⟩):=by
 subst hg;exact y_lookup_ok hm hi hes
theorem y_lookup2 {m i:Operand}{t kt e b:Nat}{kk:IntKind}{z:Value}{es:List MapEntry}{ck:Nat}{k:Int}{v:Value}(hm:ev E m=some (.map (some b)))(hi:ev E i=some (.int kk k))[hM:WZ x.P t kt e][hK:YV x.P kt kk][hz:Zf x.P e z]
  [hF:Find b L (.map ⟨es⟩ ck)] (hes:ZP kk es) (hg:Ym es k=some v):Yl x (.lookup t m i false) ty E ρ L v:=by
 have:=y_lookup (x:=x) (ty:=ty) (ρ:=ρ) hm hi (hM:=hM) (hK:=hK) (hz:=hz) (hF:=hF) hes
 rw[hg] at this;exact this
theorem Wi (pre post:List MapEntry)(k:Int):Ym (pre++post) k=(Ym pre k).or (Ym post k):=by
 unfold Ym
 rw[List.find?_append]
 cases (pre.find? _)<;>simp
theorem run_mapUpdate_int {P:Program}{t kt e:TypeId}{kk:IntKind}(hM:WZ P t kt e)(hK:YV P kt kk){w:World}{b:Nat}{es:List MapEntry}{ck:Nat}
  (hb:w.heap[b]?=some (.map ⟨es⟩ ck)) (hes:ZP kk es) (k:Int) (v:Value) :
  ∃es' ck',(Instr.mapUpdate t (.map (some b)) (.int kk k) v).run P w=.ok () (Vq w b (.map ⟨es'⟩ ck'))/\ZP kk es'/\∀j,Ym es' j=if j=k then some v else Ym es j:=by
 have hck:=λ e=>WI hK e k w
 have hfk:(Instr.findKey kt (.int kk k) es).run P w=.ok ((Instr.findNow (.int kk) (.int kk k) es 0).getD none) w/\True:=by
  refine⟨?_,trivial⟩
  simp only[Instr.findKey,Sem.run_bind,underlying,run_program,Result.andThen_ok,hK.out,Sem.run_pure]
  rcases XP (k:=k) es 0 hes with⟨h1,h2⟩|⟨pre,e',post,h0,h1,h2,h3,h4⟩
  ·simp[h2]
  ·simp[h4]
 rcases XP (k:=k) es 0 hes with⟨h1,h2⟩|⟨pre,e',post,rfl,h1,h2,h3,h4⟩
 ·rw[h2] at hfk
  refine⟨es++[{ key:=.int kk k,val:=v,born:=ck }],ck+1, ?_, ?_, ?_⟩
  ·simp[Instr.mapUpdate,underlying,hM.out,MapKept.run_getObj_map hb,hck,hfk.1,MapKept.run_setObj_map _ hb,Vq]
  ·intro e he
   rcases List.mem_append.1 he with he|he
   ·exact hes e he
   ·simp only[List.mem_singleton] at he;subst he;exact⟨k,rfl⟩
  ·intro j
   rw[Wi]
   by_cases hj:j=k
   ·subst hj;rw[h1];simp[Ym]
   ·rw[if_neg hj]
    have:Ym [({ key:=.int kk k,val:=v,born:=ck }:MapEntry)] j=none:=by
     have:(k == j)=false:=by simpa using λ e:k=j=>hj e.symm
     simp[Ym,this]
    rw[this];simp
 ·rw[h4] at hfk
  have hstay:(Instr.keyThatStays (.int kk k) (.int kk k)).run P w=.ok (.int kk k) w:=by
   have:Instr.sameBits 10000 (.int kk k) (.int kk k)=true:=by simp[Instr.sameBits]
   simp[Instr.keyThatStays,this]
  refine⟨pre++{ e' with key:=.int kk k,val:=v }::post,ck, ?_, ?_, ?_⟩
  ·have hmod:(Array.mk (pre++e'::post)).modify pre.length (λ e=>{ e with key:=.int kk k,val:=v })=⟨pre++{ e' with key:=.int kk k,val:=v }::post⟩:=by
    apply Array.ext_getElem?
    intro i
    rw[Array.getElem?_modify]
    simp only[List.getElem?_toArray]
    rcases Nat.lt_trichotomy i pre.length with hi|hi|hi
    ·rw[if_neg (by omega),List.getElem?_append_left hi,List.getElem?_append_left hi]
    ·subst hi;simp
    ·rw[if_neg (by omega),List.getElem?_append_right (by omega),List.getElem?_append_right (by omega)]
     have:i-pre.length=(i-pre.length-1)+1:=by omega
     rw[this];simp
   have hmod':=congrArg Array.toList hmod
   simp only[Array.toList_modify] at hmod'
   simp[Instr.mapUpdate,underlying,hM.out,MapKept.run_getObj_map hb,hck,hfk.1,MapKept.run_setObj_map _ hb,Vq,h1,hstay,hmod']
  ·intro e he
   rcases List.mem_append.1 he with he|he
   ·exact hes e (by simp[he])
   ·rcases List.mem_cons.1 he with rfl|he
    ·exact⟨k,rfl⟩
    ·exact hes e (by simp[he])
  ·intro j
   rw[Wi,Wi]
   by_cases hj:j=k
   ·subst hj;rw[h2];simp[Ym]
   ·rw[if_neg hj]
    have hkj:(k == j)=false:=by simpa using λ e:k=j=>hj e.symm
    congr 1
    simp[Ym,List.find?_cons,h1,hkj]
theorem YQ {m i p:Operand}{t kt e b:Nat}{kk:IntKind}{es:List MapEntry}{ck:Nat}{k:Int}{v:Value}{f:Obj->SH}(hm:ev E m=some (.map (some b)))(hi:ev E i=some (.int kk k))(hp:ev E p=some v)
  [hM:WZ x.P t kt e] [hK:YV x.P kt kk] [hU:Upd b L (.map ⟨es⟩ ck) f] (hes:ZP kk es)
  (kk':∀es' ck',ZP kk es'->(∀j,Ym es' j=if j=k then some v else Ym es j)->TL x ops rest Q E ρ (f (.map ⟨es'⟩ ck'))) :
  TL x ops (⟨none,.mapUpdate t m i p,ty,pos,af,none⟩::rest) Q E ρ L:=λ a w ha hw=>by
 refine Ye rfl rfl ?_
 obtain⟨es',ck',hrun,h1,h2⟩:=run_mapUpdate_int hM hK (hw.upd hU (.map ⟨es⟩ ck)).2 hes k v
 have hs:=(hw.upd hU (.map ⟨es'⟩ ck')).1
 have:(execOp a.eval ⟨none,.mapUpdate t m i p,ty,pos,af,none⟩).run x.P w=.ok .skip (Vq w b (.map ⟨es'⟩ ck')):=by
  simp only[execOp,ha.eval hm,ha.eval hi,ha.eval hp,Sem.run_bind,hrun,Result.andThen_ok,Sem.run_pure]
 rw[this]
 exact kk' es' ck' h1 h2 _ _ (ha.put_none undef) hs
end
def Spec (P:Program)(f:FuncId)(args:List Value)(ρ:Hp)(L:SH)(Post:Value->Hp->SH->Prop):Prop:=
 ∀u R w,Sat u ρ (L++R) w->CallsIn Fence.wide 0 P f ⟨args⟩ w (λ e w'=>∃v ρ' L',e=.returned v/\ρ.le ρ'/\Sat u ρ' (L'++R) w'/\Post v ρ' L')
theorem Spec.mono {P f args ρ L}{Post Post':Value->Hp->SH->Prop}(h:Spec P f args ρ L Post)(k:∀v ρ' L',ρ.le ρ'->Post v ρ' L'->Post' v ρ' L'):Spec P f args ρ L Post':=
 λ u R w hw=>(h u R w hw).mono λ e w' ⟨v,ρ',L',h1,h2,h3,h4⟩=>⟨v,ρ',L',h1,h2,h3,k _ _ _ h2 h4⟩
theorem Spec.frame {P f args ρ L}{Post:Value->Hp->SH->Prop}(h:Spec P f args ρ L Post)(F:SH):Spec P f args ρ (L++F) (λ v ρ' L'=>∃L1,L'=L1++F/\Post v ρ' L1):=λ u R w hw=>by
 refine (h u (F++R) w (by rw[<-aA];exact hw)).mono ?_
 rintro e w' ⟨v,ρ',L',h1,h2,h3,h4⟩
 exact⟨v,ρ',L'++F,h1,h2,by rw[aA];exact h3,L',rfl,h4⟩
class Zz (P:Program)(f:FuncId):Prop where
 out:∃fn,P.funcs[f]?=some fn/\(fn.name == "runtime.NumGoroutine")=false/\fn.body.isNone=false
theorem run_callFunc {P:Program}{f:FuncId}(h:Zz P f)(args:Array Value)(w:World):(callFunc f args).run P w=.ok (.enter f args) w:=by
 obtain⟨fn,h1,h2,h3⟩:=h.out
 simp only[callFunc,Sem.run_bind,run_program,Result.andThen_ok,h1,h2,h3,aB,if_false,Sem.run_pure]
section
variable {x:Cx}{Q:Exit->Act->World->Prop}{E:Env}{ρ:Hp}{L:SH}{ops:Array Oper}{rest:List Oper}{ty:TypeId}{pos:String}{af:Array Edge}
theorem calls_ro {ro:Option Nat}{P f args w R}(h:CallsIn Fence.wide 0 P f args w R):CallsIn (Fw ro) 0 P f args w R:=h
theorem Zb (f:Operand){d:Option Nat}{xs:Array Operand}{ats:Array TypeId}(h:TL x ops (⟨d,.call { callee:=.value f,args:=xs,argTypes:=ats },ty,pos,af,none⟩::rest) Q E ρ L) :
  TL x ops (⟨d,.call { callee:=.value f,args:=xs,argTypes:=ats },ty,pos,af,none⟩::rest) Q E ρ L:=h
theorem tl_call {d g:Nat}{f:Operand}{xs:List Operand}{ats:Array TypeId}{fs cs vs:List Value}{Lf R:SH}{Post:Value->Hp->SH->Prop}(hf:ev E f=some (.func (.func g) ⟨fs⟩ ⟨cs⟩))(hv:evs E xs=some vs)[hF:Zz x.P g]
  (S:Spec x.P g (fs++vs++cs) ρ Lf Post) (hT:Xj L Lf R) (hd:Nat.blt d x.N=true)
  (k:∀v ρ' L',ρ.le ρ'->Post v ρ' L'->TL x ops rest Q ((d,v)::E) ρ' (L'++R)) :
  TL x ops (⟨some d,.call { callee:=.value f,args:=⟨xs⟩,argTypes:=ats },ty,pos,af,none⟩::rest) Q E ρ L:=λ a w ha hw=>by
 refine Ye rfl rfl ?_
 have hargs:Array.map a.eval (⟨xs⟩:Array Operand)=⟨vs⟩:=by rw[List.map_toArray,ha.evals hv]
 have hrun:(execOp a.eval ⟨some d,.call { callee:=.value f,args:=⟨xs⟩,argTypes:=ats },ty,pos,af,none⟩).run x.P w=.ok (.enter g ⟨fs++vs++cs⟩) w:=by
  simp only[execOp,resolve,hargs,ha.eval hf,Deferred.ofValue,Sem.run_bind,Sem.run_pure,Result.andThen_ok,invoke]
  have:=run_callFunc hF (⟨fs⟩++⟨vs⟩++⟨cs⟩) w
  simpa using this
 rw[hrun,Oper.uponIn_enter]
 refine⟨λ h=>by simp[Fw,Fence.wide] at h, ?_⟩
 refine calls_ro ((S x.u R w (hw.perm hT.out)).mono ?_)
 rintro e w' ⟨v,ρ',L',rfl,h2,h3,h4⟩
 exact k v ρ' L' h2 h4 _ _ (ha.put (Nat.le_of_ble_eq_true hd) v) h3
def YW (P:Program)(l:Nat)(args:List Value)(ρ:Hp)(L:SH)(Post:Bool->Hp->SH->Prop):Prop:=
 ∀u R w,Sat u ρ (L++R) w->YieldAt Fence.wide 0 P l ⟨args⟩ w (λ e w'=>∃b ρ' L',e=.returned (.bool b)/\ρ.le ρ'/\Sat u ρ' (L'++R) w'/\Post b ρ' L')
theorem tl_yield {d l:Nat}{f:Operand}{xs:List Operand}{ats:Array TypeId}{vs:List Value}{Lf R:SH}{Post:Bool->Hp->SH->Prop}(hf:ev E f=some (.func (.yield l) ⟨[]⟩ ⟨[]⟩))(hv:evs E xs=some vs)
  (S:YW x.P l vs ρ Lf Post) (hT:Xj L Lf R) (hd:Nat.blt d x.N=true)
  (k:∀b ρ' L',ρ.le ρ'->Post b ρ' L'->TL x ops rest Q ((d,.bool b)::E) ρ' (L'++R)) :
  TL x ops (⟨some d,.call { callee:=.value f,args:=⟨xs⟩,argTypes:=ats },ty,pos,af,none⟩::rest) Q E ρ L:=λ a w ha hw=>by
 refine Ye rfl rfl ?_
 obtain⟨fn,tmps,assign,body,hy,hR⟩:=S x.u R w (hw.perm hT.out)
 have hargs:Array.map a.eval (⟨xs⟩:Array Operand)=⟨vs⟩:=by rw[List.map_toArray,ha.evals hv]
 have hrun:(execOp a.eval ⟨some d,.call { callee:=.value f,args:=⟨xs⟩,argTypes:=ats },ty,pos,af,none⟩).run x.P w=.ok (.round l fn tmps assign body) w:=by
  simp only[execOp,resolve,hargs,ha.eval hf,Deferred.ofValue,Sem.run_bind,Sem.run_pure,Result.andThen_ok,invoke]
  have e:(#[]:Array Value)++(⟨vs⟩:Array Value)=⟨vs⟩:=by simp
  have:(Array.mk ([]:List Value))++(⟨vs⟩:Array Value)=⟨vs⟩:=by simp
  rw[this,hy]
 rw[hrun,Oper.uponIn_round]
 refine⟨λ h=>by simp[Fw,Fence.wide] at h, ?_⟩
 have hR':RoundIn (Fw x.ro) 0 x.P l fn tmps assign body w _:=hR
 refine hR'.mono ?_
 rintro e w' ⟨b,ρ',L',rfl,h2,h3,h4⟩
 exact k b ρ' L' h2 h4 _ _ (ha.put (Nat.le_of_ble_eq_true hd) _) h3
def R1 (x:Cx)(E:Env)(ρ:Hp)(L:SH)(r:ResultVar)(v:Value):Prop:=
 ∀a w,Ok x.D x.N E a->Sat x.u ρ L w->(match r with|.tmp t=>pure (a.tmps.getD t undef)|.cell q t=>do loadVar t (<-asAddr (a.tmps.getD q undef)):Sem Value).run x.P w=.ok v w
theorem ZZ {t:Nat}{v:Value}(h:lk E t=some v):R1 x E ρ L (.tmp t) v:=λ a w ha hw=>by
 simp[ha.get t v h]
theorem ZN {q t b n:Nat}{l:List Value}{T:TypeId}{fr:Nat×Nat}(h:lk E q=some (.pointer (some ⟨b,0,none⟩)))[hA:TyA x.P t n][hF:Find b L (.cells ⟨l⟩ T fr)](hn:l.length=n):R1 x E ρ L (.cell q t) (.agg ⟨l⟩):=λ a w ha hw=>by
 have:=VB (off:=0) hA (hw.find hF) (by omega)
 rw[List.drop_zero,aT (by omega)] at this
 simp only[Instr.loadAt,Instr.sureAddr,Sem.run_bind,Sem.run_pure,Result.andThen_ok] at this
 simp[ha.get q _ h,asAddr,this]
theorem Zr {q t b:Nat}{C:Array Value}{T:TypeId}{fr:Nat×Nat}{v:Value}(h:lk E q=some (.pointer (some ⟨b,0,none⟩)))[hA:TyS x.P t][hF:Find b L (.cells C T fr)](hn:C[0]?=some v):R1 x E ρ L (.cell q t) v:=λ a w ha hw=>by
 have:=run_loadAt_cell hA (hw.find hF) hn
 simp only[Instr.loadAt,Instr.sureAddr,Sem.run_bind,Sem.run_pure,Result.andThen_ok] at this
 simp[ha.get q _ h,asAddr,this]
def RK (u:World)(ρ0:Hp)(R:SH)(Post:Value->Hp->SH->Prop):Ending->World->Prop:=λ e w'=>∃v ρ' L',e=.returned v/\ρ0.le ρ'/\Sat u ρ' (L'++R) w'/\Post v ρ' L'
class Ends (G:SH)(R:SH):Prop where
 out:List.Sublist R.flatten G.flatten
instance (priority:=1100) Ends.refl {R:SH}:Ends R R:=⟨List.Sublist.refl _⟩
instance (priority:=900) Ends.cons {G R:SH}{c:List (Nat×Obj)}[h:Ends G R]:Ends (c::G) R:=⟨by
 simp only[aF];exact h.out.trans (List.sublist_append_right _ _)⟩
theorem Sat.ends {u ρ w}{L L' G R:SH}(h:Sat u ρ L w)(k:Xj L L' G)(e:Ends G R):Sat u ρ (L'++R) w:=by
 refine (h.perm k.out).sub ?_
 simp only[List.flatten_append]
 exact List.Sublist.append (List.Sublist.refl _) e.out
def isEnd:Exit->Bool
 | .normal|.ret=>true
 | _=>false
theorem te_end {e:Exit}{fn:Func}{u:World}{ρ0:Hp}{R:SH}{Post:Value->Hp->SH->Prop}{L' G:SH}{v:Value}(he:isEnd e=true)(hD:x.D=[])(hu:x.u=u)(hr:∀a w,Ok x.D x.N E a->Sat x.u ρ L w->(results fn a.tmps).run x.P w=.ok v w)
  (hle:ρ0.le ρ) (k:Xj L L' G) (en:Ends G R) (hp:Post v ρ L'):TE x e (bodyPostM (Fw none) 0 x.P fn (RK u ρ0 R Post)) E ρ L:=λ a w ha hw=>by
 subst hu
 have h:=hr a w ha hw
 have hd:=ha.defers
 rw[hD] at hd
 cases e<;>simp only[isEnd,aB] at he<;>simp only[bodyPostM,hd,LeavesInM,LeavesIn]<;>exact⟨v,h,v,ρ,L',rfl,hle,hw.ends k en,hp⟩
def resG (tmps:Array Value):ResultVar->Sem Value:=fun
 | .tmp t=>pure (tmps.getD t undef)
 | .cell q t=>do loadVar t (<-asAddr (tmps.getD q undef))
theorem R1.run {r:ResultVar}{v:Value}(h:R1 x E ρ L r v){a w}(ha:Ok x.D x.N E a)(hw:Sat x.u ρ L w):(resG a.tmps r).run x.P w=.ok v w:=by
 have:=h a w ha hw
 cases r<;>exact this
theorem results_eq (fn:Func)(tmps:Array Value):results fn tmps=(fn.results.mapM (resG tmps) >>= λ vs=>pure (if h:vs.size=1 then vs[0] else .tuple vs)):=rfl
theorem res0 {fn:Func}(h:fn.results=#[]):∀a w,Ok x.D x.N E a->Sat x.u ρ L w->(results fn a.tmps).run x.P w=.ok (.tuple ⟨[]⟩) w:=λ a w _ _=>by
 simp[results,h]
theorem res1 {fn:Func}{r:ResultVar}{v:Value}(h:fn.results=#[r])(h1:R1 x E ρ L r v):∀a w,Ok x.D x.N E a->Sat x.u ρ L w->(results fn a.tmps).run x.P w=.ok v w:=λ a w ha hw=>by
 rw[results_eq,h]
 simp[h1.run ha hw]
theorem res2 {fn:Func}{r s:ResultVar}{v u:Value}(h:fn.results=#[r,s])(h1:R1 x E ρ L r v)(h2:R1 x E ρ L s u):∀a w,Ok x.D x.N E a->Sat x.u ρ L w->(results fn a.tmps).run x.P w=.ok (.tuple ⟨[v,u]⟩) w:=λ a w ha hw=>by
 rw[results_eq,h]
 simp[h1.run ha hw,h2.run ha hw]
theorem Vr {fn:Func}{r s t:ResultVar}{v u z:Value}(h:fn.results=#[r,s,t])(h1:R1 x E ρ L r v)(h2:R1 x E ρ L s u)(h3:R1 x E ρ L t z):∀a w,Ok x.D x.N E a->Sat x.u ρ L w->(results fn a.tmps).run x.P w=.ok (.tuple ⟨[v,u,z]⟩) w:=λ a w ha hw=>by
 rw[results_eq,h]
 simp[h1.run ha hw,h2.run ha hw,h3.run ha hw]
def Zc:Nat->List Value->Env
 | _,[]=>[]
 | k,v::r=>(k,v)::Zc (k+1) r
theorem lk_argsE:∀(vs:List Value) (k t:Nat) (v:Value),lk (Zc k vs) t=some v->k<=t/\vs[t-k]?=some v
 | [],k,t,v,h=>by cases h
 | u::r,k,t,v,h=>by
  simp only[Zc,lk] at h
  cases hb:Nat.beq k t with
  | true=>
   rw[hb] at h
   have e:k=t:=Nat.eq_of_beq_eq_true hb
   subst e
   simp only[Option.some.injEq] at h
   simp[h]
  | false=>
   rw[hb] at h
   obtain⟨h1,h2⟩:=lk_argsE r (k+1) t v h
   refine⟨by omega, ?_⟩
   have e:t-k=(t-(k+1))+1:=by omega
   rw[e];simpa using h2
theorem Za {P:Program}{f N:Nat}{fn:Func}{c:Code}{args:List Value}{Post:Value->Hp->SH->Prop}(hf:P.funcs[f]?=some fn)(hb:fn.body=some c)(hN:fn.ntmps=N)(hl:Nat.ble args.length N=true)
  (h:∀u R,TC ⟨none,P,u,[],N⟩ c (bodyPostM (Fw none) 0 P fn (RK u ρ R Post)) (Zc 0 args) ρ (L++R)):Spec P f args ρ L Post:=λ u R w hw=>by
 refine callsIn_of_wp_marks hf hb trivial ?_ rfl
 have hl':=Nat.le_of_ble_eq_true hl
 refine h u R _ w ⟨rfl, ?_,λ t v ht=>?_⟩ hw
 ·simp[hN];omega
 ·obtain⟨_,h2⟩:=lk_argsE args 0 t v ht
  have h2':args[t]?=some v:=by simpa using h2
  have hlt:t<args.length:=(List.getElem?_eq_some_iff.1 h2').1
  rw[Array.getElem?_append_left (by simpa using hlt)]
  simpa using h2'
end
def isAggD:TypeDesc->Bool
 | .struct _|.array _ _=>true
 | _=>false
theorem mkTyS {P:Program}{t:TypeId}(h:(P.underlying t).map isAggD=some false)(k:(P.info? t).map (·.size)=some 1):TyS P t:=by
 obtain⟨d,hd,he⟩:=Option.map_eq_some_iff.1 h
 obtain⟨i,hi,hj⟩:=Option.map_eq_some_iff.1 k
 exact⟨d,i,hd,by cases d<;>simp_all[isAggD],hi,hj⟩
theorem mkTyA {P:Program}{t:TypeId}{n:Nat}(h:(P.underlying t).map isAggD=some true)(k:(P.info? t).map (·.size)=some n):TyA P t n:=by
 obtain⟨d,hd,he⟩:=Option.map_eq_some_iff.1 h
 obtain⟨i,hi,hj⟩:=Option.map_eq_some_iff.1 k
 exact⟨d,i,hd,by cases d<;>simp_all[isAggD],hi,hj⟩
theorem mkTySz {P:Program}{t:TypeId}{n:Nat}(k:(P.info? t).map (·.size)=some n):Zm P t n:=by
 obtain⟨i,hi,hj⟩:=Option.map_eq_some_iff.1 k
 exact⟨i,hi,hj⟩
theorem mkTyBytes {P:Program}{t:TypeId}{n:Nat}(k:(P.info? t).map (·.bytes)=some n):Zd P t n:=by
 obtain⟨i,hi,hj⟩:=Option.map_eq_some_iff.1 k
 exact⟨i,hi,hj⟩
theorem mkTyZero {P:Program}{t:TypeId}{z:Value}(k:(P.info? t).bind (·.zero)=some z):Zf P t z:=by
 obtain⟨i,hi,hj⟩:=Option.bind_eq_some_iff.1 k
 exact⟨i,hi,hj⟩
def isFuncD:TypeDesc->Bool
 | .func _ _ _=>true
 | _=>false
theorem mkTyFunc {P:Program}{t:TypeId}(h:(P.underlying t).map isFuncD=some true):ZT P t:=by
 obtain⟨d,hd,he⟩:=Option.map_eq_some_iff.1 h
 cases d<;>simp[isFuncD] at he
 exact⟨_,_,_,hd⟩
def fldB (P:Program)(s f:Nat):Option (Nat×Nat):=
 match P.underlying s with
 | some (.struct fs)=>match fs[f]? with
  | some fd=>match P.info? fd.type with
   | some i=>match i.size with|0=>none|_+1=>some (fd.offset,fd.type)
   | none=>none
  | none=>none
 | _=>none
theorem mkFld {P:Program}{s:TypeId}{f off:Nat}{ft:TypeId}(h:fldB P s f=some (off,ft)):Zw P s f off ft:=by
 unfold fldB at h
 split at h
 ·rename_i fs hs
  split at h
  ·rename_i fd hf
   split at h
   ·rename_i i hi
    split at h
    ·cases h
    ·rename_i n hn
     simp only[Option.some.injEq,Prod.mk.injEq] at h
     obtain⟨rfl,rfl⟩:=h
     exact⟨fs,fd,i,hs,hf,rfl,rfl,hi,by omega⟩
   ·cases h
  ·cases h
 ·cases h
def placesB (P:Program)(t:Nat):Option (List (Nat×Nat)):=
 match P.underlying t with
 | some (.struct fs)=>fs.toList.mapM λ f=>(P.info? f.type).map λ i=>(f.offset,i.size)
 | _=>none
theorem mapM_places {P:Program}:∀(fs:List Field) (ps:List (Nat×Nat)),(fs.mapM λ f=>(P.info? f.type).map λ i=>(f.offset,i.size))=some ps ->
  ∀w,(fs.mapM λ f=>do pure (f.offset,<-sizeOf f.type):Sem (List (Nat×Nat))).run P w=.ok ps w
 | [],ps,h,w=>by simp at h;simp[h]
 | f::r,ps,h,w=>by
  simp only[List.mapM_cons,Option.bind_eq_bind,Option.bind_eq_some_iff,Option.map_eq_some_iff] at h
  obtain⟨p,⟨i,hi,rfl⟩,qs,hq,hp⟩:=h
  have hp':(f.offset,i.size)::qs=ps:=by simpa using hp
  subst hp'
  have ih:=mapM_places r qs hq w
  simp only[List.mapM_cons,Sem.run_bind,sizeOf,typeInfo,run_program,Result.andThen_ok,hi,Sem.run_pure] at ih ⊢
  simp only[ih,Result.andThen_ok]
theorem Zi {P:Program}{t:TypeId}{ps:List (Nat×Nat)}(h:placesB P t=some ps):Zj P t (ps[·]?):=by
 unfold placesB at h
 split at h
 ·rename_i fs hs
  refine⟨.inl ⟨fs,hs,⟨ps⟩,λ w=>?_, ?_⟩⟩
  ·have:=mapM_places fs.toList ps h w
   rw[Array.mapM_eq_mapM_toList]
   simp only[Sem.run_map,this,Result.andThen_ok]
  ·funext i;simp
 ·cases h
theorem mkTyPlacesA {P:Program}{t:TypeId}{n:Nat}{e:TypeId}{sz:Nat}(h:P.underlying t=some (.array n e))(k:(P.info? e).map (·.size)=some sz):Zj P t (λ i=>some (i*sz,sz)):=by
 obtain⟨i,hi,hj⟩:=Option.map_eq_some_iff.1 k
 exact⟨.inr ⟨n,e,sz,h,λ w=>by simp[sizeOf,typeInfo,hi,hj],rfl⟩⟩
def funB (P:Program)(f:Nat):Bool:=
 match P.funcs[f]? with
 | some fn=>!(fn.name == "runtime.NumGoroutine") && !fn.body.isNone
 | none=>false
theorem mkFun {P:Program}{f:FuncId}(h:funB P f=true):Zz P f:=by
 unfold funB at h
 split at h
 ·rename_i fn hf
  simp only[aE,Bool.not_eq_true'] at h
  exact⟨fn,hf,h.1,h.2⟩
 ·cases h
section
variable {P:Program}{ops:Array Oper}{md:Region.Mode}{w:World}{ro:Option Nat}
theorem wpOpIn_of_stOp {i:Nat}{a:Act}{K:Act->Prop}{K':Act->World->Prop}{Q':Exit->Act->World->Prop}(hnd:ops.all (λ o=>Wb o.op)=true)(h:∀a,K a->K' a w)(hh:stOp P ops w i K a) :
  wpOpIn (Fw ro) 0 P ops Q' i K' a w:=by
 unfold stOp at hh
 unfold wpOpIn
 cases ho:ops[i]? with
 | none=>simp only[ho] at hh ⊢;exact h _ hh
 | some o=>
  have hn:Wb o.op=true:=by
   have hm:o∈ops:=Array.mem_of_getElem? ho
   exact (Array.all_eq_true_iff_forall_mem.1 hnd) o hm
  simp only[ho] at hh ⊢
  split
  ·rename_i hw
   simp only[hw,if_true] at hh
   refine⟨λ _ _=>trivial, ?_⟩
   rw[show (Fw ro).round=ro from rfl,semAt_nd hn]
   unfold Oper.still at hh
   generalize (execOp a.eval o).run P w=r at *
   cases r with
   | ok n w'=>
    cases n<;>simp only[Oper.stillUpon] at hh<;>simp only[Oper.uponIn]
    case value v=>obtain⟨rfl,hk⟩:=hh;exact h _ hk
    case skip=>obtain⟨rfl,hk⟩:=hh;exact h _ hk
    case enter f args=>
     obtain⟨rfl,v,hc,hk⟩:=hh
     refine⟨λ hf=>by simp[Fw,Fence.wide] at hf, ?_⟩
     refine calls_ro ((callsIn_wide.2 hc).mono ?_)
     rintro e w'' ⟨rfl,rfl⟩
     exact h _ hk
   | halt x w'=>simp only[Oper.stillUpon] at hh
  ·rename_i hw
   simp only[hw] at hh
   exact⟨λ _ _=>trivial,h _ hh⟩
theorem wpAnyIn_of_head {n g:Nat}{L:Array Bool->Act->Prop}{Q':Exit->Act->World->Prop}(hnd:ops.all (λ o=>Wb o.op)=true)(hL:∀listed a,L listed a->wpAnyIn (Fw ro) 0 P md ops Q' g listed a w) :
  ∀(f:Nat) (listed:Array Bool) (a:Act),wpAnyL P md ops w n L f listed a->wpAnyIn (Fw ro) 0 P md ops Q' (f+g) listed a w
 | 0,listed,a,h=>by rw[Nat.zero_add];exact hL _ _ h
 | f+1,listed,a,h=>by
  rw[show f+1+g=(f+g)+1 by omega]
  exact⟨λ h0=>absurd h0 h.1,λ i hi=>wpOpIn_of_stOp hnd (λ a' h'=>wpAnyIn_of_head hnd hL f _ a' h') (h.2 i hi).2⟩
theorem wpAnyIn_of_seq {Q':Exit->Act->World->Prop}:∀(l:List Oper) (k:Nat) (listed:Array Bool) (a:Act) (w:World),(∀j,l[j]?=ops[k+j]?) ->
  Region.seqB md ops l.length k listed=true->wpListIn (Fw ro) 0 P ops Q' l a w->wpAnyIn (Fw ro) 0 P md ops Q' l.length listed a w
 | [],_,_,_,_,_,hB,h=>⟨by simpa [Region.seqB] using hB,h⟩
 | o::l,k,listed,a,w,hl,hB,h=>by
  have h0:ops[k]?=some o:=by simpa using (hl 0).symm
  simp only[aC,Region.seqB,aE,decide_eq_true_eq] at hB
  refine⟨λ h1=>(by rw[hB.1] at h1;cases h1),λ i hi=>?_⟩
  rw[hB.1] at hi
  have hik:i=k:=by simpa using hi
  subst hik
  have hw:wpOpIn (Fw ro) 0 P ops Q' i (wpListIn (Fw ro) 0 P ops Q' l) a w:=by unfold wpOpIn;simp only[h0];exact h
  exact wpOpIn_mono (λ a' w' h'=>wpAnyIn_of_seq l (i+1) _ a' w' (λ j=>by have:=hl (j+1);simpa [Nat.add_assoc,Nat.add_comm 1 j] using this) hB.2 h') hw
theorem wpIn_region_still_tail {id:Nat}{Q:Exit->Act->World->Prop}{a:Act}{w:World}{l:List Oper}(n:Nat)(hm:P.follows .mixedOrders=true)(hB:Region.lexTailB .any l.toArray n=true)(hnd:l.toArray.all (λ o=>Wb o.op)=true)
  (h:wpStill P l.toArray { w with drawn:=w.drawn+1 } (λ a'=>wpListIn (Fw ro) 0 P l.toArray Q (l.drop n) a' { w with drawn:=w.drawn+1 }) (l.take n) a):(Code.region id l.toArray true).wpIn (Fw ro) 0 P Q a w:=by
 simp only[Region.lexTailB,aE,decide_eq_true_eq] at hB
 obtain⟨⟨⟨⟨hsel,hn⟩,hs⟩,hc⟩,hlex⟩:=hB
 have hn':n<l.length:=by simpa using hn
 have htl:(l.take n).length=n:=by simp;omega
 have hdl:(l.drop n).length=l.toArray.size-n:=by simp
 have inv0:HeadInv .any l.toArray n (Array.replicate l.toArray.size false):=
  ⟨by simp,λ j oj _ hl=>(by rw[getD_replicate_false] at hl;cases hl),λ t _ ht=>getD_in (by simpa using ht) (getD_replicate_false _ _)⟩
 have H:=wpAnyL_lex (md:=.any) (g:=l.toArray.size-n) hsel hs hc hn (l.take n) 0 _ a (λ j hj=>by
  have hj':j<n:=by rw[htl] at hj;exact hj
  simp[hj']) (by simpa using htl) inv0 (by rw[htl];exact hlex) h
 refine wpIn_region_any hm ?_
 have:=wpAnyIn_of_head (ro:=ro) (Q':=Q) (g:=l.toArray.size-n) hnd (λ listed a' hL=>by
  have:=wpAnyIn_of_seq (ro:=ro) (P:=P) (md:=.any) (Q':=Q) (l.drop n) n listed a' { w with drawn:=w.drawn+1 } (λ j=>by simp[List.getElem?_drop]) (by rw[hdl];exact hL.1) hL.2
  rwa [hdl] at this) _ _ _ H
 rw[htl,show n+(l.toArray.size-n)=l.toArray.size by omega] at this
 exact this
end
class Mixed (P:Program):Prop where
 out:P.follows .mixedOrders=true
def TS (x:Cx)(ops:Array Oper)(l tail:List Oper)(Q:Exit->Act->World->Prop)(E:Env)(ρ:Hp)(L:SH):Prop:=
 ∀a w,Ok x.D x.N E a->Sat x.u ρ L w->wpStill x.P ops w (λ a'=>wpListIn (Fw x.ro) 0 x.P ops Q tail a' w) l a
section
variable {x:Cx}{Q:Exit->Act->World->Prop}{E:Env}{ρ:Hp}{L:SH}{ops:Array Oper}{rest tail:List Oper}{ty:TypeId}{pos:String}{af:Array Edge}
theorem tc_draw {id:Nat}{l:List Oper}(n:Nat)[hm:Mixed x.P](hB:Region.lexTailB .any l.toArray n=true)(hnd:l.toArray.all (λ o=>Wb o.op)=true)(h:TS x l.toArray (l.take n) (l.drop n) Q E ρ L) :
  TC x (.region id l.toArray true) Q E ρ L:=λ a w ha hw=>wpIn_region_still_tail n hm.out hB hnd (h a _ ha hw.drew)
theorem ts_nil (h:TL x ops tail Q E ρ L):TS x ops [] tail Q E ρ L:=λ a w ha hw=>wpStill_nil (h a w ha hw)
theorem ts_y {d:Nat}{op:Op}{v:Value}(hy:Yl x op ty E ρ L v)(hd:Nat.blt d x.N=true)
  (k:TS x ops rest tail Q ((d,v)::E) ρ L):TS x ops (⟨some d,op,ty,pos,af,none⟩::rest) tail Q E ρ L:=λ a w ha hw=>by
 simp only[wpStill,Region.wanted,if_true,Oper.still,hy a w _ _ _ _ ha hw,Oper.stillUpon_value]
 exact k _ _ (ha.put (Nat.le_of_ble_eq_true hd) v) hw
theorem ts_want {d:Option Nat}{op:Op}{j t:Nat}{b:Bool}(hj:(ops[j]?).bind (·.dst)=some t)(he:lk E t=some (.bool b))
  (k:TS x ops (⟨d,op,ty,pos,af,none⟩::rest) tail Q E ρ L):TS x ops (⟨d,op,ty,pos,af,some (j,b)⟩::rest) tail Q E ρ L:=λ a w ha hw=>by
 have hy:yielded ops a.tmps j=some b:=by
  unfold yielded
  rw[hj]
  simp[ha.get t _ he]
 have h:=k a w ha hw
 simp only[wpStill,Region.wanted,if_true] at h
 simp only[wpStill,Region.wanted,hy,beq_self_eq_true,if_true]
 exact h
theorem ts_skip {d:Nat}{op:Op}{j t:Nat}{b c:Bool}(hj:(ops[j]?).bind (·.dst)=some t)(he:lk E t=some (.bool b))(hbc:(b == c)=false)(hd:Nat.blt d x.N=true)
  (k:TS x ops rest tail Q ((d,undef)::E) ρ L):TS x ops (⟨some d,op,ty,pos,af,some (j,c)⟩::rest) tail Q E ρ L:=λ a w ha hw=>by
 have hy:yielded ops a.tmps j=some b:=by
  unfold yielded
  rw[hj]
  simp[ha.get t _ he]
 have hne:¬(some b == some c)=true:=by cases b<;>cases c<;>simp_all
 simp only[wpStill,Region.wanted,hy,hne]
 exact k _ _ (ha.put (Nat.le_of_ble_eq_true hd) undef) hw
end
structure OwnS (v:Value)(n:Nat)(xs sp:List Value)(sz:Nat):Prop where
 out:(v=.slice none 0 0/\n=0/\xs=[]/\sp=[])\/∃b cap,v=.slice (some ⟨b,0,none⟩) n cap/\xs.length=n*sz/\xs.length+sp.length=cap*sz/\n<=cap
def ZG (v:Value)(xs sp:List Value)(T:TypeId):List (Nat×Obj):=
 match v with
 | .slice (some a) _ _=>[(a.block,.cells ⟨xs++sp⟩ T (0,0))]
 | _=>[]
theorem OwnS.nil (sz:Nat):OwnS (.slice none 0 0) 0 [] [] sz:=⟨.inl ⟨rfl,rfl,rfl,rfl⟩⟩
theorem OwnS.len {v n xs sp sz}(h:OwnS v n xs sp sz):∃a cap,v=.slice a n cap/\xs.length=n*sz:=by
 rcases h.out with⟨rfl,rfl,rfl,rfl⟩|⟨b,cap,rfl,h1,h2,h3⟩
 ·exact⟨none,0,rfl,by simp⟩
 ·exact⟨_,cap,rfl,h1⟩
def Src (x:Cx)(ρ:Hp)(L:SH)(b off:Nat)(ys:List Value):Prop:=∀w,Sat x.u ρ L w->∀j c,ys[j]?=some c->w.cell? ⟨b,off+j,none⟩=some c
section
variable {x:Cx}{Q:Exit->Act->World->Prop}{E:Env}{ρ:Hp}{L L1:SH}{ops:Array Oper}{rest tail:List Oper}{ty:TypeId}{pos:String}{af:Array Edge}
theorem cell_row {w:World}{b off n:Nat}{l ys:List Value}{T:TypeId}{fr:Nat×Nat}(hb:w.heap[b]?=some (.cells ⟨l⟩ T fr))(h:(l.drop off).take n=ys)(j:Nat)(c:Value)(hj:ys[j]?=some c):w.cell? ⟨b,off+j,none⟩=some c:=by
 simp only[World.cell?,hb,Option.isSome_none,aB,if_false]
 rw[<-h] at hj
 have hlt:j<n:=by have:=(List.getElem?_eq_some_iff.1 hj).1;simp at this;omega
 rw[List.getElem?_take_of_lt hlt,List.getElem?_drop] at hj
 simpa using hj
theorem Src.find {b off n:Nat}{l ys:List Value}{T:TypeId}{fr:Nat×Nat}[hF:Find b L (.cells ⟨l⟩ T fr)](h:(l.drop off).take n=ys):Src x ρ L b off ys:=
 λ w hw j c hj=>cell_row (hw.find hF) h j c hj
theorem Src.imm {b off n:Nat}{l ys:List Value}{T:TypeId}{fr:Nat×Nat}(hF:ρ b=some (.cells ⟨l⟩ T fr))(h:(l.drop off).take n=ys):Src x ρ L b off ys:=
 λ w hw j c hj=>cell_row (hw.imm _ _ hF) h j c hj
theorem stc_end (xs sp ys:List Value)(h:ys.length<=sp.length):stc (xs++sp) xs.length ys=(xs++ys)++sp.drop ys.length:=by
 unfold stc
 rw[List.take_left]
 have:List.drop (xs.length+ys.length) (xs++sp)=sp.drop ys.length:=by rw[List.drop_append];simp
 rw[this]
theorem tl_append {d t e sz by' n m bx ox cx:Nat}{s y:Operand}{v z:Value}{xs sp ys:List Value}[hS:ZE x.P t e][hZ:Zm x.P e sz][hB:Zd x.P e by'][hz:Zf x.P e z]
  (hs:ev E s=some v) (hy:ev E y=some (.slice (some ⟨bx,ox,none⟩) m cx)) (hown:OwnS v n xs sp sz) [hR:Rem (ZG v xs sp e) L L1] (hsrc:Src x ρ L1 bx ox ys) (hlen:ys.length=m*sz)
  (h1:ys.all (·.oneCell')=true) (h0:0<m) (hzs:z.cells.toList.length=sz) (hb:(n+m)*by'<=140737488355328) (hm:n+m<=9223372036854775807) (hd:Nat.blt d x.N=true)
  (k:∀v' sp',OwnS v' (n+m) (xs++ys) sp' sz->TL x ops rest Q ((d,v')::E) ρ (ZG v' (xs++ys) sp' e::L1)) :
  TL x ops (⟨some d,.call { callee:=.builtin .append,args:=#[s,y],argTypes:=#[t,t] },ty,pos,af,none⟩::rest) Q E ρ L:=λ a w ha hw=>by
 refine Ye rfl rfl ?_
 have hw':=hw.perm (L':=ZG v xs sp e::L1) (by simpa using hR.out)
 have hwL:Sat x.u ρ L1 w:=hw'.sub (by simp)
 obtain⟨i,g1,g2⟩:=hZ.out
 obtain⟨i2,g3,g4⟩:=hB.out
 obtain⟨i3,g5,g6⟩:=hz.out
 rw[g1] at g3 g5
 cases g3;cases g5
 subst g2;subst g4
 have hzs':z.cells.size=i.size:=by simpa using hzs
 have hcells:∀j c,ys[j]?=some c->w.cell? ((⟨bx,ox,none⟩:Addr).add j)=some c:=λ j c hj=>by rw[YY];exact hsrc w hwL j c hj
 have hone:∀c∈ys,c.oneCell'=true:=λ c hc=>List.all_eq_true.1 h1 c hc
 have hexec:∀(v':Value) (w':World),(Builtin.append_ #[t,t] ty #[v,.slice (some ⟨bx,ox,none⟩) m cx]).run x.P w=.ok v' w' ->
   (execOp a.eval ⟨some d,.call { callee:=.builtin .append,args:=#[s,y],argTypes:=#[t,t] },ty,pos,af,none⟩).run x.P w=.ok (.value v') w':=λ v' w' hr=>by
  simp only[execOp,resolve,Sem.run_bind,Sem.run_pure,Result.andThen_ok,invoke,builtin]
  have hargs:Array.map a.eval #[s,y]=#[v,.slice (some ⟨bx,ox,none⟩) m cx]:=by simp[ha.eval hs,ha.eval hy]
  rw[hargs,hr]
  rfl
 have hgc:∀(w:World) (need old:Nat),need<=grownCap w need old e:=λ w need old=>by simp only[grownCap,Question.cut];omega
 have hzl:∀c,(Builtin.zeroCells z.cells c).toList.length=c*i.size:=λ c=>by
  have:=size_zeroCells z.cells c
  rw[hzs'] at this;simpa using this
 rcases hown.out with⟨rfl,rfl,rfl,rfl⟩|⟨b,cap,rfl,e1,e2,e3⟩
 ·-- nil
  have hrun:=run_append_nil (P:=x.P) (w:=w) t ty e i z hS.out g1 g6 ⟨bx,ox,none⟩ m cx ys hlen hcells h0 (by omega) (by
   have hfit:Builtin.nextslicecap (0+m) 0*i.bytes<=281474976710656:=growslice_fits (by omega) hb
   have:Builtin.nextslicecap m 0=m:=nextslicecap_zero h0
   simp only[Nat.zero_add,this] at hfit;exact hfit)
  rw[hexec _ _ hrun]
  have hs2:=(hwL.drew).new (.cells (ys.toArray++Builtin.zeroCells z.cells (grownCap w m 0 e-m)) e (0,0))
  have hg:=hgc w m 0
  refine k (.slice (some ⟨w.heap.size,0,none⟩) (0+m) (grownCap w m 0 e)) (Builtin.zeroCells z.cells (grownCap w m 0 e-m)).toList ?_ _ _ (by
   have:=ha.put (Nat.le_of_ble_eq_true hd) (.slice (some ⟨w.heap.size,0,none⟩) m (grownCap w m 0 e));simpa using this) ?_
  ·refine⟨.inr ⟨w.heap.size,grownCap w m 0 e,rfl,by simpa using hlen, ?_,by omega⟩⟩
   rw[hzl];simp only[List.nil_append,hlen,<-Nat.add_mul]
   rw[show m+(grownCap w m 0 e-m)=grownCap w m 0 e by omega]
  ·have:ZG (.slice (some ⟨w.heap.size,0,none⟩) (0+m) (grownCap w m 0 e)) ([]++ys) (Builtin.zeroCells z.cells (grownCap w m 0 e-m)).toList e=[(w.heap.size,.cells (ys.toArray++Builtin.zeroCells z.cells (grownCap w m 0 e-m)) e (0,0))]:=by
    simp only[ZG,List.nil_append]
    congr 3
    apply Array.ext';simp
   rw[this]
   exact hs2
 ·have hbk:=hw'.here (b,.cells ⟨xs++sp⟩ e (0,0)) (by simp[ZG])
  by_cases hroom:n+m<=cap
  ·-- there is room
   have hylen:ys.length<=sp.length:=by
    have:(n+m)*i.size<=cap*i.size:=Nat.mul_le_mul_right _ hroom
    rw[Nat.add_mul] at this;omega
   have hrun:=run_append_room (P:=x.P) w t ty e i hS.out g1 b n cap ⟨xs++sp⟩ hbk ⟨bx,ox,none⟩ m cx ys hlen hcells hone hroom (by simp;omega)
   rw[hexec _ _ hrun]
   have hset:w.setRow b (List.take (n*i.size) (xs++sp)++ys++List.drop (n*i.size+ys.length) (xs++sp)).toArray=Vq w b (.cells ⟨(xs++ys)++sp.drop ys.length⟩ e (0,0)):=by
    rw[setRow_eq hbk]
    have:=stc_end xs sp ys hylen
    unfold stc at this
    rw[<-e1,this]
   have hs2:=hw'.put (.cells ⟨(xs++ys)++sp.drop ys.length⟩ e (0,0))
   refine k (.slice (some ⟨b,0,none⟩) (n+m) cap) (sp.drop ys.length) ⟨.inr ⟨b,cap,rfl,by simp[Nat.add_mul];omega,by simp;omega,hroom⟩⟩ _ _ (ha.put (Nat.le_of_ble_eq_true hd) _) ?_
   simp only[Array.toList] at hset ⊢
   rw[hset]
   exact hs2
  ·-- a new row
   have hold:∀j c,xs[j]?=some c->w.cell? ((⟨b,0,none⟩:Addr).add j)=some c:=λ j c hj=>by
    rw[YY]
    simp only[World.cell?,hbk,Option.isSome_none,aB,if_false,Nat.zero_add]
    have hlt:=(List.getElem?_eq_some_iff.1 hj).1
    simp only[List.getElem?_toArray]
    rw[List.getElem?_append_left hlt];exact hj
   have hrun:=run_append_grow (P:=x.P) (w:=w) t ty e i z hS.out g1 g6 ⟨b,0,none⟩ n cap xs e1 hold ⟨bx,ox,none⟩ m cx ys hlen hcells (by omega) (by omega) (growslice_fits (by omega) hb)
   rw[hexec _ _ hrun]
   have hg:=hgc w (n+m) cap
   have hs2:=(hwL.drew).new (.cells (xs.toArray++ys.toArray++Builtin.zeroCells z.cells (grownCap w (n+m) cap e-(n+m))) e (0,0))
   refine k (.slice (some ⟨w.heap.size,0,none⟩) (n+m) (grownCap w (n+m) cap e)) (Builtin.zeroCells z.cells (grownCap w (n+m) cap e-(n+m))).toList ?_ _ _ (ha.put (Nat.le_of_ble_eq_true hd) _) ?_
   ·refine⟨.inr ⟨w.heap.size,grownCap w (n+m) cap e,rfl,by simp[Nat.add_mul];omega, ?_,by omega⟩⟩
    rw[hzl];simp only[aL,hlen,e1,<-Nat.add_mul]
    rw[show n+m+(grownCap w (n+m) cap e-(n+m))=grownCap w (n+m) cap e by omega]
   ·have:ZG (.slice (some ⟨w.heap.size,0,none⟩) (n+m) (grownCap w (n+m) cap e)) (xs++ys) (Builtin.zeroCells z.cells (grownCap w (n+m) cap e-(n+m))).toList e=[(w.heap.size,.cells (xs.toArray++ys.toArray++Builtin.zeroCells z.cells (grownCap w (n+m) cap e-(n+m))) e (0,0))]:=by
     simp only[ZG]
     congr 3
     apply Array.ext';simp
    rw[this]
    exact hs2
end
end Go.Proofs.E
