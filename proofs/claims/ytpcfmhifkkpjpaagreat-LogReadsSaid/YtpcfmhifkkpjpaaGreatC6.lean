/- Laws of LogReads. Part 6 of 28. -/
import Derived.Test.YtpcfmhifkkpjpaaGreatC5
namespace Go.Proofs.E
open Go
set_option linter.unusedVariables false
set_option linter.unusedSimpArgs false
set_option linter.unusedSectionVars false
set_option maxRecDepth 4000
set_option maxHeartbeats 1000000
attribute [local irreducible] Yl TL TC TE Spec ZI R1 Hp.le EnvLe TS TR YS Zp TP QP
def Yw (k:Kid):List UInt8:=XT k.t k.id++[tB k.page]
def cntB (c:Wq):List UInt8:=if c.kind=0 then [] else [UInt8.ofNat (c.rows.length+c.kids.length)]
def Yd (c:Wq):List UInt8:=tB c.kind::cntB c++(c.rows.flatMap ZG++c.kids.flatMap Yw)
theorem Vk {α:Type}{most:Nat}{right:Nat→α→Bool}{lt:α→α→Bool}{l:List α}:∀{k:Nat},Zy most right lt l k=true→k≤l.length→l.length≤most∧∀i (h:i<l.length),i<k→right i l[i]=true∧(i=0∨lt (l[i-1]'(by omega)) l[i]=true)
 | 0,h,_=>⟨of_decide_eq_true h,fun i _ hi=>by omega⟩
 | k+1,h,hk=>by
  rw[Xo (show k<l.length by omega),Bool.and_eq_true,Bool.and_eq_true] at h
  obtain⟨h1,h2,h3⟩:=h
  obtain⟨g1,g2⟩:=Vk h1 (by omega)
  refine⟨g1,fun i hi hik=>?_⟩
  by_cases e:i<k
  ·exact g2 i hi e
  ·have:i=k:=by omega
   subst this
   refine⟨h2, ?_⟩
   simpa using h3
structure ContOk (c:Wq):Prop where
 kind:c.kind=0∧c.rows=[]∧c.kids=[]∨c.kind=1∧c.kids=[]∨c.kind=2∧c.rows=[]∧1<c.kids.length
 rl:c.rows.length≤4
 kl:c.kids.length≤4
 row:∀r∈c.rows,YB r=true
 kid:∀k∈c.kids,(0≤k.t∧k.t<3)∧0<k.page∧k.page<64
theorem Wk {c:Wq}(h:ZJ c=true):ContOk c:=by
 obtain⟨kind,rows,kids⟩:=c
 unfold ZJ at h
 dsimp only at h
 split at h
 ·rename_i hk
  have hz:=of_decide_eq_true h
  have h1:rows=[]:=List.eq_nil_of_length_eq_zero (by omega)
  have h2:kids=[]:=List.eq_nil_of_length_eq_zero (by omega)
  subst h1;subst h2
  exact⟨.inl ⟨hk,rfl,rfl⟩,by simp,by simp,by simp,by simp⟩
 ·split at h
  ·rename_i hk
   rw[Bool.and_eq_true] at h
   have h2:kids=[]:=List.eq_nil_of_length_eq_zero (of_decide_eq_true h.1)
   subst h2
   obtain⟨g1,g2⟩:=Vk h.2 (Nat.le_refl _)
   refine⟨.inr (.inl ⟨hk,rfl⟩),g1,by simp,fun r hr=>?_,by simp⟩
   obtain⟨i,hi,rfl⟩:=List.mem_iff_getElem.1 hr
   exact (g2 i hi hi).1
  ·split at h
   ·rename_i hk
    rw[Bool.and_eq_true,Bool.and_eq_true] at h
    have h1:rows=[]:=List.eq_nil_of_length_eq_zero (of_decide_eq_true h.1)
    subst h1
    obtain⟨g1,g2⟩:=Vk h.2.2 (Nat.le_refl _)
    refine⟨.inr (.inr ⟨hk,rfl,of_decide_eq_true h.2.1⟩),by simp,g1,by simp,fun k hk=>?_⟩
    obtain⟨i,hi,rfl⟩:=List.mem_iff_getElem.1 hk
    have:=of_decide_eq_true (g2 i hi hi).1
    exact⟨this.2.2.2.1,this.2.1,this.2.2.1⟩
   ·cases h
theorem rowB_len {r:Row}(h:YB r=true):(ZG r).length=12+r.note.length:=by simp[ZG,XT,Zf];omega
theorem rowB_le {r:Row}(h:YB r=true):(ZG r).length≤20:=by rw[rowB_len h];have:=(rowOk_iff h).2.2;omega
theorem Vs (k:Kid):(Yw k).length=4:=by simp[Yw,XT,Zf]
theorem ZZ {α:Type}(f:α→List UInt8)(m:Nat):∀(l:List α),(∀x∈l,(f x).length≤m)→(l.flatMap f).length≤l.length*m
 | [],_=>by simp
 | x::r,h=>by
  have h1:=h x (by simp)
  have ih:=ZZ f m r (fun y hy=>h y (by simp[hy]))
  simp only[List.flatMap_cons,List.length_append,List.length_cons,Nat.add_mul];omega
theorem YY {α:Type}(f:α→List UInt8)(l:List α)(k:Nat)(h:k<l.length):(l.take (k+1)).flatMap f=(l.take k).flatMap f++f l[k]:=by
 rw[List.take_succ_eq_append_getElem h,List.flatMap_append];simp
theorem contE_spec (ρ:Hp)(w:CV)(c:Wq)(h:CIn ρ w c.rows c.kids)(hir:∀r∈c.rows,r.id<65536)(hik:∀k∈c.kids,k.id<65536) :
  Spec Tryz.prog 273 [.agg ⟨XI c.kind w⟩] ρ [] (fun v ρ' L'=>ρ.le ρ'∧∃a n c',v=.tuple ⟨[.slice a n c',.int .i64 (if ZJ c then 0 else 160)]⟩∧n≤c'∧SIn ρ' Zo a n (if ZJ c then Yd c else [])∧L'=[]):=by
 have hck:=fun ρ h=>Wj ρ w c h
 refine Zb Tryz.func273 rfl rfl rfl fun u R=>?_
 simp only[Zd,kA]
 cases hok:ZJ c
 ·simp only[hok,Bool.false_eq_true,if_false] at hck ⊢
  repeat' (first|(refine Za (.func 195) ?_;refine qC rfl rfl (hck _ h) ?_;rintro v ρ' L' hle ⟨rfl,rfl,rfl⟩<;>(try simp only[kA]))|refine zW ?_|intro _)
  exact qE ⟨Hp.le_refl _,none,0,0,rfl,Nat.le_refl _,SIn.nil,rfl⟩
 ·simp only[hok,if_true] at hck ⊢
  obtain⟨hkind,hrl,hkl,hrow,hkid⟩:=Wk hok
  have hk03:0≤c.kind∧c.kind<3:=by omega
  obtain⟨kind,rows,kids⟩:=c
  obtain⟨ra,rn,rc,ka,kn,kc⟩:=w
  obtain⟨hr,hk,hrb,hkb,hrc,hkc⟩:=h
  dsimp only at hrc hkc hr hk hrb hkb hrow hkid hrl hkl hk03 hir hik ⊢
  have hrn:=hr.len
  have hkn:=hk.len
  have hcnt:=lenB (n:=rn+kn) (by omega)
  have hkB:=tB_eq (t:=kind) (by omega) (by omega)
  dsimp only[XI] at hck ⊢
  by_cases hk0:kind=0
  ·obtain⟨B0,hB0⟩:∃B0,tB kind::cntB ⟨kind,rows,kids⟩=B0:=⟨_,rfl⟩
   have hX:B0=[tB kind]:=by rw[←hB0];simp[cntB,hk0]
   have hBl:B0.length≤2:=by rw[hX];simp
   repeat' (first|(refine Za (.func 195) ?_;refine qC rfl rfl (hck _ ⟨hr,hk,hrb,hkb,hrc,hkc⟩) ?_;rintro v ρ' L' hle ⟨rfl,rfl,rfl⟩<;>(try simp only[kA]))|(refine Zm rfl rfl rfl rfl (by simp) rfl rfl (fun _=>?_);simp only[hkB])|refine zW ?_|intro _)
   rename_i b1 b2
   rw[show [Zo (tB kind)]=B0.map Zo by rw[hX];rfl,own_chunk b2 1 1]
   have hown0:OwnS (.slice (some ⟨b2,0,none⟩) 1 1) B0.length (B0.map Zo) [] 1:=⟨.inr ⟨b2,1,by rw[hX];rfl,by simp,by simp[hX],by simp[hX]⟩⟩
   generalize Value.slice (some ⟨b2,0,none⟩) 1 1=v0 at *
   rw[show B0.map Zo=(B0++(rows.take 0).flatMap ZG).map Zo by simp]
   refine Zi [(1,_),(2,_),(3,_),(34,_),(35,_)] (fun (ζ:(Nat)×(Hp)×(Value)×(List Value))=>[(36,.int .i64 ζ.1),(5,ζ.2.2.1)]) (fun (ζ:(Nat)×(Hp)×(Value)×(List Value))=>ζ.2.1) (fun (ζ:(Nat)×(Hp)×(Value)×(List Value))=>[Zz ζ.2.2.1 ((B0++(rows.take ζ.1).flatMap ZG).map Zo) ζ.2.2.2 5,[(b1,.cells ⟨[.int .i64 kind,.slice ra rn rc,.slice ka kn kc]⟩ 112 (0,0))]]) (fun (ζ:(Nat)×(Hp)×(Value)×(List Value))=>ζ.1≤rn∧ρ'.le ζ.2.1∧OwnS ζ.2.2.1 (B0++(rows.take ζ.1).flatMap ZG).length ((B0++(rows.take ζ.1).flatMap ZG).map Zo) ζ.2.2.2 1) (fun (ζ:(Nat)×(Hp)×(Value)×(List Value))=>rn-ζ.1) ((0,ρ',v0,[])) (⟨Nat.zero_le _,Hp.le_refl _,by simpa using hown0⟩) Zc Zc rfl tk ?_
   rintro⟨k,ρ1,v,sp⟩ hI
   try simp only[kA,List.append_assoc] at hI ⊢
   try dsimp only at hI ⊢
   obtain⟨hkn0,hle1,hown⟩:=hI
   by_cases hlt:k<rn
   ·obtain⟨b,off,C,T,fr,rfl,hb,hfit,hc⟩:=(hr.mono hle1).get (show k<rows.length by omega)
    have hmem:rows[k]'(by omega)∈rows:=List.getElem_mem _
    have hro:=hrow _ hmem
    have hid:=hir _ hmem
    have hts:=YY ZG rows k (by omega)
    have hfl:=ZZ ZG 20 (rows.take k) (fun x hx=>rowB_le (hrow x (List.mem_of_mem_take hx)))
    have htl:(rows.take k).length≤4:=by simp;omega
    have hXl:(B0++(rows.take k).flatMap ZG).length≤100:=by simp only[List.length_append];omega
    have hll:(B0++(rows.take k).flatMap ZG).length+(ZG (rows[k]'(by omega))).length=(B0++(rows.take (k+1)).flatMap ZG).length:=by rw[hts];simp;omega
    have hmm:B0++(rows.take k).flatMap ZG++ZG (rows[k]'(by omega))=B0++(rows.take (k+1)).flatMap ZG:=by rw[hts];simp
    generalize rows[k]'(by omega)=x at *
    repeat' (first|(refine Za (.func 323) ?_;refine qC rfl rfl (claid_spec _ v _ _ sp hown (by omega) x hro hid) ?_;rintro v2 ρ2 L2 hle0 ⟨hle2,sp2,hown2,rfl⟩;simp only[kA,hmm];rw[hmm,hll] at hown2)|refine zW ?_|intro _)
    refine Ze (k+1,_,v2,sp2) (⟨hlt,Hp.le_trans hle1 hle2,hown2⟩) Zc Zc rfl tk inferInstance (by first|omega|(dsimp only;omega))
   ·have hk2:k=rn:=by omega
    subst hk2
    rw[List.take_of_length_le (by omega)] at hown ⊢
    repeat' (first|refine zW ?_|intro _)
    rw[show (B0++rows.flatMap ZG).map Zo=(B0++(rows.flatMap ZG++(kids.take 0).flatMap Yw)).map Zo by simp]
    refine Zi [(2,_),(3,_),(45,_),(46,_)] (fun (ζ:(Nat)×(Hp)×(Value)×(List Value))=>[(47,.int .i64 ζ.1),(5,ζ.2.2.1)]) (fun (ζ:(Nat)×(Hp)×(Value)×(List Value))=>ζ.2.1) (fun (ζ:(Nat)×(Hp)×(Value)×(List Value))=>[Zz ζ.2.2.1 ((B0++(rows.flatMap ZG++(kids.take ζ.1).flatMap Yw)).map Zo) ζ.2.2.2 5]) (fun (ζ:(Nat)×(Hp)×(Value)×(List Value))=>ζ.1≤kn∧ρ1.le ζ.2.1∧OwnS ζ.2.2.1 (B0++(rows.flatMap ZG++(kids.take ζ.1).flatMap Yw)).length ((B0++(rows.flatMap ZG++(kids.take ζ.1).flatMap Yw)).map Zo) ζ.2.2.2 1) (fun (ζ:(Nat)×(Hp)×(Value)×(List Value))=>kn-ζ.1) ((0,ρ1,v,sp)) (⟨Nat.zero_le _,Hp.le_refl _,by simpa using hown⟩) Zc Zc rfl tk ?_
    rintro⟨j,ρ2,v,sp⟩ hI
    try simp only[kA,List.append_assoc] at hI ⊢
    try dsimp only at hI ⊢
    have hfl:=ZZ ZG 20 rows (fun x hx=>rowB_le (hrow x hx))
    obtain⟨hj0,hle3,hown3⟩:=hI
    by_cases hlj:j<kn
    ·obtain⟨b,off,C,T,fr,rfl,hb,hfit,hc⟩:=(hk.mono (Hp.le_trans hle1 hle3)).get (show j<kids.length by omega)
     have hmem:kids[j]'(by omega)∈kids:=List.getElem_mem _
     have hko:=hkid _ hmem
     have hid:=hik _ hmem
     have hts:=YY Yw kids j (by omega)
     have hfk:=ZZ Yw 4 (kids.take j) (fun x hx=>Nat.le_of_eq (Vs x))
     have htl:(kids.take j).length≤4:=by simp;omega
     have hXl:(B0++(rows.flatMap ZG++(kids.take j).flatMap Yw)).length≤200:=by simp only[List.length_append];omega
     have hmm:B0++(rows.flatMap ZG++(kids.take j).flatMap Yw)++XT (kids[j]'(by omega)).t (kids[j]'(by omega)).id++[tB (kids[j]'(by omega)).page]=B0++(rows.flatMap ZG++(kids.take (j+1)).flatMap Yw):=by rw[hts];simp[Yw]
     have hll:(B0++(rows.flatMap ZG++(kids.take j).flatMap Yw)).length+3+1=(B0++(rows.flatMap ZG++(kids.take (j+1)).flatMap Yw)).length:=by rw[hts];simp[Vs];omega
     have hpg:=tB_eq (t:=(kids[j]'(by omega)).page) (by omega) (by omega)
     generalize kids[j]'(by omega)=x at *
     generalize hX:B0++(rows.flatMap ZG++(kids.take j).flatMap Yw)=X at *
     repeat' (first|refine zW ?_|intro _)
     rename_i b9
     refine tpA [0,1,2,4,5,6] (.b 3 7 [] [] (.e 7 [] (.e 8 [] (.f [9] .o))) (.e 3 [] (.e 8 [] (.f [9] .o)))) ([[(b9,.cells ⟨Xl x⟩ 238 (0,0))]]) ?_
     repeat' (refine iT ?_;first|refine rA ?_|((first|(refine iE ?_;refine rE ?_)|(refine iB ?_;refine rB ?_ ?_))<;>((try refine Zn ?_);(first|(refine Za (.func 324) ?_;refine qC rfl rfl (key_spec _ v _ X sp hown3 (by omega) x.t x.id hko.1.1 (by omega) hid) ?_;rintro v2 ρ4 L2 hle0 ⟨hle4,sp4,hown4,rfl⟩;simp only[kA])|(refine Zm rfl rfl rfl rfl (by simp) rfl rfl (fun _=>?_);simp only[hpg])|(refine ZK (ys:=[Zo (tB x.page)]) (m:=1) rfl rfl hown4 (hR:=by infer_instance) SrcV.lit rfl rfl (by decide) rfl (by omega) (by omega) rfl (fun v5 sp5 hown5=>?_);rw[show (X++XT x.t x.id).map Zo++[Zo (tB x.page)]=(X++XT x.t x.id++[tB x.page]).map Zo by simp,hmm] at hown5 ⊢;rw[hll] at hown5)|(refine Yj ?_;try intro _))<;>((try simp only[kA]);refine Zj ?_;refine rN ?_))))
     all_goals (repeat' (first|refine zW ?_|intro _))
     all_goals refine Ze (j+1,_,v5,sp5) (⟨hlj,Hp.le_trans hle3 (by assumption),hown5⟩) Zc Zc rfl tk inferInstance (by first|omega|(dsimp only;omega))
    ·have hj2:j=kn:=by omega
     subst hj2
     rw[List.take_of_length_le (by omega)] at hown3 ⊢
     have hfin:B0++(rows.flatMap ZG++kids.flatMap Yw)=Yd ⟨kind,rows,kids⟩:=by rw[←hB0];simp[Yd]
     rw[hfin] at hown3 ⊢
     repeat' (first|refine zW ?_|intro _)
     refine ZM _ (h:=Rem.here) (fun ρ6 hle6 hfz=>?_)
     obtain⟨a6,c6,rfl,hc6,hs6⟩:=hown3.sIn hfz
     exact qE ⟨Hp.le_trans hle1 (Hp.le_trans hle3 hle6),a6,_,c6,rfl,hc6,hs6,rfl⟩
  ·obtain⟨B0,hB0⟩:∃B0,tB kind::cntB ⟨kind,rows,kids⟩=B0:=⟨_,rfl⟩
   have hX:B0=[tB kind]++[UInt8.ofNat (rn+kn)]:=by rw[←hB0];simp[cntB,hk0,hrn,hkn]
   have hBl:B0.length≤2:=by rw[hX];simp
   have hcnt':Value.int .u8 ((rn:Int)+(kn:Int))=Zo (UInt8.ofNat (rn+kn)):=by rw[←hcnt];simp
   repeat' (first|(refine Za (.func 195) ?_;refine qC rfl rfl (hck _ ⟨hr,hk,hrb,hkb,hrc,hkc⟩) ?_;rintro v ρ' L' hle ⟨rfl,rfl,rfl⟩<;>(try simp only[kA]))|(refine Zm rfl rfl rfl rfl (by simp) rfl rfl (fun _=>?_);first|simp only[hkB]|simp only[hcnt'])|refine zW ?_|intro _)
   rename_i b1 b2 b3
   rw[show ([(b2,Obj.cells ⟨[Zo (tB kind)]⟩ 5 (0,0))]:List (Nat×Obj))=Zz (.slice (some ⟨b2,0,none⟩) 1 1) ([tB kind].map Zo) [] 5 from rfl]
   refine ZK (ys:=[Zo (UInt8.ofNat (rn+kn))]) (m:=1) (n:=1) (xs:=[tB kind].map Zo) (sp:=[]) rfl rfl ⟨.inr ⟨b2,1,rfl,rfl,rfl,Nat.le_refl _⟩⟩ (hR:=by infer_instance) SrcV.lit rfl rfl (by decide) rfl (by omega) (by omega) rfl (fun v0 sp0 hown0=>?_)
   rw[show [tB kind].map Zo++[Zo (UInt8.ofNat (rn+kn))]=B0.map Zo by rw[hX];rfl] at hown0 ⊢
   replace hown0:OwnS v0 B0.length (B0.map Zo) sp0 1:=by
    have e:B0.length=1+1:=by rw[hX];rfl
    rw[e];exact hown0
   repeat' (first|refine zW ?_|intro _)
   rw[show B0.map Zo=(B0++(rows.take 0).flatMap ZG).map Zo by simp]
   refine Zi [(1,_),(2,_),(3,_),(34,_),(35,_)] (fun (ζ:(Nat)×(Hp)×(Value)×(List Value))=>[(36,.int .i64 ζ.1),(5,ζ.2.2.1)]) (fun (ζ:(Nat)×(Hp)×(Value)×(List Value))=>ζ.2.1) (fun (ζ:(Nat)×(Hp)×(Value)×(List Value))=>[Zz ζ.2.2.1 ((B0++(rows.take ζ.1).flatMap ZG).map Zo) ζ.2.2.2 5,[(b1,.cells ⟨[.int .i64 kind,.slice ra rn rc,.slice ka kn kc]⟩ 112 (0,0))]]) (fun (ζ:(Nat)×(Hp)×(Value)×(List Value))=>ζ.1≤rn∧ρ'.le ζ.2.1∧OwnS ζ.2.2.1 (B0++(rows.take ζ.1).flatMap ZG).length ((B0++(rows.take ζ.1).flatMap ZG).map Zo) ζ.2.2.2 1) (fun (ζ:(Nat)×(Hp)×(Value)×(List Value))=>rn-ζ.1) ((0,ρ',v0,sp0)) (⟨Nat.zero_le _,Hp.le_refl _,by simpa using hown0⟩) Zc Zc rfl tk ?_
   rintro⟨k,ρ1,v,sp⟩ hI
   try simp only[kA,List.append_assoc] at hI ⊢
   try dsimp only at hI ⊢
   obtain⟨hkn0,hle1,hown⟩:=hI
   by_cases hlt:k<rn
   ·obtain⟨b,off,C,T,fr,rfl,hb,hfit,hc⟩:=(hr.mono hle1).get (show k<rows.length by omega)
    have hmem:rows[k]'(by omega)∈rows:=List.getElem_mem _
    have hro:=hrow _ hmem
    have hid:=hir _ hmem
    have hts:=YY ZG rows k (by omega)
    have hfl:=ZZ ZG 20 (rows.take k) (fun x hx=>rowB_le (hrow x (List.mem_of_mem_take hx)))
    have htl:(rows.take k).length≤4:=by simp;omega
    have hXl:(B0++(rows.take k).flatMap ZG).length≤100:=by simp only[List.length_append];omega
    have hll:(B0++(rows.take k).flatMap ZG).length+(ZG (rows[k]'(by omega))).length=(B0++(rows.take (k+1)).flatMap ZG).length:=by rw[hts];simp;omega
    have hmm:B0++(rows.take k).flatMap ZG++ZG (rows[k]'(by omega))=B0++(rows.take (k+1)).flatMap ZG:=by rw[hts];simp
    generalize rows[k]'(by omega)=x at *
    repeat' (first|(refine Za (.func 323) ?_;refine qC rfl rfl (claid_spec _ v _ _ sp hown (by omega) x hro hid) ?_;rintro v2 ρ2 L2 hle0 ⟨hle2,sp2,hown2,rfl⟩;simp only[kA,hmm];rw[hmm,hll] at hown2)|refine zW ?_|intro _)
    refine Ze (k+1,_,v2,sp2) (⟨hlt,Hp.le_trans hle1 hle2,hown2⟩) Zc Zc rfl tk inferInstance (by first|omega|(dsimp only;omega))
   ·have hk2:k=rn:=by omega
    subst hk2
    rw[List.take_of_length_le (by omega)] at hown ⊢
    repeat' (first|refine zW ?_|intro _)
    rw[show (B0++rows.flatMap ZG).map Zo=(B0++(rows.flatMap ZG++(kids.take 0).flatMap Yw)).map Zo by simp]
    refine Zi [(2,_),(3,_),(45,_),(46,_)] (fun (ζ:(Nat)×(Hp)×(Value)×(List Value))=>[(47,.int .i64 ζ.1),(5,ζ.2.2.1)]) (fun (ζ:(Nat)×(Hp)×(Value)×(List Value))=>ζ.2.1) (fun (ζ:(Nat)×(Hp)×(Value)×(List Value))=>[Zz ζ.2.2.1 ((B0++(rows.flatMap ZG++(kids.take ζ.1).flatMap Yw)).map Zo) ζ.2.2.2 5]) (fun (ζ:(Nat)×(Hp)×(Value)×(List Value))=>ζ.1≤kn∧ρ1.le ζ.2.1∧OwnS ζ.2.2.1 (B0++(rows.flatMap ZG++(kids.take ζ.1).flatMap Yw)).length ((B0++(rows.flatMap ZG++(kids.take ζ.1).flatMap Yw)).map Zo) ζ.2.2.2 1) (fun (ζ:(Nat)×(Hp)×(Value)×(List Value))=>kn-ζ.1) ((0,ρ1,v,sp)) (⟨Nat.zero_le _,Hp.le_refl _,by simpa using hown⟩) Zc Zc rfl tk ?_
    rintro⟨j,ρ2,v,sp⟩ hI
    try simp only[kA,List.append_assoc] at hI ⊢
    try dsimp only at hI ⊢
    have hfl:=ZZ ZG 20 rows (fun x hx=>rowB_le (hrow x hx))
    obtain⟨hj0,hle3,hown3⟩:=hI
    by_cases hlj:j<kn
    ·obtain⟨b,off,C,T,fr,rfl,hb,hfit,hc⟩:=(hk.mono (Hp.le_trans hle1 hle3)).get (show j<kids.length by omega)
     have hmem:kids[j]'(by omega)∈kids:=List.getElem_mem _
     have hko:=hkid _ hmem
     have hid:=hik _ hmem
     have hts:=YY Yw kids j (by omega)
     have hfk:=ZZ Yw 4 (kids.take j) (fun x hx=>Nat.le_of_eq (Vs x))
     have htl:(kids.take j).length≤4:=by simp;omega
     have hXl:(B0++(rows.flatMap ZG++(kids.take j).flatMap Yw)).length≤200:=by simp only[List.length_append];omega
     have hmm:B0++(rows.flatMap ZG++(kids.take j).flatMap Yw)++XT (kids[j]'(by omega)).t (kids[j]'(by omega)).id++[tB (kids[j]'(by omega)).page]=B0++(rows.flatMap ZG++(kids.take (j+1)).flatMap Yw):=by rw[hts];simp[Yw]
     have hll:(B0++(rows.flatMap ZG++(kids.take j).flatMap Yw)).length+3+1=(B0++(rows.flatMap ZG++(kids.take (j+1)).flatMap Yw)).length:=by rw[hts];simp[Vs];omega
     have hpg:=tB_eq (t:=(kids[j]'(by omega)).page) (by omega) (by omega)
     generalize kids[j]'(by omega)=x at *
     generalize hX:B0++(rows.flatMap ZG++(kids.take j).flatMap Yw)=X at *
     repeat' (first|refine zW ?_|intro _)
     rename_i b9
     refine tpA [0,1,2,4,5,6] (.b 3 7 [] [] (.e 7 [] (.e 8 [] (.f [9] .o))) (.e 3 [] (.e 8 [] (.f [9] .o)))) ([[(b9,.cells ⟨Xl x⟩ 238 (0,0))]]) ?_
     repeat' (refine iT ?_;first|refine rA ?_|((first|(refine iE ?_;refine rE ?_)|(refine iB ?_;refine rB ?_ ?_))<;>((try refine Zn ?_);(first|(refine Za (.func 324) ?_;refine qC rfl rfl (key_spec _ v _ X sp hown3 (by omega) x.t x.id hko.1.1 (by omega) hid) ?_;rintro v2 ρ4 L2 hle0 ⟨hle4,sp4,hown4,rfl⟩;simp only[kA])|(refine Zm rfl rfl rfl rfl (by simp) rfl rfl (fun _=>?_);simp only[hpg])|(refine ZK (ys:=[Zo (tB x.page)]) (m:=1) rfl rfl hown4 (hR:=by infer_instance) SrcV.lit rfl rfl (by decide) rfl (by omega) (by omega) rfl (fun v5 sp5 hown5=>?_);rw[show (X++XT x.t x.id).map Zo++[Zo (tB x.page)]=(X++XT x.t x.id++[tB x.page]).map Zo by simp,hmm] at hown5 ⊢;rw[hll] at hown5)|(refine Yj ?_;try intro _))<;>((try simp only[kA]);refine Zj ?_;refine rN ?_))))
     all_goals (repeat' (first|refine zW ?_|intro _))
     all_goals refine Ze (j+1,_,v5,sp5) (⟨hlj,Hp.le_trans hle3 (by assumption),hown5⟩) Zc Zc rfl tk inferInstance (by first|omega|(dsimp only;omega))
    ·have hj2:j=kn:=by omega
     subst hj2
     rw[List.take_of_length_le (by omega)] at hown3 ⊢
     have hfin:B0++(rows.flatMap ZG++kids.flatMap Yw)=Yd ⟨kind,rows,kids⟩:=by rw[←hB0];simp[Yd]
     rw[hfin] at hown3 ⊢
     repeat' (first|refine zW ?_|intro _)
     refine ZM _ (h:=Rem.here) (fun ρ6 hle6 hfz=>?_)
     obtain⟨a6,c6,rfl,hc6,hs6⟩:=hown3.sIn hfz
     exact qE ⟨Hp.le_trans hle1 (Hp.le_trans hle3 hle6),a6,_,c6,rfl,hc6,hs6,rfl⟩
instance:ZO Tryz.prog 87:=mkFun (by kernel_rfl)
instance (priority:=1200) eqRow {x y:Row}:EqC Tryz.prog 8 171 (.agg ⟨Yq x⟩) (.agg ⟨Yq y⟩) (decide (x=y)):=by
 have h:EqC Tryz.prog 8 171 (.agg ⟨[.int .i64 x.t,.int .u16 x.id,.int .i64 x.val,strV x.note]⟩) (.agg ⟨[.int .i64 y.t,.int .u16 y.id,.int .i64 y.val,strV y.note]⟩) _:=inferInstance
 refine⟨fun d w hd=>?_⟩
 rw[h.out d w hd]
 congr 1
 obtain⟨t,i,v,n⟩:=x
 obtain⟨t',i',v',n'⟩:=y
 simp only[Row.mk.injEq,Bool.and_true,Bool.decide_and]
 have e:((i:Int) == (i':Int))=decide (i=i'):=by
  by_cases h:i=i'
  ·subst h;simp
  ·rw[decide_eq_false h];simp only[beq_eq_false_iff_ne,ne_eq];omega
 rw[e]
 by_cases h1:t=t'<;>by_cases h2:i=i'<;>by_cases h3:v=v'<;>simp[h1,h2,h3]
instance (priority:=1200) eqKid {x y:Kid}:EqC Tryz.prog 8 238 (.agg ⟨Xl x⟩) (.agg ⟨Xl y⟩) (decide (x=y)):=by
 have h:EqC Tryz.prog 8 238 (.agg ⟨[.int .i64 x.t,.int .u16 x.id,.int .i64 x.page]⟩) (.agg ⟨[.int .i64 y.t,.int .u16 y.id,.int .i64 y.page]⟩) _:=inferInstance
 refine⟨fun d w hd=>?_⟩
 rw[h.out d w hd]
 congr 1
 obtain⟨t,i,v⟩:=x
 obtain⟨t',i',v'⟩:=y
 simp only[Kid.mk.injEq,Bool.and_true,Bool.decide_and]
 have e:((i:Int) == (i':Int))=decide (i=i'):=by
  by_cases h:i=i'
  ·subst h;simp
  ·rw[decide_eq_false h];simp only[beq_eq_false_iff_ne,ne_eq];omega
 rw[e]
 by_cases h1:t=t'<;>by_cases h2:i=i'<;>by_cases h3:v=v'<;>simp[h1,h2,h3]
end Go.Proofs.E
namespace Go.Proofs.E
open Go
set_option linter.unusedVariables false
set_option linter.unusedSimpArgs false
set_option linter.unusedSectionVars false
set_option maxRecDepth 4000
set_option maxHeartbeats 1000000
attribute [local irreducible] Yl TL TC TE Spec ZI R1 Hp.le EnvLe TS TR YS Zp
theorem Wu {k:Nat}{l:List UInt8}{st:Int}(h:(Yg k l st).2.2=0):st=0∧k≤l.length∧Yg k l st=(ZY (l.take k),l.drop k,0):=by
 unfold Yg at h ⊢
 by_cases hs:st≠0
 ·rw[if_pos hs] at h;exact absurd h hs
 ·have h0:st=0:=by simpa using hs
  rw[if_neg hs] at h ⊢
  by_cases hl:l.length<k
  ·rw[if_pos hl] at h;simp at h
  ·rw[if_neg hl];exact⟨h0,by omega,rfl⟩
theorem rawR_zero {k:Nat}{l:List UInt8}{st:Int}(h:(Vc k l st).2.2=0):st=0∧k≤l.length∧Vc k l st=(l.take k,l.drop k,0):=by
 unfold Vc at h ⊢
 by_cases hs:st≠0
 ·rw[if_pos hs] at h;exact absurd h hs
 ·have h0:st=0:=by simpa using hs
  rw[if_neg hs] at h ⊢
  by_cases hl:l.length<k
  ·rw[if_pos hl] at h;simp at h
  ·rw[if_neg hl];exact⟨h0,by omega,rfl⟩
theorem Vn {k:Nat}{l:List UInt8}(h:k≤l.length):be k (ZY (l.take k))=l.take k:=by
 have:=be_unbe (l.take k)
 rwa [List.length_take,Nat.min_eq_left h] at this
theorem be_one (x:Nat):be 1 x=[UInt8.ofNat x]:=by simp[be]
theorem tB_nat (x:Nat):tB (x:Int)=UInt8.ofNat x:=rfl
theorem vN_i64N {x:Nat}(h:x<18446744073709551616):vN (i64N x)=x:=by
 have h1:IntKind.u64.wrap (i64N x)=x:=by
  unfold i64N
  simp only[IntKind.wrap,IntKind.bits,IntKind.signed,Bool.true_and,Bool.false_and,Bool.false_eq_true,if_false]
  split<;>simp_all<;>omega
 simp[vN,h1]
theorem i64N_vN {v:Int}(h:-9223372036854775808≤v∧v≤9223372036854775807):i64N (vN v)=v:=by
 unfold i64N
 rw[←vN_eq]
 simp only[IntKind.wrap,IntKind.bits,IntKind.signed,Bool.true_and,Bool.false_and,Bool.false_eq_true,if_false]
 split<;>simp_all<;>omega
theorem needB_false {bad:Bool}{st:Int}{is:Bool}(h:Xt bad st is=false)(hs:st=0):bad=false∧is=true:=by
 subst hs
 cases bad<;>cases is<;>simp_all[Xt]
structure Yx (r:Row):Prop where
 id:r.id<65536
 val:-9223372036854775808≤r.val∧r.val≤9223372036854775807
theorem i64N_fit (x:Nat):-9223372036854775808≤i64N x∧i64N x≤9223372036854775807:=by
 unfold i64N
 simp only[IntKind.wrap,IntKind.bits,IntKind.signed,Bool.true_and]
 split<;>simp_all<;>omega
theorem rowR_ok {l l':List UInt8}{st:Int}{bad:Bool}{r:Row}(h:Ww l st bad=(r,l',0,false)):st=0∧bad=false∧YB r=true∧l=ZG r++l'∧Yx r:=by
 unfold Ww at h
 dsimp only at h
 split at h
 ·rename_i hok
  rw[Bool.and_eq_true,Bool.not_eq_true'] at hok
  obtain⟨hb1,hs1⟩:=hok
  have hs1:=of_decide_eq_true hs1
  obtain⟨rfl,hl1,e1⟩:=Wu hs1
  obtain⟨rfl,ht⟩:=needB_false hb1 hs1
  split at h
  ·rename_i hok2
   rw[Bool.and_eq_true,Bool.not_eq_true'] at hok2
   obtain⟨hb2,hs4⟩:=hok2
   have hs4:=of_decide_eq_true hs4
   obtain⟨hs3,hl4,e4⟩:=Wu hs4
   obtain⟨hs2,hl3,e3⟩:=Wu hs3
   obtain⟨hs1',hl2,e2⟩:=Wu hs2
   obtain⟨_,hn⟩:=needB_false hb2 hs4
   have ht:=of_decide_eq_true ht
   have hn:=of_decide_eq_true hn
   simp only[Prod.mk.injEq] at h
   obtain⟨h1,h2,h3,h4⟩:=h
   obtain⟨_,hl5,e5⟩:=rawR_zero h3
   subst h1;subst h2
   rw[e5]
   simp only[e4] at hl5 hn e5 ⊢
   simp only[e3] at hl4 hl5 hn e5 ⊢
   simp only[e2] at hl3 hl4 hl5 hn e5 ⊢
   simp only[e1] at hl2 hl3 hl4 hl5 hn ht e5 ⊢
   have b1:=Vn hl1
   have b2:=Vn hl2
   have b3:=Vn hl3
   have b4:=Vn hl4
   rw[be_one] at b1 b4
   have u2:=Xw ((l.drop 1).take 2)
   have u3:=Xw (((l.drop 1).drop 2).take 8)
   rw[List.length_take,Nat.min_eq_left hl2] at u2
   rw[List.length_take,Nat.min_eq_left hl3] at u3
   have hlen:(List.take (ZY (List.take 1 (List.drop 8 (List.drop 2 (List.drop 1 l))))) (List.drop 1 (List.drop 8 (List.drop 2 (List.drop 1 l))))).length=ZY (List.take 1 (List.drop 8 (List.drop 2 (List.drop 1 l)))):=by rw[List.length_take,Nat.min_eq_left hl5]
   refine⟨by trivial,by trivial, ?_, ?_,⟨by dsimp only;omega,i64N_fit _⟩⟩
   ·unfold YB
    dsimp only
    rw[hlen]
    exact decide_eq_true ⟨⟨by omega,by omega⟩,by omega⟩
   ·unfold ZG XT
    dsimp only
    rw[hlen,vN_i64N (by omega),b3,b2,tB_nat]
    have c1:UInt8.ofNat (ZY (List.take 1 l))::(List.take 2 (List.drop 1 l))=List.take 1 l++List.take 2 (List.drop 1 l):=by
     show [UInt8.ofNat (ZY (List.take 1 l))]++_=_
     rw[b1]
    rw[c1]
    have c4:∀X:List UInt8,UInt8.ofNat (ZY (List.take 1 (List.drop 8 (List.drop 2 (List.drop 1 l)))))::X=List.take 1 (List.drop 8 (List.drop 2 (List.drop 1 l)))++X:=fun X=>by
     show [UInt8.ofNat (ZY (List.take 1 (List.drop 8 (List.drop 2 (List.drop 1 l)))))]++X=_
     rw[b4]
    rw[c4]
    simp only[List.append_assoc,List.take_append_drop]
  ·rename_i hok2
   simp only[Prod.mk.injEq] at h
   obtain⟨_,_,h3,h4⟩:=h
   exact absurd (by rw[h4,h3];rfl) hok2
 ·rename_i hok
  simp only[Prod.mk.injEq] at h
  obtain⟨_,_,h3,h4⟩:=h
  exact absurd (by rw[h4,h3];rfl) hok
structure KidFit (k:Kid):Prop where
 id:k.id<65536
 t:0≤k.t∧k.t<256
 page:0≤k.page∧k.page<256
theorem kidRB_ok {l l':List UInt8}{st:Int}{bad:Bool}{r:Kid}(h:XX l st bad=(r,l',0,false)):st=0∧bad=false∧l=Yw r++l'∧KidFit r:=by
 unfold XX kidR at h
 dsimp only at h
 simp only[Prod.mk.injEq] at h
 obtain⟨h1,h2,h3,h4⟩:=h
 obtain⟨hs2,hl3,e3⟩:=Wu h3
 obtain⟨hs1,hl2,e2⟩:=Wu hs2
 obtain⟨rfl,hl1,e1⟩:=Wu hs1
 subst h1;subst h2
 simp only[e3]
 simp only[e2] at hl3 ⊢
 simp only[e1] at hl2 hl3 ⊢
 have b1:=Vn hl1
 have b2:=Vn hl2
 have b3:=Vn hl3
 rw[be_one] at b1 b3
 have u1:=Xw (l.take 1)
 have u2:=Xw ((l.drop 1).take 2)
 have u3:=Xw (((l.drop 1).drop 2).take 1)
 rw[List.length_take,Nat.min_eq_left hl1] at u1
 rw[List.length_take,Nat.min_eq_left hl2] at u2
 rw[List.length_take,Nat.min_eq_left hl3] at u3
 refine⟨by trivial,h4, ?_,⟨by dsimp only;omega,by dsimp only;omega,by dsimp only;omega⟩⟩
 unfold Yw XT
 dsimp only
 rw[b2,tB_nat,tB_nat]
 have c1:∀X:List UInt8,UInt8.ofNat (ZY (List.take 1 l))::X=List.take 1 l++X:=fun X=>by
  show [UInt8.ofNat (ZY (List.take 1 l))]++X=_
  rw[b1]
 rw[c1,b3]
 simp only[List.append_assoc,List.take_append_drop]
theorem manyTo_ok {α:Type}{f:List UInt8→Int→Bool→α×Yc}{enc:α→List UInt8}{fit:α→Prop}(hf:∀{l l':List UInt8} {st:Int} {bad:Bool} {x:α},f l st bad=(x,l',0,false)→st=0∧bad=false∧l=enc x++l'∧fit x) :
  ∀{n:Nat} {l l':List UInt8} {st:Int} {bad:Bool} {xs:List α},XL f n l st bad=(xs,l',0,false)→st=0∧bad=false∧xs.length=n∧l=xs.flatMap enc++l'∧∀x∈xs,fit x
 | 0,l,l',st,bad,xs,h=>by
  rw[XL] at h
  simp only[Prod.mk.injEq] at h
  obtain⟨rfl,rfl,rfl,rfl⟩:=h
  exact⟨rfl,rfl,rfl,by simp,by simp⟩
 | n+1,l,l',st,bad,xs,h=>by
  rw[XL] at h
  split at h
  ·simp only[Prod.mk.injEq] at h
   obtain⟨h1,h2⟩:=h
   have key:XL f n (f l st bad).2.1 (f l st bad).2.2.1 (f l st bad).2.2.2=((XL f n (f l st bad).2.1 (f l st bad).2.2.1 (f l st bad).2.2.2).1,l',0,false):=by rw[←h2]
   obtain⟨g1,g2,g3,g4,g5⟩:=manyTo_ok hf key
   obtain⟨k1,k2,k3,k4⟩:=hf (show f l st bad=((f l st bad).1,(f l st bad).2.1,0,false) by rw[←g1,←g2])
   subst h1
   refine⟨k1,k2,by simp[g3], ?_, ?_⟩
   ·rw[List.flatMap_cons,List.append_assoc,←g4];exact k3
   ·intro x hx
    rcases List.mem_cons.1 hx with rfl|hx
    ·exact k4
    ·exact g5 x hx
  ·rename_i hok
   simp only[Prod.mk.injEq] at h
   obtain⟨_,_,h3,h4⟩:=h
   exact absurd (by rw[h4,h3];rfl) hok
theorem manyR_ok {α:Type}{f:List UInt8→Int→Bool→α×Yc}{enc:α→List UInt8}{fit:α→Prop}(hf:∀{l l':List UInt8} {st:Int} {bad:Bool} {x:α},f l st bad=(x,l',0,false)→st=0∧bad=false∧l=enc x++l'∧fit x)
  {l l':List UInt8} {st:Int} {bad:Bool} {xs:List α} (h:Xe f l st bad=(xs,l',0,false)):st=0∧bad=false∧l=UInt8.ofNat xs.length::xs.flatMap enc++l'∧∀x∈xs,fit x:=by
 unfold Xe at h
 obtain⟨g1,g2,g3,g4,g5⟩:=manyTo_ok hf h
 obtain⟨rfl,hl,e⟩:=Wu g1
 obtain⟨k1,_⟩:=needB_false g2 g1
 rw[e] at g3 g4
 dsimp only at g3 g4
 refine⟨rfl,k1, ?_,g5⟩
 have b1:=Vn hl
 rw[be_one,←g3] at b1
 rw[show UInt8.ofNat xs.length::xs.flatMap enc++l'=[UInt8.ofNat xs.length]++(xs.flatMap enc++l') from rfl,b1,←g4,List.take_append_drop]
structure ContFit (c:Wq):Prop where
 row:∀r∈c.rows,Yx r
 kid:∀k∈c.kids,KidFit k
theorem contentR_ok {l l':List UInt8}{c:Wq}(h:YH l=(c,l',0,false)):ZJ c=true∧l=Yd c++l'∧ContFit c:=by
 unfold YH contE at h
 simp only[Prod.mk.injEq] at h
 obtain⟨h1,h2,h3,h4⟩:=h
 generalize hm:Vp (Yg 1 l 0).1 (Yg 1 l 0).2.1 (Yg 1 l 0).2.2 (Xt false (Yg 1 l 0).2.2 (decide (((Yg 1 l 0).1:Int)≤2)))=m at *
 obtain⟨⟨rows,kids⟩,l2,st2,b2⟩:=m
 dsimp only at h1 h2 h3 h4
 subst h2;subst h3;subst h1
 obtain⟨rfl,hok⟩:=needB_false h4 rfl
 refine⟨hok, ?_⟩
 unfold Vp at hm
 have hF:=Wk hok
 have hkind:=hF.kind
 dsimp only at hkind
 split at hm
 ·rename_i hokk
  rw[Bool.and_eq_true,Bool.not_eq_true'] at hokk
  obtain⟨_,hs1⟩:=hokk
  have hs1:=of_decide_eq_true hs1
  obtain⟨_,hl1,e1⟩:=Wu hs1
  have b1:=Vn hl1
  rw[be_one] at b1
  rw[e1] at hm hkind hok ⊢
  dsimp only at hm hkind hok ⊢
  generalize hx:ZY (List.take 1 l)=x at *
  have hl:l=UInt8.ofNat x::l.drop 1:=by
   have:l=l.take 1++l.drop 1:=(List.take_append_drop 1 l).symm
   rw[←b1] at this
   exact this
  split at hm
  ·rename_i hx1
   simp only[Prod.mk.injEq] at hm
   obtain⟨⟨h1,h2⟩,h3⟩:=hm
   subst h2
   have key:Xe Ww (l.drop 1) 0 (Xt false 0 (decide ((x:Int)≤2)))=(rows,l2,0,false):=by rw[←h1,←h3]
   obtain⟨_,_,g3,g4⟩:=manyR_ok (enc:=ZG) (fit:=Yx) (fun h=>⟨(rowR_ok h).1,(rowR_ok h).2.1,(rowR_ok h).2.2.2.1,(rowR_ok h).2.2.2.2⟩) key
   refine⟨?_,⟨g4,by simp⟩⟩
   have hc:Yd ⟨x,rows,[]⟩=UInt8.ofNat x::(UInt8.ofNat rows.length::rows.flatMap ZG):=by
    unfold Yd cntB
    rw[if_neg (by dsimp only;omega),tB_nat];simp
   rw[hc,hl,g3];rfl
  ·split at hm
   ·rename_i hx1 hx2
    simp only[Prod.mk.injEq] at hm
    obtain⟨⟨h1,h2⟩,h3⟩:=hm
    subst h1
    have key:Xe XX (l.drop 1) 0 (Xt false 0 (decide ((x:Int)≤2)))=(kids,l2,0,false):=by rw[←h2,←h3]
    obtain⟨_,_,g3,g4⟩:=manyR_ok (enc:=Yw) (fit:=KidFit) (fun h=>kidRB_ok h) key
    refine⟨?_,⟨by simp,g4⟩⟩
    have hc:Yd ⟨x,[],kids⟩=UInt8.ofNat x::(UInt8.ofNat kids.length::kids.flatMap Yw):=by
     unfold Yd cntB
     rw[if_neg (by dsimp only;omega),tB_nat];simp
    rw[hc,hl,g3];rfl
   ·rename_i hx1 hx2
    simp only[Prod.mk.injEq] at hm
    obtain⟨⟨h1,h2⟩,h3,_⟩:=hm
    subst h1;subst h2;subst h3
    have hx0:(x:Int)=0:=by
     rcases hkind with h|h|h
     ·exact h.1
     ·exact absurd (by omega) hx1
     ·exact absurd (by omega) hx2
    refine⟨?_,⟨by simp,by simp⟩⟩
    have hc:Yd ⟨x,[],[]⟩=[UInt8.ofNat x]:=by
     unfold Yd cntB
     rw[if_pos hx0,tB_nat];simp
    rw[hc];exact hl
 ·rename_i hokk
  simp only[Prod.mk.injEq] at hm
  obtain⟨⟨h1,h2⟩,h3,h4,h5⟩:=hm
  exact absurd (by rw[h5,h4];rfl) hokk
theorem takenE_zero {bad:Bool}{st:Int}(h:Wp bad st=0):bad=false∧st=0:=by
 cases bad
 ·exact⟨rfl,h⟩
 ·simp[Wp] at h
theorem takeRow_ok {l:List UInt8}(h:(Ya l).2.2=0):∃n:Nat,(Ya l).2.1=n∧n≤l.length∧YB (Ya l).1=true∧ZG (Ya l).1=l.take n∧Yx (Ya l).1:=by
 unfold Ya at h ⊢
 dsimp only at h ⊢
 obtain⟨hb,hs⟩:=takenE_zero h
 generalize hr:Ww l 0 false=r at *
 obtain⟨x,l',st,bad⟩:=r
 dsimp only at hb hs
 subst hb;subst hs
 obtain⟨_,_,g1,g2,g3⟩:=rowR_ok hr
 have hl:=congrArg List.length g2
 simp only[List.length_append] at hl
 refine⟨(ZG x).length, ?_,by omega, ?_⟩
 ·simp[Vz];omega
 ·simp only[Bool.false_or,ne_eq,not_true_eq_false,decide_false,Bool.false_eq_true,if_false]
  exact⟨g1,by rw[g2];simp,g3⟩
theorem Vm {l:List UInt8}(h:(Zr l).2.2=0):∃n:Nat,(Zr l).2.1=n∧n≤l.length∧ZJ (Zr l).1=true∧Yd (Zr l).1=l.take n∧ContFit (Zr l).1:=by
 unfold Zr at h ⊢
 dsimp only at h ⊢
 obtain⟨hb,hs⟩:=takenE_zero h
 generalize hr:YH l=r at *
 obtain⟨x,l',st,bad⟩:=r
 dsimp only at hb hs
 subst hb;subst hs
 obtain⟨g1,g2,g3⟩:=contentR_ok hr
 have hl:=congrArg List.length g2
 simp only[List.length_append] at hl
 refine⟨(Yd x).length, ?_,by omega, ?_⟩
 ·simp[Vz];omega
 ·simp only[Bool.false_or,ne_eq,not_true_eq_false,decide_false,Bool.false_eq_true,if_false]
  exact⟨g1,by rw[g2];simp,g3⟩
theorem takeCont_bad {l:List UInt8}(h:(Zr l).2.2≠0):(Zr l).1=⟨0,[],[]⟩∧(Zr l).2.1=0:=by
 unfold Zr at h ⊢
 dsimp only at h ⊢
 generalize YH l=r at *
 obtain⟨x,l',st,bad⟩:=r
 dsimp only at h ⊢
 cases bad
 ·have hs:st≠0:=h
  simp[Vz,hs]
 ·simp[Vz]
theorem WJ {c:Wq}(h:ZJ c=true):(Yd c).length≤82:=by
 have hF:=Wk h
 have h1:=ZZ ZG 20 c.rows (fun x hx=>rowB_le (hF.row x hx))
 have h2:=ZZ Yw 4 c.kids (fun x hx=>Nat.le_of_eq (Vs x))
 have h3:(cntB c).length≤1:=by unfold cntB;split<;>simp
 have hk:=hF.kind
 have hrl:=hF.rl
 have hkl:=hF.kl
 simp only[Yd,List.length_cons,List.length_append]
 have er:c.rows=[]→(c.rows.flatMap ZG).length=0:=fun e=>by rw[e];rfl
 have ek:c.kids=[]→(c.kids.flatMap Yw).length=0:=fun e=>by rw[e];rfl
 rcases hk with⟨_,hr,hk⟩|⟨_,hk⟩|⟨_,hr,_⟩
 ·have:=er hr;have:=ek hk;omega
 ·have:=ek hk;omega
 ·have:=er hr;omega
structure CI (ρ:Hp)(v:CV)(c:Wq):Prop where
 cin:CIn ρ v c.rows c.kids
 row:∀r∈c.rows,Yx r
 kid:∀k∈c.kids,k.id<65536
theorem CI.mono {ρ ρ' v c}(h:CI ρ v c)(hle:ρ.le ρ'):CI ρ' v c:=⟨h.cin.mono hle,h.row,h.kid⟩
theorem CI.nil {ρ:Hp}:CI ρ ⟨none,0,0,none,0,0⟩ ⟨0,[],[]⟩:=⟨CIn.nil,by simp,by simp⟩
structure Im where
 page:Int
 bv:CV
 b:Wq
 av:CV
 a:Wq
abbrev imV (x:Im):List Value:=[.int .i64 x.page,.int .i64 x.b.kind,.slice x.bv.ra x.bv.rn x.bv.rc,.slice x.bv.ka x.bv.kn x.bv.kc,.int .i64 x.a.kind,.slice x.av.ra x.av.rn x.av.rc,.slice x.av.ka x.av.kn x.av.kc]
structure Im.In (ρ:Hp)(x:Im):Prop where
 b:CI ρ x.bv x.b
 a:CI ρ x.av x.a
theorem Im.In.mono {ρ ρ' x}(h:Im.In ρ x)(hle:ρ.le ρ'):Im.In ρ' x:=⟨h.b.mono hle,h.a.mono hle⟩
abbrev Im.says (x:Im):Int×Wq×Wq:=(x.page,x.b,x.a)
structure Stp where
 kind:Int
 row:Row
 by':Int
deriving DecidableEq
abbrev YK (s:Stp):List Value:=[.int .i64 s.kind,.int .i64 s.row.t,.int .u16 s.row.id,.int .i64 s.row.val,strV s.row.note,.int .i64 s.by']
structure CkT where
 txn:Int
 first:Nat
 last:Nat
 undo:Nat
 state:Int
deriving DecidableEq
abbrev YM (t:CkT):List Value:=[.int .i64 t.txn,.int .u64 t.first,.int .u64 t.last,.int .u64 t.undo,.int .i64 t.state]
structure CkP where
 page:Int
 since:Nat
deriving DecidableEq
abbrev Xq (p:CkP):List Value:=[.int .i64 p.page,.int .u64 p.since]
structure Rc where
 kind:Int
 lsn:Nat
 txn:Int
 prev:Nat
 next:Nat
 ims:List Im
 steps:List Stp
 nextTxn:Int
 txns:List CkT
 dirty:List CkP
structure SV where
 a:Option Addr
 n:Nat
 c:Nat
abbrev SV.v (s:SV):Value:=.slice s.a s.n s.c
structure RV where
 i:SV
 s:SV
 t:SV
 d:SV
abbrev YV (v:RV)(r:Rc):List Value:=[.int .i64 r.kind,.int .u64 r.lsn,.int .i64 r.txn,.int .u64 r.prev,.int .u64 r.next,.slice v.i.a v.i.n v.i.c,.slice v.s.a v.s.n v.s.c,.int .i64 r.nextTxn,.slice v.t.a v.t.n v.t.c,.slice v.d.a v.d.n v.d.c]
theorem imV_len (x:Im):(imV x).length=7:=rfl
theorem stpV_len (x:Stp):(YK x).length=6:=rfl
theorem stpV_one (x:Stp):(YK x).all (·.oneCell')=true:=rfl
theorem ckTV_len (x:CkT):(YM x).length=5:=rfl
theorem ckTV_one (x:CkT):(YM x).all (·.oneCell')=true:=rfl
theorem ckPV_len (x:CkP):(Xq x).length=2:=rfl
theorem ckPV_one (x:CkP):(Xq x).all (·.oneCell')=true:=rfl
abbrev i64in (x:Int):Prop:=-9223372036854775808≤x∧x≤9223372036854775807
structure AS (ρ:Hp)(sz:Nat){α:Type}(g:α→List Value)(s:SV)(l:List α):Prop where
 at':AIn ρ sz g s.a s.n l
 big:s.n≤1000000
 cap:s.n≤s.c
theorem AS.mono {ρ ρ':Hp}{sz:Nat}{α:Type}{g:α→List Value}{s:SV}{l:List α}(h:AS ρ sz g s l)(hle:ρ.le ρ'):AS ρ' sz g s l:=⟨h.at'.mono hle,h.big,h.cap⟩
theorem AS.nil {ρ:Hp}{sz:Nat}{α:Type}{g:α→List Value}:AS ρ sz g ⟨none,0,0⟩ []:=⟨AIn.nil,Nat.zero_le _,Nat.le_refl _⟩
structure RcIn (ρ:Hp)(v:RV)(r:Rc):Prop where
 i:AS ρ 7 imV v.i r.ims
 im:∀x∈r.ims,Im.In ρ x
 s:AS ρ 6 YK v.s r.steps
 t:AS ρ 5 YM v.t r.txns
 d:AS ρ 2 Xq v.d r.dirty
 sf:∀s∈r.steps,Yx s.row
theorem RcIn.mono {ρ ρ' v r}(h:RcIn ρ v r)(hle:ρ.le ρ'):RcIn ρ' v r:=⟨h.i.mono hle,fun x hx=>(h.im x hx).mono hle,h.s.mono hle,h.t.mono hle,h.d.mono hle,h.sf⟩
def upB {α:Type}(right:α→Bool)(by':α→Int)(l:List α)(k:Nat):Bool:=Zy l.length (fun _ x=>right x) (fun y x=>decide (by' y<by' x)) l k
def pageOk (n:Int):Bool:=decide (0≤n∧n<64)
def imOk (before:Bool)(x:Im):Bool:=pageOk x.page && (ZJ x.a && (ZJ x.b && (before || decide (x.b.kind=0))))
def imsOk (before:Bool)(l:List Im):Bool:=decide (l.length≤16) && upB (imOk before) Im.page l l.length
def onlyOk (s:Stp):Bool:=decide (s.row.val=0∧s.row.note=[]) && decide (0≤s.row.t∧s.row.t<3)
def YT (s:Stp):Bool:=
 if s.kind=1 then onlyOk s
 else if s.kind=4 then onlyOk s && decide (s.by'=0)
 else if s.kind=2∨s.kind=3 then decide (s.by'=0) && YB s.row
 else false
def ckTOk (lsn:Nat)(next:Int)(t:CkT):Bool:=decide (1≤t.txn∧t.txn<next∧1≤t.first∧t.first≤t.last∧t.last<lsn∧t.undo≤t.last∧1≤t.state∧t.state≤3)
def Vo (lsn:Nat)(p:CkP):Bool:=pageOk p.page && decide (1≤p.since∧p.since<lsn)
def headOk (r:Rc):Bool:=decide (1≤r.lsn∧r.lsn≤1099511627776∧r.prev<r.lsn∧0≤r.txn∧r.txn≤1073741824∧(r.kind=9↔r.txn=0)∧((r.kind=9∨r.kind=1)↔r.prev=0))
def askOk (r:Rc):Bool:=
 if r.kind=2 then decide (0<r.ims.length) && imsOk true r.ims
 else if r.kind=3 then decide (r.next<r.prev)
 else if r.kind=4 then decide (r.next<r.prev) && (decide (0<r.steps.length∧r.steps.length≤2) && r.steps.all YT)
 else if r.kind=5 then decide (r.next<r.lsn) && imsOk false r.ims
 else if r.kind=9 then decide (1≤r.nextTxn∧r.nextTxn≤1073741824∧r.txns.length≤8) && (upB (ckTOk r.lsn r.nextTxn) CkT.txn r.txns r.txns.length && upB (Vo r.lsn) CkP.page r.dirty r.dirty.length)
 else true
def bareOk (r:Rc):Bool:=decide (
 (r.next=0∨r.kind=3∨r.kind=4∨r.kind=5)∧(r.ims=[]∨r.kind=2∨r.kind=5)∧(r.steps=[]∨r.kind=4) ∧
 ((r.txns=[]∧r.dirty=[]∧r.nextTxn=0)∨r.kind=9))
def Yt (r:Rc):Bool:=decide (1≤r.kind∧r.kind≤9) && (headOk r && (askOk r && bareOk r))
def imB (two:Bool)(x:Im):List UInt8:=tB x.page::((if two then Yd x.b else [])++Yd x.a)
def XA (s:Stp):List UInt8:=tB s.kind::(if s.kind=2∨s.kind=3 then ZG s.row else tB s.row.t::(be 2 s.row.id++(if s.kind=1 then be 8 (vN s.by') else [])))
def Wa (t:CkT):List UInt8:=be 4 t.txn.toNat++(be 8 t.first++(be 8 t.last++(be 8 t.undo++[tB t.state])))
def WC (p:CkP):List UInt8:=tB p.page::be 8 p.since
def Xs {α:Type}(f:α→List UInt8)(l:List α):List UInt8:=UInt8.ofNat l.length::l.flatMap f
def recHB (r:Rc):List UInt8:=tB r.kind::(be 8 r.lsn++(be 4 r.txn.toNat++be 8 r.prev))
def imsB (r:Rc):List UInt8:=Xs (imB (decide (r.kind=2))) r.ims
def recTB (r:Rc):List UInt8:=
 if r.kind=2 then imsB r else if r.kind=3 then be 8 r.next else if r.kind=4 then be 8 r.next++Xs XA r.steps else if r.kind=5 then be 8 r.next++imsB r
 else if r.kind=9 then be 4 r.nextTxn.toNat++(Xs Wa r.txns++Xs WC r.dirty) else []
def YF (r:Rc):List UInt8:=recHB r++recTB r
structure LayOk (r:Rc):Prop where
 kind:0≤r.kind∧r.kind<256
 lsn:r.lsn<18446744073709551616
 prev:r.prev<18446744073709551616
 next:r.next<18446744073709551616
 txn:0≤r.txn∧r.txn<4294967296
 nextTxn:0≤r.nextTxn∧r.nextTxn<4294967296
 il:r.ims.length≤16
 im:∀x∈r.ims,(0≤x.page∧x.page<64)∧ZJ x.a=true∧ZJ x.b=true
 sl:r.steps.length≤2
 st:∀s∈r.steps,YT s=true
 tl:r.txns.length≤8
 tx:∀t∈r.txns,(0≤t.txn∧t.txn<4294967296)∧t.first<18446744073709551616∧t.last<18446744073709551616∧t.undo<18446744073709551616∧0≤t.state∧t.state<256
 dl:r.dirty.length≤64
 di:∀p∈r.dirty,(0≤p.page∧p.page<64)∧p.since<18446744073709551616
abbrev wrC (wb:Nat)(v:RV)(r:Rc)(w:Value):List (Nat×Obj):=[(wb,.cells ⟨[.int .i64 r.kind,.int .u64 r.lsn,.int .i64 r.txn,.int .u64 r.prev,.int .u64 r.next,.slice v.i.a v.i.n v.i.c,.slice v.s.a v.s.n v.s.c,.int .i64 r.nextTxn,.slice v.t.a v.t.n v.t.c,.slice v.d.a v.d.n v.d.c,w]⟩ 362 (0,0))]
abbrev WQ (w:Value)(l:List UInt8)(sp:List Value):Prop:=OwnS w l.length (l.map Zo) sp 1
abbrev Xg (w:Value)(l:List UInt8)(sp:List Value):List (Nat×Obj):=Zz w (l.map Zo) sp 5
abbrev WrP (ρ:Hp)(wb:Nat)(v:RV)(r:Rc)(l:List UInt8)(z:Value)(ρ':Hp)(L':List (List (Nat×Obj))):Prop:=
 z=.tuple ⟨[]⟩∧ρ.le ρ'∧∃w' sp',WQ w' l sp'∧L'=[Xg w' l sp',wrC wb v r w']
theorem put32_spec (ρ:Hp)(a:Option Addr)(n c:Nat)(l:List UInt8)(h:SIn ρ Zo a n l)(x:Nat)(hx:x<4294967296)(hn:n≤1000000) :
  Spec Tryz.prog 275 [.slice a n c,.int .u32 x] ρ [] (fun v ρ' L'=>ρ'=ρ∧∃sp,OwnS v (n+4) ((l++be 4 x).map Zo) sp 1∧L'=[Zz v ((l++be 4 x).map Zo) sp 5]):=by
 have hw:IntKind.u64.wrap (x:Int)=x:=Wz (by simp only[lo,hi];omega)
 have hs:=stand_spec ρ a n c l h x 4 (by omega) (by omega) (by omega) hn
 refine Zb Tryz.func275 rfl rfl rfl fun u R=>?_
 simp only[Zd,kA]
 repeat' (first|(refine iCv ?_;refine tl_y (y_conv rfl) rfl rfl ?_;rw[hw])|(refine Za (.func 325) ?_;refine qC rfl rfl (hs) ?_;rintro v ρ' L' hle ⟨rfl,sp,hown,rfl⟩<;>(try simp only[kA]))|refine zW ?_|intro _)
 exact qE ⟨rfl,sp,hown,rfl⟩
theorem Xx {α:Type}(f:α→List UInt8)(l:List α):∀k (h:k<l.length),(l.take (k+1)).flatMap f=(l.take k).flatMap f++f (l[k]'h):=fun k h=>YY f l k h
theorem wbytes_spec (ρ:Hp)(wb:Nat)(v:RV)(r:Rc)(w:Value)(l:List UInt8)(sp:List Value)(hown:WQ w l sp)(hn:l.length≤100000)(a:Option Addr)(m c:Nat)(ns:List Int)(h:SIn ρ (fun x:Int=>Value.int .i64 x) a m ns)(hb:∀x∈ns,0≤x∧x<256)(hm:m≤10) :
  Spec Tryz.prog 261 [.pointer (some ⟨wb,0,none⟩),.slice a m c] ρ [Xg w l sp,wrC wb v r w] (WrP ρ wb v r (l++ns.map tB)):=by
 have hl:=h.len
 refine Zb Tryz.func261 rfl rfl rfl fun u R=>?_
 simp only[Zd,kA]
 repeat' (first|refine zW ?_|intro _)
 rw[show Xg w l sp=Xg w (l++(ns.take 0).map tB) sp by simp]
 refine Zi [(0,_),(6,_),(7,_)] (fun (ζ:(Nat)×(Value)×(List Value))=>[(8,.int .i64 ζ.1)]) (fun (ζ:(Nat)×(Value)×(List Value))=>ρ) (fun (ζ:(Nat)×(Value)×(List Value))=>[Xg ζ.2.1 (l++(ns.take ζ.1).map tB) ζ.2.2,wrC wb v r ζ.2.1]) (fun (ζ:(Nat)×(Value)×(List Value))=>ζ.1≤m∧WQ ζ.2.1 (l++(ns.take ζ.1).map tB) ζ.2.2) (fun (ζ:(Nat)×(Value)×(List Value))=>m-ζ.1) ((0,w,sp)) (⟨Nat.zero_le _,by simpa using hown⟩) Zc Zc rfl tk ?_
 rintro⟨k,w1,sp1⟩ hI
 try simp only[kA,List.append_assoc] at hI ⊢
 try dsimp only at hI ⊢
 obtain⟨hk,hown1⟩:=hI
 by_cases hlt:k<m
 ·obtain⟨b,off,C,T,fr,e1,hbb,hcc⟩:=h.get (show k<ns.length by omega)
  have hts:=List.take_succ_eq_append_getElem (show k<ns.length by omega)
  have hx:=hb _ (List.getElem_mem (show k<ns.length by omega))
  generalize ns[k]'(by omega)=x at *
  have hxl:(l++(ns.take k).map tB).length≤100010:=by simp;omega
  have hmm:(l++(ns.take k).map tB).map Zo++[Zo (tB x)]=(l++(ns.take (k+1)).map tB).map Zo:=by rw[hts];simp
  have hll:(l++(ns.take k).map tB).length+1=(l++(ns.take (k+1)).map tB).length:=by rw[hts];simp;omega
  have hxB:=tB_eq hx.1 hx.2
  generalize hX:l++(ns.take k).map tB=X at *
  obtain⟨va,vc,rfl,_⟩:=hown1.slice
  rw[e1]
  repeat' (first|(refine Zm rfl rfl rfl rfl (by simp) rfl rfl (fun _=>?_);simp only[hxB])|(refine ZK (ys:=[Zo (tB x)]) (m:=1) rfl rfl hown1 (hR:=by infer_instance) SrcV.lit rfl rfl (by decide) rfl (by omega) (by omega) rfl (fun v' sp' hown'=>?_);rw[hmm] at hown' ⊢;rw[hll] at hown';obtain⟨va',vc',rfl,_⟩:=hown'.slice)|refine zW ?_|intro _)
  rw[←e1]
  refine Ze (k+1,_,sp') (⟨hlt,hown'⟩) Zc Zc rfl tk inferInstance (by first|omega|(dsimp only;omega))
 ·have hk2:k=m:=by omega
  rw[show ns.take k=ns by rw[hk2,←hl,List.take_length]] at hown1 ⊢
  repeat' (first|refine zW ?_|intro _)
  exact qE ⟨rfl,Hp.le_refl _,w1,sp1,hown1,rfl⟩
theorem wlongs_spec (ρ:Hp)(wb:Nat)(v:RV)(r:Rc)(w:Value)(l:List UInt8)(sp:List Value)(hown:WQ w l sp)(hn:l.length≤100000)(a:Option Addr)(m c:Nat)(ns:List Nat)(h:SIn ρ (fun x:Nat=>Value.int .u64 (x:Int)) a m ns)(hb:∀x∈ns,x<18446744073709551616)(hm:m≤10) :
  Spec Tryz.prog 262 [.pointer (some ⟨wb,0,none⟩),.slice a m c] ρ [Xg w l sp,wrC wb v r w] (WrP ρ wb v r (l++ns.flatMap (be 8))):=by
 have hl:=h.len
 refine Zb Tryz.func262 rfl rfl rfl fun u R=>?_
 simp only[Zd,kA]
 repeat' (first|refine zW ?_|intro _)
 rw[show Xg w l sp=Xg w (l++(ns.take 0).flatMap (be 8)) sp by simp]
 refine Zi [(0,_),(6,_),(7,_)] (fun (ζ:(Nat)×(Hp)×(Value)×(List Value))=>[(8,.int .i64 ζ.1)]) (fun (ζ:(Nat)×(Hp)×(Value)×(List Value))=>ζ.2.1) (fun (ζ:(Nat)×(Hp)×(Value)×(List Value))=>[Xg ζ.2.2.1 (l++(ns.take ζ.1).flatMap (be 8)) ζ.2.2.2,wrC wb v r ζ.2.2.1]) (fun (ζ:(Nat)×(Hp)×(Value)×(List Value))=>ζ.1≤m∧ρ.le ζ.2.1∧WQ ζ.2.2.1 (l++(ns.take ζ.1).flatMap (be 8)) ζ.2.2.2) (fun (ζ:(Nat)×(Hp)×(Value)×(List Value))=>m-ζ.1) ((0,ρ,w,sp)) (⟨Nat.zero_le _,Hp.le_refl _,by simpa using hown⟩) Zc Zc rfl tk ?_
 rintro⟨k,ρ1,w1,sp1⟩ hI
 try simp only[kA,List.append_assoc] at hI ⊢
 try dsimp only at hI ⊢
 obtain⟨hk,hle1,hown1⟩:=hI
 by_cases hlt:k<m
 ·obtain⟨b,off,C,T,fr,e1,hbb,hcc⟩:=(h.mono hle1).get (show k<ns.length by omega)
  have hts:=Xx (be 8) ns k (by omega)
  have hx:=hb _ (List.getElem_mem (show k<ns.length by omega))
  have hfl:=ZZ (be 8) 8 (ns.take k) (fun x _=>Nat.le_of_eq (Zf 8 x))
  have htl:(ns.take k).length≤10:=by simp;omega
  generalize ns[k]'(by omega)=x at *
  have hxl:(l++(ns.take k).flatMap (be 8)).length≤100080:=by simp only[List.length_append];omega
  have hmm:l++(ns.take k).flatMap (be 8)++be 8 x=l++(ns.take (k+1)).flatMap (be 8):=by rw[hts];simp
  have hll:(l++(ns.take k).flatMap (be 8)).length+8=(l++(ns.take (k+1)).flatMap (be 8)).length:=by rw[hts];simp[Zf];omega
  generalize hX:l++(ns.take k).flatMap (be 8)=X at *
  obtain⟨va,vc,rfl,_⟩:=hown1.slice
  rw[e1]
  repeat' (first|(refine Za (.func 274) ?_;refine ZS (Zz (.slice va X.length vc) (X.map Zo) sp1 5) (h:=by repeat (first|exact Zq|apply Zs)) (fun ρ2 hle2 hfz=>?_);obtain⟨a1,c1,f1,hc1,hs1⟩:=hown1.sIn hfz;cases f1;refine qC rfl rfl (put64_spec _ va _ vc _ hs1 x hx (by omega)) ?_;rintro v' ρ3 L3 hle3 ⟨rfl,sp3,hown3,rfl⟩;simp only[kA];rw[hmm,hll] at hown3;rw[hmm];obtain⟨va',vc',rfl,_⟩:=hown3.slice)|refine zW ?_|intro _)
  rw[←e1]
  refine Ze (k+1,ρ3,_,sp3) (⟨hlt,Hp.le_trans hle1 hle2,hown3⟩) Zc Zc rfl tk inferInstance (by first|omega|(dsimp only;omega))
 ·have hk2:k=m:=by omega
  rw[show ns.take k=ns by rw[hk2,←hl,List.take_length]] at hown1 ⊢
  repeat' (first|refine zW ?_|intro _)
  exact qE ⟨rfl,hle1,w1,sp1,hown1,rfl⟩
theorem wtxn_spec (ρ:Hp)(wb:Nat)(v:RV)(r:Rc)(w:Value)(l:List UInt8)(sp:List Value)(hown:WQ w l sp)(hn:l.length≤100000)(x:Int)(h0:0≤x∧x<4294967296) :
  Spec Tryz.prog 263 [.pointer (some ⟨wb,0,none⟩),.int .i64 x] ρ [Xg w l sp,wrC wb v r w] (WrP ρ wb v r (l++be 4 x.toNat)):=by
 have hll:l.length+4=(l++be 4 x.toNat).length:=by simp[Zf]
 obtain⟨va,vc,rfl,_⟩:=hown.slice
 obtain⟨y,rfl⟩:∃y:Nat,x=y:=⟨x.toNat,by omega⟩
 simp only[Int.toNat_natCast] at hll ⊢
 refine Zb Tryz.func263 rfl rfl rfl fun u R=>?_
 simp only[Zd,kA]
 repeat' (first|(refine Za (.func 275) ?_;refine ZS (Zz (.slice va l.length vc) (l.map Zo) sp 5) (h:=by repeat (first|exact Zq|apply Zs)) (fun ρ2 hle2 hfz=>?_);obtain⟨a1,c1,f1,hc1,hs1⟩:=hown.sIn hfz;cases f1;refine qC rfl rfl (put32_spec _ va _ vc _ hs1 y (by omega) (by omega)) ?_;rintro v' ρ3 L3 hle3 ⟨rfl,sp3,hown3,rfl⟩;simp only[kA];rw[hll] at hown3;obtain⟨va',vc',rfl,_⟩:=hown3.slice)|refine zW ?_|intro _)
 exact qE ⟨rfl,hle2,_,sp3,hown3,rfl⟩
theorem wcontent_spec (ρ:Hp)(wb:Nat)(v:RV)(r:Rc)(w:Value)(l:List UInt8)(sp:List Value)(hown:WQ w l sp)(hn:l.length≤100000)(cv:CV)(c:Wq)(h:CI ρ cv c)(hok:ZJ c=true) :
  Spec Tryz.prog 312 [.pointer (some ⟨wb,0,none⟩),.agg ⟨XI c.kind cv⟩] ρ [Xg w l sp,wrC wb v r w] (WrP ρ wb v r (l++Yd c)):=by
 have hce:=contE_spec ρ cv c h.cin (fun r hr=>(h.row r hr).id) h.kid
 rw[if_pos hok,if_pos hok] at hce
 have h82:=WJ hok
 obtain⟨va,vc,rfl,_⟩:=hown.slice
 refine Zb Tryz.func312 rfl rfl rfl fun u R=>?_
 simp only[Zd,kA]
 repeat' (first|(refine Za (.func 273) ?_;refine qC rfl rfl (hce) ?_;rintro v ρ' L' hle ⟨hle1,a1,n1,c1,rfl,hc1,hs1,rfl⟩<;>(try simp only[kA]))|(have hn1:=hs1.len;refine ZK (ys:=(Yd c).map Zo) (m:=n1) (sz:=1) rfl rfl hown (hR:=by infer_instance) (SIn.srcV hs1) (by simpa using hs1.len) (Yn _) (by decide) rfl (by omega) (by omega) rfl (fun v' sp' hown'=>?_);rw[←List.map_append] at hown' ⊢;rw[←hs1.len,←List.length_append] at hown';obtain⟨va',vc',rfl,_⟩:=hown'.slice)|refine zW ?_|intro _)
 exact qE ⟨rfl,hle1,_,sp',hown',rfl⟩
theorem sIn_lit {α:Type}{g:α→Value}{ρ:Hp}{b:Nat}{l:List α}{T:TypeId}{fr:Nat×Nat}(h:ρ b=some (.cells ⟨l.map g⟩ T fr)):SIn ρ g (some ⟨b,0,none⟩) l.length l:=
 ⟨rfl,.inr ⟨b,0,_,T,fr,rfl,h,by rw[List.drop_zero,List.take_of_length_le (by simp)]⟩⟩
abbrev iV (x:Int):Value:=.int .i64 x
abbrev lV (x:Nat):Value:=.int .u64 (x:Int)
theorem Xb (ρ:Hp)(wb:Nat)(v:RV)(r:Rc)(w:Value)(l:List UInt8)(sp:List Value)(hown:WQ w l sp)(hn:l.length≤100000)(b:Nat)(x:Int){T:TypeId}{fr:Nat×Nat}(h:ρ b=some (.cells ⟨[.int .i64 x]⟩ T fr))(hb:0≤x∧x<256) :
  Spec Tryz.prog 261 [.pointer (some ⟨wb,0,none⟩),.slice (some ⟨b,0,none⟩) 1 1] ρ [Xg w l sp,wrC wb v r w] (WrP ρ wb v r (l++[tB x])):=
 wbytes_spec ρ wb v r w l sp hown hn _ 1 1 [x] (sIn_lit (l:=[x]) (g:=iV) h) (fun y hy=>by rw[List.mem_singleton.1 hy];exact hb) (by decide)
theorem wlong_spec (ρ:Hp)(wb:Nat)(v:RV)(r:Rc)(w:Value)(l:List UInt8)(sp:List Value)(hown:WQ w l sp)(hn:l.length≤100000)(b:Nat)(x:Nat){T:TypeId}{fr:Nat×Nat}(h:ρ b=some (.cells ⟨[.int .u64 (x:Int)]⟩ T fr))(hb:x<18446744073709551616) :
  Spec Tryz.prog 262 [.pointer (some ⟨wb,0,none⟩),.slice (some ⟨b,0,none⟩) 1 1] ρ [Xg w l sp,wrC wb v r w] (WrP ρ wb v r (l++be 8 x)):=by
 have:=wlongs_spec ρ wb v r w l sp hown hn _ 1 1 [x] (sIn_lit (l:=[x]) (g:=lV) h) (fun y hy=>by rw[List.mem_singleton.1 hy];exact hb) (by decide)
 simpa only [List.flatMap_cons,List.flatMap_nil,List.append_nil] using this
theorem wlong3_spec (ρ:Hp)(wb:Nat)(v:RV)(r:Rc)(w:Value)(l:List UInt8)(sp:List Value)(hown:WQ w l sp)(hn:l.length≤100000)(b:Nat)(x y z:Nat){T:TypeId}{fr:Nat×Nat}(h:ρ b=some (.cells ⟨[.int .u64 (x:Int),.int .u64 (y:Int),.int .u64 (z:Int)]⟩ T fr))(hx:x<18446744073709551616)(hy:y<18446744073709551616)(hz:z<18446744073709551616) :
  Spec Tryz.prog 262 [.pointer (some ⟨wb,0,none⟩),.slice (some ⟨b,0,none⟩) 3 3] ρ [Xg w l sp,wrC wb v r w] (WrP ρ wb v r (l++(be 8 x++(be 8 y++be 8 z)))):=by
 have:=wlongs_spec ρ wb v r w l sp hown hn _ 3 3 [x,y,z] (sIn_lit (l:=[x,y,z]) (g:=lV) h) (fun q hq=>by simp at hq;rcases hq with rfl|rfl|rfl<;>assumption) (by decide)
 simpa only [List.flatMap_cons,List.flatMap_nil,List.append_nil] using this
theorem wnested_spec (ρ:Hp)(wb:Nat)(v:RV)(r:Rc)(w:Value)(l:List UInt8)(sp:List Value)(hown:WQ w l sp)(hn:l.length≤90000)(h0:r.next<18446744073709551616) :
  Spec Tryz.prog 265 [.pointer (some ⟨wb,0,none⟩)] ρ [Xg w l sp,wrC wb v r w] (WrP ρ wb v r (l++be 8 r.next)):=by
 have hρ:=Hp.le_refl ρ
 refine Zb Tryz.func265 rfl rfl rfl fun u R=>?_
 simp only[Zd,kA]
 repeat' (first|(refine Zm rfl rfl rfl rfl (by simp) rfl rfl (fun bs=>?_);refine ZS _ (h:=Rem.here) (fun ρz hlz hfz=>?_);have hbs:=hfz _ (List.mem_singleton.2 rfl);clear hfz;have hρ:=Hp.le_trans hρ hlz;clear hlz;(try simp only[List.nil_append]))|(refine Za (.func 262) ?_;refine qC rfl rfl (wlong_spec _ wb v r w l sp hown (by omega) _ r.next hbs h0) ?_;rintro v ρ' L' hle ⟨rfl,hl1,w1,sp1,hown,rfl⟩<;>(try simp only[kA]))|refine zW ?_|intro _)
 exact qE ⟨rfl,Hp.le_trans hρ hl1,w1,sp1,hown,rfl⟩
theorem imB_len {two:Bool}{x:Im}(ha:ZJ x.a=true)(hb:ZJ x.b=true):(imB two x).length≤165:=by
 have h1:=WJ ha
 have h2:=WJ hb
 cases two<;>simp[imB]<;>omega
theorem wimages_spec (ρ:Hp)(wb:Nat)(v:RV)(r:Rc)(w:Value)(l:List UInt8)(sp:List Value)(hown:WQ w l sp)(hn:l.length≤80000)(h:RcIn ρ v r)(hL:LayOk r) :
  Spec Tryz.prog 264 [.pointer (some ⟨wb,0,none⟩)] ρ [Xg w l sp,wrC wb v r w] (WrP ρ wb v r (l++imsB r)):=by
 have hρ:=Hp.le_refl ρ
 have hA:=h.i.at'
 have hl:=hA.len
 have hil:=hL.il
 refine Zb Tryz.func264 rfl rfl rfl fun u R=>?_
 simp only[Zd,kA]
 repeat' (first|(refine Zm rfl rfl rfl rfl (by simp) rfl rfl (fun bs=>?_);refine ZS _ (h:=Rem.here) (fun ρz hlz hfz=>?_);have hbs:=hfz _ (List.mem_singleton.2 rfl);clear hfz;have hρ:=Hp.le_trans hρ hlz;clear hlz;(try simp only[List.nil_append]))|(refine Za (.func 261) ?_;refine qC rfl rfl (Xb _ wb v r w l sp hown (by omega) _ (v.i.n:Int) hbs (by omega)) ?_;rintro v ρ' L' hle ⟨rfl,hl1,w1,sp1,hown,rfl⟩<;>(try simp only[kA]);have hρ:=Hp.le_trans hρ hl1;clear hl1)|refine zW ?_|intro _)
 obtain⟨B,hB⟩:∃B,l++[tB (v.i.n:Int)]=B:=⟨_,rfl⟩
 rw[hB] at hown ⊢
 have hBl:B.length≤80001:=by rw[←hB];simp;omega
 have hfin:B++r.ims.flatMap (imB (decide (r.kind=2)))=l++imsB r:=by rw[←hB];simp[imsB,Xs,hl,tB]
 generalize hf:imB (decide (r.kind=2))=f at *
 rw[show Xg w1 B sp1=Xg w1 (B++(r.ims.take 0).flatMap f) sp1 by simp]
 refine Zi [(0,_),(17,_),(18,_)] (fun (ζ:(Nat)×(Hp)×(Value)×(List Value))=>[(19,.int .i64 ζ.1)]) (fun (ζ:(Nat)×(Hp)×(Value)×(List Value))=>ζ.2.1) (fun (ζ:(Nat)×(Hp)×(Value)×(List Value))=>[Xg ζ.2.2.1 (B++(r.ims.take ζ.1).flatMap f) ζ.2.2.2,wrC wb v r ζ.2.2.1]) (fun (ζ:(Nat)×(Hp)×(Value)×(List Value))=>ζ.1≤v.i.n∧ρ.le ζ.2.1∧WQ ζ.2.2.1 (B++(r.ims.take ζ.1).flatMap f) ζ.2.2.2) (fun (ζ:(Nat)×(Hp)×(Value)×(List Value))=>v.i.n-ζ.1) ((0,ρ',w1,sp1)) (⟨Nat.zero_le _,hρ,by simpa using hown⟩) Zc Zc rfl tk ?_
 rintro⟨k,ρ1,w2,sp2⟩ hI
 try simp only[kA,List.append_assoc] at hI ⊢
 try dsimp only at hI ⊢
 obtain⟨hk,hle1,hown⟩:=hI
 clear hρ
 by_cases hlt:k<v.i.n
 ·obtain⟨b,off,C,T,fr,e1,hbb,hfit,hcc⟩:=(hA.mono hle1).get (show k<r.ims.length by omega)
  have hts:=Xx f r.ims k (by omega)
  have hmem:=List.getElem_mem (show k<r.ims.length by omega)
  have hin:=(h.im _ hmem).mono hle1
  obtain⟨hp,ha,hb⟩:=hL.im _ hmem
  have hfl:=ZZ f 165 (r.ims.take k) (fun x hx=>by
   rw[←hf];exact imB_len (hL.im x (List.mem_of_mem_take hx)).2.1 (hL.im x (List.mem_of_mem_take hx)).2.2)
  have htl:(r.ims.take k).length≤16:=by simp;omega
  generalize r.ims[k]'(by omega)=x at *
  have hxl:(B++(r.ims.take k).flatMap f).length≤83000:=by simp only[List.length_append];omega
  have hmm:B++(r.ims.take k).flatMap f++f x=B++(r.ims.take (k+1)).flatMap f:=by rw[hts];simp
  generalize hX:B++(r.ims.take k).flatMap f=X at *
  have hρ:=Hp.le_refl ρ1
  have h82:=WJ hb
  have h83:=WJ ha
  rw[e1]
  by_cases h2:r.kind=2
  ·have hfx:f x=tB x.page::(Yd x.b++Yd x.a):=by rw[←hf,h2];rfl
   repeat' (first|(refine Zm rfl rfl rfl rfl (by simp) rfl rfl (fun bs=>?_);refine ZS _ (h:=Rem.here) (fun ρz hlz hfz=>?_);have hbs:=hfz _ (List.mem_singleton.2 rfl);clear hfz;have hρ:=Hp.le_trans hρ hlz;clear hlz;(try simp only[List.nil_append]))|(refine Za (.func 261) ?_;refine qC rfl rfl (Xb _ wb v r w2 X sp2 hown (by omega) _ x.page hbs (by omega)) ?_;rintro v ρ' L' hle ⟨rfl,hl1,w3,sp3,hown,rfl⟩<;>(try simp only[kA]);have hρ:=Hp.le_trans hρ hl1;clear hl1)|(refine Za (.func 312) ?_;refine qC rfl rfl ((wcontent_spec _ wb v r w3 _ sp3 hown (by (try simp only[List.length_append,List.length_cons,List.length_nil,List.length_map,Zf])<;>omega) x.bv x.b (hin.b.mono hρ) hb)) ?_;rintro v ρ' L' hle ⟨rfl,hl1,w4,sp4,hown,rfl⟩<;>(try simp only[kA]);have hρ:=Hp.le_trans hρ hl1;clear hl1)|(refine Za (.func 312) ?_;refine qC rfl rfl ((wcontent_spec _ wb v r w4 _ sp4 hown (by (try simp only[List.length_append,List.length_cons,List.length_nil,List.length_map,Zf])<;>omega) x.av x.a (hin.a.mono hρ) ha)) ?_;rintro v ρ' L' hle ⟨rfl,hl1,w5,sp5,hown,rfl⟩<;>(try simp only[kA]);have hρ:=Hp.le_trans hρ hl1;clear hl1)|refine zW ?_|intro _)
   rw[←e1]
   have e2:X++[tB x.page]++Yd x.b++Yd x.a=B++(r.ims.take (k+1)).flatMap f:=by rw[←hmm,hfx];simp
   rw[e2] at hown ⊢
   refine Ze (k+1,_,w5,sp5) (⟨hlt,Hp.le_trans hle1 hρ,hown⟩) Zc Zc rfl tk inferInstance (by first|omega|(dsimp only;omega))
  ·have hfx:f x=tB x.page::Yd x.a:=by rw[←hf,decide_eq_false h2];rfl
   repeat' (first|(refine Zm rfl rfl rfl rfl (by simp) rfl rfl (fun bs=>?_);refine ZS _ (h:=Rem.here) (fun ρz hlz hfz=>?_);have hbs:=hfz _ (List.mem_singleton.2 rfl);clear hfz;have hρ:=Hp.le_trans hρ hlz;clear hlz;(try simp only[List.nil_append]))|(refine Za (.func 261) ?_;refine qC rfl rfl (Xb _ wb v r w2 X sp2 hown (by omega) _ x.page hbs (by omega)) ?_;rintro v ρ' L' hle ⟨rfl,hl1,w3,sp3,hown,rfl⟩<;>(try simp only[kA]);have hρ:=Hp.le_trans hρ hl1;clear hl1)|(refine Za (.func 312) ?_;refine qC rfl rfl ((wcontent_spec _ wb v r w3 _ sp3 hown (by (try simp only[List.length_append,List.length_cons,List.length_nil,List.length_map,Zf])<;>omega) x.av x.a (hin.a.mono hρ) ha)) ?_;rintro v ρ' L' hle ⟨rfl,hl1,w5,sp5,hown,rfl⟩<;>(try simp only[kA]);have hρ:=Hp.le_trans hρ hl1;clear hl1)|refine zW ?_|intro _)
   rw[←e1]
   have e2:X++[tB x.page]++Yd x.a=B++(r.ims.take (k+1)).flatMap f:=by rw[←hmm,hfx];simp
   rw[e2] at hown ⊢
   refine Ze (k+1,_,w5,sp5) (⟨hlt,Hp.le_trans hle1 hρ,hown⟩) Zc Zc rfl tk inferInstance (by first|omega|(dsimp only;omega))
 ·rw[show r.ims.take k=r.ims by rw[show k=r.ims.length by omega,List.take_length],hfin] at hown ⊢
  repeat' (first|refine zW ?_|intro _)
  exact qE ⟨rfl,hle1,w2,sp2,hown,rfl⟩
theorem wundone_spec (ρ:Hp)(wb:Nat)(v:RV)(r:Rc)(w:Value)(l:List UInt8)(sp:List Value)(hown:WQ w l sp)(hn:l.length≤70000)(h:RcIn ρ v r)(hL:LayOk r) :
  Spec Tryz.prog 267 [.pointer (some ⟨wb,0,none⟩)] ρ [Xg w l sp,wrC wb v r w] (WrP ρ wb v r (l++(be 8 r.next++imsB r))):=by
 refine Zb Tryz.func267 rfl rfl rfl fun u R=>?_
 simp only[Zd,kA]
 repeat' (first|(refine Za (.func 265) ?_;refine qC rfl rfl (wnested_spec _ wb v r w l sp hown (by omega) hL.next) ?_;rintro v ρ' L' hle ⟨rfl,hl1,w1,sp1,hown,rfl⟩<;>(try simp only[kA]))|(refine Za (.func 264) ?_;refine qC rfl rfl (wimages_spec _ wb v r w1 _ sp1 hown (by (try simp only[List.length_append,List.length_cons,List.length_nil,List.length_map,Zf])<;>omega) (h.mono hl1) hL) ?_;rintro v ρ' L' hle ⟨rfl,hl2,w2,sp2,hown,rfl⟩<;>(try simp only[kA]))|refine zW ?_|intro _)
 rw[List.append_assoc] at hown ⊢
 exact qE ⟨rfl,Hp.le_trans hl1 hl2,w2,sp2,hown,rfl⟩
end Go.Proofs.E
namespace Go.Proofs.E
open Go
set_option linter.unusedVariables false
set_option linter.unusedSimpArgs false
set_option linter.unusedSectionVars false
set_option maxRecDepth 4000
set_option maxHeartbeats 1000000
attribute [local irreducible] Yl TL TC TE Spec ZI R1 Hp.le EnvLe TS TR YS Zp TP QP
theorem stpB_len {s:Stp}(h:YT s=true):(XA s).length≤21:=by
 unfold XA
 by_cases h23:s.kind=2∨s.kind=3
 ·rw[if_pos h23]
  have hr:YB s.row=true:=by
   unfold YT at h
   rw[if_neg (by omega),if_neg (by omega),if_pos h23,Bool.and_eq_true] at h
   exact h.2
  have:=rowB_le hr
  simp;omega
 ·rw[if_neg h23]
  split<;>simp[Zf]
theorem ckTB_len (t:CkT):(Wa t).length=29:=by simp[Wa,Zf]
theorem ckPB_len (p:CkP):(WC p).length=9:=by simp[WC,Zf]
theorem step_kinds {s:Stp}(h:YT s=true):(s.kind=1∨s.kind=2∨s.kind=3∨s.kind=4)∧((s.kind=2∨s.kind=3)→YB s.row=true)∧(¬(s.kind=2∨s.kind=3)→0≤s.row.t∧s.row.t<3):=by
 unfold YT at h
 by_cases h1:s.kind=1
 ·rw[if_pos h1] at h
  unfold onlyOk at h
  rw[Bool.and_eq_true,decide_eq_true_eq,decide_eq_true_eq] at h
  exact⟨.inl h1,fun e=>by omega,fun _=>h.2⟩
 ·rw[if_neg h1] at h
  by_cases h4:s.kind=4
  ·rw[if_pos h4] at h
   unfold onlyOk at h
   rw[Bool.and_eq_true,Bool.and_eq_true,decide_eq_true_eq,decide_eq_true_eq] at h
   exact⟨by omega,fun e=>by omega,fun _=>h.1.2⟩
  ·rw[if_neg h4] at h
   by_cases h23:s.kind=2∨s.kind=3
   ·rw[if_pos h23,Bool.and_eq_true] at h
    exact⟨by omega,fun _=>h.2,fun e=>absurd h23 e⟩
   ·rw[if_neg h23] at h;cases h
theorem wdone_spec (ρ:Hp)(wb:Nat)(v:RV)(r:Rc)(w:Value)(l:List UInt8)(sp:List Value)(hown:WQ w l sp)(hn:l.length≤70000)(h:RcIn ρ v r)(hL:LayOk r) :
  Spec Tryz.prog 266 [.pointer (some ⟨wb,0,none⟩)] ρ [Xg w l sp,wrC wb v r w] (WrP ρ wb v r (l++(be 8 r.next++Xs XA r.steps))):=by
 have hρ:=Hp.le_refl ρ
 have hA:=h.s.at'
 have hl:=hA.len
 have hil:=hL.sl
 refine Zb Tryz.func266 rfl rfl rfl fun u R=>?_
 simp only[Zd,kA]
 repeat' (first|(refine Zm rfl rfl rfl rfl (by simp) rfl rfl (fun bs=>?_);refine ZS _ (h:=Rem.here) (fun ρz hlz hfz=>?_);have hbs:=hfz _ (List.mem_singleton.2 rfl);clear hfz;have hρ:=Hp.le_trans hρ hlz;clear hlz;(try simp only[List.nil_append]))|(refine Za (.func 265) ?_;refine qC rfl rfl (wnested_spec _ wb v r w l sp hown (by omega) hL.next) ?_;rintro v ρ' L' hle ⟨rfl,hl1,w0,sp0,hown,rfl⟩<;>(try simp only[kA]);have hρ:=Hp.le_trans hρ hl1;clear hl1)|(refine Za (.func 261) ?_;refine qC rfl rfl (Xb _ wb v r w0 _ sp0 hown (by (try simp only[List.length_append,List.length_cons,List.length_nil,List.length_map,Zf])<;>omega) _ (v.s.n:Int) hbs (by omega)) ?_;rintro v ρ' L' hle ⟨rfl,hl1,w1,sp1,hown,rfl⟩<;>(try simp only[kA]);have hρ:=Hp.le_trans hρ hl1;clear hl1)|refine zW ?_|intro _)
 obtain⟨B,hB⟩:∃B,l++be 8 r.next++[tB (v.s.n:Int)]=B:=⟨_,rfl⟩
 rw[hB] at hown ⊢
 have hBl:B.length≤80001:=by rw[←hB];simp[Zf];omega
 have hfin:B++r.steps.flatMap XA=l++(be 8 r.next++Xs XA r.steps):=by rw[←hB];simp[Xs,hl,tB]
 rw[show Xg w1 B sp1=Xg w1 (B++(r.steps.take 0).flatMap XA) sp1 by simp]
 refine Zi [(0,_),(21,_),(22,_)] (fun (ζ:(Nat)×(Hp)×(Value)×(List Value))=>[(23,.int .i64 ζ.1)]) (fun (ζ:(Nat)×(Hp)×(Value)×(List Value))=>ζ.2.1) (fun (ζ:(Nat)×(Hp)×(Value)×(List Value))=>[Xg ζ.2.2.1 (B++(r.steps.take ζ.1).flatMap XA) ζ.2.2.2,wrC wb v r ζ.2.2.1]) (fun (ζ:(Nat)×(Hp)×(Value)×(List Value))=>ζ.1≤v.s.n∧ρ.le ζ.2.1∧WQ ζ.2.2.1 (B++(r.steps.take ζ.1).flatMap XA) ζ.2.2.2) (fun (ζ:(Nat)×(Hp)×(Value)×(List Value))=>v.s.n-ζ.1) ((0,ρ',w1,sp1)) (⟨Nat.zero_le _,hρ,by simpa using hown⟩) Zc Zc rfl tk ?_
 rintro⟨k,ρ1,w2,sp2⟩ hI
 try simp only[kA,List.append_assoc] at hI ⊢
 try dsimp only at hI ⊢
 obtain⟨hk,hle1,hown⟩:=hI
 clear hρ
 by_cases hlt:k<v.s.n
 ·obtain⟨b,off,C,T,fr,e1,hbb,hfit,hcc⟩:=(hA.mono hle1).get (show k<r.steps.length by omega)
  have hts:=Xx XA r.steps k (by omega)
  have hmem:=List.getElem_mem (show k<r.steps.length by omega)
  have hsf:=h.sf _ hmem
  obtain⟨hk4,hr23,hkt⟩:=step_kinds (hL.st _ hmem)
  have hfl:=ZZ XA 21 (r.steps.take k) (fun x hx=>stpB_len (hL.st x (List.mem_of_mem_take hx)))
  have htl:(r.steps.take k).length≤2:=by simp;omega
  generalize r.steps[k]'(by omega)=x at *
  have hxl:(B++(r.steps.take k).flatMap XA).length≤83000:=by simp only[List.length_append];omega
  have hmm:B++(r.steps.take k).flatMap XA++XA x=B++(r.steps.take (k+1)).flatMap XA:=by rw[hts];simp
  generalize hX:B++(r.steps.take k).flatMap XA=X at *
  have hρ:=Hp.le_refl ρ1
  rw[e1]
  by_cases h23:x.kind=2∨x.kind=3
  ·have hst:XA x=tB x.kind::ZG x.row:=by unfold XA;rw[if_pos h23]
   have hre:=fun ρ=>rowE_spec ρ x.row hsf.id
   have hrl:=rowB_le (hr23 h23)
   rw[if_pos (hr23 h23),if_pos (hr23 h23)] at hre
   have hmm2:(X++[tB x.kind]).map Zo++(ZG x.row).map Zo=(B++(r.steps.take (k+1)).flatMap XA).map Zo:=by rw[←hmm,hst];simp
   have hll2:(X++[tB x.kind]).length+(ZG x.row).length=(B++(r.steps.take (k+1)).flatMap XA).length:=by rw[←hmm,hst];simp;omega
   have hx1:(X++[tB x.kind]).length≤84000:=by simp;omega
   rcases h23 with h2|h2
   all_goals (repeat' (first|(refine Zm rfl rfl rfl rfl (by simp) rfl rfl (fun bs=>?_);refine ZS _ (h:=Rem.here) (fun ρz hlz hfz=>?_);have hbs:=hfz _ (List.mem_singleton.2 rfl);clear hfz;have hρ:=Hp.le_trans hρ hlz;clear hlz;(try simp only[List.nil_append]))|(refine Za (.func 261) ?_;refine qC rfl rfl (Xb _ wb v r w2 X sp2 hown (by omega) _ x.kind hbs (by omega)) ?_;rintro v ρ' L' hle ⟨rfl,hl1,w3,sp3,hown,rfl⟩<;>(try simp only[kA]);have hρ:=Hp.le_trans hρ hl1;clear hl1;obtain⟨va,vc,rfl,_⟩:=hown.slice)|(refine Za (.func 313) ?_;refine qC rfl rfl (hre _) ?_;rintro v ρ' L' hle ⟨hl1,a1,n1,c1,rfl,hc1,hs1,rfl⟩<;>(try simp only[kA]);have hρ:=Hp.le_trans hρ hl1;clear hl1)|(have hn1:=hs1.len;refine ZK (ys:=(ZG x.row).map Zo) (m:=n1) (sz:=1) rfl rfl hown (hR:=by infer_instance) (SIn.srcV hs1) (by simpa using hs1.len) (Yn _) (by decide) rfl (by omega) (by omega) rfl (fun v' sp' hown'=>?_);rw[hmm2] at hown' ⊢;rw[←hs1.len,hll2] at hown';obtain⟨va',vc',rfl,_⟩:=hown'.slice)|refine zW ?_|intro _))
   all_goals rw[←e1]
   all_goals refine Ze (k+1,_,_,sp') (⟨hlt,Hp.le_trans hle1 hρ,hown'⟩) Zc Zc rfl tk inferInstance (by first|omega|(dsimp only;omega))
  ·have hkt:=hkt h23
   have hst:XA x=tB x.kind::(tB x.row.t::(be 2 x.row.id++(if x.kind=1 then be 8 (vN x.by') else []))):=by unfold XA;rw[if_neg h23]
   have hll2:(X++[tB x.kind]++[tB x.row.t]).length+2=(X++[tB x.kind]++[tB x.row.t]++be 2 x.row.id).length:=by simp[Zf]
   rcases (show x.kind=1∨x.kind=4 by omega) with h1|h1
   ·rw[if_pos h1] at hst
    have hvl:=vN_lt x.by'
    repeat' (first|(refine Zm rfl rfl rfl rfl (by simp) rfl rfl (fun bs=>?_);refine ZS _ (h:=Rem.here) (fun ρz hlz hfz=>?_);have hbs:=hfz _ (List.mem_singleton.2 rfl);clear hfz;have hρ:=Hp.le_trans hρ hlz;clear hlz;(try simp only[List.nil_append]))|(refine Za (.func 261) ?_;refine qC rfl rfl (Xb _ wb v r w2 X sp2 hown (by omega) _ x.kind hbs (by omega)) ?_;rintro v ρ' L' hle ⟨rfl,hl1,w3,sp3,hown,rfl⟩<;>(try simp only[kA]);have hρ:=Hp.le_trans hρ hl1;clear hl1;obtain⟨va,vc,rfl,_⟩:=hown.slice)|(refine Za (.func 261) ?_;refine qC rfl rfl (Xb _ wb v r _ _ sp3 hown (by (try simp only[List.length_append,List.length_cons,List.length_nil,List.length_map,Zf])<;>omega) _ x.row.t hbs (by omega)) ?_;rintro v ρ' L' hle ⟨rfl,hl1,w4,sp4,hown,rfl⟩<;>(try simp only[kA]);have hρ:=Hp.le_trans hρ hl1;clear hl1;obtain⟨va,vc,rfl,_⟩:=hown.slice)|refine zW ?_|intro _)
    refine tpA [0,1,2,3,5,6,7,8] (.e 4 [] (.e 9 [10,11] (.e 12 [] .o))) ([[(_,.cells ⟨YK x⟩ 173 (0,0))]]) ?_
    repeat' (refine iT ?_;first|refine rA ?_|((refine iE ?_;refine rE ?_)<;>((try refine Zn ?_);(first|(refine Za (.func 314) ?_;refine ZS (Xg (.slice va (X++[tB x.kind]++[tB x.row.t]).length vc) (X++[tB x.kind]++[tB x.row.t]) sp4) (h:=by repeat (first|exact Zq|apply Zs)) (fun ρ2 hle2 hfz=>?_);obtain⟨a1,c1,f1,hc1,hs1⟩:=hown.sIn hfz;cases f1;refine qC rfl rfl (put16_spec _ va _ vc _ hs1 x.row.id hsf.id (by (try simp only[List.length_append,List.length_cons,List.length_nil,List.length_map,Zf])<;>omega)) ?_;rintro v' ρ3 L3 hle3 ⟨rfl,sp5,hown,rfl⟩;simp only[kA];rw[hll2] at hown;obtain⟨va,vc,rfl,_⟩:=hown.slice;have hρ:=Hp.le_trans hρ hle2)|(refine i_qq ?_;refine qQ ?_)|(refine Yj ?_;try intro _))<;>((try simp only[kA]);refine Zj ?_;refine rN ?_))))
    all_goals (repeat' (first|(simp only[vN_eq];refine Zm rfl rfl rfl rfl (by simp) rfl rfl (fun bs=>?_);refine ZS _ (h:=Rem.here) (fun ρz hlz hfz=>?_);have hbs:=hfz _ (List.mem_singleton.2 rfl);clear hfz;have hρ:=Hp.le_trans hρ hlz;clear hlz;(try simp only[List.nil_append]))|(refine Za (.func 262) ?_;refine qC rfl rfl (wlong_spec _ wb v r _ _ sp5 hown (by (try simp only[List.length_append,List.length_cons,List.length_nil,List.length_map,Zf])<;>omega) _ (vN x.by') hbs hvl) ?_;rintro v ρ' L' hle ⟨rfl,hl1,w6,sp6,hown,rfl⟩<;>(try simp only[kA]);have hρ:=Hp.le_trans hρ hl1;clear hl1;obtain⟨va,vc,rfl,_⟩:=hown.slice)|refine zW ?_|intro _))
    all_goals rw[←e1]
    all_goals have e2:X++[tB x.kind]++[tB x.row.t]++be 2 x.row.id++be 8 (vN x.by')=B++(r.steps.take (k+1)).flatMap XA:=by rw[←hmm,hst];simp
    all_goals rw[e2] at hown ⊢
    all_goals refine Ze (k+1,_,_,sp6) (⟨hlt,Hp.le_trans hle1 hρ,hown⟩) Zc Zc rfl tk inferInstance (by first|omega|(dsimp only;omega))
   ·rw[if_neg (by omega)] at hst
    repeat' (first|(refine Zm rfl rfl rfl rfl (by simp) rfl rfl (fun bs=>?_);refine ZS _ (h:=Rem.here) (fun ρz hlz hfz=>?_);have hbs:=hfz _ (List.mem_singleton.2 rfl);clear hfz;have hρ:=Hp.le_trans hρ hlz;clear hlz;(try simp only[List.nil_append]))|(refine Za (.func 261) ?_;refine qC rfl rfl (Xb _ wb v r w2 X sp2 hown (by omega) _ x.kind hbs (by omega)) ?_;rintro v ρ' L' hle ⟨rfl,hl1,w3,sp3,hown,rfl⟩<;>(try simp only[kA]);have hρ:=Hp.le_trans hρ hl1;clear hl1;obtain⟨va,vc,rfl,_⟩:=hown.slice)|(refine Za (.func 261) ?_;refine qC rfl rfl (Xb _ wb v r _ _ sp3 hown (by (try simp only[List.length_append,List.length_cons,List.length_nil,List.length_map,Zf])<;>omega) _ x.row.t hbs (by omega)) ?_;rintro v ρ' L' hle ⟨rfl,hl1,w4,sp4,hown,rfl⟩<;>(try simp only[kA]);have hρ:=Hp.le_trans hρ hl1;clear hl1;obtain⟨va,vc,rfl,_⟩:=hown.slice)|refine zW ?_|intro _)
    refine tpA [0,1,2,3,5,6,7,8] (.e 4 [] (.e 9 [10,11] (.e 12 [] .o))) ([[(_,.cells ⟨YK x⟩ 173 (0,0))]]) ?_
    repeat' (refine iT ?_;first|refine rA ?_|((refine iE ?_;refine rE ?_)<;>((try refine Zn ?_);(first|(refine Za (.func 314) ?_;refine ZS (Xg (.slice va (X++[tB x.kind]++[tB x.row.t]).length vc) (X++[tB x.kind]++[tB x.row.t]) sp4) (h:=by repeat (first|exact Zq|apply Zs)) (fun ρ2 hle2 hfz=>?_);obtain⟨a1,c1,f1,hc1,hs1⟩:=hown.sIn hfz;cases f1;refine qC rfl rfl (put16_spec _ va _ vc _ hs1 x.row.id hsf.id (by (try simp only[List.length_append,List.length_cons,List.length_nil,List.length_map,Zf])<;>omega)) ?_;rintro v' ρ3 L3 hle3 ⟨rfl,sp5,hown,rfl⟩;simp only[kA];rw[hll2] at hown;obtain⟨va,vc,rfl,_⟩:=hown.slice;have hρ:=Hp.le_trans hρ hle2)|(refine i_qq ?_;refine qQ ?_)|(refine Yj ?_;try intro _))<;>((try simp only[kA]);refine Zj ?_;refine rN ?_))))
    all_goals (repeat' (first|refine zW ?_|intro _))
    all_goals rw[←e1]
    all_goals have e2:X++[tB x.kind]++[tB x.row.t]++be 2 x.row.id=B++(r.steps.take (k+1)).flatMap XA:=by rw[←hmm,hst];simp
    all_goals rw[e2] at hown ⊢
    all_goals refine Ze (k+1,_,_,sp5) (⟨hlt,Hp.le_trans hle1 hρ,hown⟩) Zc Zc rfl tk inferInstance (by first|omega|(dsimp only;omega))
 ·rw[show r.steps.take k=r.steps by rw[show k=r.steps.length by omega,List.take_length],hfin] at hown ⊢
  repeat' (first|refine zW ?_|intro _)
  exact qE ⟨rfl,hle1,w2,sp2,hown,rfl⟩
end Go.Proofs.E
namespace Go.Proofs.E
open Go
set_option linter.unusedVariables false
set_option linter.unusedSimpArgs false
set_option linter.unusedSectionVars false
set_option maxRecDepth 4000
set_option maxHeartbeats 1000000
attribute [local irreducible] Yl TL TC TE Spec ZI R1 Hp.le EnvLe TS TR YS Zp
theorem wckpt_spec (ρ:Hp)(wb:Nat)(v:RV)(r:Rc)(w:Value)(l:List UInt8)(sp:List Value)(hown:WQ w l sp)(hn:l.length≤70000)(h:RcIn ρ v r)(hL:LayOk r) :
  Spec Tryz.prog 268 [.pointer (some ⟨wb,0,none⟩)] ρ [Xg w l sp,wrC wb v r w] (WrP ρ wb v r (l++(be 4 r.nextTxn.toNat++(Xs Wa r.txns++Xs WC r.dirty)))):=by
 have hρ:=Hp.le_refl ρ
 have hA:=h.t.at'
 have hl:=hA.len
 have hA2:=h.d.at'
 have hl2:=hA2.len
 have hil:=hL.tl
 have hil2:=hL.dl
 refine Zb Tryz.func268 rfl rfl rfl fun u R=>?_
 simp only[Zd,kA]
 repeat' (first|(refine Zm rfl rfl rfl rfl (by simp) rfl rfl (fun bs=>?_);refine ZS _ (h:=Rem.here) (fun ρz hlz hfz=>?_);have hbs:=hfz _ (List.mem_singleton.2 rfl);clear hfz;have hρ:=Hp.le_trans hρ hlz;clear hlz;(try simp only[List.nil_append]))|(refine Za (.func 263) ?_;refine qC rfl rfl (wtxn_spec _ wb v r w l sp hown (by omega) r.nextTxn hL.nextTxn) ?_;rintro v ρ' L' hle ⟨rfl,hl1,w0,sp0,hown,rfl⟩<;>(try simp only[kA]);have hρ:=Hp.le_trans hρ hl1;clear hl1)|(refine Za (.func 261) ?_;refine qC rfl rfl (Xb _ wb v r w0 _ sp0 hown (by (try simp only[List.length_append,List.length_cons,List.length_nil,List.length_map,Zf])<;>omega) _ (v.t.n:Int) hbs (by omega)) ?_;rintro v ρ' L' hle ⟨rfl,hl1,w1,sp1,hown,rfl⟩<;>(try simp only[kA]);have hρ:=Hp.le_trans hρ hl1;clear hl1)|refine zV ?_|intro _)
 obtain⟨B,hB⟩:∃B,l++be 4 r.nextTxn.toNat++[tB (v.t.n:Int)]=B:=⟨_,rfl⟩
 rw[hB] at hown ⊢
 have hBl:B.length≤80001:=by rw[←hB];simp[Zf];omega
 have hfin:B++r.txns.flatMap Wa=l++(be 4 r.nextTxn.toNat++Xs Wa r.txns):=by rw[←hB];simp[Xs,hl,tB]
 rw[show Xg w1 B sp1=Xg w1 (B++(r.txns.take 0).flatMap Wa) sp1 by simp]
 refine Zi [(0,_),(26,_),(27,_)] (fun (ζ:(Nat)×(Hp)×(Value)×(List Value))=>[(28,.int .i64 ζ.1)]) (fun (ζ:(Nat)×(Hp)×(Value)×(List Value))=>ζ.2.1) (fun (ζ:(Nat)×(Hp)×(Value)×(List Value))=>[Xg ζ.2.2.1 (B++(r.txns.take ζ.1).flatMap Wa) ζ.2.2.2,wrC wb v r ζ.2.2.1]) (fun (ζ:(Nat)×(Hp)×(Value)×(List Value))=>ζ.1≤v.t.n∧ρ.le ζ.2.1∧WQ ζ.2.2.1 (B++(r.txns.take ζ.1).flatMap Wa) ζ.2.2.2) (fun (ζ:(Nat)×(Hp)×(Value)×(List Value))=>v.t.n-ζ.1) ((0,ρ',w1,sp1)) (⟨Nat.zero_le _,hρ,by simpa using hown⟩) Zc Zc rfl tk ?_
 rintro⟨k,ρ1,w2,sp2⟩ hI
 try simp only[kA,List.append_assoc] at hI ⊢
 try dsimp only at hI ⊢
 obtain⟨hk,hle1,hown⟩:=hI
 clear hρ
 by_cases hlt:k<v.t.n
 ·obtain⟨b,off,C,T,fr,e1,hbb,hfit,hcc⟩:=(hA.mono hle1).get (show k<r.txns.length by omega)
  have hts:=Xx Wa r.txns k (by omega)
  have hmem:=List.getElem_mem (show k<r.txns.length by omega)
  obtain⟨g1,g2,g3,g4,g5⟩:=hL.tx _ hmem
  have hfl:=ZZ Wa 29 (r.txns.take k) (fun x _=>Nat.le_of_eq (ckTB_len x))
  have htl:(r.txns.take k).length≤8:=by simp;omega
  generalize r.txns[k]'(by omega)=x at *
  have hxl:(B++(r.txns.take k).flatMap Wa).length≤83000:=by simp only[List.length_append];omega
  have hmm:B++(r.txns.take k).flatMap Wa++Wa x=B++(r.txns.take (k+1)).flatMap Wa:=by rw[hts];simp
  generalize hX:B++(r.txns.take k).flatMap Wa=X at *
  have hρ:=Hp.le_refl ρ1
  rw[e1]
  repeat' (first|(refine Zm rfl rfl rfl rfl (by simp) rfl rfl (fun bs=>?_);refine ZS _ (h:=Rem.here) (fun ρz hlz hfz=>?_);have hbs:=hfz _ (List.mem_singleton.2 rfl);clear hfz;have hρ:=Hp.le_trans hρ hlz;clear hlz;(try simp only[List.nil_append]))|(refine Za (.func 263) ?_;refine qC rfl rfl (wtxn_spec _ wb v r w2 X sp2 hown (by omega) x.txn g1) ?_;rintro v ρ' L' hle ⟨rfl,hl1,w3,sp3,hown,rfl⟩<;>(try simp only[kA]);have hρ:=Hp.le_trans hρ hl1;clear hl1)|(refine Za (.func 262) ?_;refine qC rfl rfl (wlong3_spec _ wb v r w3 _ sp3 hown (by (try simp only[List.length_append,List.length_cons,List.length_nil,List.length_map,Zf])<;>omega) _ x.first x.last x.undo hbs g2 g3 g4) ?_;rintro v ρ' L' hle ⟨rfl,hl1,w4,sp4,hown,rfl⟩<;>(try simp only[kA]);have hρ:=Hp.le_trans hρ hl1;clear hl1)|(refine Za (.func 261) ?_;refine qC rfl rfl (Xb _ wb v r w4 _ sp4 hown (by (try simp only[List.length_append,List.length_cons,List.length_nil,List.length_map,Zf])<;>omega) _ x.state hbs g5) ?_;rintro v ρ' L' hle ⟨rfl,hl1,w5,sp5,hown,rfl⟩<;>(try simp only[kA]);have hρ:=Hp.le_trans hρ hl1;clear hl1)|refine zV ?_|intro _)
  rw[←e1]
  have e2:X++be 4 x.txn.toNat++(be 8 x.first++(be 8 x.last++be 8 x.undo))++[tB x.state]=B++(r.txns.take (k+1)).flatMap Wa:=by rw[←hmm];simp[Wa]
  rw[e2] at hown ⊢
  refine Ze (k+1,_,w5,sp5) (⟨hlt,Hp.le_trans hle1 hρ,hown⟩) Zc Zc rfl tk inferInstance (by first|omega|(dsimp only;omega))
 ·rw[show r.txns.take k=r.txns by rw[show k=r.txns.length by omega,List.take_length],hfin] at hown ⊢
  have hρ:=hle1
  obtain⟨B2,hB2⟩:∃B2,l++(be 4 r.nextTxn.toNat++Xs Wa r.txns)=B2:=⟨_,rfl⟩
  have hlT:(Xs Wa r.txns).length≤300:=by
   have:=ZZ Wa 29 r.txns (fun x _=>Nat.le_of_eq (ckTB_len x))
   unfold Xs;rw[List.length_cons];omega
  have hB2l:B2.length≤71000:=by rw[←hB2];simp[Zf];omega
  rw[hB2] at hown ⊢
  repeat' (first|(refine Zm rfl rfl rfl rfl (by simp) rfl rfl (fun bs=>?_);refine ZS _ (h:=Rem.here) (fun ρz hlz hfz=>?_);have hbs:=hfz _ (List.mem_singleton.2 rfl);clear hfz;have hρ:=Hp.le_trans hρ hlz;clear hlz;(try simp only[List.nil_append]))|(refine Za (.func 261) ?_;refine qC rfl rfl (Xb _ wb v r w2 B2 sp2 hown (by omega) _ (v.d.n:Int) hbs (by omega)) ?_;rintro v ρ' L' hle ⟨rfl,hl1,w1,sp1,hown,rfl⟩<;>(try simp only[kA]);have hρ:=Hp.le_trans hρ hl1;clear hl1)|refine zV ?_|intro _)
  obtain⟨B3,hB3⟩:∃B3,B2++[tB (v.d.n:Int)]=B3:=⟨_,rfl⟩
  rw[hB3] at hown ⊢
  have hBl3:B3.length≤80001:=by rw[←hB3];simp;omega
  have hfin3:B3++r.dirty.flatMap WC=l++(be 4 r.nextTxn.toNat++(Xs Wa r.txns++Xs WC r.dirty)):=by rw[←hB3,←hB2];simp[Xs,hl2,tB]
  rw[show Xg w1 B3 sp1=Xg w1 (B3++(r.dirty.take 0).flatMap WC) sp1 by simp]
  refine Zi [(0,_),(64,_),(65,_)] (fun (ζ:(Nat)×(Hp)×(Value)×(List Value))=>[(66,.int .i64 ζ.1)]) (fun (ζ:(Nat)×(Hp)×(Value)×(List Value))=>ζ.2.1) (fun (ζ:(Nat)×(Hp)×(Value)×(List Value))=>[Xg ζ.2.2.1 (B3++(r.dirty.take ζ.1).flatMap WC) ζ.2.2.2,wrC wb v r ζ.2.2.1]) (fun (ζ:(Nat)×(Hp)×(Value)×(List Value))=>ζ.1≤v.d.n∧ρ.le ζ.2.1∧WQ ζ.2.2.1 (B3++(r.dirty.take ζ.1).flatMap WC) ζ.2.2.2) (fun (ζ:(Nat)×(Hp)×(Value)×(List Value))=>v.d.n-ζ.1) ((0,ρ',w1,sp1)) (⟨Nat.zero_le _,hρ,by simpa using hown⟩) Zc Zc rfl tk ?_
  rintro⟨j,ρ2,w3,sp3⟩ hI
  try simp only[kA,List.append_assoc] at hI ⊢
  try dsimp only at hI ⊢
  obtain⟨hj,hle2,hown⟩:=hI
  clear hρ
  by_cases hlj:j<v.d.n
  ·obtain⟨b,off,C,T,fr,e1,hbb,hfit,hcc⟩:=(hA2.mono hle2).get (show j<r.dirty.length by omega)
   have hts:=Xx WC r.dirty j (by omega)
   have hmem:=List.getElem_mem (show j<r.dirty.length by omega)
   obtain⟨g1,g2⟩:=hL.di _ hmem
   have hfl:=ZZ WC 9 (r.dirty.take j) (fun x _=>Nat.le_of_eq (ckPB_len x))
   have htl:(r.dirty.take j).length≤64:=by simp;omega
   generalize r.dirty[j]'(by omega)=x at *
   have hxl:(B3++(r.dirty.take j).flatMap WC).length≤83000:=by simp only[List.length_append];omega
   have hmm:B3++(r.dirty.take j).flatMap WC++WC x=B3++(r.dirty.take (j+1)).flatMap WC:=by rw[hts];simp
   generalize hX:B3++(r.dirty.take j).flatMap WC=X at *
   have hρ:=Hp.le_refl ρ2
   rw[e1]
   repeat' (first|(refine Zm rfl rfl rfl rfl (by simp) rfl rfl (fun bs=>?_);refine ZS _ (h:=Rem.here) (fun ρz hlz hfz=>?_);have hbs:=hfz _ (List.mem_singleton.2 rfl);clear hfz;have hρ:=Hp.le_trans hρ hlz;clear hlz;(try simp only[List.nil_append]))|(refine Za (.func 261) ?_;refine qC rfl rfl (Xb _ wb v r w3 X sp3 hown (by omega) _ x.page hbs (by omega)) ?_;rintro v ρ' L' hle ⟨rfl,hl1,w4,sp4,hown,rfl⟩<;>(try simp only[kA]);have hρ:=Hp.le_trans hρ hl1;clear hl1)|(refine Za (.func 262) ?_;refine qC rfl rfl (wlong_spec _ wb v r w4 _ sp4 hown (by (try simp only[List.length_append,List.length_cons,List.length_nil,List.length_map,Zf])<;>omega) _ x.since hbs g2) ?_;rintro v ρ' L' hle ⟨rfl,hl1,w5,sp5,hown,rfl⟩<;>(try simp only[kA]);have hρ:=Hp.le_trans hρ hl1;clear hl1)|refine zV ?_|intro _)
   rw[←e1]
   have e2:X++[tB x.page]++be 8 x.since=B3++(r.dirty.take (j+1)).flatMap WC:=by rw[←hmm];simp[WC]
   rw[e2] at hown ⊢
   refine Ze (j+1,_,w5,sp5) (⟨hlj,Hp.le_trans hle2 hρ,hown⟩) Zc Zc rfl tk inferInstance (by first|omega|(dsimp only;omega))
  ·rw[show r.dirty.take j=r.dirty by rw[show j=r.dirty.length by omega,List.take_length],hfin3] at hown ⊢
   repeat' (first|refine zV ?_|intro _)
   exact qE ⟨rfl,hle2,w3,sp3,hown,rfl⟩
end Go.Proofs.E
