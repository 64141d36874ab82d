/- Laws of LogDoes. Part 6 of 30. -/
import Derived.Test.YthjhjmnmnbcioaaGreatD5
set_option linter.unusedVariables false
set_option linter.unusedSimpArgs false
set_option linter.unusedSectionVars false
namespace Go.Proofs.E
open Go Tryz
set_option maxRecDepth 4000
set_option maxHeartbeats 1000000
attribute [local irreducible] Yl TL TC TE Spec YL R1 Hp.le EnvLe TS TR YS Zt TP QP
def Yq (k:Kid):List UInt8:=XQ k.t k.id++[tB k.page]
def cntB (c:Wm):List UInt8:=if c.kind=0 then [] else [UInt8.ofNat (c.rows.length+c.kids.length)]
def Ya (c:Wm):List UInt8:=tB c.kind::cntB c++(c.rows.flatMap ZE++c.kids.flatMap Yq)
theorem Vi {α:Type}{most:Nat}{right:Nat->α->Bool}{lt:α->α->Bool}{l:List α}:∀{k:Nat},Zu most right lt l k=true->k<=l.length->l.length<=most/\∀i (h:i<l.length),i<k->right i l[i]=true/\(i=0\/lt (l[i-1]'(by omega)) l[i]=true)
 | 0,h,_=>⟨of_decide_eq_true h,λ i _ hi=>by omega⟩
 | k+1,h,hk=>by
  rw[Xp (show k<l.length by omega),aE,aE] at h
  obtain⟨h1,h2,h3⟩:=h
  obtain⟨g1,g2⟩:=Vi h1 (by omega)
  refine⟨g1,λ i hi hik=>?_⟩
  by_cases e:i<k
  ·exact g2 i hi e
  ·have:i=k:=by omega
   subst this
   refine⟨h2, ?_⟩
   simpa using h3
structure ContOk (c:Wm):Prop where
 kind:c.kind=0/\c.rows=[]/\c.kids=[]\/c.kind=1/\c.kids=[]\/c.kind=2/\c.rows=[]/\1<c.kids.length
 rl:c.rows.length<=4
 kl:c.kids.length<=4
 row:∀r∈c.rows,Yx r=true
 kid:∀k∈c.kids,(0<=k.t/\k.t<3)/\0<k.page/\k.page<64
theorem Wg {c:Wm}(h:ZG c=true):ContOk c:=by
 obtain⟨kind,rows,kids⟩:=c
 unfold ZG at h
 dsimp only at h
 split at h
 ·rename_i hk
  have hz:=of_decide_eq_true h
  have h1:rows=[]:=List.eq_nil_of_length_eq_zero (by omega)
  have h2:kids=[]:=List.eq_nil_of_length_eq_zero (by omega)
  subst h1;subst h2
  exact⟨.inl ⟨hk,rfl,rfl⟩,by simp,by simp,by simp,by simp⟩
 ·split at h
  ·rename_i hk
   rw[aE] at h
   have h2:kids=[]:=List.eq_nil_of_length_eq_zero (of_decide_eq_true h.1)
   subst h2
   obtain⟨g1,g2⟩:=Vi h.2 (aR _)
   refine⟨.inr (.inl ⟨hk,rfl⟩),g1,by simp,λ r hr=>?_,by simp⟩
   obtain⟨i,hi,rfl⟩:=List.mem_iff_getElem.1 hr
   exact (g2 i hi hi).1
  ·split at h
   ·rename_i hk
    rw[aE,aE] at h
    have h1:rows=[]:=List.eq_nil_of_length_eq_zero (of_decide_eq_true h.1)
    subst h1
    obtain⟨g1,g2⟩:=Vi h.2.2 (aR _)
    refine⟨.inr (.inr ⟨hk,rfl,of_decide_eq_true h.2.1⟩),by simp,g1,by simp,λ k hk=>?_⟩
    obtain⟨i,hi,rfl⟩:=List.mem_iff_getElem.1 hk
    have:=of_decide_eq_true (g2 i hi hi).1
    exact⟨this.2.2.2.1,this.2.1,this.2.2.1⟩
   ·cases h
theorem rowB_len {r:Row}(h:Yx r=true):(ZE r).length=12+r.note.length:=by simp[ZE,XQ,Zd];omega
theorem rowB_le {r:Row}(h:Yx r=true):(ZE r).length<=20:=by rw[rowB_len h];have:=(rowOk_iff h).2.2;omega
theorem Vr (k:Kid):(Yq k).length=4:=by simp[Yq,XQ,Zd]
theorem ZW {α:Type}(f:α->List UInt8)(m:Nat):∀(l:List α),(∀x∈l,(f x).length<=m)->(l.flatMap f).length<=l.length*m
 | [],_=>by simp
 | x::r,h=>by
  have h1:=h x (by simp)
  have ih:=ZW f m r (λ y hy=>h y (by simp[hy]))
  simp only[List.flatMap_cons,aL,aC,Nat.add_mul];omega
theorem YU {α:Type}(f:α->List UInt8)(l:List α)(k:Nat)(h:k<l.length):(l.take (k+1)).flatMap f=(l.take k).flatMap f++f l[k]:=by
 rw[aG h,List.flatMap_append];simp
theorem contE_spec (ρ:Hp)(w:CV)(c:Wm)(h:CIn ρ w c.rows c.kids)(hir:∀r∈c.rows,r.id<65536)(hik:∀k∈c.kids,k.id<65536) :
  Spec prog 250 [.agg ⟨XI c.kind w⟩] ρ [] (λ v ρ' L'=>ρ.le ρ'/\∃a n c',v=.tuple ⟨[.slice a n c',.int .i64 (if ZG c then 0 else 160)]⟩/\n<=c'/\SIn ρ' Zk a n (if ZG c then Ya c else [])/\L'=[]):=by
 have hck:=λ ρ h=>Wf ρ w c h
 refine Zb func250 rfl rfl rfl λ u R=>?_
 simp only[Zc,kA]
 cases hok:ZG c
 ·simp only[hok,aB,if_false] at hck ⊢
  repeat' (first|(refine Za (.func 205) ?_;refine qC rfl rfl (hck _ h) ?_;rintro v ρ' L' hle ⟨rfl,rfl,rfl⟩<;>(try simp only[kA]))|refine zW ?_|intro _)
  exact qE ⟨Hp.le_refl _,none,0,0,rfl,aR _,SIn.nil,rfl⟩
 ·simp only[hok,if_true] at hck ⊢
  obtain⟨hkind,hrl,hkl,hrow,hkid⟩:=Wg hok
  have hk03:0<=c.kind/\c.kind<3:=by omega
  obtain⟨kind,rows,kids⟩:=c
  obtain⟨ra,rn,rc,ka,kn,kc⟩:=w
  obtain⟨hr,hk,hrb,hkb,hrc,hkc⟩:=h
  dsimp only at hrc hkc hr hk hrb hkb hrow hkid hrl hkl hk03 hir hik ⊢
  have hrn:=hr.len
  have hkn:=hk.len
  have hcnt:=lenB (n:=rn+kn) (by omega)
  have hkB:=tB_eq (t:=kind) (by omega) (by omega)
  dsimp only[XI] at hck ⊢
  by_cases hk0:kind=0
  ·obtain⟨B0,hB0⟩:∃B0,tB kind::cntB ⟨kind,rows,kids⟩=B0:=⟨_,rfl⟩
   have hX:B0=[tB kind]:=by rw[<-hB0];simp[cntB,hk0]
   have hBl:B0.length<=2:=by rw[hX];simp
   repeat' (first|(refine Za (.func 205) ?_;refine qC rfl rfl (hck _ ⟨hr,hk,hrb,hkb,hrc,hkc⟩) ?_;rintro v ρ' L' hle ⟨rfl,rfl,rfl⟩<;>(try simp only[kA]))|(refine Zg rfl rfl rfl rfl (by simp) rfl rfl (λ _=>?_);simp only[hkB])|refine zW ?_|intro _)
   rename_i b1 b2
   rw[show [Zk (tB kind)]=B0.map Zk by rw[hX];rfl,own_chunk b2 1 1]
   have hown0:OwnS (.slice (some ⟨b2,0,none⟩) 1 1) B0.length (B0.map Zk) [] 1:=⟨.inr ⟨b2,1,by rw[hX];rfl,by simp,by simp[hX],by simp[hX]⟩⟩
   generalize Value.slice (some ⟨b2,0,none⟩) 1 1=v0 at *
   rw[show B0.map Zk=(B0++(rows.take 0).flatMap ZE).map Zk by simp]
   refine lpG (Nat×Hp×Value×(List Value)) [1,2,3,34,35] (λ z=>[(36,.int .i64 z.1),(5,z.2.2.1)]) (λ z=>z.2.1) (λ z=>[Zq z.2.2.1 ((B0++(rows.take z.1).flatMap ZE).map Zk) z.2.2.2 5,[(b1,.cells ⟨[.int .i64 kind,.slice ra rn rc,.slice ka kn kc]⟩ 88 (0,0))]]) (λ z=>z.1<=rn/\ρ'.le z.2.1/\OwnS z.2.2.1 (B0++(rows.take z.1).flatMap ZE).length ((B0++(rows.take z.1).flatMap ZE).map Zk) z.2.2.2 1) (λ z=>rn-z.1) (0,ρ',v0,[]) ⟨aZ _,Hp.le_refl _,by simpa using hown0⟩ ?_
   rintro⟨k,ρ1,v,sp⟩ hI
   try simp only[kB] at hI ⊢
   try dsimp only at hI ⊢
   obtain⟨hkn0,hle1,hown⟩:=hI
   by_cases hlt:k<rn
   ·obtain⟨b,off,C,T,fr,rfl,hb,hfit,hc⟩:=(hr.mono hle1).get (show k<rows.length by omega)
    have hmem:rows[k]'(by omega)∈rows:=aM _
    have hro:=hrow _ hmem
    have hid:=hir _ hmem
    have hts:=YU ZE rows k (by omega)
    have hfl:=ZW ZE 20 (rows.take k) (λ x hx=>rowB_le (hrow x (List.mem_of_mem_take hx)))
    have htl:(rows.take k).length<=4:=by simp;omega
    have hXl:(B0++(rows.take k).flatMap ZE).length<=100:=by simp only[aL];omega
    have hll:(B0++(rows.take k).flatMap ZE).length+(ZE (rows[k]'(by omega))).length=(B0++(rows.take (k+1)).flatMap ZE).length:=by rw[hts];simp;omega
    have hmm:B0++(rows.take k).flatMap ZE++ZE (rows[k]'(by omega))=B0++(rows.take (k+1)).flatMap ZE:=by rw[hts];simp
    generalize rows[k]'(by omega)=x at *
    repeat' (first|(refine Za (.func 266) ?_;refine qC rfl rfl (claid_spec _ v _ _ sp hown (by omega) x hro hid) ?_;rintro v2 ρ2 L2 hle0 ⟨hle2,sp2,hown2,rfl⟩;simp only[kA,hmm];rw[hmm,hll] at hown2)|refine zW ?_|intro _)
    refine rnG (k+1,_,v2,sp2) (⟨hlt,Hp.le_trans hle1 hle2,hown2⟩)
   ·have hk2:k=rn:=by omega
    subst hk2
    rw[aT (by omega)] at hown ⊢
    repeat' (first|refine zW ?_|intro _)
    rw[show (B0++rows.flatMap ZE).map Zk=(B0++(rows.flatMap ZE++(kids.take 0).flatMap Yq)).map Zk by simp]
    refine lpG (Nat×Hp×Value×(List Value)) [2,3,45,46] (λ z=>[(47,.int .i64 z.1),(5,z.2.2.1)]) (λ z=>z.2.1) (λ z=>[Zq z.2.2.1 ((B0++(rows.flatMap ZE++(kids.take z.1).flatMap Yq)).map Zk) z.2.2.2 5]) (λ z=>z.1<=kn/\ρ1.le z.2.1/\OwnS z.2.2.1 (B0++(rows.flatMap ZE++(kids.take z.1).flatMap Yq)).length ((B0++(rows.flatMap ZE++(kids.take z.1).flatMap Yq)).map Zk) z.2.2.2 1) (λ z=>kn-z.1) (0,ρ1,v,sp) ⟨aZ _,Hp.le_refl _,by simpa using hown⟩ ?_
    rintro⟨j,ρ2,v,sp⟩ hI
    try simp only[kB] at hI ⊢
    try dsimp only at hI ⊢
    have hfl:=ZW ZE 20 rows (λ x hx=>rowB_le (hrow x hx))
    obtain⟨hj0,hle3,hown3⟩:=hI
    by_cases hlj:j<kn
    ·obtain⟨b,off,C,T,fr,rfl,hb,hfit,hc⟩:=(hk.mono (Hp.le_trans hle1 hle3)).get (show j<kids.length by omega)
     have hmem:kids[j]'(by omega)∈kids:=aM _
     have hko:=hkid _ hmem
     have hid:=hik _ hmem
     have hts:=YU Yq kids j (by omega)
     have hfk:=ZW Yq 4 (kids.take j) (λ x hx=>Nat.le_of_eq (Vr x))
     have htl:(kids.take j).length<=4:=by simp;omega
     have hXl:(B0++(rows.flatMap ZE++(kids.take j).flatMap Yq)).length<=200:=by simp only[aL];omega
     have hmm:B0++(rows.flatMap ZE++(kids.take j).flatMap Yq)++XQ (kids[j]'(by omega)).t (kids[j]'(by omega)).id++[tB (kids[j]'(by omega)).page]=B0++(rows.flatMap ZE++(kids.take (j+1)).flatMap Yq):=by rw[hts];simp[Yq]
     have hll:(B0++(rows.flatMap ZE++(kids.take j).flatMap Yq)).length+3+1=(B0++(rows.flatMap ZE++(kids.take (j+1)).flatMap Yq)).length:=by rw[hts];simp[Vr];omega
     have hpg:=tB_eq (t:=(kids[j]'(by omega)).page) (by omega) (by omega)
     generalize kids[j]'(by omega)=x at *
     generalize hX:B0++(rows.flatMap ZE++(kids.take j).flatMap Yq)=X at *
     repeat' (first|refine zW ?_|intro _)
     rename_i b9
     refine tpA [0,1,2,4,5,6] (.b 3 7 [] [] (.e 7 [] (.e 8 [] (.f [9] .o))) (.e 3 [] (.e 8 [] (.f [9] .o)))) ([[(b9,.cells ⟨Xj x⟩ 227 (0,0))]]) ?_
     repeat' (refine iT ?_;first|refine rA ?_|((first|(refine iE ?_;refine rE ?_)|(refine iB ?_;refine rB ?_ ?_))<;>((first|(refine Za (.func 281) ?_;refine qC rfl rfl (key_spec _ v _ X sp hown3 (by omega) x.t x.id hko.1.1 (by omega) hid) ?_;rintro v2 ρ4 L2 hle0 ⟨hle4,sp4,hown4,rfl⟩;simp only[kA])|(refine Zg rfl rfl rfl rfl (by simp) rfl rfl (λ _=>?_);simp only[hpg])|(refine ZH (ys:=[Zk (tB x.page)]) (m:=1) rfl rfl hown4 (hR:=by infer_instance) SrcV.lit rfl rfl (by decide) rfl (by omega) (by omega) rfl (λ v5 sp5 hown5=>?_);rw[show (X++XQ x.t x.id).map Zk++[Zk (tB x.page)]=(X++XQ x.t x.id++[tB x.page]).map Zk by simp,hmm] at hown5 ⊢;rw[hll] at hown5)|(refine qEf ?_;try intro _))<;>(try simp only[kA])<;>refine zN ?_)))
     all_goals (repeat' (first|refine zW ?_|intro _))
     all_goals refine rnG (j+1,_,v5,sp5) (⟨hlj,Hp.le_trans hle3 (by assumption),hown5⟩)
    ·have hj2:j=kn:=by omega
     subst hj2
     rw[aT (by omega)] at hown3 ⊢
     have hfin:B0++(rows.flatMap ZE++kids.flatMap Yq)=Ya ⟨kind,rows,kids⟩:=by rw[<-hB0];simp[Ya]
     rw[hfin] at hown3 ⊢
     repeat' (first|refine zW ?_|intro _)
     refine ZB _ (h:=Rem.here) (λ ρ6 hle6 hfz=>?_)
     obtain⟨a6,c6,rfl,hc6,hs6⟩:=hown3.sIn hfz
     exact qE ⟨Hp.le_trans hle1 (Hp.le_trans hle3 hle6),a6,_,c6,rfl,hc6,hs6,rfl⟩
  ·obtain⟨B0,hB0⟩:∃B0,tB kind::cntB ⟨kind,rows,kids⟩=B0:=⟨_,rfl⟩
   have hX:B0=[tB kind]++[UInt8.ofNat (rn+kn)]:=by rw[<-hB0];simp[cntB,hk0,hrn,hkn]
   have hBl:B0.length<=2:=by rw[hX];simp
   have hcnt':Value.int .u8 ((rn:Int)+(kn:Int))=Zk (UInt8.ofNat (rn+kn)):=by rw[<-hcnt];simp
   repeat' (first|(refine Za (.func 205) ?_;refine qC rfl rfl (hck _ ⟨hr,hk,hrb,hkb,hrc,hkc⟩) ?_;rintro v ρ' L' hle ⟨rfl,rfl,rfl⟩<;>(try simp only[kA]))|(refine Zg rfl rfl rfl rfl (by simp) rfl rfl (λ _=>?_);first|simp only[hkB]|simp only[hcnt'])|refine zW ?_|intro _)
   rename_i b1 b2 b3
   rw[show ([(b2,Obj.cells ⟨[Zk (tB kind)]⟩ 5 (0,0))]:List (Nat×Obj))=Zq (.slice (some ⟨b2,0,none⟩) 1 1) ([tB kind].map Zk) [] 5 from rfl]
   refine ZH (ys:=[Zk (UInt8.ofNat (rn+kn))]) (m:=1) (n:=1) (xs:=[tB kind].map Zk) (sp:=[]) rfl rfl ⟨.inr ⟨b2,1,rfl,rfl,rfl,aR _⟩⟩ (hR:=by infer_instance) SrcV.lit rfl rfl (by decide) rfl (by omega) (by omega) rfl (λ v0 sp0 hown0=>?_)
   rw[show [tB kind].map Zk++[Zk (UInt8.ofNat (rn+kn))]=B0.map Zk by rw[hX];rfl] at hown0 ⊢
   replace hown0:OwnS v0 B0.length (B0.map Zk) sp0 1:=by
    have e:B0.length=1+1:=by rw[hX];rfl
    rw[e];exact hown0
   repeat' (first|refine zW ?_|intro _)
   rw[show B0.map Zk=(B0++(rows.take 0).flatMap ZE).map Zk by simp]
   refine lpG (Nat×Hp×Value×(List Value)) [1,2,3,34,35] (λ z=>[(36,.int .i64 z.1),(5,z.2.2.1)]) (λ z=>z.2.1) (λ z=>[Zq z.2.2.1 ((B0++(rows.take z.1).flatMap ZE).map Zk) z.2.2.2 5,[(b1,.cells ⟨[.int .i64 kind,.slice ra rn rc,.slice ka kn kc]⟩ 88 (0,0))]]) (λ z=>z.1<=rn/\ρ'.le z.2.1/\OwnS z.2.2.1 (B0++(rows.take z.1).flatMap ZE).length ((B0++(rows.take z.1).flatMap ZE).map Zk) z.2.2.2 1) (λ z=>rn-z.1) (0,ρ',v0,sp0) ⟨aZ _,Hp.le_refl _,by simpa using hown0⟩ ?_
   rintro⟨k,ρ1,v,sp⟩ hI
   try simp only[kB] at hI ⊢
   try dsimp only at hI ⊢
   obtain⟨hkn0,hle1,hown⟩:=hI
   by_cases hlt:k<rn
   ·obtain⟨b,off,C,T,fr,rfl,hb,hfit,hc⟩:=(hr.mono hle1).get (show k<rows.length by omega)
    have hmem:rows[k]'(by omega)∈rows:=aM _
    have hro:=hrow _ hmem
    have hid:=hir _ hmem
    have hts:=YU ZE rows k (by omega)
    have hfl:=ZW ZE 20 (rows.take k) (λ x hx=>rowB_le (hrow x (List.mem_of_mem_take hx)))
    have htl:(rows.take k).length<=4:=by simp;omega
    have hXl:(B0++(rows.take k).flatMap ZE).length<=100:=by simp only[aL];omega
    have hll:(B0++(rows.take k).flatMap ZE).length+(ZE (rows[k]'(by omega))).length=(B0++(rows.take (k+1)).flatMap ZE).length:=by rw[hts];simp;omega
    have hmm:B0++(rows.take k).flatMap ZE++ZE (rows[k]'(by omega))=B0++(rows.take (k+1)).flatMap ZE:=by rw[hts];simp
    generalize rows[k]'(by omega)=x at *
    repeat' (first|(refine Za (.func 266) ?_;refine qC rfl rfl (claid_spec _ v _ _ sp hown (by omega) x hro hid) ?_;rintro v2 ρ2 L2 hle0 ⟨hle2,sp2,hown2,rfl⟩;simp only[kA,hmm];rw[hmm,hll] at hown2)|refine zW ?_|intro _)
    refine rnG (k+1,_,v2,sp2) (⟨hlt,Hp.le_trans hle1 hle2,hown2⟩)
   ·have hk2:k=rn:=by omega
    subst hk2
    rw[aT (by omega)] at hown ⊢
    repeat' (first|refine zW ?_|intro _)
    rw[show (B0++rows.flatMap ZE).map Zk=(B0++(rows.flatMap ZE++(kids.take 0).flatMap Yq)).map Zk by simp]
    refine lpG (Nat×Hp×Value×(List Value)) [2,3,45,46] (λ z=>[(47,.int .i64 z.1),(5,z.2.2.1)]) (λ z=>z.2.1) (λ z=>[Zq z.2.2.1 ((B0++(rows.flatMap ZE++(kids.take z.1).flatMap Yq)).map Zk) z.2.2.2 5]) (λ z=>z.1<=kn/\ρ1.le z.2.1/\OwnS z.2.2.1 (B0++(rows.flatMap ZE++(kids.take z.1).flatMap Yq)).length ((B0++(rows.flatMap ZE++(kids.take z.1).flatMap Yq)).map Zk) z.2.2.2 1) (λ z=>kn-z.1) (0,ρ1,v,sp) ⟨aZ _,Hp.le_refl _,by simpa using hown⟩ ?_
    rintro⟨j,ρ2,v,sp⟩ hI
    try simp only[kB] at hI ⊢
    try dsimp only at hI ⊢
    have hfl:=ZW ZE 20 rows (λ x hx=>rowB_le (hrow x hx))
    obtain⟨hj0,hle3,hown3⟩:=hI
    by_cases hlj:j<kn
    ·obtain⟨b,off,C,T,fr,rfl,hb,hfit,hc⟩:=(hk.mono (Hp.le_trans hle1 hle3)).get (show j<kids.length by omega)
     have hmem:kids[j]'(by omega)∈kids:=aM _
     have hko:=hkid _ hmem
     have hid:=hik _ hmem
     have hts:=YU Yq kids j (by omega)
     have hfk:=ZW Yq 4 (kids.take j) (λ x hx=>Nat.le_of_eq (Vr x))
     have htl:(kids.take j).length<=4:=by simp;omega
     have hXl:(B0++(rows.flatMap ZE++(kids.take j).flatMap Yq)).length<=200:=by simp only[aL];omega
     have hmm:B0++(rows.flatMap ZE++(kids.take j).flatMap Yq)++XQ (kids[j]'(by omega)).t (kids[j]'(by omega)).id++[tB (kids[j]'(by omega)).page]=B0++(rows.flatMap ZE++(kids.take (j+1)).flatMap Yq):=by rw[hts];simp[Yq]
     have hll:(B0++(rows.flatMap ZE++(kids.take j).flatMap Yq)).length+3+1=(B0++(rows.flatMap ZE++(kids.take (j+1)).flatMap Yq)).length:=by rw[hts];simp[Vr];omega
     have hpg:=tB_eq (t:=(kids[j]'(by omega)).page) (by omega) (by omega)
     generalize kids[j]'(by omega)=x at *
     generalize hX:B0++(rows.flatMap ZE++(kids.take j).flatMap Yq)=X at *
     repeat' (first|refine zW ?_|intro _)
     rename_i b9
     refine tpA [0,1,2,4,5,6] (.b 3 7 [] [] (.e 7 [] (.e 8 [] (.f [9] .o))) (.e 3 [] (.e 8 [] (.f [9] .o)))) ([[(b9,.cells ⟨Xj x⟩ 227 (0,0))]]) ?_
     repeat' (refine iT ?_;first|refine rA ?_|((first|(refine iE ?_;refine rE ?_)|(refine iB ?_;refine rB ?_ ?_))<;>((first|(refine Za (.func 281) ?_;refine qC rfl rfl (key_spec _ v _ X sp hown3 (by omega) x.t x.id hko.1.1 (by omega) hid) ?_;rintro v2 ρ4 L2 hle0 ⟨hle4,sp4,hown4,rfl⟩;simp only[kA])|(refine Zg rfl rfl rfl rfl (by simp) rfl rfl (λ _=>?_);simp only[hpg])|(refine ZH (ys:=[Zk (tB x.page)]) (m:=1) rfl rfl hown4 (hR:=by infer_instance) SrcV.lit rfl rfl (by decide) rfl (by omega) (by omega) rfl (λ v5 sp5 hown5=>?_);rw[show (X++XQ x.t x.id).map Zk++[Zk (tB x.page)]=(X++XQ x.t x.id++[tB x.page]).map Zk by simp,hmm] at hown5 ⊢;rw[hll] at hown5)|(refine qEf ?_;try intro _))<;>(try simp only[kA])<;>refine zN ?_)))
     all_goals (repeat' (first|refine zW ?_|intro _))
     all_goals refine rnG (j+1,_,v5,sp5) (⟨hlj,Hp.le_trans hle3 (by assumption),hown5⟩)
    ·have hj2:j=kn:=by omega
     subst hj2
     rw[aT (by omega)] at hown3 ⊢
     have hfin:B0++(rows.flatMap ZE++kids.flatMap Yq)=Ya ⟨kind,rows,kids⟩:=by rw[<-hB0];simp[Ya]
     rw[hfin] at hown3 ⊢
     repeat' (first|refine zW ?_|intro _)
     refine ZB _ (h:=Rem.here) (λ ρ6 hle6 hfz=>?_)
     obtain⟨a6,c6,rfl,hc6,hs6⟩:=hown3.sIn hfz
     exact qE ⟨Hp.le_trans hle1 (Hp.le_trans hle3 hle6),a6,_,c6,rfl,hc6,hs6,rfl⟩
instance:ZJ prog 113:=mkFun (by kernel_rfl)
instance (priority:=1200) eqRow {x y:Row}:EqC prog 8 171 (.agg ⟨Ym x⟩) (.agg ⟨Ym y⟩) (decide (x=y)):=by
 have h:EqC prog 8 171 (.agg ⟨[.int .i64 x.t,.int .u16 x.id,.int .i64 x.val,strV x.note]⟩) (.agg ⟨[.int .i64 y.t,.int .u16 y.id,.int .i64 y.val,strV y.note]⟩) _:=inferInstance
 refine⟨λ d w hd=>?_⟩
 rw[h.out d w hd]
 congr 1
 obtain⟨t,i,v,n⟩:=x
 obtain⟨t',i',v',n'⟩:=y
 simp only[Row.mk.injEq,Bool.and_true,Bool.decide_and]
 have e:((i:Int) == (i':Int))=decide (i=i'):=by
  by_cases h:i=i'
  ·subst h;simp
  ·rw[decide_eq_false h];simp only[beq_eq_false_iff_ne,ne_eq];omega
 rw[e]
 by_cases h1:t=t'<;>by_cases h2:i=i'<;>by_cases h3:v=v'<;>simp[h1,h2,h3]
instance (priority:=1200) eqKid {x y:Kid}:EqC prog 8 227 (.agg ⟨Xj x⟩) (.agg ⟨Xj y⟩) (decide (x=y)):=by
 have h:EqC prog 8 227 (.agg ⟨[.int .i64 x.t,.int .u16 x.id,.int .i64 x.page]⟩) (.agg ⟨[.int .i64 y.t,.int .u16 y.id,.int .i64 y.page]⟩) _:=inferInstance
 refine⟨λ d w hd=>?_⟩
 rw[h.out d w hd]
 congr 1
 obtain⟨t,i,v⟩:=x
 obtain⟨t',i',v'⟩:=y
 simp only[Kid.mk.injEq,Bool.and_true,Bool.decide_and]
 have e:((i:Int) == (i':Int))=decide (i=i'):=by
  by_cases h:i=i'
  ·subst h;simp
  ·rw[decide_eq_false h];simp only[beq_eq_false_iff_ne,ne_eq];omega
 rw[e]
 by_cases h1:t=t'<;>by_cases h2:i=i'<;>by_cases h3:v=v'<;>simp[h1,h2,h3]
theorem Ws {k:Nat}{l:List UInt8}{st:Int}(h:(Yd k l st).2.2=0):st=0/\k<=l.length/\Yd k l st=(ZV (l.take k),l.drop k,0):=by
 unfold Yd at h ⊢
 by_cases hs:st≠0
 ·rw[if_pos hs] at h;exact absurd h hs
 ·have h0:st=0:=by simpa using hs
  rw[if_neg hs] at h ⊢
  by_cases hl:l.length<k
  ·rw[if_pos hl] at h;simp at h
  ·rw[if_neg hl];exact⟨h0,by omega,rfl⟩
theorem rawR_zero {k:Nat}{l:List UInt8}{st:Int}(h:(Va k l st).2.2=0):st=0/\k<=l.length/\Va k l st=(l.take k,l.drop k,0):=by
 unfold Va at h ⊢
 by_cases hs:st≠0
 ·rw[if_pos hs] at h;exact absurd h hs
 ·have h0:st=0:=by simpa using hs
  rw[if_neg hs] at h ⊢
  by_cases hl:l.length<k
  ·rw[if_pos hl] at h;simp at h
  ·rw[if_neg hl];exact⟨h0,by omega,rfl⟩
theorem Vm {k:Nat}{l:List UInt8}(h:k<=l.length):be k (ZV (l.take k))=l.take k:=by
 have:=be_unbe (l.take k)
 rwa [List.length_take,Nat.min_eq_left h] at this
theorem be_one (x:Nat):be 1 x=[UInt8.ofNat x]:=by simp[be]
theorem tB_nat (x:Nat):tB (x:Int)=UInt8.ofNat x:=rfl
theorem vN_i64N {x:Nat}(h:x<18446744073709551616):vN (i64N x)=x:=by
 have h1:IntKind.u64.wrap (i64N x)=x:=by
  unfold i64N
  simp only[IntKind.wrap,IntKind.bits,IntKind.signed,Bool.true_and,Bool.false_and,aB,if_false]
  split<;>simp_all<;>omega
 simp[vN,h1]
theorem i64N_vN {v:Int}(h:-9223372036854775808<=v/\v<=9223372036854775807):i64N (vN v)=v:=by
 unfold i64N
 rw[<-vN_eq]
 simp only[IntKind.wrap,IntKind.bits,IntKind.signed,Bool.true_and,Bool.false_and,aB,if_false]
 split<;>simp_all<;>omega
theorem needB_false {bad:Bool}{st:Int}{is:Bool}(h:Xu bad st is=false)(hs:st=0):bad=false/\is=true:=by
 subst hs
 cases bad<;>cases is<;>simp_all[Xu]
structure Ys (r:Row):Prop where
 id:r.id<65536
 val:-9223372036854775808<=r.val/\r.val<=9223372036854775807
theorem i64N_fit (x:Nat):-9223372036854775808<=i64N x/\i64N x<=9223372036854775807:=by
 unfold i64N
 simp only[IntKind.wrap,IntKind.bits,IntKind.signed,Bool.true_and]
 split<;>simp_all<;>omega
theorem rowR_ok {l l':List UInt8}{st:Int}{bad:Bool}{r:Row}(h:Wt l st bad=(r,l',0,false)):st=0/\bad=false/\Yx r=true/\l=ZE r++l'/\Ys r:=by
 unfold Wt at h
 dsimp only at h
 split at h
 ·rename_i hok
  rw[aE,Bool.not_eq_true'] at hok
  obtain⟨hb1,hs1⟩:=hok
  have hs1:=of_decide_eq_true hs1
  obtain⟨rfl,hl1,e1⟩:=Ws hs1
  obtain⟨rfl,ht⟩:=needB_false hb1 hs1
  split at h
  ·rename_i hok2
   rw[aE,Bool.not_eq_true'] at hok2
   obtain⟨hb2,hs4⟩:=hok2
   have hs4:=of_decide_eq_true hs4
   obtain⟨hs3,hl4,e4⟩:=Ws hs4
   obtain⟨hs2,hl3,e3⟩:=Ws hs3
   obtain⟨hs1',hl2,e2⟩:=Ws hs2
   obtain⟨_,hn⟩:=needB_false hb2 hs4
   have ht:=of_decide_eq_true ht
   have hn:=of_decide_eq_true hn
   simp only[Prod.mk.injEq] at h
   obtain⟨h1,h2,h3,h4⟩:=h
   obtain⟨_,hl5,e5⟩:=rawR_zero h3
   subst h1;subst h2
   rw[e5]
   simp only[e4] at hl5 hn e5 ⊢
   simp only[e3] at hl4 hl5 hn e5 ⊢
   simp only[e2] at hl3 hl4 hl5 hn e5 ⊢
   simp only[e1] at hl2 hl3 hl4 hl5 hn ht e5 ⊢
   have b1:=Vm hl1
   have b2:=Vm hl2
   have b3:=Vm hl3
   have b4:=Vm hl4
   rw[be_one] at b1 b4
   have u2:=Xy ((l.drop 1).take 2)
   have u3:=Xy (((l.drop 1).drop 2).take 8)
   rw[List.length_take,Nat.min_eq_left hl2] at u2
   rw[List.length_take,Nat.min_eq_left hl3] at u3
   have hlen:(List.take (ZV (List.take 1 (List.drop 8 (List.drop 2 (List.drop 1 l))))) (List.drop 1 (List.drop 8 (List.drop 2 (List.drop 1 l))))).length=ZV (List.take 1 (List.drop 8 (List.drop 2 (List.drop 1 l)))):=by rw[List.length_take,Nat.min_eq_left hl5]
   refine⟨by trivial,by trivial, ?_, ?_,⟨by dsimp only;omega,i64N_fit _⟩⟩
   ·unfold Yx
    dsimp only
    rw[hlen]
    exact decide_eq_true ⟨⟨by omega,by omega⟩,by omega⟩
   ·unfold ZE XQ
    dsimp only
    rw[hlen,vN_i64N (by omega),b3,b2,tB_nat]
    have c1:UInt8.ofNat (ZV (List.take 1 l))::(List.take 2 (List.drop 1 l))=List.take 1 l++List.take 2 (List.drop 1 l):=by
     show [UInt8.ofNat (ZV (List.take 1 l))]++_=_
     rw[b1]
    rw[c1]
    have c4:∀X:List UInt8,UInt8.ofNat (ZV (List.take 1 (List.drop 8 (List.drop 2 (List.drop 1 l)))))::X=List.take 1 (List.drop 8 (List.drop 2 (List.drop 1 l)))++X:=λ X=>by
     show [UInt8.ofNat (ZV (List.take 1 (List.drop 8 (List.drop 2 (List.drop 1 l)))))]++X=_
     rw[b4]
    rw[c4]
    simp only[aA,List.take_append_drop]
  ·rename_i hok2
   simp only[Prod.mk.injEq] at h
   obtain⟨_,_,h3,h4⟩:=h
   exact absurd (by rw[h4,h3];rfl) hok2
 ·rename_i hok
  simp only[Prod.mk.injEq] at h
  obtain⟨_,_,h3,h4⟩:=h
  exact absurd (by rw[h4,h3];rfl) hok
structure KidFit (k:Kid):Prop where
 id:k.id<65536
 t:0<=k.t/\k.t<256
 page:0<=k.page/\k.page<256
theorem kidRB_ok {l l':List UInt8}{st:Int}{bad:Bool}{r:Kid}(h:XS l st bad=(r,l',0,false)):st=0/\bad=false/\l=Yq r++l'/\KidFit r:=by
 unfold XS kidR at h
 dsimp only at h
 simp only[Prod.mk.injEq] at h
 obtain⟨h1,h2,h3,h4⟩:=h
 obtain⟨hs2,hl3,e3⟩:=Ws h3
 obtain⟨hs1,hl2,e2⟩:=Ws hs2
 obtain⟨rfl,hl1,e1⟩:=Ws hs1
 subst h1;subst h2
 simp only[e3]
 simp only[e2] at hl3 ⊢
 simp only[e1] at hl2 hl3 ⊢
 have b1:=Vm hl1
 have b2:=Vm hl2
 have b3:=Vm hl3
 rw[be_one] at b1 b3
 have u1:=Xy (l.take 1)
 have u2:=Xy ((l.drop 1).take 2)
 have u3:=Xy (((l.drop 1).drop 2).take 1)
 rw[List.length_take,Nat.min_eq_left hl1] at u1
 rw[List.length_take,Nat.min_eq_left hl2] at u2
 rw[List.length_take,Nat.min_eq_left hl3] at u3
 refine⟨by trivial,h4, ?_,⟨by dsimp only;omega,by dsimp only;omega,by dsimp only;omega⟩⟩
 unfold Yq XQ
 dsimp only
 rw[b2,tB_nat,tB_nat]
 have c1:∀X:List UInt8,UInt8.ofNat (ZV (List.take 1 l))::X=List.take 1 l++X:=λ X=>by
  show [UInt8.ofNat (ZV (List.take 1 l))]++X=_
  rw[b1]
 rw[c1,b3]
 simp only[aA,List.take_append_drop]
theorem manyTo_ok {α:Type}{f:List UInt8->Int->Bool->α×Yg}{enc:α->List UInt8}{fit:α->Prop}(hf:∀{l l':List UInt8} {st:Int} {bad:Bool} {x:α},f l st bad=(x,l',0,false)->st=0/\bad=false/\l=enc x++l'/\fit x) :
  ∀{n:Nat} {l l':List UInt8} {st:Int} {bad:Bool} {xs:List α},XK f n l st bad=(xs,l',0,false)->st=0/\bad=false/\xs.length=n/\l=xs.flatMap enc++l'/\∀x∈xs,fit x
 | 0,l,l',st,bad,xs,h=>by
  rw[XK] at h
  simp only[Prod.mk.injEq] at h
  obtain⟨rfl,rfl,rfl,rfl⟩:=h
  exact⟨rfl,rfl,rfl,by simp,by simp⟩
 | n+1,l,l',st,bad,xs,h=>by
  rw[XK] at h
  split at h
  ·simp only[Prod.mk.injEq] at h
   obtain⟨h1,h2⟩:=h
   have key:XK f n (f l st bad).2.1 (f l st bad).2.2.1 (f l st bad).2.2.2=((XK f n (f l st bad).2.1 (f l st bad).2.2.1 (f l st bad).2.2.2).1,l',0,false):=by rw[<-h2]
   obtain⟨g1,g2,g3,g4,g5⟩:=manyTo_ok hf key
   obtain⟨k1,k2,k3,k4⟩:=hf (show f l st bad=((f l st bad).1,(f l st bad).2.1,0,false) by rw[<-g1,<-g2])
   subst h1
   refine⟨k1,k2,by simp[g3], ?_, ?_⟩
   ·rw[List.flatMap_cons,aA,<-g4];exact k3
   ·intro x hx
    rcases List.mem_cons.1 hx with rfl|hx
    ·exact k4
    ·exact g5 x hx
  ·rename_i hok
   simp only[Prod.mk.injEq] at h
   obtain⟨_,_,h3,h4⟩:=h
   exact absurd (by rw[h4,h3];rfl) hok
theorem manyR_ok {α:Type}{f:List UInt8->Int->Bool->α×Yg}{enc:α->List UInt8}{fit:α->Prop}(hf:∀{l l':List UInt8} {st:Int} {bad:Bool} {x:α},f l st bad=(x,l',0,false)->st=0/\bad=false/\l=enc x++l'/\fit x)
  {l l':List UInt8} {st:Int} {bad:Bool} {xs:List α} (h:Xd f l st bad=(xs,l',0,false)):st=0/\bad=false/\l=UInt8.ofNat xs.length::xs.flatMap enc++l'/\∀x∈xs,fit x:=by
 unfold Xd at h
 obtain⟨g1,g2,g3,g4,g5⟩:=manyTo_ok hf h
 obtain⟨rfl,hl,e⟩:=Ws g1
 obtain⟨k1,_⟩:=needB_false g2 g1
 rw[e] at g3 g4
 dsimp only at g3 g4
 refine⟨rfl,k1, ?_,g5⟩
 have b1:=Vm hl
 rw[be_one,<-g3] at b1
 rw[show UInt8.ofNat xs.length::xs.flatMap enc++l'=[UInt8.ofNat xs.length]++(xs.flatMap enc++l') from rfl,b1,<-g4,List.take_append_drop]
structure ContFit (c:Wm):Prop where
 row:∀r∈c.rows,Ys r
 kid:∀k∈c.kids,KidFit k
theorem contentR_ok {l l':List UInt8}{c:Wm}(h:YH l=(c,l',0,false)):ZG c=true/\l=Ya c++l'/\ContFit c:=by
 unfold YH contE at h
 simp only[Prod.mk.injEq] at h
 obtain⟨h1,h2,h3,h4⟩:=h
 generalize hm:Vp (Yd 1 l 0).1 (Yd 1 l 0).2.1 (Yd 1 l 0).2.2 (Xu false (Yd 1 l 0).2.2 (decide (((Yd 1 l 0).1:Int)<=2)))=m at *
 obtain⟨⟨rows,kids⟩,l2,st2,b2⟩:=m
 dsimp only at h1 h2 h3 h4
 subst h2;subst h3;subst h1
 obtain⟨rfl,hok⟩:=needB_false h4 rfl
 refine⟨hok, ?_⟩
 unfold Vp at hm
 have hF:=Wg hok
 have hkind:=hF.kind
 dsimp only at hkind
 split at hm
 ·rename_i hokk
  rw[aE,Bool.not_eq_true'] at hokk
  obtain⟨_,hs1⟩:=hokk
  have hs1:=of_decide_eq_true hs1
  obtain⟨_,hl1,e1⟩:=Ws hs1
  have b1:=Vm hl1
  rw[be_one] at b1
  rw[e1] at hm hkind hok ⊢
  dsimp only at hm hkind hok ⊢
  generalize hx:ZV (List.take 1 l)=x at *
  have hl:l=UInt8.ofNat x::l.drop 1:=by
   have:l=l.take 1++l.drop 1:=(List.take_append_drop 1 l).symm
   rw[<-b1] at this
   exact this
  split at hm
  ·rename_i hx1
   simp only[Prod.mk.injEq] at hm
   obtain⟨⟨h1,h2⟩,h3⟩:=hm
   subst h2
   have key:Xd Wt (l.drop 1) 0 (Xu false 0 (decide ((x:Int)<=2)))=(rows,l2,0,false):=by rw[<-h1,<-h3]
   obtain⟨_,_,g3,g4⟩:=manyR_ok (enc:=ZE) (fit:=Ys) (λ h=>⟨(rowR_ok h).1,(rowR_ok h).2.1,(rowR_ok h).2.2.2.1,(rowR_ok h).2.2.2.2⟩) key
   refine⟨?_,⟨g4,by simp⟩⟩
   have hc:Ya ⟨x,rows,[]⟩=UInt8.ofNat x::(UInt8.ofNat rows.length::rows.flatMap ZE):=by
    unfold Ya cntB
    rw[if_neg (by dsimp only;omega),tB_nat];simp
   rw[hc,hl,g3];rfl
  ·split at hm
   ·rename_i hx1 hx2
    simp only[Prod.mk.injEq] at hm
    obtain⟨⟨h1,h2⟩,h3⟩:=hm
    subst h1
    have key:Xd XS (l.drop 1) 0 (Xu false 0 (decide ((x:Int)<=2)))=(kids,l2,0,false):=by rw[<-h2,<-h3]
    obtain⟨_,_,g3,g4⟩:=manyR_ok (enc:=Yq) (fit:=KidFit) (λ h=>kidRB_ok h) key
    refine⟨?_,⟨by simp,g4⟩⟩
    have hc:Ya ⟨x,[],kids⟩=UInt8.ofNat x::(UInt8.ofNat kids.length::kids.flatMap Yq):=by
     unfold Ya cntB
     rw[if_neg (by dsimp only;omega),tB_nat];simp
    rw[hc,hl,g3];rfl
   ·rename_i hx1 hx2
    simp only[Prod.mk.injEq] at hm
    obtain⟨⟨h1,h2⟩,h3,_⟩:=hm
    subst h1;subst h2;subst h3
    have hx0:(x:Int)=0:=by
     rcases hkind with h|h|h
     ·exact h.1
     ·exact absurd (by omega) hx1
     ·exact absurd (by omega) hx2
    refine⟨?_,⟨by simp,by simp⟩⟩
    have hc:Ya ⟨x,[],[]⟩=[UInt8.ofNat x]:=by
     unfold Ya cntB
     rw[if_pos hx0,tB_nat];simp
    rw[hc];exact hl
 ·rename_i hokk
  simp only[Prod.mk.injEq] at hm
  obtain⟨⟨h1,h2⟩,h3,h4,h5⟩:=hm
  exact absurd (by rw[h5,h4];rfl) hokk
theorem takenE_zero {bad:Bool}{st:Int}(h:Wl bad st=0):bad=false/\st=0:=by
 cases bad
 ·exact⟨rfl,h⟩
 ·simp[Wl] at h
theorem takeRow_ok {l:List UInt8}(h:(ZY l).2.2=0):∃n:Nat,(ZY l).2.1=n/\n<=l.length/\Yx (ZY l).1=true/\ZE (ZY l).1=l.take n/\Ys (ZY l).1:=by
 unfold ZY at h ⊢
 dsimp only at h ⊢
 obtain⟨hb,hs⟩:=takenE_zero h
 generalize hr:Wt l 0 false=r at *
 obtain⟨x,l',st,bad⟩:=r
 dsimp only at hb hs
 subst hb;subst hs
 obtain⟨_,_,g1,g2,g3⟩:=rowR_ok hr
 have hl:=congrArg List.length g2
 simp only[aL] at hl
 refine⟨(ZE x).length, ?_,by omega, ?_⟩
 ·simp[Vy];omega
 ·simp only[Bool.false_or,ne_eq,not_true_eq_false,decide_false,aB,if_false]
  exact⟨g1,by rw[g2];simp,g3⟩
theorem Vk {l:List UInt8}(h:(Zm l).2.2=0):∃n:Nat,(Zm l).2.1=n/\n<=l.length/\ZG (Zm l).1=true/\Ya (Zm l).1=l.take n/\ContFit (Zm l).1:=by
 unfold Zm at h ⊢
 dsimp only at h ⊢
 obtain⟨hb,hs⟩:=takenE_zero h
 generalize hr:YH l=r at *
 obtain⟨x,l',st,bad⟩:=r
 dsimp only at hb hs
 subst hb;subst hs
 obtain⟨g1,g2,g3⟩:=contentR_ok hr
 have hl:=congrArg List.length g2
 simp only[aL] at hl
 refine⟨(Ya x).length, ?_,by omega, ?_⟩
 ·simp[Vy];omega
 ·simp only[Bool.false_or,ne_eq,not_true_eq_false,decide_false,aB,if_false]
  exact⟨g1,by rw[g2];simp,g3⟩
theorem takeCont_bad {l:List UInt8}(h:(Zm l).2.2≠0):(Zm l).1=⟨0,[],[]⟩/\(Zm l).2.1=0:=by
 unfold Zm at h ⊢
 dsimp only at h ⊢
 generalize YH l=r at *
 obtain⟨x,l',st,bad⟩:=r
 dsimp only at h ⊢
 cases bad
 ·have hs:st≠0:=h
  simp[Vy,hs]
 ·simp[Vy]
theorem WH {c:Wm}(h:ZG c=true):(Ya c).length<=82:=by
 have hF:=Wg h
 have h1:=ZW ZE 20 c.rows (λ x hx=>rowB_le (hF.row x hx))
 have h2:=ZW Yq 4 c.kids (λ x hx=>Nat.le_of_eq (Vr x))
 have h3:(cntB c).length<=1:=by unfold cntB;split<;>simp
 have hk:=hF.kind
 have hrl:=hF.rl
 have hkl:=hF.kl
 simp only[Ya,aC,aL]
 have er:c.rows=[]->(c.rows.flatMap ZE).length=0:=λ e=>by rw[e];rfl
 have ek:c.kids=[]->(c.kids.flatMap Yq).length=0:=λ e=>by rw[e];rfl
 rcases hk with⟨_,hr,hk⟩|⟨_,hk⟩|⟨_,hr,_⟩
 ·have:=er hr;have:=ek hk;omega
 ·have:=ek hk;omega
 ·have:=er hr;omega
structure CI (ρ:Hp)(v:CV)(c:Wm):Prop where
 cin:CIn ρ v c.rows c.kids
 row:∀r∈c.rows,Ys r
 kid:∀k∈c.kids,k.id<65536
theorem CI.mono {ρ ρ' v c}(h:CI ρ v c)(hle:ρ.le ρ'):CI ρ' v c:=⟨h.cin.mono hle,h.row,h.kid⟩
theorem CI.nil {ρ:Hp}:CI ρ ⟨none,0,0,none,0,0⟩ ⟨0,[],[]⟩:=⟨CIn.nil,by simp,by simp⟩
structure Im where
 page:Int
 bv:CV
 b:Wm
 av:CV
 a:Wm
abbrev imV (x:Im):List Value:=[.int .i64 x.page,.int .i64 x.b.kind,.slice x.bv.ra x.bv.rn x.bv.rc,.slice x.bv.ka x.bv.kn x.bv.kc,.int .i64 x.a.kind,.slice x.av.ra x.av.rn x.av.rc,.slice x.av.ka x.av.kn x.av.kc]
structure Im.In (ρ:Hp)(x:Im):Prop where
 b:CI ρ x.bv x.b
 a:CI ρ x.av x.a
theorem Im.In.mono {ρ ρ' x}(h:Im.In ρ x)(hle:ρ.le ρ'):Im.In ρ' x:=⟨h.b.mono hle,h.a.mono hle⟩
abbrev Im.says (x:Im):Int×Wm×Wm:=(x.page,x.b,x.a)
structure Stp where
 kind:Int
 row:Row
 by':Int
deriving DecidableEq
abbrev YJ (s:Stp):List Value:=[.int .i64 s.kind,.int .i64 s.row.t,.int .u16 s.row.id,.int .i64 s.row.val,strV s.row.note,.int .i64 s.by']
structure CkT where
 txn:Int
 first:Nat
 last:Nat
 undo:Nat
 state:Int
deriving DecidableEq
abbrev Yh (t:CkT):List Value:=[.int .i64 t.txn,.int .u64 t.first,.int .u64 t.last,.int .u64 t.undo,.int .i64 t.state]
structure CkP where
 page:Int
 since:Nat
deriving DecidableEq
abbrev YB (p:CkP):List Value:=[.int .i64 p.page,.int .u64 p.since]
structure Rc where
 kind:Int
 lsn:Nat
 txn:Int
 prev:Nat
 next:Nat
 ims:List Im
 steps:List Stp
 nextTxn:Int
 txns:List CkT
 dirty:List CkP
structure SV where
 a:Option Addr
 n:Nat
 c:Nat
abbrev SV.v (s:SV):Value:=.slice s.a s.n s.c
structure RV where
 i:SV
 s:SV
 t:SV
 d:SV
abbrev Yu (v:RV)(r:Rc):List Value:=[.int .i64 r.kind,.int .u64 r.lsn,.int .i64 r.txn,.int .u64 r.prev,.int .u64 r.next,.slice v.i.a v.i.n v.i.c,.slice v.s.a v.s.n v.s.c,.int .i64 r.nextTxn,.slice v.t.a v.t.n v.t.c,.slice v.d.a v.d.n v.d.c]
theorem imV_len (x:Im):(imV x).length=7:=rfl
theorem stpV_len (x:Stp):(YJ x).length=6:=rfl
theorem stpV_one (x:Stp):(YJ x).all (·.oneCell')=true:=rfl
theorem ckTV_len (x:CkT):(Yh x).length=5:=rfl
theorem ckTV_one (x:CkT):(Yh x).all (·.oneCell')=true:=rfl
theorem ckPV_len (x:CkP):(YB x).length=2:=rfl
theorem ckPV_one (x:CkP):(YB x).all (·.oneCell')=true:=rfl
abbrev i64in (x:Int):Prop:=-9223372036854775808<=x/\x<=9223372036854775807
structure AS (ρ:Hp)(sz:Nat){α:Type}(g:α->List Value)(s:SV)(l:List α):Prop where
 at':AIn ρ sz g s.a s.n l
 big:s.n<=1000000
 cap:s.n<=s.c
theorem AS.mono {ρ ρ':Hp}{sz:Nat}{α:Type}{g:α->List Value}{s:SV}{l:List α}(h:AS ρ sz g s l)(hle:ρ.le ρ'):AS ρ' sz g s l:=⟨h.at'.mono hle,h.big,h.cap⟩
theorem AS.nil {ρ:Hp}{sz:Nat}{α:Type}{g:α->List Value}:AS ρ sz g ⟨none,0,0⟩ []:=⟨AIn.nil,aZ _,aR _⟩
structure RcIn (ρ:Hp)(v:RV)(r:Rc):Prop where
 i:AS ρ 7 imV v.i r.ims
 im:∀x∈r.ims,Im.In ρ x
 s:AS ρ 6 YJ v.s r.steps
 t:AS ρ 5 Yh v.t r.txns
 d:AS ρ 2 YB v.d r.dirty
 sf:∀s∈r.steps,Ys s.row
theorem RcIn.mono {ρ ρ' v r}(h:RcIn ρ v r)(hle:ρ.le ρ'):RcIn ρ' v r:=⟨h.i.mono hle,λ x hx=>(h.im x hx).mono hle,h.s.mono hle,h.t.mono hle,h.d.mono hle,h.sf⟩
def upB {α:Type}(right:α->Bool)(by':α->Int)(l:List α)(k:Nat):Bool:=Zu l.length (λ _ x=>right x) (λ y x=>decide (by' y<by' x)) l k
def pageOk (n:Int):Bool:=decide (0<=n/\n<64)
def imOk (before:Bool)(x:Im):Bool:=pageOk x.page && (ZG x.a && (ZG x.b && (before || decide (x.b.kind=0))))
def imsOk (before:Bool)(l:List Im):Bool:=decide (l.length<=16) && upB (imOk before) Im.page l l.length
def onlyOk (s:Stp):Bool:=decide (s.row.val=0/\s.row.note=[]) && decide (0<=s.row.t/\s.row.t<3)
def YR (s:Stp):Bool:=
 if s.kind=1 then onlyOk s
 else if s.kind=4 then onlyOk s && decide (s.by'=0)
 else if s.kind=2\/s.kind=3 then decide (s.by'=0) && Yx s.row
 else false
def ckTOk (lsn:Nat)(next:Int)(t:CkT):Bool:=decide (1<=t.txn/\t.txn<next/\1<=t.first/\t.first<=t.last/\t.last<lsn/\t.undo<=t.last/\1<=t.state/\t.state<=3)
def Vo (lsn:Nat)(p:CkP):Bool:=pageOk p.page && decide (1<=p.since/\p.since<lsn)
def headOk (r:Rc):Bool:=decide (1<=r.lsn/\r.lsn<=1099511627776/\r.prev<r.lsn/\0<=r.txn/\r.txn<=1073741824/\(r.kind=9↔r.txn=0)/\((r.kind=9\/r.kind=1)↔r.prev=0))
def askOk (r:Rc):Bool:=
 if r.kind=2 then decide (0<r.ims.length) && imsOk true r.ims
 else if r.kind=3 then decide (r.next<r.prev)
 else if r.kind=4 then decide (r.next<r.prev) && (decide (0<r.steps.length/\r.steps.length<=2) && r.steps.all YR)
 else if r.kind=5 then decide (r.next<r.lsn) && imsOk false r.ims
 else if r.kind=9 then decide (1<=r.nextTxn/\r.nextTxn<=1073741824/\r.txns.length<=8) && (upB (ckTOk r.lsn r.nextTxn) CkT.txn r.txns r.txns.length && upB (Vo r.lsn) CkP.page r.dirty r.dirty.length)
 else true
def bareOk (r:Rc):Bool:=decide (
 (r.next=0\/r.kind=3\/r.kind=4\/r.kind=5)/\(r.ims=[]\/r.kind=2\/r.kind=5)/\(r.steps=[]\/r.kind=4) /\
 ((r.txns=[]/\r.dirty=[]/\r.nextTxn=0)\/r.kind=9))
def Yk (r:Rc):Bool:=decide (1<=r.kind/\r.kind<=9) && (headOk r && (askOk r && bareOk r))
def imB (two:Bool)(x:Im):List UInt8:=tB x.page::((if two then Ya x.b else [])++Ya x.a)
def XE (s:Stp):List UInt8:=tB s.kind::(if s.kind=2\/s.kind=3 then ZE s.row else tB s.row.t::(be 2 s.row.id++(if s.kind=1 then be 8 (vN s.by') else [])))
def XW (t:CkT):List UInt8:=be 4 t.txn.toNat++(be 8 t.first++(be 8 t.last++(be 8 t.undo++[tB t.state])))
def Wy (p:CkP):List UInt8:=tB p.page::be 8 p.since
def Xt {α:Type}(f:α->List UInt8)(l:List α):List UInt8:=UInt8.ofNat l.length::l.flatMap f
def recHB (r:Rc):List UInt8:=tB r.kind::(be 8 r.lsn++(be 4 r.txn.toNat++be 8 r.prev))
def imsB (r:Rc):List UInt8:=Xt (imB (decide (r.kind=2))) r.ims
def recTB (r:Rc):List UInt8:=
 if r.kind=2 then imsB r else if r.kind=3 then be 8 r.next else if r.kind=4 then be 8 r.next++Xt XE r.steps else if r.kind=5 then be 8 r.next++imsB r
 else if r.kind=9 then be 4 r.nextTxn.toNat++(Xt XW r.txns++Xt Wy r.dirty) else []
def Yv (r:Rc):List UInt8:=recHB r++recTB r
structure LayOk (r:Rc):Prop where
 kind:0<=r.kind/\r.kind<256
 lsn:r.lsn<18446744073709551616
 prev:r.prev<18446744073709551616
 next:r.next<18446744073709551616
 txn:0<=r.txn/\r.txn<4294967296
 nextTxn:0<=r.nextTxn/\r.nextTxn<4294967296
 il:r.ims.length<=16
 im:∀x∈r.ims,(0<=x.page/\x.page<64)/\ZG x.a=true/\ZG x.b=true
 sl:r.steps.length<=2
 st:∀s∈r.steps,YR s=true
 tl:r.txns.length<=8
 tx:∀t∈r.txns,(0<=t.txn/\t.txn<4294967296)/\t.first<18446744073709551616/\t.last<18446744073709551616/\t.undo<18446744073709551616/\0<=t.state/\t.state<256
 dl:r.dirty.length<=64
 di:∀p∈r.dirty,(0<=p.page/\p.page<64)/\p.since<18446744073709551616
abbrev wrC (wb:Nat)(v:RV)(r:Rc)(w:Value):List (Nat×Obj):=[(wb,.cells ⟨[.int .i64 r.kind,.int .u64 r.lsn,.int .i64 r.txn,.int .u64 r.prev,.int .u64 r.next,.slice v.i.a v.i.n v.i.c,.slice v.s.a v.s.n v.s.c,.int .i64 r.nextTxn,.slice v.t.a v.t.n v.t.c,.slice v.d.a v.d.n v.d.c,w]⟩ 249 (0,0))]
abbrev WN (w:Value)(l:List UInt8)(sp:List Value):Prop:=OwnS w l.length (l.map Zk) sp 1
abbrev Xe (w:Value)(l:List UInt8)(sp:List Value):List (Nat×Obj):=Zq w (l.map Zk) sp 5
abbrev WrP (ρ:Hp)(wb:Nat)(v:RV)(r:Rc)(l:List UInt8)(z:Value)(ρ':Hp)(L':List (List (Nat×Obj))):Prop:=
 z=.tuple ⟨[]⟩/\ρ.le ρ'/\∃w' sp',WN w' l sp'/\L'=[Xe w' l sp',wrC wb v r w']
theorem put32_spec (ρ:Hp)(a:Option Addr)(n c:Nat)(l:List UInt8)(h:SIn ρ Zk a n l)(x:Nat)(hx:x<4294967296)(hn:n<=1000000) :
  Spec prog 232 [.slice a n c,.int .u32 x] ρ [] (λ v ρ' L'=>ρ'=ρ/\∃sp,OwnS v (n+4) ((l++be 4 x).map Zk) sp 1/\L'=[Zq v ((l++be 4 x).map Zk) sp 5]):=by
 have hw:IntKind.u64.wrap (x:Int)=x:=Ww (by simp only[lo,hi];omega)
 have hs:=stand_spec ρ a n c l h x 4 (by omega) (by omega) (by omega) hn
 refine Zb func232 rfl rfl rfl λ u R=>?_
 simp only[Zc,kA]
 repeat' (first|(refine iCv ?_;refine tl_y (y_conv rfl) rfl rfl ?_;rw[hw])|(refine Za (.func 265) ?_;refine qC rfl rfl (hs) ?_;rintro v ρ' L' hle ⟨rfl,sp,hown,rfl⟩<;>(try simp only[kA]))|refine zW ?_|intro _)
 exact qE ⟨rfl,sp,hown,rfl⟩
theorem Xz {α:Type}(f:α->List UInt8)(l:List α):∀k (h:k<l.length),(l.take (k+1)).flatMap f=(l.take k).flatMap f++f (l[k]'h):=λ k h=>YU f l k h
theorem wbytes_spec (ρ:Hp)(wb:Nat)(v:RV)(r:Rc)(w:Value)(l:List UInt8)(sp:List Value)(hown:WN w l sp)(hn:l.length<=100000)(a:Option Addr)(m c:Nat)(ns:List Int)(h:SIn ρ (λ x:Int=>Value.int .i64 x) a m ns)(hb:∀x∈ns,0<=x/\x<256)(hm:m<=10) :
  Spec prog 167 [.pointer (some ⟨wb,0,none⟩),.slice a m c] ρ [Xe w l sp,wrC wb v r w] (WrP ρ wb v r (l++ns.map tB)):=by
 have hl:=h.len
 refine Zb func167 rfl rfl rfl λ u R=>?_
 simp only[Zc,kA]
 repeat' (first|refine zW ?_|intro _)
 rw[show Xe w l sp=Xe w (l++(ns.take 0).map tB) sp by simp]
 refine lpG (Nat×Value×(List Value)) [0,6,7] (λ z=>[(8,.int .i64 z.1)]) (λ z=>ρ) (λ z=>[Xe z.2.1 (l++(ns.take z.1).map tB) z.2.2,wrC wb v r z.2.1]) (λ z=>z.1<=m/\WN z.2.1 (l++(ns.take z.1).map tB) z.2.2) (λ z=>m-z.1) (0,w,sp) ⟨aZ _,by simpa using hown⟩ ?_
 rintro⟨k,w1,sp1⟩ hI
 try simp only[kB] at hI ⊢
 try dsimp only at hI ⊢
 obtain⟨hk,hown1⟩:=hI
 by_cases hlt:k<m
 ·obtain⟨b,off,C,T,fr,e1,hbb,hcc⟩:=h.get (show k<ns.length by omega)
  have hts:=aG (show k<ns.length by omega)
  have hx:=hb _ (aM (show k<ns.length by omega))
  generalize ns[k]'(by omega)=x at *
  have hxl:(l++(ns.take k).map tB).length<=100010:=by simp;omega
  have hmm:(l++(ns.take k).map tB).map Zk++[Zk (tB x)]=(l++(ns.take (k+1)).map tB).map Zk:=by rw[hts];simp
  have hll:(l++(ns.take k).map tB).length+1=(l++(ns.take (k+1)).map tB).length:=by rw[hts];simp;omega
  have hxB:=tB_eq hx.1 hx.2
  generalize hX:l++(ns.take k).map tB=X at *
  obtain⟨va,vc,rfl,_⟩:=hown1.slice
  rw[e1]
  repeat' (first|(refine Zg rfl rfl rfl rfl (by simp) rfl rfl (λ _=>?_);simp only[hxB])|(refine ZH (ys:=[Zk (tB x)]) (m:=1) rfl rfl hown1 (hR:=by infer_instance) SrcV.lit rfl rfl (by decide) rfl (by omega) (by omega) rfl (λ v' sp' hown'=>?_);rw[hmm] at hown' ⊢;rw[hll] at hown';obtain⟨va',vc',rfl,_⟩:=hown'.slice)|refine zW ?_|intro _)
  rw[<-e1]
  refine rnG (k+1,_,sp') (⟨hlt,hown'⟩)
 ·have hk2:k=m:=by omega
  rw[show ns.take k=ns by rw[hk2,<-hl,List.take_length]] at hown1 ⊢
  repeat' (first|refine zW ?_|intro _)
  exact qE ⟨rfl,Hp.le_refl _,w1,sp1,hown1,rfl⟩
theorem wlongs_spec (ρ:Hp)(wb:Nat)(v:RV)(r:Rc)(w:Value)(l:List UInt8)(sp:List Value)(hown:WN w l sp)(hn:l.length<=100000)(a:Option Addr)(m c:Nat)(ns:List Nat)(h:SIn ρ (λ x:Nat=>Value.int .u64 (x:Int)) a m ns)(hb:∀x∈ns,x<18446744073709551616)(hm:m<=10) :
  Spec prog 168 [.pointer (some ⟨wb,0,none⟩),.slice a m c] ρ [Xe w l sp,wrC wb v r w] (WrP ρ wb v r (l++ns.flatMap (be 8))):=by
 have hl:=h.len
 refine Zb func168 rfl rfl rfl λ u R=>?_
 simp only[Zc,kA]
 repeat' (first|refine zW ?_|intro _)
 rw[show Xe w l sp=Xe w (l++(ns.take 0).flatMap (be 8)) sp by simp]
 refine lpG (Nat×Hp×Value×(List Value)) [0,6,7] (λ z=>[(8,.int .i64 z.1)]) (λ z=>z.2.1) (λ z=>[Xe z.2.2.1 (l++(ns.take z.1).flatMap (be 8)) z.2.2.2,wrC wb v r z.2.2.1]) (λ z=>z.1<=m/\ρ.le z.2.1/\WN z.2.2.1 (l++(ns.take z.1).flatMap (be 8)) z.2.2.2) (λ z=>m-z.1) (0,ρ,w,sp) ⟨aZ _,Hp.le_refl _,by simpa using hown⟩ ?_
 rintro⟨k,ρ1,w1,sp1⟩ hI
 try simp only[kB] at hI ⊢
 try dsimp only at hI ⊢
 obtain⟨hk,hle1,hown1⟩:=hI
 by_cases hlt:k<m
 ·obtain⟨b,off,C,T,fr,e1,hbb,hcc⟩:=(h.mono hle1).get (show k<ns.length by omega)
  have hts:=Xz (be 8) ns k (by omega)
  have hx:=hb _ (aM (show k<ns.length by omega))
  have hfl:=ZW (be 8) 8 (ns.take k) (λ x _=>Nat.le_of_eq (Zd 8 x))
  have htl:(ns.take k).length<=10:=by simp;omega
  generalize ns[k]'(by omega)=x at *
  have hxl:(l++(ns.take k).flatMap (be 8)).length<=100080:=by simp only[aL];omega
  have hmm:l++(ns.take k).flatMap (be 8)++be 8 x=l++(ns.take (k+1)).flatMap (be 8):=by rw[hts];simp
  have hll:(l++(ns.take k).flatMap (be 8)).length+8=(l++(ns.take (k+1)).flatMap (be 8)).length:=by rw[hts];simp[Zd];omega
  generalize hX:l++(ns.take k).flatMap (be 8)=X at *
  obtain⟨va,vc,rfl,_⟩:=hown1.slice
  rw[e1]
  repeat' (first|(refine Za (.func 231) ?_;refine ZL (Zq (.slice va X.length vc) (X.map Zk) sp1 5) (h:=by repeat (first|exact Zl|apply Zn)) (λ ρ2 hle2 hfz=>?_);obtain⟨a1,c1,f1,hc1,hs1⟩:=hown1.sIn hfz;cases f1;refine qC rfl rfl (put64_spec _ va _ vc _ hs1 x hx (by omega)) ?_;rintro v' ρ3 L3 hle3 ⟨rfl,sp3,hown3,rfl⟩;simp only[kA];rw[hmm,hll] at hown3;rw[hmm];obtain⟨va',vc',rfl,_⟩:=hown3.slice)|refine zW ?_|intro _)
  rw[<-e1]
  refine rnG (k+1,ρ3,_,sp3) (⟨hlt,Hp.le_trans hle1 hle2,hown3⟩)
 ·have hk2:k=m:=by omega
  rw[show ns.take k=ns by rw[hk2,<-hl,List.take_length]] at hown1 ⊢
  repeat' (first|refine zW ?_|intro _)
  exact qE ⟨rfl,hle1,w1,sp1,hown1,rfl⟩
theorem wtxn_spec (ρ:Hp)(wb:Nat)(v:RV)(r:Rc)(w:Value)(l:List UInt8)(sp:List Value)(hown:WN w l sp)(hn:l.length<=100000)(x:Int)(h0:0<=x/\x<4294967296) :
  Spec prog 169 [.pointer (some ⟨wb,0,none⟩),.int .i64 x] ρ [Xe w l sp,wrC wb v r w] (WrP ρ wb v r (l++be 4 x.toNat)):=by
 have hll:l.length+4=(l++be 4 x.toNat).length:=by simp[Zd]
 obtain⟨va,vc,rfl,_⟩:=hown.slice
 obtain⟨y,rfl⟩:∃y:Nat,x=y:=⟨x.toNat,by omega⟩
 simp only[Int.toNat_natCast] at hll ⊢
 refine Zb func169 rfl rfl rfl λ u R=>?_
 simp only[Zc,kA]
 repeat' (first|(refine Za (.func 232) ?_;refine ZL (Zq (.slice va l.length vc) (l.map Zk) sp 5) (h:=by repeat (first|exact Zl|apply Zn)) (λ ρ2 hle2 hfz=>?_);obtain⟨a1,c1,f1,hc1,hs1⟩:=hown.sIn hfz;cases f1;refine qC rfl rfl (put32_spec _ va _ vc _ hs1 y (by omega) (by omega)) ?_;rintro v' ρ3 L3 hle3 ⟨rfl,sp3,hown3,rfl⟩;simp only[kA];rw[hll] at hown3;obtain⟨va',vc',rfl,_⟩:=hown3.slice)|refine zW ?_|intro _)
 exact qE ⟨rfl,hle2,_,sp3,hown3,rfl⟩
theorem wcontent_spec (ρ:Hp)(wb:Nat)(v:RV)(r:Rc)(w:Value)(l:List UInt8)(sp:List Value)(hown:WN w l sp)(hn:l.length<=100000)(cv:CV)(c:Wm)(h:CI ρ cv c)(hok:ZG c=true) :
  Spec prog 233 [.pointer (some ⟨wb,0,none⟩),.agg ⟨XI c.kind cv⟩] ρ [Xe w l sp,wrC wb v r w] (WrP ρ wb v r (l++Ya c)):=by
 have hce:=contE_spec ρ cv c h.cin (λ r hr=>(h.row r hr).id) h.kid
 rw[if_pos hok,if_pos hok] at hce
 have h82:=WH hok
 obtain⟨va,vc,rfl,_⟩:=hown.slice
 refine Zb func233 rfl rfl rfl λ u R=>?_
 simp only[Zc,kA]
 repeat' (first|(refine Za (.func 250) ?_;refine qC rfl rfl (hce) ?_;rintro v ρ' L' hle ⟨hle1,a1,n1,c1,rfl,hc1,hs1,rfl⟩<;>(try simp only[kA]))|(have hn1:=hs1.len;refine ZH (ys:=(Ya c).map Zk) (m:=n1) (sz:=1) rfl rfl hown (hR:=by infer_instance) (SIn.srcV hs1) (by simpa using hs1.len) (Yr _) (by decide) rfl (by omega) (by omega) rfl (λ v' sp' hown'=>?_);rw[<-List.map_append] at hown' ⊢;rw[<-hs1.len,<-aL] at hown';obtain⟨va',vc',rfl,_⟩:=hown'.slice)|refine zW ?_|intro _)
 exact qE ⟨rfl,hle1,_,sp',hown',rfl⟩
theorem sIn_lit {α:Type}{g:α->Value}{ρ:Hp}{b:Nat}{l:List α}{T:TypeId}{fr:Nat×Nat}(h:ρ b=some (.cells ⟨l.map g⟩ T fr)):SIn ρ g (some ⟨b,0,none⟩) l.length l:=
 ⟨rfl,.inr ⟨b,0,_,T,fr,rfl,h,by rw[List.drop_zero,aT (by simp)]⟩⟩
abbrev iV (x:Int):Value:=.int .i64 x
abbrev lV (x:Nat):Value:=.int .u64 (x:Int)
theorem YZ (ρ:Hp)(wb:Nat)(v:RV)(r:Rc)(w:Value)(l:List UInt8)(sp:List Value)(hown:WN w l sp)(hn:l.length<=100000)(b:Nat)(x:Int){T:TypeId}{fr:Nat×Nat}(h:ρ b=some (.cells ⟨[.int .i64 x]⟩ T fr))(hb:0<=x/\x<256) :
  Spec prog 167 [.pointer (some ⟨wb,0,none⟩),.slice (some ⟨b,0,none⟩) 1 1] ρ [Xe w l sp,wrC wb v r w] (WrP ρ wb v r (l++[tB x])):=
 wbytes_spec ρ wb v r w l sp hown hn _ 1 1 [x] (sIn_lit (l:=[x]) (g:=iV) h) (λ y hy=>by rw[List.mem_singleton.1 hy];exact hb) (by decide)
theorem wlong_spec (ρ:Hp)(wb:Nat)(v:RV)(r:Rc)(w:Value)(l:List UInt8)(sp:List Value)(hown:WN w l sp)(hn:l.length<=100000)(b:Nat)(x:Nat){T:TypeId}{fr:Nat×Nat}(h:ρ b=some (.cells ⟨[.int .u64 (x:Int)]⟩ T fr))(hb:x<18446744073709551616) :
  Spec prog 168 [.pointer (some ⟨wb,0,none⟩),.slice (some ⟨b,0,none⟩) 1 1] ρ [Xe w l sp,wrC wb v r w] (WrP ρ wb v r (l++be 8 x)):=by
 have:=wlongs_spec ρ wb v r w l sp hown hn _ 1 1 [x] (sIn_lit (l:=[x]) (g:=lV) h) (λ y hy=>by rw[List.mem_singleton.1 hy];exact hb) (by decide)
 simpa only [List.flatMap_cons,List.flatMap_nil,aN] using this
theorem wlong3_spec (ρ:Hp)(wb:Nat)(v:RV)(r:Rc)(w:Value)(l:List UInt8)(sp:List Value)(hown:WN w l sp)(hn:l.length<=100000)(b:Nat)(x y z:Nat){T:TypeId}{fr:Nat×Nat}(h:ρ b=some (.cells ⟨[.int .u64 (x:Int),.int .u64 (y:Int),.int .u64 (z:Int)]⟩ T fr))(hx:x<18446744073709551616)(hy:y<18446744073709551616)(hz:z<18446744073709551616) :
  Spec prog 168 [.pointer (some ⟨wb,0,none⟩),.slice (some ⟨b,0,none⟩) 3 3] ρ [Xe w l sp,wrC wb v r w] (WrP ρ wb v r (l++(be 8 x++(be 8 y++be 8 z)))):=by
 have:=wlongs_spec ρ wb v r w l sp hown hn _ 3 3 [x,y,z] (sIn_lit (l:=[x,y,z]) (g:=lV) h) (λ q hq=>by simp at hq;rcases hq with rfl|rfl|rfl<;>assumption) (by decide)
 simpa only [List.flatMap_cons,List.flatMap_nil,aN] using this
theorem wnested_spec (ρ:Hp)(wb:Nat)(v:RV)(r:Rc)(w:Value)(l:List UInt8)(sp:List Value)(hown:WN w l sp)(hn:l.length<=90000)(h0:r.next<18446744073709551616) :
  Spec prog 171 [.pointer (some ⟨wb,0,none⟩)] ρ [Xe w l sp,wrC wb v r w] (WrP ρ wb v r (l++be 8 r.next)):=by
 have hρ:=Hp.le_refl ρ
 refine Zb func171 rfl rfl rfl λ u R=>?_
 simp only[Zc,kA]
 repeat' (first|(refine Zg rfl rfl rfl rfl (by simp) rfl rfl (λ bs=>?_);refine ZL _ (h:=Rem.here) (λ ρz hlz hfz=>?_);have hbs:=hfz _ (List.mem_singleton.2 rfl);clear hfz;have hρ:=Hp.le_trans hρ hlz;clear hlz;(try simp only[List.nil_append]))|(refine Za (.func 168) ?_;refine qC rfl rfl (wlong_spec _ wb v r w l sp hown (by omega) _ r.next hbs h0) ?_;rintro v ρ' L' hle ⟨rfl,hl1,w1,sp1,hown,rfl⟩<;>(try simp only[kA]))|refine zW ?_|intro _)
 exact qE ⟨rfl,Hp.le_trans hρ hl1,w1,sp1,hown,rfl⟩
theorem imB_len {two:Bool}{x:Im}(ha:ZG x.a=true)(hb:ZG x.b=true):(imB two x).length<=165:=by
 have h1:=WH ha
 have h2:=WH hb
 cases two<;>simp[imB]<;>omega
theorem wimages_spec (ρ:Hp)(wb:Nat)(v:RV)(r:Rc)(w:Value)(l:List UInt8)(sp:List Value)(hown:WN w l sp)(hn:l.length<=80000)(h:RcIn ρ v r)(hL:LayOk r) :
  Spec prog 170 [.pointer (some ⟨wb,0,none⟩)] ρ [Xe w l sp,wrC wb v r w] (WrP ρ wb v r (l++imsB r)):=by
 have hρ:=Hp.le_refl ρ
 have hA:=h.i.at'
 have hl:=hA.len
 have hil:=hL.il
 refine Zb func170 rfl rfl rfl λ u R=>?_
 simp only[Zc,kA]
 repeat' (first|(refine Zg rfl rfl rfl rfl (by simp) rfl rfl (λ bs=>?_);refine ZL _ (h:=Rem.here) (λ ρz hlz hfz=>?_);have hbs:=hfz _ (List.mem_singleton.2 rfl);clear hfz;have hρ:=Hp.le_trans hρ hlz;clear hlz;(try simp only[List.nil_append]))|(refine Za (.func 167) ?_;refine qC rfl rfl (YZ _ wb v r w l sp hown (by omega) _ (v.i.n:Int) hbs (by omega)) ?_;rintro v ρ' L' hle ⟨rfl,hl1,w1,sp1,hown,rfl⟩<;>(try simp only[kA]);have hρ:=Hp.le_trans hρ hl1;clear hl1)|refine zW ?_|intro _)
 obtain⟨B,hB⟩:∃B,l++[tB (v.i.n:Int)]=B:=⟨_,rfl⟩
 rw[hB] at hown ⊢
 have hBl:B.length<=80001:=by rw[<-hB];simp;omega
 have hfin:B++r.ims.flatMap (imB (decide (r.kind=2)))=l++imsB r:=by rw[<-hB];simp[imsB,Xt,hl,tB]
 generalize hf:imB (decide (r.kind=2))=f at *
 rw[show Xe w1 B sp1=Xe w1 (B++(r.ims.take 0).flatMap f) sp1 by simp]
 refine lpG (Nat×Hp×Value×(List Value)) [0,17,18] (λ z=>[(19,.int .i64 z.1)]) (λ z=>z.2.1) (λ z=>[Xe z.2.2.1 (B++(r.ims.take z.1).flatMap f) z.2.2.2,wrC wb v r z.2.2.1]) (λ z=>z.1<=v.i.n/\ρ.le z.2.1/\WN z.2.2.1 (B++(r.ims.take z.1).flatMap f) z.2.2.2) (λ z=>v.i.n-z.1) (0,ρ',w1,sp1) ⟨aZ _,hρ,by simpa using hown⟩ ?_
 rintro⟨k,ρ1,w2,sp2⟩ hI
 try simp only[kB] at hI ⊢
 try dsimp only at hI ⊢
 obtain⟨hk,hle1,hown⟩:=hI
 clear hρ
 by_cases hlt:k<v.i.n
 ·obtain⟨b,off,C,T,fr,e1,hbb,hfit,hcc⟩:=(hA.mono hle1).get (show k<r.ims.length by omega)
  have hts:=Xz f r.ims k (by omega)
  have hmem:=aM (show k<r.ims.length by omega)
  have hin:=(h.im _ hmem).mono hle1
  obtain⟨hp,ha,hb⟩:=hL.im _ hmem
  have hfl:=ZW f 165 (r.ims.take k) (λ x hx=>by
   rw[<-hf];exact imB_len (hL.im x (List.mem_of_mem_take hx)).2.1 (hL.im x (List.mem_of_mem_take hx)).2.2)
  have htl:(r.ims.take k).length<=16:=by simp;omega
  generalize r.ims[k]'(by omega)=x at *
  have hxl:(B++(r.ims.take k).flatMap f).length<=83000:=by simp only[aL];omega
  have hmm:B++(r.ims.take k).flatMap f++f x=B++(r.ims.take (k+1)).flatMap f:=by rw[hts];simp
  generalize hX:B++(r.ims.take k).flatMap f=X at *
  have hρ:=Hp.le_refl ρ1
  have h82:=WH hb
  have h83:=WH ha
  rw[e1]
  by_cases h2:r.kind=2
  ·have hfx:f x=tB x.page::(Ya x.b++Ya x.a):=by rw[<-hf,h2];rfl
   repeat' (first|(refine Zg rfl rfl rfl rfl (by simp) rfl rfl (λ bs=>?_);refine ZL _ (h:=Rem.here) (λ ρz hlz hfz=>?_);have hbs:=hfz _ (List.mem_singleton.2 rfl);clear hfz;have hρ:=Hp.le_trans hρ hlz;clear hlz;(try simp only[List.nil_append]))|(refine Za (.func 167) ?_;refine qC rfl rfl (YZ _ wb v r w2 X sp2 hown (by omega) _ x.page hbs (by omega)) ?_;rintro v ρ' L' hle ⟨rfl,hl1,w3,sp3,hown,rfl⟩<;>(try simp only[kA]);have hρ:=Hp.le_trans hρ hl1;clear hl1)|(refine Za (.func 233) ?_;refine qC rfl rfl ((wcontent_spec _ wb v r w3 _ sp3 hown (by (try simp only[aL,aC,List.length_nil,List.length_map,Zd])<;>omega) x.bv x.b (hin.b.mono hρ) hb)) ?_;rintro v ρ' L' hle ⟨rfl,hl1,w4,sp4,hown,rfl⟩<;>(try simp only[kA]);have hρ:=Hp.le_trans hρ hl1;clear hl1)|(refine Za (.func 233) ?_;refine qC rfl rfl ((wcontent_spec _ wb v r w4 _ sp4 hown (by (try simp only[aL,aC,List.length_nil,List.length_map,Zd])<;>omega) x.av x.a (hin.a.mono hρ) ha)) ?_;rintro v ρ' L' hle ⟨rfl,hl1,w5,sp5,hown,rfl⟩<;>(try simp only[kA]);have hρ:=Hp.le_trans hρ hl1;clear hl1)|refine zW ?_|intro _)
   rw[<-e1]
   have e2:X++[tB x.page]++Ya x.b++Ya x.a=B++(r.ims.take (k+1)).flatMap f:=by rw[<-hmm,hfx];simp
   rw[e2] at hown ⊢
   refine rnG (k+1,_,w5,sp5) (⟨hlt,Hp.le_trans hle1 hρ,hown⟩)
  ·have hfx:f x=tB x.page::Ya x.a:=by rw[<-hf,decide_eq_false h2];rfl
   repeat' (first|(refine Zg rfl rfl rfl rfl (by simp) rfl rfl (λ bs=>?_);refine ZL _ (h:=Rem.here) (λ ρz hlz hfz=>?_);have hbs:=hfz _ (List.mem_singleton.2 rfl);clear hfz;have hρ:=Hp.le_trans hρ hlz;clear hlz;(try simp only[List.nil_append]))|(refine Za (.func 167) ?_;refine qC rfl rfl (YZ _ wb v r w2 X sp2 hown (by omega) _ x.page hbs (by omega)) ?_;rintro v ρ' L' hle ⟨rfl,hl1,w3,sp3,hown,rfl⟩<;>(try simp only[kA]);have hρ:=Hp.le_trans hρ hl1;clear hl1)|(refine Za (.func 233) ?_;refine qC rfl rfl ((wcontent_spec _ wb v r w3 _ sp3 hown (by (try simp only[aL,aC,List.length_nil,List.length_map,Zd])<;>omega) x.av x.a (hin.a.mono hρ) ha)) ?_;rintro v ρ' L' hle ⟨rfl,hl1,w5,sp5,hown,rfl⟩<;>(try simp only[kA]);have hρ:=Hp.le_trans hρ hl1;clear hl1)|refine zW ?_|intro _)
   rw[<-e1]
   have e2:X++[tB x.page]++Ya x.a=B++(r.ims.take (k+1)).flatMap f:=by rw[<-hmm,hfx];simp
   rw[e2] at hown ⊢
   refine rnG (k+1,_,w5,sp5) (⟨hlt,Hp.le_trans hle1 hρ,hown⟩)
 ·rw[show r.ims.take k=r.ims by rw[show k=r.ims.length by omega,List.take_length],hfin] at hown ⊢
  repeat' (first|refine zW ?_|intro _)
  exact qE ⟨rfl,hle1,w2,sp2,hown,rfl⟩
theorem wundone_spec (ρ:Hp)(wb:Nat)(v:RV)(r:Rc)(w:Value)(l:List UInt8)(sp:List Value)(hown:WN w l sp)(hn:l.length<=70000)(h:RcIn ρ v r)(hL:LayOk r) :
  Spec prog 173 [.pointer (some ⟨wb,0,none⟩)] ρ [Xe w l sp,wrC wb v r w] (WrP ρ wb v r (l++(be 8 r.next++imsB r))):=by
 refine Zb func173 rfl rfl rfl λ u R=>?_
 simp only[Zc,kA]
 repeat' (first|(refine Za (.func 171) ?_;refine qC rfl rfl (wnested_spec _ wb v r w l sp hown (by omega) hL.next) ?_;rintro v ρ' L' hle ⟨rfl,hl1,w1,sp1,hown,rfl⟩<;>(try simp only[kA]))|(refine Za (.func 170) ?_;refine qC rfl rfl (wimages_spec _ wb v r w1 _ sp1 hown (by (try simp only[aL,aC,List.length_nil,List.length_map,Zd])<;>omega) (h.mono hl1) hL) ?_;rintro v ρ' L' hle ⟨rfl,hl2,w2,sp2,hown,rfl⟩<;>(try simp only[kA]))|refine zW ?_|intro _)
 rw[aA] at hown ⊢
 exact qE ⟨rfl,Hp.le_trans hl1 hl2,w2,sp2,hown,rfl⟩
theorem stpB_len {s:Stp}(h:YR s=true):(XE s).length<=21:=by
 unfold XE
 by_cases h23:s.kind=2\/s.kind=3
 ·rw[if_pos h23]
  have hr:Yx s.row=true:=by
   unfold YR at h
   rw[if_neg (by omega),if_neg (by omega),if_pos h23,aE] at h
   exact h.2
  have:=rowB_le hr
  simp;omega
 ·rw[if_neg h23]
  split<;>simp[Zd]
theorem ckTB_len (t:CkT):(XW t).length=29:=by simp[XW,Zd]
theorem ckPB_len (p:CkP):(Wy p).length=9:=by simp[Wy,Zd]
theorem step_kinds {s:Stp}(h:YR s=true):(s.kind=1\/s.kind=2\/s.kind=3\/s.kind=4)/\((s.kind=2\/s.kind=3)->Yx s.row=true)/\(¬(s.kind=2\/s.kind=3)->0<=s.row.t/\s.row.t<3):=by
 unfold YR at h
 by_cases h1:s.kind=1
 ·rw[if_pos h1] at h
  unfold onlyOk at h
  rw[aE,decide_eq_true_eq,decide_eq_true_eq] at h
  exact⟨.inl h1,λ e=>by omega,λ _=>h.2⟩
 ·rw[if_neg h1] at h
  by_cases h4:s.kind=4
  ·rw[if_pos h4] at h
   unfold onlyOk at h
   rw[aE,aE,decide_eq_true_eq,decide_eq_true_eq] at h
   exact⟨by omega,λ e=>by omega,λ _=>h.1.2⟩
  ·rw[if_neg h4] at h
   by_cases h23:s.kind=2\/s.kind=3
   ·rw[if_pos h23,aE] at h
    exact⟨by omega,λ _=>h.2,λ e=>absurd h23 e⟩
   ·rw[if_neg h23] at h;cases h
theorem wdone_spec (ρ:Hp)(wb:Nat)(v:RV)(r:Rc)(w:Value)(l:List UInt8)(sp:List Value)(hown:WN w l sp)(hn:l.length<=70000)(h:RcIn ρ v r)(hL:LayOk r) :
  Spec prog 172 [.pointer (some ⟨wb,0,none⟩)] ρ [Xe w l sp,wrC wb v r w] (WrP ρ wb v r (l++(be 8 r.next++Xt XE r.steps))):=by
 have hρ:=Hp.le_refl ρ
 have hA:=h.s.at'
 have hl:=hA.len
 have hil:=hL.sl
 refine Zb func172 rfl rfl rfl λ u R=>?_
 simp only[Zc,kA]
 repeat' (first|(refine Zg rfl rfl rfl rfl (by simp) rfl rfl (λ bs=>?_);refine ZL _ (h:=Rem.here) (λ ρz hlz hfz=>?_);have hbs:=hfz _ (List.mem_singleton.2 rfl);clear hfz;have hρ:=Hp.le_trans hρ hlz;clear hlz;(try simp only[List.nil_append]))|(refine Za (.func 171) ?_;refine qC rfl rfl (wnested_spec _ wb v r w l sp hown (by omega) hL.next) ?_;rintro v ρ' L' hle ⟨rfl,hl1,w0,sp0,hown,rfl⟩<;>(try simp only[kA]);have hρ:=Hp.le_trans hρ hl1;clear hl1)|(refine Za (.func 167) ?_;refine qC rfl rfl (YZ _ wb v r w0 _ sp0 hown (by (try simp only[aL,aC,List.length_nil,List.length_map,Zd])<;>omega) _ (v.s.n:Int) hbs (by omega)) ?_;rintro v ρ' L' hle ⟨rfl,hl1,w1,sp1,hown,rfl⟩<;>(try simp only[kA]);have hρ:=Hp.le_trans hρ hl1;clear hl1)|refine zW ?_|intro _)
 obtain⟨B,hB⟩:∃B,l++be 8 r.next++[tB (v.s.n:Int)]=B:=⟨_,rfl⟩
 rw[hB] at hown ⊢
 have hBl:B.length<=80001:=by rw[<-hB];simp[Zd];omega
 have hfin:B++r.steps.flatMap XE=l++(be 8 r.next++Xt XE r.steps):=by rw[<-hB];simp[Xt,hl,tB]
 rw[show Xe w1 B sp1=Xe w1 (B++(r.steps.take 0).flatMap XE) sp1 by simp]
 refine lpG (Nat×Hp×Value×(List Value)) [0,21,22] (λ z=>[(23,.int .i64 z.1)]) (λ z=>z.2.1) (λ z=>[Xe z.2.2.1 (B++(r.steps.take z.1).flatMap XE) z.2.2.2,wrC wb v r z.2.2.1]) (λ z=>z.1<=v.s.n/\ρ.le z.2.1/\WN z.2.2.1 (B++(r.steps.take z.1).flatMap XE) z.2.2.2) (λ z=>v.s.n-z.1) (0,ρ',w1,sp1) ⟨aZ _,hρ,by simpa using hown⟩ ?_
 rintro⟨k,ρ1,w2,sp2⟩ hI
 try simp only[kB] at hI ⊢
 try dsimp only at hI ⊢
 obtain⟨hk,hle1,hown⟩:=hI
 clear hρ
 by_cases hlt:k<v.s.n
 ·obtain⟨b,off,C,T,fr,e1,hbb,hfit,hcc⟩:=(hA.mono hle1).get (show k<r.steps.length by omega)
  have hts:=Xz XE r.steps k (by omega)
  have hmem:=aM (show k<r.steps.length by omega)
  have hsf:=h.sf _ hmem
  obtain⟨hk4,hr23,hkt⟩:=step_kinds (hL.st _ hmem)
  have hfl:=ZW XE 21 (r.steps.take k) (λ x hx=>stpB_len (hL.st x (List.mem_of_mem_take hx)))
  have htl:(r.steps.take k).length<=2:=by simp;omega
  generalize r.steps[k]'(by omega)=x at *
  have hxl:(B++(r.steps.take k).flatMap XE).length<=83000:=by simp only[aL];omega
  have hmm:B++(r.steps.take k).flatMap XE++XE x=B++(r.steps.take (k+1)).flatMap XE:=by rw[hts];simp
  generalize hX:B++(r.steps.take k).flatMap XE=X at *
  have hρ:=Hp.le_refl ρ1
  rw[e1]
  by_cases h23:x.kind=2\/x.kind=3
  ·have hst:XE x=tB x.kind::ZE x.row:=by unfold XE;rw[if_pos h23]
   have hre:=λ ρ=>rowE_spec ρ x.row hsf.id
   have hrl:=rowB_le (hr23 h23)
   rw[if_pos (hr23 h23),if_pos (hr23 h23)] at hre
   have hmm2:(X++[tB x.kind]).map Zk++(ZE x.row).map Zk=(B++(r.steps.take (k+1)).flatMap XE).map Zk:=by rw[<-hmm,hst];simp
   have hll2:(X++[tB x.kind]).length+(ZE x.row).length=(B++(r.steps.take (k+1)).flatMap XE).length:=by rw[<-hmm,hst];simp;omega
   have hx1:(X++[tB x.kind]).length<=84000:=by simp;omega
   rcases h23 with h2|h2
   all_goals (repeat' (first|(refine Zg rfl rfl rfl rfl (by simp) rfl rfl (λ bs=>?_);refine ZL _ (h:=Rem.here) (λ ρz hlz hfz=>?_);have hbs:=hfz _ (List.mem_singleton.2 rfl);clear hfz;have hρ:=Hp.le_trans hρ hlz;clear hlz;(try simp only[List.nil_append]))|(refine Za (.func 167) ?_;refine qC rfl rfl (YZ _ wb v r w2 X sp2 hown (by omega) _ x.kind hbs (by omega)) ?_;rintro v ρ' L' hle ⟨rfl,hl1,w3,sp3,hown,rfl⟩<;>(try simp only[kA]);have hρ:=Hp.le_trans hρ hl1;clear hl1;obtain⟨va,vc,rfl,_⟩:=hown.slice)|(refine Za (.func 234) ?_;refine qC rfl rfl (hre _) ?_;rintro v ρ' L' hle ⟨hl1,a1,n1,c1,rfl,hc1,hs1,rfl⟩<;>(try simp only[kA]);have hρ:=Hp.le_trans hρ hl1;clear hl1)|(have hn1:=hs1.len;refine ZH (ys:=(ZE x.row).map Zk) (m:=n1) (sz:=1) rfl rfl hown (hR:=by infer_instance) (SIn.srcV hs1) (by simpa using hs1.len) (Yr _) (by decide) rfl (by omega) (by omega) rfl (λ v' sp' hown'=>?_);rw[hmm2] at hown' ⊢;rw[<-hs1.len,hll2] at hown';obtain⟨va',vc',rfl,_⟩:=hown'.slice)|refine zW ?_|intro _))
   all_goals rw[<-e1]
   all_goals refine rnG (k+1,_,_,sp') (⟨hlt,Hp.le_trans hle1 hρ,hown'⟩)
  ·have hkt:=hkt h23
   have hst:XE x=tB x.kind::(tB x.row.t::(be 2 x.row.id++(if x.kind=1 then be 8 (vN x.by') else []))):=by unfold XE;rw[if_neg h23]
   have hll2:(X++[tB x.kind]++[tB x.row.t]).length+2=(X++[tB x.kind]++[tB x.row.t]++be 2 x.row.id).length:=by simp[Zd]
   rcases (show x.kind=1\/x.kind=4 by omega) with h1|h1
   ·rw[if_pos h1] at hst
    have hvl:=vN_lt x.by'
    repeat' (first|(refine Zg rfl rfl rfl rfl (by simp) rfl rfl (λ bs=>?_);refine ZL _ (h:=Rem.here) (λ ρz hlz hfz=>?_);have hbs:=hfz _ (List.mem_singleton.2 rfl);clear hfz;have hρ:=Hp.le_trans hρ hlz;clear hlz;(try simp only[List.nil_append]))|(refine Za (.func 167) ?_;refine qC rfl rfl (YZ _ wb v r w2 X sp2 hown (by omega) _ x.kind hbs (by omega)) ?_;rintro v ρ' L' hle ⟨rfl,hl1,w3,sp3,hown,rfl⟩<;>(try simp only[kA]);have hρ:=Hp.le_trans hρ hl1;clear hl1;obtain⟨va,vc,rfl,_⟩:=hown.slice)|(refine Za (.func 167) ?_;refine qC rfl rfl (YZ _ wb v r _ _ sp3 hown (by (try simp only[aL,aC,List.length_nil,List.length_map,Zd])<;>omega) _ x.row.t hbs (by omega)) ?_;rintro v ρ' L' hle ⟨rfl,hl1,w4,sp4,hown,rfl⟩<;>(try simp only[kA]);have hρ:=Hp.le_trans hρ hl1;clear hl1;obtain⟨va,vc,rfl,_⟩:=hown.slice)|refine zW ?_|intro _)
    refine tpA [0,1,2,3,5,6,7,8] (.e 4 [] (.e 9 [10,11] (.e 12 [] .o))) ([[(_,.cells ⟨YJ x⟩ 183 (0,0))]]) ?_
    repeat' (refine iT ?_;first|refine rA ?_|(refine rE ?_<;>((first|(refine Za (.func 235) ?_;refine ZL (Xe (.slice va (X++[tB x.kind]++[tB x.row.t]).length vc) (X++[tB x.kind]++[tB x.row.t]) sp4) (h:=by repeat (first|exact Zl|apply Zn)) (λ ρ2 hle2 hfz=>?_);obtain⟨a1,c1,f1,hc1,hs1⟩:=hown.sIn hfz;cases f1;refine qC rfl rfl (put16_spec _ va _ vc _ hs1 x.row.id hsf.id (by (try simp only[aL,aC,List.length_nil,List.length_map,Zd])<;>omega)) ?_;rintro v' ρ3 L3 hle3 ⟨rfl,sp5,hown,rfl⟩;simp only[kA];rw[hll2] at hown;obtain⟨va,vc,rfl,_⟩:=hown.slice;have hρ:=Hp.le_trans hρ hle2)|(refine i_qq ?_;refine qQ ?_)|refine qEf ?_)<;>(try simp only[kA])<;>refine zN ?_)))
    all_goals (repeat' (first|(simp only[vN_eq];refine Zg rfl rfl rfl rfl (by simp) rfl rfl (λ bs=>?_);refine ZL _ (h:=Rem.here) (λ ρz hlz hfz=>?_);have hbs:=hfz _ (List.mem_singleton.2 rfl);clear hfz;have hρ:=Hp.le_trans hρ hlz;clear hlz;(try simp only[List.nil_append]))|(refine Za (.func 168) ?_;refine qC rfl rfl (wlong_spec _ wb v r _ _ sp5 hown (by (try simp only[aL,aC,List.length_nil,List.length_map,Zd])<;>omega) _ (vN x.by') hbs hvl) ?_;rintro v ρ' L' hle ⟨rfl,hl1,w6,sp6,hown,rfl⟩<;>(try simp only[kA]);have hρ:=Hp.le_trans hρ hl1;clear hl1;obtain⟨va,vc,rfl,_⟩:=hown.slice)|refine zW ?_|intro _))
    all_goals rw[<-e1]
    all_goals have e2:X++[tB x.kind]++[tB x.row.t]++be 2 x.row.id++be 8 (vN x.by')=B++(r.steps.take (k+1)).flatMap XE:=by rw[<-hmm,hst];simp
    all_goals rw[e2] at hown ⊢
    all_goals refine rnG (k+1,_,_,sp6) (⟨hlt,Hp.le_trans hle1 hρ,hown⟩)
   ·rw[if_neg (by omega)] at hst
    repeat' (first|(refine Zg rfl rfl rfl rfl (by simp) rfl rfl (λ bs=>?_);refine ZL _ (h:=Rem.here) (λ ρz hlz hfz=>?_);have hbs:=hfz _ (List.mem_singleton.2 rfl);clear hfz;have hρ:=Hp.le_trans hρ hlz;clear hlz;(try simp only[List.nil_append]))|(refine Za (.func 167) ?_;refine qC rfl rfl (YZ _ wb v r w2 X sp2 hown (by omega) _ x.kind hbs (by omega)) ?_;rintro v ρ' L' hle ⟨rfl,hl1,w3,sp3,hown,rfl⟩<;>(try simp only[kA]);have hρ:=Hp.le_trans hρ hl1;clear hl1;obtain⟨va,vc,rfl,_⟩:=hown.slice)|(refine Za (.func 167) ?_;refine qC rfl rfl (YZ _ wb v r _ _ sp3 hown (by (try simp only[aL,aC,List.length_nil,List.length_map,Zd])<;>omega) _ x.row.t hbs (by omega)) ?_;rintro v ρ' L' hle ⟨rfl,hl1,w4,sp4,hown,rfl⟩<;>(try simp only[kA]);have hρ:=Hp.le_trans hρ hl1;clear hl1;obtain⟨va,vc,rfl,_⟩:=hown.slice)|refine zW ?_|intro _)
    refine tpA [0,1,2,3,5,6,7,8] (.e 4 [] (.e 9 [10,11] (.e 12 [] .o))) ([[(_,.cells ⟨YJ x⟩ 183 (0,0))]]) ?_
    repeat' (refine iT ?_;first|refine rA ?_|(refine rE ?_<;>((first|(refine Za (.func 235) ?_;refine ZL (Xe (.slice va (X++[tB x.kind]++[tB x.row.t]).length vc) (X++[tB x.kind]++[tB x.row.t]) sp4) (h:=by repeat (first|exact Zl|apply Zn)) (λ ρ2 hle2 hfz=>?_);obtain⟨a1,c1,f1,hc1,hs1⟩:=hown.sIn hfz;cases f1;refine qC rfl rfl (put16_spec _ va _ vc _ hs1 x.row.id hsf.id (by (try simp only[aL,aC,List.length_nil,List.length_map,Zd])<;>omega)) ?_;rintro v' ρ3 L3 hle3 ⟨rfl,sp5,hown,rfl⟩;simp only[kA];rw[hll2] at hown;obtain⟨va,vc,rfl,_⟩:=hown.slice;have hρ:=Hp.le_trans hρ hle2)|(refine i_qq ?_;refine qQ ?_)|refine qEf ?_)<;>(try simp only[kA])<;>refine zN ?_)))
    all_goals (repeat' (first|refine zW ?_|intro _))
    all_goals rw[<-e1]
    all_goals have e2:X++[tB x.kind]++[tB x.row.t]++be 2 x.row.id=B++(r.steps.take (k+1)).flatMap XE:=by rw[<-hmm,hst];simp
    all_goals rw[e2] at hown ⊢
    all_goals refine rnG (k+1,_,_,sp5) (⟨hlt,Hp.le_trans hle1 hρ,hown⟩)
 ·rw[show r.steps.take k=r.steps by rw[show k=r.steps.length by omega,List.take_length],hfin] at hown ⊢
  repeat' (first|refine zW ?_|intro _)
  exact qE ⟨rfl,hle1,w2,sp2,hown,rfl⟩
theorem wckpt_spec (ρ:Hp)(wb:Nat)(v:RV)(r:Rc)(w:Value)(l:List UInt8)(sp:List Value)(hown:WN w l sp)(hn:l.length<=70000)(h:RcIn ρ v r)(hL:LayOk r) :
  Spec prog 174 [.pointer (some ⟨wb,0,none⟩)] ρ [Xe w l sp,wrC wb v r w] (WrP ρ wb v r (l++(be 4 r.nextTxn.toNat++(Xt XW r.txns++Xt Wy r.dirty)))):=by
 have hρ:=Hp.le_refl ρ
 have hA:=h.t.at'
 have hl:=hA.len
 have hA2:=h.d.at'
 have hl2:=hA2.len
 have hil:=hL.tl
 have hil2:=hL.dl
 refine Zb func174 rfl rfl rfl λ u R=>?_
 simp only[Zc,kA]
 repeat' (first|(refine Zg rfl rfl rfl rfl (by simp) rfl rfl (λ bs=>?_);refine ZL _ (h:=Rem.here) (λ ρz hlz hfz=>?_);have hbs:=hfz _ (List.mem_singleton.2 rfl);clear hfz;have hρ:=Hp.le_trans hρ hlz;clear hlz;(try simp only[List.nil_append]))|(refine Za (.func 169) ?_;refine qC rfl rfl (wtxn_spec _ wb v r w l sp hown (by omega) r.nextTxn hL.nextTxn) ?_;rintro v ρ' L' hle ⟨rfl,hl1,w0,sp0,hown,rfl⟩<;>(try simp only[kA]);have hρ:=Hp.le_trans hρ hl1;clear hl1)|(refine Za (.func 167) ?_;refine qC rfl rfl (YZ _ wb v r w0 _ sp0 hown (by (try simp only[aL,aC,List.length_nil,List.length_map,Zd])<;>omega) _ (v.t.n:Int) hbs (by omega)) ?_;rintro v ρ' L' hle ⟨rfl,hl1,w1,sp1,hown,rfl⟩<;>(try simp only[kA]);have hρ:=Hp.le_trans hρ hl1;clear hl1)|refine zV ?_|intro _)
 obtain⟨B,hB⟩:∃B,l++be 4 r.nextTxn.toNat++[tB (v.t.n:Int)]=B:=⟨_,rfl⟩
 rw[hB] at hown ⊢
 have hBl:B.length<=80001:=by rw[<-hB];simp[Zd];omega
 have hfin:B++r.txns.flatMap XW=l++(be 4 r.nextTxn.toNat++Xt XW r.txns):=by rw[<-hB];simp[Xt,hl,tB]
 rw[show Xe w1 B sp1=Xe w1 (B++(r.txns.take 0).flatMap XW) sp1 by simp]
 refine lpG (Nat×Hp×Value×(List Value)) [0,26,27] (λ z=>[(28,.int .i64 z.1)]) (λ z=>z.2.1) (λ z=>[Xe z.2.2.1 (B++(r.txns.take z.1).flatMap XW) z.2.2.2,wrC wb v r z.2.2.1]) (λ z=>z.1<=v.t.n/\ρ.le z.2.1/\WN z.2.2.1 (B++(r.txns.take z.1).flatMap XW) z.2.2.2) (λ z=>v.t.n-z.1) (0,ρ',w1,sp1) ⟨aZ _,hρ,by simpa using hown⟩ ?_
 rintro⟨k,ρ1,w2,sp2⟩ hI
 try simp only[kB] at hI ⊢
 try dsimp only at hI ⊢
 obtain⟨hk,hle1,hown⟩:=hI
 clear hρ
 by_cases hlt:k<v.t.n
 ·obtain⟨b,off,C,T,fr,e1,hbb,hfit,hcc⟩:=(hA.mono hle1).get (show k<r.txns.length by omega)
  have hts:=Xz XW r.txns k (by omega)
  have hmem:=aM (show k<r.txns.length by omega)
  obtain⟨g1,g2,g3,g4,g5⟩:=hL.tx _ hmem
  have hfl:=ZW XW 29 (r.txns.take k) (λ x _=>Nat.le_of_eq (ckTB_len x))
  have htl:(r.txns.take k).length<=8:=by simp;omega
  generalize r.txns[k]'(by omega)=x at *
  have hxl:(B++(r.txns.take k).flatMap XW).length<=83000:=by simp only[aL];omega
  have hmm:B++(r.txns.take k).flatMap XW++XW x=B++(r.txns.take (k+1)).flatMap XW:=by rw[hts];simp
  generalize hX:B++(r.txns.take k).flatMap XW=X at *
  have hρ:=Hp.le_refl ρ1
  rw[e1]
  repeat' (first|(refine Zg rfl rfl rfl rfl (by simp) rfl rfl (λ bs=>?_);refine ZL _ (h:=Rem.here) (λ ρz hlz hfz=>?_);have hbs:=hfz _ (List.mem_singleton.2 rfl);clear hfz;have hρ:=Hp.le_trans hρ hlz;clear hlz;(try simp only[List.nil_append]))|(refine Za (.func 169) ?_;refine qC rfl rfl (wtxn_spec _ wb v r w2 X sp2 hown (by omega) x.txn g1) ?_;rintro v ρ' L' hle ⟨rfl,hl1,w3,sp3,hown,rfl⟩<;>(try simp only[kA]);have hρ:=Hp.le_trans hρ hl1;clear hl1)|(refine Za (.func 168) ?_;refine qC rfl rfl (wlong3_spec _ wb v r w3 _ sp3 hown (by (try simp only[aL,aC,List.length_nil,List.length_map,Zd])<;>omega) _ x.first x.last x.undo hbs g2 g3 g4) ?_;rintro v ρ' L' hle ⟨rfl,hl1,w4,sp4,hown,rfl⟩<;>(try simp only[kA]);have hρ:=Hp.le_trans hρ hl1;clear hl1)|(refine Za (.func 167) ?_;refine qC rfl rfl (YZ _ wb v r w4 _ sp4 hown (by (try simp only[aL,aC,List.length_nil,List.length_map,Zd])<;>omega) _ x.state hbs g5) ?_;rintro v ρ' L' hle ⟨rfl,hl1,w5,sp5,hown,rfl⟩<;>(try simp only[kA]);have hρ:=Hp.le_trans hρ hl1;clear hl1)|refine zV ?_|intro _)
  rw[<-e1]
  have e2:X++be 4 x.txn.toNat++(be 8 x.first++(be 8 x.last++be 8 x.undo))++[tB x.state]=B++(r.txns.take (k+1)).flatMap XW:=by rw[<-hmm];simp[XW]
  rw[e2] at hown ⊢
  refine rnG (k+1,_,w5,sp5) (⟨hlt,Hp.le_trans hle1 hρ,hown⟩)
 ·rw[show r.txns.take k=r.txns by rw[show k=r.txns.length by omega,List.take_length],hfin] at hown ⊢
  have hρ:=hle1
  obtain⟨B2,hB2⟩:∃B2,l++(be 4 r.nextTxn.toNat++Xt XW r.txns)=B2:=⟨_,rfl⟩
  have hlT:(Xt XW r.txns).length<=300:=by
   have:=ZW XW 29 r.txns (λ x _=>Nat.le_of_eq (ckTB_len x))
   unfold Xt;rw[aC];omega
  have hB2l:B2.length<=71000:=by rw[<-hB2];simp[Zd];omega
  rw[hB2] at hown ⊢
  repeat' (first|(refine Zg rfl rfl rfl rfl (by simp) rfl rfl (λ bs=>?_);refine ZL _ (h:=Rem.here) (λ ρz hlz hfz=>?_);have hbs:=hfz _ (List.mem_singleton.2 rfl);clear hfz;have hρ:=Hp.le_trans hρ hlz;clear hlz;(try simp only[List.nil_append]))|(refine Za (.func 167) ?_;refine qC rfl rfl (YZ _ wb v r w2 B2 sp2 hown (by omega) _ (v.d.n:Int) hbs (by omega)) ?_;rintro v ρ' L' hle ⟨rfl,hl1,w1,sp1,hown,rfl⟩<;>(try simp only[kA]);have hρ:=Hp.le_trans hρ hl1;clear hl1)|refine zV ?_|intro _)
  obtain⟨B3,hB3⟩:∃B3,B2++[tB (v.d.n:Int)]=B3:=⟨_,rfl⟩
  rw[hB3] at hown ⊢
  have hBl3:B3.length<=80001:=by rw[<-hB3];simp;omega
  have hfin3:B3++r.dirty.flatMap Wy=l++(be 4 r.nextTxn.toNat++(Xt XW r.txns++Xt Wy r.dirty)):=by rw[<-hB3,<-hB2];simp[Xt,hl2,tB]
  rw[show Xe w1 B3 sp1=Xe w1 (B3++(r.dirty.take 0).flatMap Wy) sp1 by simp]
  refine lpG (Nat×Hp×Value×(List Value)) [0,64,65] (λ z=>[(66,.int .i64 z.1)]) (λ z=>z.2.1) (λ z=>[Xe z.2.2.1 (B3++(r.dirty.take z.1).flatMap Wy) z.2.2.2,wrC wb v r z.2.2.1]) (λ z=>z.1<=v.d.n/\ρ.le z.2.1/\WN z.2.2.1 (B3++(r.dirty.take z.1).flatMap Wy) z.2.2.2) (λ z=>v.d.n-z.1) (0,ρ',w1,sp1) ⟨aZ _,hρ,by simpa using hown⟩ ?_
  rintro⟨j,ρ2,w3,sp3⟩ hI
  try simp only[kB] at hI ⊢
  try dsimp only at hI ⊢
  obtain⟨hj,hle2,hown⟩:=hI
  clear hρ
  by_cases hlj:j<v.d.n
  ·obtain⟨b,off,C,T,fr,e1,hbb,hfit,hcc⟩:=(hA2.mono hle2).get (show j<r.dirty.length by omega)
   have hts:=Xz Wy r.dirty j (by omega)
   have hmem:=aM (show j<r.dirty.length by omega)
   obtain⟨g1,g2⟩:=hL.di _ hmem
   have hfl:=ZW Wy 9 (r.dirty.take j) (λ x _=>Nat.le_of_eq (ckPB_len x))
   have htl:(r.dirty.take j).length<=64:=by simp;omega
   generalize r.dirty[j]'(by omega)=x at *
   have hxl:(B3++(r.dirty.take j).flatMap Wy).length<=83000:=by simp only[aL];omega
   have hmm:B3++(r.dirty.take j).flatMap Wy++Wy x=B3++(r.dirty.take (j+1)).flatMap Wy:=by rw[hts];simp
   generalize hX:B3++(r.dirty.take j).flatMap Wy=X at *
   have hρ:=Hp.le_refl ρ2
   rw[e1]
   repeat' (first|(refine Zg rfl rfl rfl rfl (by simp) rfl rfl (λ bs=>?_);refine ZL _ (h:=Rem.here) (λ ρz hlz hfz=>?_);have hbs:=hfz _ (List.mem_singleton.2 rfl);clear hfz;have hρ:=Hp.le_trans hρ hlz;clear hlz;(try simp only[List.nil_append]))|(refine Za (.func 167) ?_;refine qC rfl rfl (YZ _ wb v r w3 X sp3 hown (by omega) _ x.page hbs (by omega)) ?_;rintro v ρ' L' hle ⟨rfl,hl1,w4,sp4,hown,rfl⟩<;>(try simp only[kA]);have hρ:=Hp.le_trans hρ hl1;clear hl1)|(refine Za (.func 168) ?_;refine qC rfl rfl (wlong_spec _ wb v r w4 _ sp4 hown (by (try simp only[aL,aC,List.length_nil,List.length_map,Zd])<;>omega) _ x.since hbs g2) ?_;rintro v ρ' L' hle ⟨rfl,hl1,w5,sp5,hown,rfl⟩<;>(try simp only[kA]);have hρ:=Hp.le_trans hρ hl1;clear hl1)|refine zV ?_|intro _)
   rw[<-e1]
   have e2:X++[tB x.page]++be 8 x.since=B3++(r.dirty.take (j+1)).flatMap Wy:=by rw[<-hmm];simp[Wy]
   rw[e2] at hown ⊢
   refine rnG (j+1,_,w5,sp5) (⟨hlj,Hp.le_trans hle2 hρ,hown⟩)
  ·rw[show r.dirty.take j=r.dirty by rw[show j=r.dirty.length by omega,List.take_length],hfin3] at hown ⊢
   repeat' (first|refine zV ?_|intro _)
   exact qE ⟨rfl,hle2,w3,sp3,hown,rfl⟩
end Go.Proofs.E
