/- Laws of LogDoes. Part 16 of 30. -/
import Derived.Test.YthjhjmnmnbcioaaGreatD15
set_option linter.unusedVariables false
set_option linter.unusedSimpArgs false
set_option linter.unusedSectionVars false
namespace Go.Proofs.E
open Go Tryz
set_option maxRecDepth 4000
set_option maxHeartbeats 1000000
attribute [local irreducible] Yl TL TC TE Spec YL R1 Hp.le EnvLe TS TR YS Zt TP QP
theorem bytesR_spec (ρ:Hp)(w:CV)(c:Wm)(h:CIn ρ w c.rows c.kids)(hok:ZG c=true)(hir:∀r∈c.rows,r.id<65536)(hik:∀k∈c.kids,k.id<65536) :
  Spec prog 115 [.agg ⟨XI c.kind w⟩] ρ [] (λ v ρ' L'=>ρ.le ρ'/\∃a n c',v=.slice a n c'/\n<=c'/\SIn ρ' Zk a n (Ya c)/\L'=[]):=by
 obtain⟨hkind,hrl,hkl,hrow,hkid⟩:=Wg hok
 obtain⟨kind,rows,kids⟩:=c
 obtain⟨ra,rn,rc,ka,kn,kc⟩:=w
 obtain⟨hr,hk,hrb,hkb,hrc,hkc⟩:=h
 dsimp only at hkind hrc hkc hr hk hrb hkb hrow hkid hrl hkl hir hik ⊢
 have hrn:=hr.len
 have hkn:=hk.len
 have hcr:=lenB (n:=rn) (by omega)
 have hck:=lenB (n:=kn) (by omega)
 have hkB:=tB_eq (t:=kind) (by omega) (by omega)
 refine Zb func115 rfl rfl rfl λ u R=>?_
 simp only[Zc,kA]
 dsimp only[XI]
 repeat' (first|(refine Zg rfl rfl rfl rfl (by simp) rfl rfl (λ _=>?_);simp only[hkB])|refine zW ?_|intro _)
 rename_i b1 b2
 rw[show ([(b2,Obj.cells ⟨[Zk (tB kind)]⟩ 5 (0,0))]:List (Nat×Obj))=Zq (.slice (some ⟨b2,0,none⟩) 1 1) ([tB kind].map Zk) [] 5 from rfl]
 have hown0:OwnS (.slice (some ⟨b2,0,none⟩) 1 1) 1 ([tB kind].map Zk) [] 1:=⟨.inr ⟨b2,1,rfl,rfl,rfl,aR _⟩⟩
 generalize Value.slice (some ⟨b2,0,none⟩) 1 1=v0 at *
 rcases hkind with⟨rfl,rfl,rfl⟩|⟨rfl,rfl⟩|⟨rfl,rfl,hk1⟩
 ·repeat' (first|refine zW ?_|intro _)
  refine ZB _ (h:=Rem.here) (λ ρ6 hle6 hfz=>?_)
  obtain⟨a6,c6,rfl,hc6,hs6⟩:=hown0.sIn hfz
  exact qE ⟨hle6,a6,_,c6,rfl,hc6,hs6,rfl⟩
 ·have hX:∀B0,[tB 1]++[UInt8.ofNat rn]=B0->B0.length=2:=λ B0 e=>by rw[<-e];rfl
  repeat' (first|(refine Zg rfl rfl rfl rfl (by simp) rfl rfl (λ _=>?_);simp only[hcr])|(refine ZH (ys:=[Zk (UInt8.ofNat rn)]) (m:=1) rfl rfl hown0 (hR:=by infer_instance) SrcV.lit rfl rfl (by decide) rfl (by omega) (by omega) rfl (λ v1 sp1 hown1=>?_);rw[show [tB 1].map Zk++[Zk (UInt8.ofNat rn)]=(([tB 1]++[UInt8.ofNat rn])++(rows.take 0).flatMap ZE).map Zk by simp] at hown1 ⊢)|refine zW ?_|intro _)
  generalize hB0:[tB 1]++[UInt8.ofNat rn]=B0 at *
  have hBl:=hX _ rfl
  clear hX
  refine lpG (Nat×Hp×Value×(List Value)) [1,2,13,24,25] (λ z=>[(26,.int .i64 z.1),(3,z.2.2.1)]) (λ z=>z.2.1) (λ z=>[Zq z.2.2.1 ((B0++(rows.take z.1).flatMap ZE).map Zk) z.2.2.2 5,[(b1,.cells ⟨[.int .i64 1,.slice ra rn rc,.slice ka kn kc]⟩ 88 (0,0))]]) (λ z=>z.1<=rn/\ρ.le z.2.1/\OwnS z.2.2.1 (B0++(rows.take z.1).flatMap ZE).length ((B0++(rows.take z.1).flatMap ZE).map Zk) z.2.2.2 1) (λ z=>rn-z.1) (0,ρ,v1,sp1) ⟨aZ _,Hp.le_refl _,by simpa [hBl] using hown1⟩ ?_
  rintro⟨k,ρ1,v,sp⟩ hI
  try simp only[kB] at hI ⊢
  try dsimp only at hI ⊢
  obtain⟨hkn0,hle1,hown⟩:=hI
  by_cases hlt:k<rn
  ·obtain⟨b,off,C,T,fr,rfl,hb,hfit,hc⟩:=(hr.mono hle1).get (show k<rows.length by omega)
   have hmem:rows[k]'(by omega)∈rows:=aM _
   have hro:=hrow _ hmem
   have hid:=hir _ hmem
   have hts:=YU ZE rows k (by omega)
   have hfl:=ZW ZE 20 (rows.take k) (λ x hx=>rowB_le (hrow x (List.mem_of_mem_take hx)))
   have htl:(rows.take k).length<=4:=by simp;omega
   have hXl:(B0++(rows.take k).flatMap ZE).length<=100:=by simp only[aL];omega
   have hll:(B0++(rows.take k).flatMap ZE).length+(ZE (rows[k]'(by omega))).length=(B0++(rows.take (k+1)).flatMap ZE).length:=by rw[hts];simp;omega
   have hmm:B0++(rows.take k).flatMap ZE++ZE (rows[k]'(by omega))=B0++(rows.take (k+1)).flatMap ZE:=by rw[hts];simp
   have hrb20:=rowB_le hro
   generalize rows[k]'(by omega)=x at *
   repeat' (first|(refine Za (.func 179) ?_;refine qC rfl rfl (rowR6_spec _ x hro hid) ?_;rintro v2 ρ2 L2 hle0 ⟨hle2,sp2,hown2,rfl⟩;simp only[kA];refine ZL _ (h:=Rem.here) (λ ρ3 hle3 hfz=>?_);obtain⟨a3,c3,rfl,hc3,hs3⟩:=hown2.sIn hfz)|(refine ZH (ys:=(ZE x).map Zk) (m:=(ZE x).length) rfl rfl hown (hR:=by infer_instance) (SIn.srcV hs3) (by simp) (Yr _) (by decide) rfl (by omega) (by omega) rfl (λ v5 sp5 hown5=>?_);rw[<-List.map_append,hmm] at hown5 ⊢;rw[hll] at hown5)|refine zW ?_|intro _)
   refine rnG (k+1,_,v5,sp5) (⟨hlt,Hp.le_trans hle1 (Hp.le_trans hle2 hle3),hown5⟩)
  ·have hk2:k=rn:=by omega
   subst hk2
   rw[aT (by omega)] at hown ⊢
   have hfin:B0++rows.flatMap ZE=Ya ⟨1,rows,[]⟩:=by rw[<-hB0];simp[Ya,cntB,hrn]
   rw[hfin] at hown ⊢
   repeat' (first|refine zW ?_|intro _)
   refine ZB _ (h:=Rem.here) (λ ρ6 hle6 hfz=>?_)
   obtain⟨a6,c6,rfl,hc6,hs6⟩:=hown.sIn hfz
   exact qE ⟨Hp.le_trans hle1 hle6,a6,_,c6,rfl,hc6,hs6,rfl⟩
 ·have hX:∀B0,[tB 2]++[UInt8.ofNat kn]=B0->B0.length=2:=λ B0 e=>by rw[<-e];rfl
  repeat' (first|(refine Zg rfl rfl rfl rfl (by simp) rfl rfl (λ _=>?_);simp only[hck])|(refine ZH (ys:=[Zk (UInt8.ofNat kn)]) (m:=1) rfl rfl hown0 (hR:=by infer_instance) SrcV.lit rfl rfl (by decide) rfl (by omega) (by omega) rfl (λ v1 sp1 hown1=>?_);rw[show [tB 2].map Zk++[Zk (UInt8.ofNat kn)]=(([tB 2]++[UInt8.ofNat kn])++(kids.take 0).flatMap Yq).map Zk by simp] at hown1 ⊢)|refine zW ?_|intro _)
  generalize hB0:[tB 2]++[UInt8.ofNat kn]=B0 at *
  have hBl:=hX _ rfl
  clear hX
  refine lpG (Nat×Value×(List Value)) [2,45,46] (λ z=>[(47,.int .i64 z.1),(3,z.2.1)]) (λ z=>ρ) (λ z=>[Zq z.2.1 ((B0++(kids.take z.1).flatMap Yq).map Zk) z.2.2 5]) (λ z=>z.1<=kn/\OwnS z.2.1 (B0++(kids.take z.1).flatMap Yq).length ((B0++(kids.take z.1).flatMap Yq).map Zk) z.2.2 1) (λ z=>kn-z.1) (0,v1,sp1) ⟨aZ _,by simpa [hBl] using hown1⟩ ?_
  rintro⟨j,v,sp⟩ hI
  try simp only[kB] at hI ⊢
  try dsimp only at hI ⊢
  obtain⟨hj0,hown⟩:=hI
  by_cases hlj:j<kn
  ·obtain⟨b,off,C,T,fr,rfl,hb,hfit,hc⟩:=hk.get (show j<kids.length by omega)
   have hmem:kids[j]'(by omega)∈kids:=aM _
   have hko:=hkid _ hmem
   have hid:=hik _ hmem
   have hts:=YU Yq kids j (by omega)
   have hfk:=ZW Yq 4 (kids.take j) (λ x hx=>Nat.le_of_eq (Vr x))
   have htl:(kids.take j).length<=4:=by simp;omega
   have hXl:(B0++(kids.take j).flatMap Yq).length<=200:=by simp only[aL];omega
   have hmm:B0++(kids.take j).flatMap Yq++XQ (kids[j]'(by omega)).t (kids[j]'(by omega)).id++[tB (kids[j]'(by omega)).page]=B0++(kids.take (j+1)).flatMap Yq:=by rw[hts];simp[Yq]
   have hll:(B0++(kids.take j).flatMap Yq).length+3+1=(B0++(kids.take (j+1)).flatMap Yq).length:=by rw[hts];simp[Vr];omega
   have hpg:=tB_eq (t:=(kids[j]'(by omega)).page) (by omega) (by omega)
   generalize kids[j]'(by omega)=x at *
   generalize hX:B0++(kids.take j).flatMap Yq=X at *
   have hkl:(XQ x.t x.id).length=3:=by simp[XQ,Zd]
   repeat' (first|refine zW ?_|intro _)
   rename_i b9
   refine tpA [0,1,2,5,6,7] (.b 3 8 [] [] (.b 4 8 [] [] (.e 8 [] (.e 9 [] (.f [10] .o))) (.e 4 [] (.e 9 [] (.f [10] .o)))) (.e 3 [] (.e 4 [] (.e 9 [] (.f [10] .o))))) ([[(b9,.cells ⟨Xj x⟩ 227 (0,0))]]) ?_
   repeat' (refine iT ?_;first|refine rA ?_|((first|(refine iE ?_;refine rE ?_)|(refine iB ?_;refine rB ?_ ?_))<;>((first|(refine Za (.func 180) ?_;refine qC rfl rfl (keyR_spec _ x.t x.id hko.1.1 (by omega) hid) ?_;rintro v ρ' L' hle ⟨rfl,bk,rfl,rfl⟩<;>(try simp only[kA]))|(refine Zg rfl rfl rfl rfl (by simp) rfl rfl (λ _=>?_);simp only[hpg])|(refine ZH (ys:=(XQ x.t x.id).map Zk) (m:=3) rfl rfl hown (hR:=by infer_instance) (SrcV.find (l:=(XQ x.t x.id).map Zk) (T:=5) (fr:=(0,0)) (n:=3) (by rw[List.drop_zero];exact aT (by simp[hkl]))) (by simp[hkl]) (Yr _) (by decide) rfl (by omega) (by omega) rfl (λ v4 sp4 hown4=>?_))|(refine ZH (ys:=[Zk (tB x.page)]) (m:=1) rfl rfl hown4 (hR:=by infer_instance) SrcV.lit rfl rfl (by decide) rfl (by omega) (by omega) rfl (λ v5 sp5 hown5=>?_);rw[show X.map Zk++(XQ x.t x.id).map Zk++[Zk (tB x.page)]=(X++XQ x.t x.id++[tB x.page]).map Zk by simp,hmm] at hown5 ⊢;rw[hll] at hown5)|(refine qEf ?_;try intro _))<;>(try simp only[kA])<;>refine zN ?_)))
   all_goals (repeat' (first|refine zW ?_|intro _))
   all_goals refine rnG (j+1,v5,sp5) (⟨hlj,hown5⟩)
  ·have hj2:j=kn:=by omega
   subst hj2
   rw[aT (by omega)] at hown ⊢
   have hfin:B0++kids.flatMap Yq=Ya ⟨2,[],kids⟩:=by rw[<-hB0];simp[Ya,cntB,hkn]
   rw[hfin] at hown ⊢
   repeat' (first|refine zW ?_|intro _)
   refine ZB _ (h:=Rem.here) (λ ρ6 hle6 hfz=>?_)
   obtain⟨a6,c6,rfl,hc6,hs6⟩:=hown.sIn hfz
   exact qE ⟨hle6,a6,_,c6,rfl,hc6,hs6,rfl⟩
end Go.Proofs.E
