/- Laws of LogReads. Part 16 of 28. -/
import Derived.Test.YtpcfmhifkkpjpaaGreatC15
namespace Go.Proofs.E
open Go
set_option linter.unusedVariables false
set_option linter.unusedSimpArgs false
set_option linter.unusedSectionVars false
set_option maxRecDepth 4000
set_option maxHeartbeats 1000000
attribute [local irreducible] Yl TL TC TE Spec ZI R1 Hp.le EnvLe TS TR YS Zp TP QP
theorem bytesR_spec (ρ:Hp)(w:CV)(c:Wq)(h:CIn ρ w c.rows c.kids)(hok:ZJ c=true)(hir:∀r∈c.rows,r.id<65536)(hik:∀k∈c.kids,k.id<65536) :
  Spec Tryz.prog 89 [.agg ⟨XI c.kind w⟩] ρ [] (fun v ρ' L'=>ρ.le ρ'∧∃a n c',v=.slice a n c'∧n≤c'∧SIn ρ' Zo a n (Yd c)∧L'=[]):=by
 obtain⟨hkind,hrl,hkl,hrow,hkid⟩:=Wk hok
 obtain⟨kind,rows,kids⟩:=c
 obtain⟨ra,rn,rc,ka,kn,kc⟩:=w
 obtain⟨hr,hk,hrb,hkb,hrc,hkc⟩:=h
 dsimp only at hkind hrc hkc hr hk hrb hkb hrow hkid hrl hkl hir hik ⊢
 have hrn:=hr.len
 have hkn:=hk.len
 have hcr:=lenB (n:=rn) (by omega)
 have hck:=lenB (n:=kn) (by omega)
 have hkB:=tB_eq (t:=kind) (by omega) (by omega)
 refine Zb Tryz.func89 rfl rfl rfl fun u R=>?_
 simp only[Zd,kA]
 dsimp only[XI]
 repeat' (first|(refine Zm rfl rfl rfl rfl (by simp) rfl rfl (fun _=>?_);simp only[hkB])|refine zW ?_|intro _)
 rename_i b1 b2
 rw[show ([(b2,Obj.cells ⟨[Zo (tB kind)]⟩ 5 (0,0))]:List (Nat×Obj))=Zz (.slice (some ⟨b2,0,none⟩) 1 1) ([tB kind].map Zo) [] 5 from rfl]
 have hown0:OwnS (.slice (some ⟨b2,0,none⟩) 1 1) 1 ([tB kind].map Zo) [] 1:=⟨.inr ⟨b2,1,rfl,rfl,rfl,Nat.le_refl _⟩⟩
 generalize Value.slice (some ⟨b2,0,none⟩) 1 1=v0 at *
 rcases hkind with⟨rfl,rfl,rfl⟩|⟨rfl,rfl⟩|⟨rfl,rfl,hk1⟩
 ·repeat' (first|refine zW ?_|intro _)
  refine ZM _ (h:=Rem.here) (fun ρ6 hle6 hfz=>?_)
  obtain⟨a6,c6,rfl,hc6,hs6⟩:=hown0.sIn hfz
  exact qE ⟨hle6,a6,_,c6,rfl,hc6,hs6,rfl⟩
 ·have hX:∀B0,[tB 1]++[UInt8.ofNat rn]=B0→B0.length=2:=fun B0 e=>by rw[←e];rfl
  repeat' (first|(refine Zm rfl rfl rfl rfl (by simp) rfl rfl (fun _=>?_);simp only[hcr])|(refine ZK (ys:=[Zo (UInt8.ofNat rn)]) (m:=1) rfl rfl hown0 (hR:=by infer_instance) SrcV.lit rfl rfl (by decide) rfl (by omega) (by omega) rfl (fun v1 sp1 hown1=>?_);rw[show [tB 1].map Zo++[Zo (UInt8.ofNat rn)]=(([tB 1]++[UInt8.ofNat rn])++(rows.take 0).flatMap ZG).map Zo by simp] at hown1 ⊢)|refine zW ?_|intro _)
  generalize hB0:[tB 1]++[UInt8.ofNat rn]=B0 at *
  have hBl:=hX _ rfl
  clear hX
  refine Zi [(1,_),(2,_),(13,_),(24,_),(25,_)] (fun (ζ:(Nat)×(Hp)×(Value)×(List Value))=>[(26,.int .i64 ζ.1),(3,ζ.2.2.1)]) (fun (ζ:(Nat)×(Hp)×(Value)×(List Value))=>ζ.2.1) (fun (ζ:(Nat)×(Hp)×(Value)×(List Value))=>[Zz ζ.2.2.1 ((B0++(rows.take ζ.1).flatMap ZG).map Zo) ζ.2.2.2 5,[(b1,.cells ⟨[.int .i64 1,.slice ra rn rc,.slice ka kn kc]⟩ 112 (0,0))]]) (fun (ζ:(Nat)×(Hp)×(Value)×(List Value))=>ζ.1≤rn∧ρ.le ζ.2.1∧OwnS ζ.2.2.1 (B0++(rows.take ζ.1).flatMap ZG).length ((B0++(rows.take ζ.1).flatMap ZG).map Zo) ζ.2.2.2 1) (fun (ζ:(Nat)×(Hp)×(Value)×(List Value))=>rn-ζ.1) ((0,ρ,v1,sp1)) (⟨Nat.zero_le _,Hp.le_refl _,by simpa [hBl] using hown1⟩) Zc Zc rfl tk ?_
  rintro⟨k,ρ1,v,sp⟩ hI
  try simp only[kA,List.append_assoc] at hI ⊢
  try dsimp only at hI ⊢
  obtain⟨hkn0,hle1,hown⟩:=hI
  by_cases hlt:k<rn
  ·obtain⟨b,off,C,T,fr,rfl,hb,hfit,hc⟩:=(hr.mono hle1).get (show k<rows.length by omega)
   have hmem:rows[k]'(by omega)∈rows:=List.getElem_mem _
   have hro:=hrow _ hmem
   have hid:=hir _ hmem
   have hts:=YY ZG rows k (by omega)
   have hfl:=ZZ ZG 20 (rows.take k) (fun x hx=>rowB_le (hrow x (List.mem_of_mem_take hx)))
   have htl:(rows.take k).length≤4:=by simp;omega
   have hXl:(B0++(rows.take k).flatMap ZG).length≤100:=by simp only[List.length_append];omega
   have hll:(B0++(rows.take k).flatMap ZG).length+(ZG (rows[k]'(by omega))).length=(B0++(rows.take (k+1)).flatMap ZG).length:=by rw[hts];simp;omega
   have hmm:B0++(rows.take k).flatMap ZG++ZG (rows[k]'(by omega))=B0++(rows.take (k+1)).flatMap ZG:=by rw[hts];simp
   have hrb20:=rowB_le hro
   generalize rows[k]'(by omega)=x at *
   repeat' (first|(refine Za (.func 170) ?_;refine qC rfl rfl (rowR6_spec _ x hro hid) ?_;rintro v2 ρ2 L2 hle0 ⟨hle2,sp2,hown2,rfl⟩;simp only[kA];refine ZS _ (h:=Rem.here) (fun ρ3 hle3 hfz=>?_);obtain⟨a3,c3,rfl,hc3,hs3⟩:=hown2.sIn hfz)|(refine ZK (ys:=(ZG x).map Zo) (m:=(ZG x).length) rfl rfl hown (hR:=by infer_instance) (SIn.srcV hs3) (by simp) (Yn _) (by decide) rfl (by omega) (by omega) rfl (fun v5 sp5 hown5=>?_);rw[←List.map_append,hmm] at hown5 ⊢;rw[hll] at hown5)|refine zW ?_|intro _)
   refine Ze (k+1,_,v5,sp5) (⟨hlt,Hp.le_trans hle1 (Hp.le_trans hle2 hle3),hown5⟩) Zc Zc rfl tk inferInstance (by first|omega|(dsimp only;omega))
  ·have hk2:k=rn:=by omega
   subst hk2
   rw[List.take_of_length_le (by omega)] at hown ⊢
   have hfin:B0++rows.flatMap ZG=Yd ⟨1,rows,[]⟩:=by rw[←hB0];simp[Yd,cntB,hrn]
   rw[hfin] at hown ⊢
   repeat' (first|refine zW ?_|intro _)
   refine ZM _ (h:=Rem.here) (fun ρ6 hle6 hfz=>?_)
   obtain⟨a6,c6,rfl,hc6,hs6⟩:=hown.sIn hfz
   exact qE ⟨Hp.le_trans hle1 hle6,a6,_,c6,rfl,hc6,hs6,rfl⟩
 ·have hX:∀B0,[tB 2]++[UInt8.ofNat kn]=B0→B0.length=2:=fun B0 e=>by rw[←e];rfl
  repeat' (first|(refine Zm rfl rfl rfl rfl (by simp) rfl rfl (fun _=>?_);simp only[hck])|(refine ZK (ys:=[Zo (UInt8.ofNat kn)]) (m:=1) rfl rfl hown0 (hR:=by infer_instance) SrcV.lit rfl rfl (by decide) rfl (by omega) (by omega) rfl (fun v1 sp1 hown1=>?_);rw[show [tB 2].map Zo++[Zo (UInt8.ofNat kn)]=(([tB 2]++[UInt8.ofNat kn])++(kids.take 0).flatMap Yw).map Zo by simp] at hown1 ⊢)|refine zW ?_|intro _)
  generalize hB0:[tB 2]++[UInt8.ofNat kn]=B0 at *
  have hBl:=hX _ rfl
  clear hX
  refine Zi [(2,_),(45,_),(46,_)] (fun (ζ:(Nat)×(Value)×(List Value))=>[(47,.int .i64 ζ.1),(3,ζ.2.1)]) (fun (ζ:(Nat)×(Value)×(List Value))=>ρ) (fun (ζ:(Nat)×(Value)×(List Value))=>[Zz ζ.2.1 ((B0++(kids.take ζ.1).flatMap Yw).map Zo) ζ.2.2 5]) (fun (ζ:(Nat)×(Value)×(List Value))=>ζ.1≤kn∧OwnS ζ.2.1 (B0++(kids.take ζ.1).flatMap Yw).length ((B0++(kids.take ζ.1).flatMap Yw).map Zo) ζ.2.2 1) (fun (ζ:(Nat)×(Value)×(List Value))=>kn-ζ.1) ((0,v1,sp1)) (⟨Nat.zero_le _,by simpa [hBl] using hown1⟩) Zc Zc rfl tk ?_
  rintro⟨j,v,sp⟩ hI
  try simp only[kA,List.append_assoc] at hI ⊢
  try dsimp only at hI ⊢
  obtain⟨hj0,hown⟩:=hI
  by_cases hlj:j<kn
  ·obtain⟨b,off,C,T,fr,rfl,hb,hfit,hc⟩:=hk.get (show j<kids.length by omega)
   have hmem:kids[j]'(by omega)∈kids:=List.getElem_mem _
   have hko:=hkid _ hmem
   have hid:=hik _ hmem
   have hts:=YY Yw kids j (by omega)
   have hfk:=ZZ Yw 4 (kids.take j) (fun x hx=>Nat.le_of_eq (Vs x))
   have htl:(kids.take j).length≤4:=by simp;omega
   have hXl:(B0++(kids.take j).flatMap Yw).length≤200:=by simp only[List.length_append];omega
   have hmm:B0++(kids.take j).flatMap Yw++XT (kids[j]'(by omega)).t (kids[j]'(by omega)).id++[tB (kids[j]'(by omega)).page]=B0++(kids.take (j+1)).flatMap Yw:=by rw[hts];simp[Yw]
   have hll:(B0++(kids.take j).flatMap Yw).length+3+1=(B0++(kids.take (j+1)).flatMap Yw).length:=by rw[hts];simp[Vs];omega
   have hpg:=tB_eq (t:=(kids[j]'(by omega)).page) (by omega) (by omega)
   generalize kids[j]'(by omega)=x at *
   generalize hX:B0++(kids.take j).flatMap Yw=X at *
   have hkl:(XT x.t x.id).length=3:=by simp[XT,Zf]
   repeat' (first|refine zW ?_|intro _)
   rename_i b9
   refine tpA [0,1,2,5,6,7] (.b 3 8 [] [] (.b 4 8 [] [] (.e 8 [] (.e 9 [] (.f [10] .o))) (.e 4 [] (.e 9 [] (.f [10] .o)))) (.e 3 [] (.e 4 [] (.e 9 [] (.f [10] .o))))) ([[(b9,.cells ⟨Xl x⟩ 238 (0,0))]]) ?_
   repeat' (refine iT ?_;first|refine rA ?_|((first|(refine iE ?_;refine rE ?_)|(refine iB ?_;refine rB ?_ ?_))<;>((try refine Zn ?_);(first|(refine Za (.func 171) ?_;refine qC rfl rfl (keyR_spec _ x.t x.id hko.1.1 (by omega) hid) ?_;rintro v ρ' L' hle ⟨rfl,bk,rfl,rfl⟩<;>(try simp only[kA]))|(refine Zm rfl rfl rfl rfl (by simp) rfl rfl (fun _=>?_);simp only[hpg])|(refine ZK (ys:=(XT x.t x.id).map Zo) (m:=3) rfl rfl hown (hR:=by infer_instance) (SrcV.find (l:=(XT x.t x.id).map Zo) (T:=5) (fr:=(0,0)) (n:=3) (by rw[List.drop_zero];exact List.take_of_length_le (by simp[hkl]))) (by simp[hkl]) (Yn _) (by decide) rfl (by omega) (by omega) rfl (fun v4 sp4 hown4=>?_))|(refine ZK (ys:=[Zo (tB x.page)]) (m:=1) rfl rfl hown4 (hR:=by infer_instance) SrcV.lit rfl rfl (by decide) rfl (by omega) (by omega) rfl (fun v5 sp5 hown5=>?_);rw[show X.map Zo++(XT x.t x.id).map Zo++[Zo (tB x.page)]=(X++XT x.t x.id++[tB x.page]).map Zo by simp,hmm] at hown5 ⊢;rw[hll] at hown5)|(refine Yj ?_;try intro _))<;>((try simp only[kA]);refine Zj ?_;refine rN ?_))))
   all_goals (repeat' (first|refine zW ?_|intro _))
   all_goals refine Ze (j+1,v5,sp5) (⟨hlj,hown5⟩) Zc Zc rfl tk inferInstance (by first|omega|(dsimp only;omega))
  ·have hj2:j=kn:=by omega
   subst hj2
   rw[List.take_of_length_le (by omega)] at hown ⊢
   have hfin:B0++kids.flatMap Yw=Yd ⟨2,[],kids⟩:=by rw[←hB0];simp[Yd,cntB,hkn]
   rw[hfin] at hown ⊢
   repeat' (first|refine zW ?_|intro _)
   refine ZM _ (h:=Rem.here) (fun ρ6 hle6 hfz=>?_)
   obtain⟨a6,c6,rfl,hc6,hs6⟩:=hown.sIn hfz
   exact qE ⟨hle6,a6,_,c6,rfl,hc6,hs6,rfl⟩
end Go.Proofs.E
