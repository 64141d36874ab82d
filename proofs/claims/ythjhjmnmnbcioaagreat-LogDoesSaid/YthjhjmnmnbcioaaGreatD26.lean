/- Laws of LogDoes. Part 26 of 30. -/
import Derived.Test.YthjhjmnmnbcioaaGreatD25
set_option linter.unusedVariables false
set_option linter.unusedSimpArgs false
set_option linter.unusedSectionVars false
namespace Go.Proofs.E
open Go Tryz
set_option maxRecDepth 4000
set_option maxHeartbeats 1000000
attribute [local irreducible] Yl TL TC TE Spec YL R1 Hp.le EnvLe TS TR YS Zt TP QP
theorem sameT16 {ρ:Hp}{v v2:RV}{r r2:Rc}(h:RcIn ρ v r)(h2:RcIn ρ v2 r2)(e:r.plain=r2.plain):Spec prog 74 [.agg ⟨Yu v r⟩,.agg ⟨Yu v2 r2⟩] ρ [] (λ z ρ' L'=>z=.bool true/\ρ'=ρ/\L'=[]):=by
 refine (same12G_spec ρ v v2 r r2 h h2).mono ?_
 rintro z ρ' L' _ ⟨⟨b,q1,q2⟩,q3,q4⟩
 exact⟨by rw[q1,q2.2 e],q3,q4⟩
theorem master16_spec (ρ:Hp)(lb rb:Nat)(S:LgS)(v:Value) :
  Spec prog 69 [.pointer (some ⟨lb,0,none⟩)] ρ [ZU lb rb S v] (λ z ρ' L'=>z=.int .u64 (S.ma:Nat)/\ρ'=ρ/\L'=[ZU lb rb S v]):=by
 refine Zb func69 rfl rfl rfl λ u R=>?_
 simp only[Zc,kA]
 repeat' (first|refine zV ?_|intro _)
 exact qE (L':=[ZU lb rb S v]) ⟨rfl,rfl,rfl⟩
abbrev rg1C (rb db:Nat)(R:RgS)(w:RW):List (Nat×Obj):=[(rb,.cells ⟨rgV R db w⟩ 113 (0,0))]
theorem broken16_spec (ρ:Hp)(lb rb db:Nat)(S:LgS)(v:Value)(w:RW) :
  Spec prog 71 [.pointer (some ⟨lb,0,none⟩)] ρ [ZU lb rb S v,rg1C rb db S.R w] (λ z ρ' L'=>z=.bool S.R.broken/\ρ'=ρ/\L'=[ZU lb rb S v,rg1C rb db S.R w]):=by
 refine Zb func71 rfl rfl rfl λ u R=>?_
 simp only[Zc,kA]
 repeat' (first|(refine Za (.func 72) ?_;refine qR rfl rfl (broken_spec _ rb db S.R w) ?_;try simp only[kA])|refine zV ?_|intro _)
 exact qE (L':=[ZU lb rb S v,rg1C rb db S.R w]) ⟨rfl,rfl,rfl⟩
structure MlI (ρ:Hp)(ra:Option Addr)(n rc:Nat)(m:List RR):Prop where
 at':AIn ρ 10 rrV ra n m
 cap:n<=rc
 few:n<=1000
 rin:∀x∈m,RcIn ρ x.1 x.2
 ok:∀x∈m,Yk x.2=true
theorem MlI.mono {ρ ρ' ra n rc m}(h:MlI ρ ra n rc m)(hl:ρ.le ρ'):MlI ρ' ra n rc m:=⟨h.at'.mono hl,h.cap,h.few,λ x hx=>(h.rin x hx).mono hl,h.ok⟩
theorem used_ref16 (ρ:Hp)(ba ma fl nx:Nat)(ra:Option Addr)(n rc:Nat)(m:List RR)(h:MlI ρ ra n rc m) :
  Spec prog 47 [.agg ⟨mlV ba ma fl nx (.slice ra n rc)⟩] ρ [] (λ v ρ' L'=>v=.int .i64 (ZI m:Nat)/\ρ.le ρ'/\L'=[]):=by
 have hln:=h.at'.len
 have hfw:=h.few
 refine Zb func47 rfl rfl rfl λ u R=>?_
 simp only[Zc,kA]
 repeat' (first|refine zV ?_|intro _)
 refine lpG (Nat×Hp×Nat) [2,7,8] (λ z=>[(9,.int .i64 z.1),(3,.int .i64 z.2.2)]) (λ z=>z.2.1) (λ z=>[]) (λ z=>z.1<=n/\ρ.le z.2.1/\z.2.2=ZI (m.take z.1)/\z.2.2<=100*z.1) (λ z=>n-z.1) (0,ρ,0) ⟨aZ _,Hp.le_refl _,rfl,aZ _⟩ ?_
 rintro⟨i,ρ1,q⟩ hI
 try simp only[kB] at hI ⊢
 try dsimp only at hI ⊢
 obtain⟨hi,hl1,hq,hqb⟩:=hI
 by_cases hlt:i<n
 ·have hil:i<m.length:=by omega
  obtain⟨b,off,C,T,fr,e1,hb,hfit,hc⟩:=(h.at'.mono hl1).get hil
  have hx:=(h.rin _ (aM hil)).mono hl1
  have hok:=h.ok _ (aM hil)
  have hus:=usedR_take_succ m i hil
  rw[e1]
  generalize m[i]=y at *
  obtain⟨yv,yr⟩:=y
  dsimp only at hx hok hus hc
  have hco:=cost12_spec ρ1 yv yr hx (XZ hok)
  rw[show sectsB (Yv yr).length=Xh yr by rw[costN_ok hok];rfl] at hco
  have hcl:=costN_le yr
  generalize Xh yr=cn at *
  repeat' (first|(refine Za (.func 48) ?_;refine qC rfl rfl hco ?_;rintro v2 ρ2 L2 hle2 ⟨hl2,rfl,rfl⟩;try simp only[kA])|refine zV ?_|intro _)
  rw[<-e1]
  refine rnG (i+1,ρ2,q+cn) (⟨hlt,Hp.le_trans hl1 hl2,by dsimp only;omega,by dsimp only;omega⟩)
 ·rw[aT (by omega)] at hq
  subst hq
  repeat' (first|refine zV ?_|intro _)
  exact qE (L':=[]) ⟨rfl,hl1,rfl⟩
abbrev mdC (mb ob rb:Nat)(ba ma fl nx:Nat)(v:Value):List (Nat×Obj):=[(mb,.cells ⟨[.pointer (some ⟨ob,0,none⟩),.pointer (some ⟨rb,0,none⟩),.int .u64 ba,.int .u64 ma,.int .u64 fl,.int .i64 nx,v]⟩ 41 (0,0))]
def Nmb (b:Nat)(l:List RR):Prop:=∀i (h:i<l.length),(l[i]).2.lsn=b+i
theorem recF_at {S:LgS}(hn:Nmb S.base S.recs){i:Nat}(h:i<S.recs.length):recF S (S.base+i)=some S.recs[i]:=by
 unfold recF ZS
 rw[Wq S.recs S.base (S.base+i) hn,show S.base+i-S.base=i by omega,List.drop_eq_getElem_cons h]
 show (if _ then _ else _)=_
 rw[if_pos (hn i h)]
theorem recF_next {S:LgS}(hn:Nmb S.base S.recs):recF S S.next=none:=by
 unfold recF ZS
 rw[Wq S.recs S.base S.next hn,List.drop_of_length_le (by unfold LgS.next;omega)]
 rfl
theorem recF_low {S:LgS}(hn:Nmb S.base S.recs)(hb:1<=S.base):recF S (S.base-1)=none:=by
 unfold recF ZS
 rw[Wq S.recs S.base (S.base-1) hn,show S.base-1-S.base=0 by omega,List.drop_zero]
 cases hr:S.recs with
 | nil=>rfl
 | cons x r=>
  have:=hn 0 (by rw[hr];simp)
  simp only[hr,List.getElem_cons_zero] at this
  show (if _ then _ else _)=_
  rw[if_neg (by omega)]
theorem says16_spec (ρ:Hp)(lb rb db mb ob rb2:Nat)(S:LgS)(v:Value)(sp:List Value)(hS:LgIn ρ S v sp)(w:RW)(R2:RgS)(w2:RW)(hbr:R2.broken=S.R.broken)(nx:Nat)(hnx:S.nx=(nx:Int))(hn1:nx<=1073741824)
  (ra:Option Addr) (n rc:Nat) (m:List RR) (hm:MlI ρ ra n rc m) (hp:plL S.recs=plL m) (hnb:Nmb S.base S.recs) (hb1:1<=S.base) (hb2:S.base<=1099511627777) (hma:S.ma<18446744073709551616) (hfl:S.fl<18446744073709551616) :
  Spec prog 26 [.pointer (some ⟨mb,0,none⟩),.pointer (some ⟨lb,0,none⟩)] ρ [mdC mb ob rb2 S.base S.ma S.fl nx (.slice ra n rc),ZU lb rb S v,Xl S v sp,rg1C rb db S.R w,rg1C rb2 ob R2 w2]
   (λ z ρ' L'=>z=.bool true/\ρ.le ρ'/\L'=[mdC mb ob rb2 S.base S.ma S.fl nx (.slice ra n rc),ZU lb rb S v,Xl S v sp,rg1C rb db S.R w,rg1C rb2 ob R2 w2]):=by
 have hln:=hm.at'.len
 have hfw:=hm.few
 have hll:S.recs.length=n:=by have:=congrArg List.length hp;rw[plL,plL,List.length_map,List.length_map] at this;omega
 have hus:=usedR_plain hp
 have hnext:S.next=S.base+n:=by unfold LgS.next;omega
 have hNx:=λ ρ' (h:LgIn ρ' S v sp)=>We ρ' lb rb S v sp h
 have hNr:=λ ρ'=>next_ref16 ρ' S.base S.ma S.fl nx ra n rc (by omega)
 have hUl:=λ ρ'=>used16_spec ρ' lb rb S v
 rw[hnext] at hNx
 rw[hus] at hUl
 have hUr:=λ ρ' (h:MlI ρ' ra n rc m)=>used_ref16 ρ' S.base S.ma S.fl nx ra n rc m h
 refine Zb func26 rfl rfl rfl λ u R=>?_
 simp only[Zc,kA]
 repeat' (first|refine zV ?_|intro _)
 refine tpA [0,2,3,4,5,6] (.e 1 [7,8,9,11,12,13,14] (.e 10 [] (.e 15 [16,17,18,19,21,22,23,24,25] (.e 20 [26,27,28,29,31,32,33,34,35] (.e 30 [36,37,38,39,41,42,43,44,45] (.e 40 [46,47,48,49,51,52,53,54] (.e 50 [] (.e 55 [56,57,58,59,61,62,63,64] (.e 60 [] (.e 65 [] (.f [66,67] .o))))))))))) ([mdC mb ob rb2 S.base S.ma S.fl nx (.slice ra n rc)]) ?_
 repeat' (refine iT ?_;first|refine rA ?_|(refine rE ?_<;>((try refine ZM ?_);(first|(refine Za (.func 68) ?_;refine qC rfl rfl (base16_spec _ lb rb S v) ?_;rintro v ρ' L' hle ⟨rfl,rfl,rfl⟩<;>(try simp only[kA]))|(refine Za (.func 36) ?_;refine qC rfl rfl (hNx _ hS) ?_;rintro v ρ' L' hle ⟨rfl,rfl,rfl⟩<;>(try simp only[kA]))|(refine Za (.func 12) ?_;refine qC rfl rfl (hNr _) ?_;rintro v ρ' L' hle ⟨rfl,rfl,rfl⟩<;>(try simp only[kA]))|(refine Za (.func 34) ?_;refine qC rfl rfl (flushed16_spec _ lb rb S v) ?_;rintro v ρ' L' hle ⟨rfl,rfl,rfl⟩<;>(try simp only[kA]))|(refine Za (.func 69) ?_;refine qC rfl rfl (master16_spec _ lb rb S v) ?_;rintro v ρ' L' hle ⟨rfl,rfl,rfl⟩<;>(try simp only[kA]))|(refine Za (.func 70) ?_;refine qC rfl rfl (ntxn16_spec _ lb rb S v) ?_;rw[hnx];rintro v1 ρ1 L1 hle1 ⟨rfl,rfl,rfl⟩;try simp only[kA])|(refine Za (.func 37) ?_;refine qC rfl rfl (hUl _) ?_;rintro v ρ' L' hle ⟨rfl,rfl,rfl⟩<;>(try simp only[kA]))|(refine Za (.func 47) ?_;refine qC rfl rfl (hUr _ hm) ?_;rintro v2 ρ2 L2 hle2 ⟨rfl,hl2,rfl⟩;try simp only[kA])|(refine Za (.func 71) ?_;refine qC rfl rfl (broken16_spec _ lb rb db S v w) ?_;rintro v ρ' L' hle ⟨rfl,rfl,rfl⟩<;>(try simp only[kA]))|(refine Za (.func 72) ?_;refine qC rfl rfl (broken_spec _ rb2 ob R2 w2) ?_;rintro v ρ' L' hle ⟨rfl,rfl,rfl⟩<;>(try simp only[kA])))<;>(try simp only[kA])<;>refine zN ?_)))
 rw[hbr,show (!(S.R.broken == S.R.broken))=false by simp]
 have hS2:=hS.mono hl2
 have hm2:=hm.mono hl2
 have hf0:ZS S 0=S.recs:=by unfold ZS;rw[List.filter_eq_self];simp
 have hR0:=recs16_spec _ lb rb S v sp hS2 0
 rw[hf0,hll] at hR0
 repeat' (first|(refine Za (.func 38) ?_;refine qC rfl rfl hR0 ?_;rintro z3 ρ3 L3 hle3 ⟨hl3,sp3,hown3,rfl⟩;try simp only[kA];refine ZL (Zq z3 (YD S.recs) sp3 47) (λ ρ4 hl4 hfz4=>?_);obtain⟨ka,kc,rfl,hkc,hA⟩:=hown3.aIn (g:=rrV) (l:=S.recs) hll (λ _ _=>rfl) hfz4)|refine zV ?_|intro _)
 have hl24:=Hp.le_trans hl3 hl4
 have hS4:=hS2.mono hl24
 have hm4:=hm2.mono hl24
 refine lpG (Nat×Hp) [0,1,5,97,98] (λ z=>[(99,.int .i64 z.1),(4,.bool false)]) (λ z=>z.2) (λ z=>mdC mb ob rb2 S.base S.ma S.fl nx (.slice ra n rc)::ZU lb rb S v::Xl S v sp::rg1C rb db S.R w::[rg1C rb2 ob R2 w2]) (λ z=>z.1<=n/\ρ4.le z.2) (λ z=>n-z.1) (0,ρ4) ⟨aZ _,Hp.le_refl _⟩ ?_
 rintro⟨i,ρ5⟩ hI
 try simp only[kB] at hI ⊢
 try dsimp only at hI ⊢
 obtain⟨hi,hl5⟩:=hI
 have hS5:=hS4.mono hl5
 have hm5:=hm4.mono hl5
 have hl05:=Hp.le_trans hl2 (Hp.le_trans hl24 hl5)
 by_cases hlt:i<n
 ·have hil:i<m.length:=by omega
  have his:i<S.recs.length:=by omega
  obtain⟨b,off,C,T,fr,e1,hb,hfit,hc⟩:=hm5.at'.get hil
  obtain⟨b',off',C',T',fr',e2,hb',hfit',hc'⟩:=(hA.mono hl5).get his
  have hx:=hm5.rin _ (aM hil)
  have hy:=hS5.rin _ (aM his)
  have hpe:=plL_at hp his hil
  have hat:=recF_at hnb his
  have hls:(m[i]).2.lsn=S.base+i:=by rw[<-hnb i his];exact (congrArg Rc.lsn hpe).symm
  have hRe:=rec16_spec ρ5 lb rb S v sp hS5 (S.base+i)
  rw[hat] at hRe
  rw[<-hls] at hRe
  simp only[recAns,Option.getD_some,Option.isSome_some,if_true] at hRe
  rw[e1]
  generalize m[i]=x at *
  generalize S.recs[i]=y at *
  obtain⟨xv,xr⟩:=x
  obtain⟨yv,yr⟩:=y
  dsimp only at hx hy hpe hRe hc hc'
  have hsm:=λ ρ6 (h:ρ5.le ρ6)=>sameT16 (hy.mono h) (hx.mono h) hpe
  clear hat hls
  subst e2
  repeat' (first|(refine Za (.func 73) ?_;refine qC rfl rfl hRe ?_;rintro z6 ρ6 L6 hle6 ⟨rfl,hl6,rfl⟩;have hb6:=Hp.at' hl6 hb';try simp only[kA])|refine zV ?_|intro _)
  rename_i b7 b8
  refine tpA [0,1,2,3,4] (.e 5 [6,7,8,9,10,11,12,13] (.e 14 [] (.f [15,16] .o))) ([[(b7,.cells ⟨Yu xv xr⟩ 47 (0,0))],[(b8,.cells ⟨Yu yv yr⟩ 47 (0,0))]]) ?_
  repeat' (refine iT ?_;first|refine rA ?_|(refine rE ?_<;>((try refine ZM ?_);(first|(refine Za (.func 74) ?_;refine qC rfl rfl (hsm _ hl6) ?_;rintro v ρ' L' hle ⟨rfl,rfl,rfl⟩<;>(try simp only[kA])))<;>(try simp only[kA])<;>refine zN ?_)))
  repeat' (first|refine zV ?_|intro _)
  rw[<-e1]
  refine rnG (i+1,_) (⟨hlt,Hp.le_trans hl5 hl6⟩)
 ·have hnn:=recF_next hnb
  have hlow:=recF_low hnb hb1
  have hfn:ZS S (S.base+n)=[]:=by
   unfold ZS
   rw[Wq S.recs S.base (S.base+n) hnb,List.drop_of_length_le (by omega)]
  rw[hnext] at hnn
  have hRN:=λ ρ6 (h:LgIn ρ6 S v sp)=>rec16_spec ρ6 lb rb S v sp h (S.base+n)
  have hRL:=λ ρ6 (h:LgIn ρ6 S v sp)=>rec16_spec ρ6 lb rb S v sp h (S.base-1)
  have hRs:=λ ρ6 (h:LgIn ρ6 S v sp)=>recs16_spec ρ6 lb rb S v sp h (S.base+n)
  simp only[hnn,recAns,Option.getD_none,Option.isSome_none,aB,if_false] at hRN
  simp only[hlow,recAns,Option.getD_none,Option.isSome_none,aB,if_false] at hRL
  rw[hfn] at hRs
  have hsb:((S.base:Nat):Int)-1=((S.base-1:Nat):Int):=by omega
  clear hA
  repeat' (first|(refine Za (.func 12) ?_;refine qC rfl rfl (hNr _) ?_;rintro v ρ' L' hle ⟨rfl,rfl,rfl⟩<;>(try simp only[kA]))|refine zV ?_|intro _)
  refine Za (.func 73) ?_
  refine qC rfl rfl (hRN _ hS5) ?_
  rintro z6 ρ6 L6 hle6 ⟨rfl,hl6,rfl⟩
  try simp only[kA]
  repeat' (first|refine zV ?_|intro _)
  simp only[hsb]
  refine Za (.func 73) ?_
  refine qC rfl rfl (hRL _ (hS5.mono hl6)) ?_
  rintro z7 ρ7 L7 hle7 ⟨rfl,hl7,rfl⟩
  try simp only[kA]
  repeat' (first|(refine Za (.func 12) ?_;refine qC rfl rfl (hNr _) ?_;rintro v ρ' L' hle ⟨rfl,rfl,rfl⟩<;>(try simp only[kA]))|(refine Za (.func 38) ?_;refine qC rfl rfl (hRs _ ((hS5.mono hl6).mono hl7)) ?_;rintro z8 ρ8 L8 hle8 ⟨hl8,sp8,hown8,rfl⟩;obtain⟨ka8,kc8,rfl,_⟩:=hown8.slice;try simp only[kA])|refine zV ?_|intro _)
  have hfin:=Hp.le_trans hl05 (Hp.le_trans hl6 (Hp.le_trans hl7 hl8))
  exact qE (L':=[mdC mb ob rb2 S.base S.ma S.fl nx (.slice ra n rc),ZU lb rb S v,Xl S v sp,rg1C rb db S.R w,rg1C rb2 ob R2 w2]) ⟨rfl,hfin,rfl⟩
end Go.Proofs.E
