/- Laws of PoolRule. Part 24 of 26. -/
import Derived.Test.YthjhjmnmnbcioaaGreatE23
set_option linter.unusedVariables false
set_option linter.unusedSimpArgs false
set_option linter.unusedSectionVars false
namespace Go.Proofs.E
open Go Tryz
set_option maxRecDepth 4000
set_option maxHeartbeats 1000000
attribute [local irreducible] Yl TL TC TE Spec YW R1 Hp.le EnvLe TS TR YS Zv TP QP
theorem StoK.toA {R:RgS}{D:DS}(h:StoK R 0 0 D 0 (λ _=>zHeld)):StoA R 0 0 D 0 (λ _=>zHeld):=
 ⟨h.good.ro,h.good.frs,h.good.calm.lv,h.fo,h.head,h.used,by rw[List.eq_nil_of_length_eq_zero h.ents];rfl,aR _,by omega,λ n _=>aR _⟩
theorem StoA.arm {R:RgS}{fl m:Nat}{D:DS}{t:Nat}{held:Nat->ZS}(h:StoA R fl m D t held){x:Int}(hok:DS.Ok { D with armed:=x }):StoA R fl m { D with armed:=x } t held:=
 ⟨h.ro.frame hok h.ro.alive h.ro.empty rfl (λ _ _=>rfl),h.frs,⟨rfl,rfl,h.lv.failing,h.lv.dead⟩,h.fo.frame hok h.fo.alive h.fo.empty rfl (λ _ _ _=>rfl),h.head,h.used,h.ents,h.le,h.few,h.low⟩
theorem kdead17 (ρ:Hp)(db:Nat)(k:DK)(D:DS)(h:D.dead=true):Spec prog 32 [.pointer (some ⟨db,0,none⟩)] ρ (Zg db k D) (λ v ρ' L'=>v=.bool true/\ρ'=ρ/\L'=Zg db k D):=
 (dead_disk ρ db k.hb k.mb k.es k.ck D).mono (λ v ρ' L' _ ⟨h1,h2,h3⟩=>⟨by rw[h1,h],h2,h3⟩)
theorem St.mono {ρ ρ':Hp}{m fl t:Nat}{R:RgS}{w:RW}{D:DS}{k:DK}{held:Nat->ZS}{pg:Pgs}{es:List MapEntry}{va:Value}{sp:List Value}{pa qa:Option Addr}(h:St ρ m fl t R w D k held pg es va sp pa qa)(hl:ρ.le ρ'):St ρ' m fl t R w D k held pg es va sp pa qa:=by
 obtain⟨P,Q,h1,h2,h3,h4⟩:=h.md
 exact⟨h.st,h.lg.mono hl,h.rg.mono hl,h.dk,h.mp.mono hl,h.inv,P,Q,h1.mono hl,h2.mono hl,h3,h4⟩
theorem St.lv {ρ:Hp}{m fl t:Nat}{R:RgS}{w:RW}{D D':DS}{k:DK}{held:Nat->ZS}{pg:Pgs}{es:List MapEntry}{va:Value}{sp:List Value}{pa qa:Option Addr}(h:St ρ m fl t R w D k held pg es va sp pa qa)(hk:DOk k D')(hl:Lv D D')(hf:FO D' 902 t held):St ρ m fl t R w D' k held pg es va sp pa qa:=
 ⟨h.st.lv' hl hf,h.lg,h.rg,hk,h.mp,h.inv,h.md⟩
abbrev cutV (arm:Int)(ka:Option Addr)(kn kc:Nat):List Value:=[.int .i64 arm,.slice ka kn kc]
def Live (ρ:Hp)(i m fl t:Nat)(R:RgS)(w:RW)(D:DS)(k:DK)(held:Nat->ZS)(pg:Pgs)(es:List MapEntry)(va:Value)(sp:List Value)(pa qa:Option Addr)(nx f2:Nat):Prop:=
 nx=m+1/\f2=fl/\m<=i/\t<=i/\D.armed=-1/\St ρ m fl t R w D k held pg es va sp pa qa
theorem rule17_spec (ρ:Hp)(a:Option Addr)(n c:Nat)(ops:List OpV)(hops:AIn ρ 4 opC a n ops)(hin:∀e∈ops,OpIn ρ e)(hbig:n<=9223372036854775807)(arm:Int)(harm:-9223372036854775808<=arm/\arm<=9223372036854775807)(ka:Option Addr)(kn kc:Nat)(ks:List Bool)(hk:SIn ρ bb ka kn ks)(hkc:kn<=kc)(hkb:kn<=9223372036854775807) :
  Spec prog 4 [.slice a n c,.agg ⟨cutV arm ka kn kc⟩] ρ [] (λ v ρ' L'=>v=.bool true/\ρ.le ρ'/\L'=[]):=by
 have hln:=hops.len
 obtain⟨x,hx,hx30⟩:=u64_mod17 arm 30 (by omega) (by omega)
 refine Za func4 rfl rfl rfl λ u RR=>?_
 simp only[Zc,kA]
 have hkcs:4000<kn\/¬4000<kn:=by omega
 rcases hkcs with hkx|hkx
 case' inl=>
  repeat' (first|(refine Zb (.func 27) ?_;refine qC rfl rfl (wakes17_spec _) ?_;rintro v ρ' L' hle ⟨rfl,hl1,rfl⟩<;>(try simp only[kA]))|(refine Zb (.func 28) ?_;refine qC rfl rfl (begun17_spec _) ?_;rintro v2 ρ2 L2 hq2 ⟨hl2,xb,db,fb,lb,rb,pb,mb,w1,k1,R1,D1,rfl,hx2,hp2,hf2,hr2,hk2,st2,rfl⟩;try simp only[kB])|refine zV ?_|intro _)
  exact qE (L':=[]) ⟨rfl,Hp.le_trans hl1 hl2,rfl⟩
 case' inr=>
  repeat' (first|(refine Zb (.func 27) ?_;refine qC rfl rfl (wakes17_spec _) ?_;rintro v ρ' L' hle ⟨rfl,hl1,rfl⟩<;>(try simp only[kA]))|(refine Zb (.func 28) ?_;refine qC rfl rfl (begun17_spec _) ?_;rintro v2 ρ2 L2 hq2 ⟨hl2,xb,db,fb,lb,rb,pb,mb,w1,k1,R1,D1,rfl,hx2,hp2,hf2,hr2,hk2,st2,rfl⟩;try simp only[kB])|(refine Zb (.func 29) ?_;refine qC rfl rfl (new17r_spec _) ?_;rintro v3 ρ3 L3 hq3 ⟨hl3,rfl,pa3,pc3,qa3,qc3,rfl,hP3,hQ3⟩;try simp only[kB])|refine zV ?_|intro _)
 rename_i b3 b7
 have hl12:=Hp.le_trans hl1 hl2
 have hl13:=Hp.le_trans hl12 hl3
 have hzg:∀n,pg0 n=none:=λ _=>rfl
 have hlive0:Live ρ3 0 0 0 0 R1 w1 D1 k1 (λ _=>zHeld) pg0 [] (.slice none 0 0) [] pa3 qa3 1 0:=⟨rfl,rfl,aR _,aR _,st2.good.calm.armed,⟨st2.toA,pS_in _,hr2.mono hl3,hk2,mp0,Inv.zero hzg,List.replicate 64 zMH,List.replicate 64 zMH,hP3,hQ3,λ n hn=>by
  rw[List.getD_eq_getElem?_getD,List.getElem?_replicate,if_pos hn];rfl,λ n hn=>by
  rw[List.getD_eq_getElem?_getD,List.getElem?_replicate,if_pos hn];rfl⟩⟩
 refine lpG (Nat×Hp×Nat×Nat×Nat×RgS×RW×DS×DK×(Nat->ZS)×Pgs×(List MapEntry)×Nat×Value×(List Value)×(Option Addr)×Nat×(Option Addr)×Nat×Nat×Nat×Bool) [0,3,5,7,37,38] (λ z=>[(39,.int .i64 z.1),(4,.bool false),(6,.bool z.2.2.2.2.2.2.2.2.2.2.2.2.2.2.2.2.2.2.2.2.2)]) (λ z=>z.2.1) (λ z=>[(b7,.cells ⟨mdV z.2.2.2.2.2.2.2.2.2.2.2.2.2.2.2.1 z.2.2.2.2.2.2.2.2.2.2.2.2.2.2.2.2.1 z.2.2.2.2.2.2.2.2.2.2.2.2.2.2.2.2.2.1 z.2.2.2.2.2.2.2.2.2.2.2.2.2.2.2.2.2.2.1 z.2.2.2.2.2.2.2.2.2.2.2.2.2.2.2.2.2.2.2.1 z.2.2.2.2.2.2.2.2.2.2.2.2.2.2.2.2.2.2.2.2.1⟩ 73 (0,0))]::[(b3,.cells ⟨cutV arm ka kn kc⟩ 67 (0,0))]::poL mb lb rb db z.2.2.1 z.2.2.2.1 z.2.2.2.2.2.1 z.2.2.2.2.2.2.1 z.2.2.2.2.2.2.2.1 z.2.2.2.2.2.2.2.2.1 z.2.2.2.2.2.2.2.2.2.2.2.1 z.2.2.2.2.2.2.2.2.2.2.2.2.1 z.2.2.2.2.2.2.2.2.2.2.2.2.2.1 z.2.2.2.2.2.2.2.2.2.2.2.2.2.2.1) (λ z=>z.1<=n/\z.1<=40/\ρ3.le z.2.1/\DOk z.2.2.2.2.2.2.2.2.1 z.2.2.2.2.2.2.2.1/\Cr z.2.2.2.2.2.2.2.1 z.2.2.1/\(Live z.2.1 z.1 z.2.2.1 z.2.2.2.1 z.2.2.2.2.1 z.2.2.2.2.2.1 z.2.2.2.2.2.2.1 z.2.2.2.2.2.2.2.1 z.2.2.2.2.2.2.2.2.1 z.2.2.2.2.2.2.2.2.2.1 z.2.2.2.2.2.2.2.2.2.2.1 z.2.2.2.2.2.2.2.2.2.2.2.1 z.2.2.2.2.2.2.2.2.2.2.2.2.2.1 z.2.2.2.2.2.2.2.2.2.2.2.2.2.2.1 z.2.2.2.2.2.2.2.2.2.2.2.2.2.2.2.1 z.2.2.2.2.2.2.2.2.2.2.2.2.2.2.2.2.2.1 z.2.2.2.2.2.2.2.2.2.2.2.2.2.2.2.2.2.2.2.1 z.2.2.2.2.2.2.2.2.2.2.2.2.2.2.2.2.2.2.2.2.1\/z.1=n\/z.1=40)) (λ z=>n-z.1) ((0,ρ3,0,0,0,R1,w1,D1,k1,(λ _=>zHeld),pg0,[],0,.slice none 0 0,[],pa3,pc3,qa3,qc3,1,0,true)) ⟨aZ _,aZ _,Hp.le_refl _,hk2,st2.toA.cr,.inl hlive0⟩ ?_
 rintro⟨i,ρa,m,fl,t,R,w,D,k,held,pg,es,ck,va,sp,pa,pc,qa,qc,nx,f2,bo⟩ hI
 try simp only[kB] at hI ⊢
 try dsimp only at hI ⊢
 obtain⟨hi,hi40,hla,hdk,hcr,hlv⟩:=hI
 by_cases hgo:i<n/\i≠40
 ·have hi41:¬((i:Nat):Int)=40:=by omega
  have hil:i<ops.length:=by omega
  have hl0a:=Hp.le_trans hl13 hla
  obtain⟨b,off,C,T,fr,e1,hb0,hfit,hc⟩:=(hops.mono hl0a).get hil
  have he:=(hin _ (aM hil)).mono hl0a
  rw[e1]
  generalize ops[i]=e at *
  obtain⟨hnx,hf2',hmi,hti,har,hSt⟩:Live ρa i m fl t R w D k held pg es va sp pa qa nx f2:=by
   rcases hlv with h|h|h
   ·exact h
   ·exact absurd h (by omega)
   ·exact absurd h hgo.2
  subst hnx;subst hf2'
  have hxa:=Hp.at' (Hp.le_trans hl3 hla) hx2
  have hpa:=Hp.at' (Hp.le_trans hl3 hla) hp2
  have hfa:=hf2.mono (Hp.le_trans hl3 hla)
  clear hlv
  have hcase:(i+1=n\/i=39)\/¬(i+1=n\/i=39):=Classical.em _
  have harmS:=λ ρ2=>karm17 ρ2 db k D hdk hSt.st.lv.dead ((IntKind.u64.wrap arm).tmod 30) (by omega) (by omega)
  rcases hcase with hlast|hlast
  case' inr=>
   repeat' (first|refine zV ?_|intro _)
   rename_i b9
   have hS2:=hSt
   have hdk2:=hdk
   have hfin:D.armed=-1\/i+1=n\/i+1=40:=.inl har
   clear hSt har hdk hcr harmS
   generalize D=D2 at *
  case' inl=>
   have hlc:i+1=n\/(¬i+1=n/\i=39):=by omega
   rcases hlc with hlc|⟨hlc,hlc2⟩
   all_goals
    repeat' (first|refine zV ?_|intro _)
    rename_i b9
    refine Yt [0,1,2,3,4,5,6,7,8] (.e 9 [] (.f [10] .o)) ([[(b3,.cells ⟨cutV arm ka kn kc⟩ 67 (0,0))]]) ?_
    repeat' (refine iT ?_;first|refine rA ?_|(refine rE ?_<;>(refine Zb (.func 21) ?_;refine qC rfl rfl (harmS _) ?_;rintro v4 ρ4 L4 hq4 ⟨rfl,rfl,hdk2,rfl⟩;try simp only[kB])<;>(try simp only[kA])<;>refine zN ?_))
    repeat' (first|refine zV ?_|intro _)
    have hS2:St _ m f2 t R w { D with armed:=(IntKind.u64.wrap arm).tmod 30 } k held pg es va sp pa qa:=⟨hSt.st.arm hdk2.ok,hSt.lg,hSt.rg,hdk2,hSt.mp,hSt.inv,hSt.md⟩
    have hfin:DS.armed { D with armed:=(IntKind.u64.wrap arm).tmod 30 }=-1\/i+1=n\/i+1=40:=.inr (by omega)
    clear hSt har hdk hcr harmS
    generalize ({ D with armed:=(IntKind.u64.wrap arm).tmod 30 }:DS)=D2 at *
  all_goals refine Yt [0,2] (.b 1 3 [] [] (.e 3 [] (.e 4 [5,6,7] (.e 8 [] (.f [9] .o)))) (.e 1 [] (.e 4 [5,6,7] (.e 8 [] (.f [9] .o))))) ([[(b9,.cells ⟨opC e⟩ 77 (0,0))]]) ?_
  all_goals (repeat' (refine iT ?_;first|refine rA ?_|((first|(refine iE ?_;refine rE ?_)|(refine iB ?_;refine rB ?_ ?_))<;>((first|(refine Zb (.func 31) ?_;refine qC rfl rfl (few17_spec _ e he) ?_;rintro v5 ρ5 L5 hq5 ⟨hl5,a5,n5,c5,l5,rfl,hs5,hid5,rfl⟩;try simp only[kB])|(refine Zb (.func 30) ?_;refine qC rfl rfl (does17_spec _ xb db fb lb rb pb mb (Hp.at' hl5 hxa) (Hp.at' hl5 hpa) (hfa.mono hl5) m f2 t R w D2 k held pg es ck va sp pa pc qa qc (hS2.mono hl5) (by omega) (by omega) e.kind e.page e.at' a5 n5 c5 l5 hs5 hid5) ?_;rintro v6 ρ6 L6 hq6 ⟨hl6,m6,fl6,t6,R6,w6,D6,k6,held6,pg6,es6,ck6,va6,sp6,pa6,pc6,qa6,qc6,nx6,f6,bo6,rfl,rfl,hk6,hout⟩;try simp only[kB])|(refine i_qq ?_;refine qQ ?_)|refine qEf ?_)<;>(try simp only[kA])<;>refine zN ?_))))
  all_goals
   have hl56:=Hp.le_trans hl5 hl6
   have hx6:=Hp.at' hl56 hxa
   have hf6':=hfa.mono hl56
   have hla6:=Hp.le_trans hla hl56
   have hb:(bo6=true/\(nx6=m6+1/\f6=fl6/\m6<=m+1/\t6<=t+1/\(D2.armed=-1->D6.armed=-1)/\St ρ6 m6 fl6 t6 R6 w6 D6 k6 held6 pg6 es6 va6 sp6 pa6 qa6))\/(bo6=true/\(D6.dead=true/\D2.armed≠-1/\Cr D6 m6))\/(bo6=false/\(D6.dead=true/\D2.armed≠-1/\Cr D6 m6)):=by
    rcases hout with⟨h1,h2⟩|h2
    ·exact .inl ⟨h1,h2⟩
    ·cases bo6
     ·exact .inr (.inr ⟨rfl,h2⟩)
     ·exact .inr (.inl ⟨rfl,h2⟩)
   clear hout
   rcases hb with⟨rfl,hnx6,hf6,hm6,ht6,har6,hS6⟩|⟨rfl,hd6,har6,hcr6⟩|⟨rfl,hd6,har6,hcr6⟩
   ·subst hnx6
    subst hf6
    have hlow6:=hS6.st.low
    repeat' (first|refine zV ?_|intro _)
    refine lpG (Nat×Hp×DS) [0,3,5,6,7,37,38,39] (λ z=>[(84,.int .i64 z.1),(4,.bool false)]) (λ z=>z.2.1) (λ z=>[(b7,.cells ⟨mdV pa6 pc6 qa6 qc6 (m6+1) f6⟩ 73 (0,0))]::[(b3,.cells ⟨cutV arm ka kn kc⟩ 67 (0,0))]::poL mb lb rb db m6 f6 R6 w6 z.2.2 k6 es6 ck6 va6 sp6) (λ z=>z.1<=64/\Hp.le ρ6 z.2.1/\DOk k6 z.2.2/\Lv D6 z.2.2/\FO z.2.2 902 t6 held6) (λ z=>64-z.1) (0,ρ6,D6) (⟨aZ _,Hp.le_refl _,hk6,⟨rfl,rfl,hS6.st.lv.failing,hS6.st.lv.dead⟩,hS6.st.fo⟩) ?_
    rintro⟨j,ρb,Db⟩ hI
    try simp only[kB] at hI ⊢
    try dsimp only at hI ⊢
    obtain⟨hj,hlb,hkb2,hLb,hFb⟩:=hI
    by_cases hlt:j<64
    ·have hrd:=Read_spec ρb fb db 902 j (hf6'.mono hlb) (by omega) hlt k6 Db hkb2
     obtain⟨hr1,hr2,hr3⟩:=hFb.readL hLb.next hlt
     rw[hr1] at hrd
     have hxb:=Hp.at' hlb hx6
     have hlj:=hlow6 j hlt
     have hfs:=λ ρ2=>Vy ρ2 lb rb (pS R6 f6 m6) va6
     rw[show (pS R6 f6 m6).fl=f6 from rfl] at hfs
     generalize (Xy Db 902 j).2=D8 at *
     generalize held6 j=hh at *
     obtain⟨hc8,hn8⟩:=hh
     dsimp only at hrd hlj
     have hnl:¬((f6:Nat):Int)<((hn8:Nat):Int):=by omega
     repeat' (first|(refine Zb (.func 33) ?_;refine qC rfl rfl hrd ?_;rintro v8 ρ8 L8 hq8 ⟨hl8,w8,rfl,hC8,hk8,rfl⟩;have hxb8:=Hp.at' hl8 hxb;try simp only[kB])|(refine Zb (.func 34) ?_;refine qR rfl rfl (hfs _) ?_;try simp only[kA])|refine zV ?_|intro _)
     refine rnG (j+1,ρ8,D8) (⟨hlt,Hp.le_trans hlb hl8,hk8,hLb.trans hr2,hr3⟩)
    ·have hS7:=(hS6.mono hlb).lv hkb2 hLb hFb
     have hcr7:=hS7.st.cr
     have hdisj:Live ρb (i+1) m6 f6 t6 R6 w6 Db k6 held6 pg6 es6 va6 sp6 pa6 qa6 (m6+1) f6\/i+1=n\/i+1=40:=by
      rcases hfin with h|h
      ·exact .inl ⟨rfl,rfl,by omega,by omega,by rw[hLb.armed];exact har6 h,hS7⟩
      ·exact .inr h
     repeat' (first|refine zV ?_|intro _)
     rw[<-e1]
     refine rnG (i+1,ρb,m6,f6,t6,R6,w6,Db,k6,held6,pg6,es6,ck6,va6,sp6,pa6,pc6,qa6,qc6,m6+1,f6,true) (⟨hgo.1,by omega,Hp.le_trans hla6 hlb,hkb2,hcr7,hdisj⟩)
   all_goals
    have hfin2:i+1=n\/i+1=40:=by
     rcases hfin with h|h
     ·exact absurd h har6
     ·exact h
    try (exfalso;omega)
   all_goals
    have hdd:=λ ρ2=>kdead17 ρ2 db k6 D6 hd6
    repeat' (first|(refine Zb (.func 32) ?_;refine qR rfl rfl (hdd _) ?_;try simp only[kA])|refine zV ?_|intro _)
    refine lpG (Nat×Hp) [0,3,5,6,7,37,38,39] (λ z=>[(84,.int .i64 z.1),(4,.bool false)]) (λ z=>z.2) (λ z=>[(b7,.cells ⟨mdV pa6 pc6 qa6 qc6 nx6 f6⟩ 73 (0,0))]::[(b3,.cells ⟨cutV arm ka kn kc⟩ 67 (0,0))]::poL mb lb rb db m6 fl6 R6 w6 D6 k6 es6 ck6 va6 sp6) (λ z=>z.1<=64/\Hp.le ρ6 z.2) (λ z=>64-z.1) (0,ρ6) ⟨aZ _,Hp.le_refl _⟩ ?_
    rintro⟨j,ρb⟩ hI
    try simp only[kB] at hI ⊢
    try dsimp only at hI ⊢
    obtain⟨hj,hlb⟩:=hI
    by_cases hlt:j<64
    ·have hrd:=Read_spec ρb fb db 902 j (hf6'.mono hlb) (by omega) hlt k6 D6 hk6
     rw[(read_dead hd6 902 j).1,(read_dead hd6 902 j).2] at hrd
     have hxb:=Hp.at' hlb hx6
     generalize (Xy D6 902 j).1.1=c9 at *
     generalize (Xy D6 902 j).1.2.1=n9 at *
     repeat' (first|(refine Zb (.func 33) ?_;refine qC rfl rfl hrd ?_;rintro v8 ρ8 L8 hq8 ⟨hl8,w8,rfl,hC8,hk8,rfl⟩;have hxb8:=Hp.at' hl8 hxb;try simp only[kB])|refine zV ?_|intro _)
     refine rnG (j+1,ρ8) (⟨hlt,Hp.le_trans hlb hl8⟩)
    ·repeat' (first|refine zV ?_|intro _)
     rw[<-e1]
     refine rnG (i+1,ρb,m6,fl6,t6,R6,w6,D6,k6,held6,pg6,es6,ck6,va6,sp6,pa6,pc6,qa6,qc6,nx6,f6,_) (⟨hgo.1,by omega,Hp.le_trans hla6 hlb,hk6,hcr6,.inr hfin2⟩)
 ·have hl0a:=Hp.le_trans hl13 hla
  have hki:=hk.mono hl0a
  have hxa:=Hp.at' (Hp.le_trans hl3 hla) hx2
  have hopA:=hops.mono hl0a
  clear hlv hops
  have hq:i=n\/(i<n/\i=40):=by omega
  clear hgo
  rcases hq with hq|⟨hq1,hq2⟩
  case' inl=>
   subst hq
   repeat' (first|refine zV ?_|intro _)
  case' inr=>
   have hil:i<ops.length:=by omega
   obtain⟨b,off,C,T,fr,e1,hb0,hfit,hc⟩:=hopA.get hil
   rw[e1]
   repeat' (first|refine zV ?_|intro _)
  all_goals
   have hkl:=hki.len
   obtain⟨R8,f8,t8,held8,hro8,hh8,he8,hu8,hf8,hfo8,hlow8⟩:=hcr (keepB ks)
   have hcs:=λ (ρ2:Hp) (a3:Option Addr) (c3:Nat) (h:SIn ρ2 bb a3 kn ks) (h2:kn<=c3)=>kcrash17 ρ2 db k D hdk a3 kn c3 ks h h2 hkb
   have hcalm:(D.crash (keepB ks)).Calm:=⟨rfl,rfl,rfl⟩
   generalize D.crash (keepB ks)=D8 at *
   refine Yt [0,1,2,3,5,6] (.e 4 [] (.e 7 [] (.e 8 [] (.f [9] .o)))) ([[(b3,.cells ⟨cutV arm ka kn kc⟩ 67 (0,0))]]) ?_
   repeat' (refine iT ?_;first|refine rA ?_|(refine rE ?_<;>((first|(refine YA (n:=0) (xs:=[]) (sp:=[]) (ys:=ks.map bb) (m:=kn) (sz:=1) rfl rfl (OwnS.zero _ 1) (hR:=ZJ) hki.srcV (by simpa using hkl) (bb_one _) (by decide) rfl (by omega) (by omega) rfl (λ v3 sp3 hown3=>?_);simp only[Nat.zero_add,List.nil_append] at hown3 ⊢;refine Zt (ZG v3 (ks.map bb) sp3 4) (h:=Rem.here) (λ ρ4 hl4 hf4=>?_);obtain⟨a3,c3,rfl,hc3,hs3⟩:=hown3.sIn hf4;clear hown3 hf4)|(refine Zb (.func 23) ?_;refine qC rfl rfl (hcs _ _ _ hs3 hc3) ?_;rintro v5 ρ5 L5 hq5 ⟨rfl,hl5,k5,hk5,rfl⟩;try simp only[kB])|(refine qEf ?_;try intro _))<;>(try simp only[kA])<;>refine zN ?_)))
   have hxa5:=Hp.at' (Hp.le_trans hl4 hl5) hxa
   have hl05:=Hp.le_trans hl0a (Hp.le_trans hl4 hl5)
   clear hcr hcs hki hkl hopA hdk hxa
   obtain⟨D9,hc9,hfo9,hop9⟩:=kopen16 ρ5 db k5 D8 hk5 hcalm R8 f8 t8 held8 hro8 hh8 he8 (by omega) hfo8
   have hlen9:902+256<=D9.secs.length:=hfo9.len
   repeat' (first|(refine Zb (.func 24) ?_;refine qC rfl rfl hop9 ?_;rintro v6 ρ6 L6 hq6 ⟨hl6,lb8,rb8,w8,k8,S8,va8,sp8,rfl,hk8,hS8,rfl⟩;have hx6:=Hp.at' hl6 hxa5;try simp only[kB])|(refine Zb (.func 35) ?_;refine qC rfl rfl (Open_spec _ db k8 D9 hk8 902 hlen9) ?_;rintro v7 ρ7 L7 hq7 ⟨hl7,fb8,rfl,hF8,rfl⟩;try simp only[kB])|refine zV ?_|intro _)
   have hl07:=Hp.le_trans hl05 (Hp.le_trans hl6 hl7)
   refine lpG (Nat×Hp×DS) [14,16] (λ z=>[(140,.int .i64 z.1),(4,.bool false)]) (λ z=>z.2.1) (λ z=>ZW lb8 rb8 S8 va8::YK S8 va8 sp8::(Yb rb8 db R8.again w8++Zg db k8 z.2.2)) (λ z=>z.1<=64/\Hp.le ρ7 z.2.1/\DOk k8 z.2.2/\Lv D9 z.2.2/\FO z.2.2 902 t8 held8) (λ z=>64-z.1) (0,ρ7,D9) (⟨aZ _,Hp.le_refl _,hk8,⟨rfl,rfl,hc9.failing,hc9.dead⟩,hfo9⟩) ?_
   rintro⟨j,ρb,Db⟩ hI
   try simp only[kB] at hI ⊢
   try dsimp only at hI ⊢
   obtain⟨hj,hlb,hkb2,hLb,hFb⟩:=hI
   by_cases hlt:j<64
   ·have hrd:=Read_spec ρb fb8 db 902 j (hF8.mono hlb) (by omega) hlt k8 Db hkb2
    obtain⟨hr1,hr2,hr3⟩:=hFb.readL hLb.next hlt
    rw[hr1] at hrd
    have hlj:=hlow8 j hlt
    have hfs:=λ ρ2=>Vy ρ2 lb8 rb8 S8 va8
    rw[hS8] at hfs
    generalize (Xy Db 902 j).2=D10 at *
    generalize held8 j=hh at *
    obtain⟨hc10,hn8⟩:=hh
    dsimp only at hrd hlj
    have hnl:¬((f8:Nat):Int)<((hn8:Nat):Int):=by omega
    repeat' (first|(refine Zb (.func 33) ?_;refine qC rfl rfl hrd ?_;rintro v9 ρ9 L9 hq9 ⟨hl9,w9,rfl,hC9,hk9,rfl⟩;try simp only[kB])|(refine Zb (.func 34) ?_;refine qR rfl rfl (hfs _) ?_;try simp only[kA])|refine zV ?_|intro _)
    refine rnG (j+1,ρ9,D10) (⟨hlt,Hp.le_trans hlb hl9,hk9,hLb.trans hr2,hr3⟩)
   ·repeat' (first|refine zV ?_|intro _)
    exact qE (L':=[]) ⟨rfl,Hp.le_trans hl07 hlb,rfl⟩
end Go.Proofs.E
