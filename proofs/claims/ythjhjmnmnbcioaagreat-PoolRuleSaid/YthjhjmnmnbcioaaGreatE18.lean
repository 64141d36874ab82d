/- Laws of PoolRule. Part 18 of 26. -/
import Derived.Test.YthjhjmnmnbcioaaGreatE17
set_option linter.unusedVariables false
set_option linter.unusedSimpArgs false
set_option linter.unusedSectionVars false
namespace Go.Proofs.E
open Go Tryz
set_option maxRecDepth 4000
set_option maxHeartbeats 1000000
attribute [local irreducible] Yl TL TC TE Spec YW R1 Hp.le EnvLe TS TR YS Zv TP QP
structure St (ρ:Hp)(m fl t:Nat)(R:RgS)(w:RW)(D:DS)(k:DK)(held:Nat->ZS)(pg:Pgs)(es:List MapEntry)(va:Value)(sp:List Value)(pa qa:Option Addr):Prop where
 st:StoA R fl m D t held
 lg:LgIn ρ (pS R fl m) va sp
 rg:RIn ρ R w
 dk:DOk k D
 mp:MpIn ρ es pg
 inv:Inv m (vw pg) held
 md:∃P Q,MAIn ρ pa P/\MAIn ρ qa Q/\MR P (vw pg)/\QH Q held
abbrev Does (ρ:Hp)(m t:Nat)(D:DS)(mb lb rb db:Nat)(v:Value)(ρ':Hp)(L':SH):Prop:=
 ρ.le ρ'/\∃(m' fl' t':Nat) (R':RgS) (w':RW) (D':DS) (k':DK) (held':Nat->ZS) (pg':Pgs) (es':List MapEntry) (ck':Nat) (va':Value) (sp':List Value) (pa':Option Addr) (pc':Nat) (qa':Option Addr) (qc' nx f2:Nat) (b:Bool),
  v=.tuple ⟨[.agg ⟨mdV pa' pc' qa' qc' nx f2⟩,.bool b]⟩/\L'=poL mb lb rb db m' fl' R' w' D' k' es' ck' va' sp'/\DOk k' D' /\
  ((b=true/\nx=m'+1/\f2=fl'/\m'<=m+1/\t'<=t+1/\(D.armed=-1->D'.armed=-1)/\St ρ' m' fl' t' R' w' D' k' held' pg' es' va' sp' pa' qa')\/(D'.dead=true/\D.armed≠-1/\Cr D' m'))
theorem StoA.more {R:RgS}{fl m:Nat}{D:DS}{t:Nat}{held:Nat->ZS}(h:StoA R fl m D t held)(hm:m<300):StoA R fl (m+1) D t held:=
 ⟨h.ro,h.frs,h.lv,h.fo,h.head,h.used,h.ents,by have:=h.le;omega,by omega,h.low⟩
theorem MR.some {P:List MH}{pg:Pgs}(h:MR P (vw pg)){n:Nat}(hn:n<64){g:Pg}(hg:pg (n:Nat)=some g):(P.getD n zMH).is=true/\(P.getD n zMH).c=g.c/\(P.getD n zMH).lsn=g.lsn/\(P.getD n zMH).rc=g.rc:=by
 have:=h n hn
 unfold vw at this
 rw[hg,Option.map_some] at this
 split at this
 ·rename_i hi
  simp only[Option.some.injEq,Prod.mk.injEq] at this
  exact⟨hi,this.1.symm,this.2.1.symm,this.2.2.symm⟩
 ·cases this
theorem MR.none {P:List MH}{pg:Pgs}(h:MR P (vw pg)){n:Nat}(hn:n<64)(hg:pg (n:Nat)=none):(P.getD n zMH).is=false:=by
 have:=h n hn
 unfold vw at this
 rw[hg,Option.map_none] at this
 split at this
 ·cases this
 ·rename_i hi;simpa using hi
theorem stealS_form (R:RgS)(fl m:Nat)(D:DS)(base num:Nat)(g:Pg):∃R' f',(YU (pS R fl m) D base num g).1=pS R' f' m:=by
 have hf:∃R' f',(stealF (pS R fl m) D g).1=pS R' f' m:=by
  unfold stealF LgS.flush
  split
  ·split
   ·exact⟨R,fl,rfl⟩
   ·exact⟨_,_,rfl⟩
  ·exact⟨R,fl,rfl⟩
 unfold YU
 split
 ·exact hf
 ·exact hf
theorem does17_spec (ρ:Hp)(xb db fb lb rb pb mb:Nat)(hx:PaIn ρ xb db fb lb pb)(hp:PoIn ρ pb fb lb mb)(hf:FIn ρ fb db 902)(m fl t:Nat)(R:RgS)(w:RW)(D:DS)(k:DK)(held:Nat->ZS)(pg:Pgs)(es:List MapEntry)(ck:Nat)(va:Value)(sp:List Value)(pa:Option Addr)(pc:Nat)(qa:Option Addr)(qc:Nat)
  (hS:St ρ m fl t R w D k held pg es va sp pa qa) (hm:m<200) (ht:t<200) (kd page at':Int) (a:Option Addr) (n c:Nat) (l:List Sh) (hs:ShsIn ρ a n c l) (hid:∀s∈l,IdFit s.c) :
  Spec prog 30 [.pointer (some ⟨xb,0,none⟩),.agg ⟨mdV pa pc qa qc (m+1) fl⟩,.agg ⟨[.int .i64 kd,.int .i64 page,.int .i64 at',.slice a n c]⟩] ρ (poL mb lb rb db m fl R w D k es ck va sp)
   (λ v ρ' L'=>Does ρ m t D mb lb rb db v ρ' L'):=by
 obtain⟨q,hq,hq8⟩:=u64_mod17 kd 8 (by omega) (by omega)
 have hst:=hS.st
 have hlg:=hS.lg
 have hrg:=hS.rg
 have hdk:=hS.dk
 have hmp:=hS.mp
 have hinv:=hS.inv
 obtain⟨P,Q,hP,hQ,hM,hH⟩:=hS.md
 have hN:=λ ρ h=>Vh ρ lb rb (pS R fl m) va sp h
 rw[pS_next] at hN
 refine Za func30 rfl rfl rfl λ u RR=>?_
 simp only[Zc,kA]
 repeat' (first|refine zV ?_|intro _)
 rename_i b4 b5 b6
 refine Yt [0,1,2,3,4] (.e 5 [] (.e 6 [] (.f [7] .o))) ([[(b5,.cells ⟨[.int .i64 kd,.int .i64 page,.int .i64 at',.slice a n c]⟩ 77 (0,0))]]) ?_
 repeat' (refine iT ?_;first|refine rA ?_|(refine rE ?_<;>((first|(refine Zb (.func 36) ?_;refine qR rfl rfl (hN _ hlg) ?_;try simp only[kA])|(refine Zb (.func 84) ?_;refine qC rfl rfl (at17_spec _ _ kd page at' a n c rfl (m+1) (by omega)) ?_;rintro v ρ' L' hle ⟨⟨lsn,rfl,hlsn⟩,rfl,rfl⟩<;>(try simp only[kA])))<;>(try simp only[kA])<;>refine zN ?_)))
 all_goals (repeat' (first|refine zV ?_|intro _))
 all_goals rw[hq]
 have hkn:(recF (pS R fl m) lsn).isSome=decide (1<=lsn/\lsn<m+1):=by rw[pS_rec];exact decide_eq_decide.2 (by omega)
 rcases (show q=0\/q=1\/q=2\/q=3\/q=4\/q=5\/q=6\/q=7 by omega) with rfl|rfl|rfl|rfl|rfl|rfl|rfl|rfl
 ·rw[show (((0:Nat):Int) == 0)=true from rfl]
  repeat' (first|(refine Zb (.func 75) ?_;refine qC rfl rfl (appends17_spec _ xb db fb lb rb pb hx R fl m (by omega) va sp hlg) ?_;rintro v ρ' L' hle ⟨rfl,hl4,va4,sp4,hin4,rfl⟩<;>(try simp only[kA]))|refine zV ?_|intro _)
  exact qE (L':=poL mb lb rb db (m+1) fl R w D k es ck va4 sp4) ⟨hl4,m+1,fl,t,R,w,D,k,held,pg,es,ck,va4,sp4,pa,pc,qa,qc,m+2,fl,true,rfl,rfl,hdk,.inl ⟨rfl,rfl,rfl,by omega,by omega,id,⟨hst.more (by omega),hin4,hrg.mono hl4,hdk,hmp.mono hl4,hinv.mono (by omega),P,Q,hP.mono hl4,hQ.mono hl4,hM,hH⟩⟩⟩
 ·rw[show (((1:Nat):Int) == 0)=false from rfl]
  have hC:=change17_spec _ pb fb lb mb rb db 902 t hp hf (by omega) (pS R fl m) va sp hlg k D hdk pg es ck hmp held hst.fo hst.lv lsn a n c l hs
  rw[hkn] at hC
  have hC2:=λ {ρ2:Hp} (hq:Hp.le _ ρ2)=>change17r_spec ρ2 pa pc qa qc (m+1) fl P Q (hP.mono hq) (hQ.mono hq) (vw pg) held hM hH lsn a n c l (hs.mono hq) hid
  have hi6:=hinv.chg (known:=decide (1<=lsn/\lsn<m+1)) (lsn:=lsn) (l:=l) (decide_eq_decide.2 (by omega)) hid
  generalize askE (decide (1<=lsn/\lsn<m+1)) held (vw pg) lsn l=E at *
  repeat' (first|refine zV ?_|intro _)
  refine Yt [0,1,2,3,4,5,6] (.e 7 [] (.f [8] .o)) ([[(b5,.cells ⟨[.int .i64 kd,.int .i64 page,.int .i64 at',.slice a n c]⟩ 77 (0,0))]]) ?_
  repeat' (refine iT ?_;first|refine rA ?_|(refine rE ?_<;>(refine Zb (.func 76) ?_;refine qC rfl rfl hC ?_;rintro v6 ρ6 L6 hq6 ⟨rfl,hl6,es6,ck6,pg6,D6,hm6,hv6,hk6,hL6,hF6,rfl⟩;try simp only[kB])<;>(try simp only[kA])<;>refine zN ?_))
  all_goals (repeat' (first|(refine Zb (.func 85) ?_;refine qC rfl rfl (hC2 hl6) ?_;rintro v7 ρ7 L7 hq7 ⟨hl7,rfl,pa7,pc7,qa7,qc7,P7,rfl,hP7,hQ7,hM7⟩;try simp only[kB])|refine zV ?_|intro _))
  all_goals
   have hl67:=Hp.le_trans hl6 hl7
   rw[<-hv6] at hM7 hi6
   exact qE (L':=poL mb lb rb db m fl R w D6 k es6 ck6 va sp) ⟨hl67,m,fl,t,R,w,D6,k,held,pg6,es6,ck6,va,sp,pa7,pc7,qa7,qc7,m+1,fl,true,rfl,rfl,hk6,.inl ⟨rfl,rfl,rfl,by omega,by omega,λ h=>by rw[hL6.armed];exact h,⟨hst.lv' hL6 hF6,hlg.mono hl67,hrg.mono hl67,hk6,hm6.mono hl7,hi6,P7,Q,hP7,hQ7,hM7,hH⟩⟩⟩
 ·rw[show (((2:Nat):Int) == 0)=false from rfl]
  have hC:=change17_spec _ pb fb lb mb rb db 902 t hp hf (by omega) (pS R fl m) va sp hlg k D hdk pg es ck hmp held hst.fo hst.lv lsn a n c l hs
  rw[hkn] at hC
  have hC2:=λ {ρ2:Hp} (hq:Hp.le _ ρ2)=>change17r_spec ρ2 pa pc qa qc (m+1) fl P Q (hP.mono hq) (hQ.mono hq) (vw pg) held hM hH lsn a n c l (hs.mono hq) hid
  have hi6:=hinv.chg (known:=decide (1<=lsn/\lsn<m+1)) (lsn:=lsn) (l:=l) (decide_eq_decide.2 (by omega)) hid
  generalize askE (decide (1<=lsn/\lsn<m+1)) held (vw pg) lsn l=E at *
  repeat' (first|refine zV ?_|intro _)
  refine Yt [0,1,2,3,4,5,6] (.e 7 [] (.f [8] .o)) ([[(b5,.cells ⟨[.int .i64 kd,.int .i64 page,.int .i64 at',.slice a n c]⟩ 77 (0,0))]]) ?_
  repeat' (refine iT ?_;first|refine rA ?_|(refine rE ?_<;>(refine Zb (.func 76) ?_;refine qC rfl rfl hC ?_;rintro v6 ρ6 L6 hq6 ⟨rfl,hl6,es6,ck6,pg6,D6,hm6,hv6,hk6,hL6,hF6,rfl⟩;try simp only[kB])<;>(try simp only[kA])<;>refine zN ?_))
  all_goals (repeat' (first|(refine Zb (.func 85) ?_;refine qC rfl rfl (hC2 hl6) ?_;rintro v7 ρ7 L7 hq7 ⟨hl7,rfl,pa7,pc7,qa7,qc7,P7,rfl,hP7,hQ7,hM7⟩;try simp only[kB])|refine zV ?_|intro _))
  all_goals
   have hl67:=Hp.le_trans hl6 hl7
   rw[<-hv6] at hM7 hi6
   exact qE (L':=poL mb lb rb db m fl R w D6 k es6 ck6 va sp) ⟨hl67,m,fl,t,R,w,D6,k,held,pg6,es6,ck6,va,sp,pa7,pc7,qa7,qc7,m+1,fl,true,rfl,rfl,hk6,.inl ⟨rfl,rfl,rfl,by omega,by omega,λ h=>by rw[hL6.armed];exact h,⟨hst.lv' hL6 hF6,hlg.mono hl67,hrg.mono hl67,hk6,hm6.mono hl7,hi6,P7,Q,hP7,hQ7,hM7,hH⟩⟩⟩
 ·rw[show (((3:Nat):Int) == 0)=false from rfl]
  repeat' (first|refine zV ?_|intro _)
  by_cases hdt:∃num:Nat,num<64/\page=num/\∃g,pg num=some g/\g.rc≠0
  ·obtain⟨num,hnum,rfl,g,hg,hg0⟩:=hdt
   have hpf:=hinv.pfit num hnum (g.c,g.lsn,g.rc) (by unfold vw;rw[hg];rfl)
   obtain⟨hi8,hc8,hl8,hr8⟩:=hM.some hnum hg
   have hS8:=steal17_spec _ pb fb lb mb rb db 902 num hp hf (by omega) hnum pg es ck hmp g hg ⟨hpf.1.ok,hpf.1.id,by have:=hpf.2;dsimp only at this;omega⟩ hg0 (pS R fl m) va sp hlg w hrg k D hdk (by have:=hst.le;show fl<1000000000000000;omega)
   have hR8:=λ {ρ2:Hp} (hq:Hp.le _ ρ2)=>steal17r_spec ρ2 pa pc qa qc (m+1) fl P Q (hP.mono hq) (hQ.mono hq) num hnum _ rfl hi8 (by rw[hr8];exact hg0)
   have hM8:=hM.set hP.len hnum (y:=⟨true,(P.getD num zMH).w,(P.getD num zMH).c,(P.getD num zMH).lsn,0⟩) rfl
   have hQ8:=hH.set hQ.len hnum (y:=⟨false,(P.getD num zMH).w,(P.getD num zMH).c,(P.getD num zMH).lsn,0⟩)
   generalize P.set num ⟨true,(P.getD num zMH).w,(P.getD num zMH).c,(P.getD num zMH).lsn,0⟩=P8 at *
   generalize Q.set num ⟨false,(P.getD num zMH).w,(P.getD num zMH).c,(P.getD num zMH).lsn,0⟩=Q8 at *
   dsimp only at hM8 hQ8
   rw[hc8,hl8] at hM8 hQ8
   rw[hl8] at hR8
   obtain⟨R8,f8,hform⟩:=stealS_form R fl m D 902 num g
   rcases hst.steal hnum hpf.1 hpf.2 (by unfold M64;omega) with⟨h1,⟨R9,h2,h3⟩,h4⟩|⟨h1,h2,h3,h4⟩
   ·rw[h1,h2] at hS8
    simp only[if_true] at hS8
    generalize (YU (pS R fl m) D 902 num g).2.1=D8 at *
    have hvS:vw (updG pg num { g with rc:=0 })=VC (vw pg) num (g.c,g.lsn,0):=vw_upd _ _ _
    rw[<-hvS] at hM8
    have hi9:=hinv.steal hnum (x:=(g.c,g.lsn,g.rc)) (by unfold vw;rw[hg];rfl)
    dsimp only at hi9
    rw[<-hvS] at hi9
    refine Yt [0,1,2,3,4,5] (.e 6 [] (.f [7] .o)) ([[(b5,.cells ⟨[.int .i64 kd,.int .i64 num,.int .i64 at',.slice a n c]⟩ 77 (0,0))]]) ?_
    repeat' (refine iT ?_;first|refine rA ?_|(refine rE ?_<;>(refine Zb (.func 79) ?_;refine qC rfl rfl hS8 ?_;rintro v6 ρ6 L6 hq6 ⟨rfl,hl6,es6,ck6,w6,k6,hm6,hr6,hk6,rfl⟩;try simp only[kB])<;>(try simp only[kA])<;>refine zN ?_))
    all_goals (repeat' (first|(refine Zb (.func 86) ?_;refine qC rfl rfl (hR8 hl6) ?_;rintro v7 ρ7 L7 hq7 ⟨hl7,rfl,pa7,pc7,qa7,qc7,rfl,hP7,hQ7⟩;try simp only[kB])|refine zV ?_|intro _))
    all_goals
     have hl67:=Hp.le_trans hl6 hl7
     exact qE (L':=poL mb lb rb db m (max fl g.lsn) R9 w6 D8 k6 es6 ck6 va sp) ⟨hl67,m,max fl g.lsn,t+1,R9,w6,D8,k6,upd held num (g.c,g.lsn),updG pg num { g with rc:=0 },es6,ck6,va,sp,pa7,pc7,qa7,qc7,m+1,max fl g.lsn,true,rfl,rfl,hk6,.inl ⟨rfl,rfl,rfl,by omega,by omega,h4,⟨h3,(hlg.mono hl67).at R9 (max fl g.lsn),hr6.mono hl7,hk6,hm6.mono hl7,hi9,P8,Q8,hP7,hQ7,hM8,hQ8⟩⟩⟩
   ·rw[hform] at hS8
    rw[if_neg h1] at hS8
    generalize (YU (pS R fl m) D 902 num g).2.1=D8 at *
    generalize (YU (pS R fl m) D 902 num g).2.2=e8 at *
    refine Yt [0,1,2,3,4,5] (.e 6 [] (.f [7] .o)) ([[(b5,.cells ⟨[.int .i64 kd,.int .i64 num,.int .i64 at',.slice a n c]⟩ 77 (0,0))]]) ?_
    repeat' (refine iT ?_;first|refine rA ?_|(refine rE ?_<;>(refine Zb (.func 79) ?_;refine qC rfl rfl hS8 ?_;rintro v6 ρ6 L6 hq6 ⟨rfl,hl6,es6,ck6,w6,k6,hm6,hr6,hk6,rfl⟩;try simp only[kB])<;>(try simp only[kA])<;>refine zN ?_))
    all_goals (repeat' (first|(refine Zb (.func 86) ?_;refine qC rfl rfl (hR8 hl6) ?_;rintro v7 ρ7 L7 hq7 ⟨hl7,rfl,pa7,pc7,qa7,qc7,rfl,hP7,hQ7⟩;try simp only[kB])|refine zV ?_|intro _))
    all_goals
     have hl67:=Hp.le_trans hl6 hl7
     exact qE (L':=poL mb lb rb db m f8 R8 w6 D8 k6 es6 ck6 va sp) ⟨hl67,m,f8,t,R8,w6,D8,k6,held,pg,es6,ck6,va,sp,pa7,pc7,qa7,qc7,m+1,max fl g.lsn,false,rfl,rfl,hk6,.inr ⟨h2,h3,h4⟩⟩
  ·have hS8:=steal17_not _ pb fb lb mb hp page pg es ck hmp (λ g hg hr=>by
    cases hz:g.rc with
    | zero=>rfl
    | succ r=>exact absurd ⟨page.toNat,by omega,by omega,g,by rw[Int.toNat_of_nonneg hr.1];exact hg,by omega⟩ hdt)
   by_cases hr:0<=page/\page<64
   ·obtain⟨num,rfl⟩:∃num:Nat,page=num:=⟨page.toNat,by omega⟩
    have hnum:num<64:=by omega
    have hE:stealE pg num=if (P.getD num zMH).is then 0 else 4:=by
     unfold stealE
     rw[if_pos hr]
     cases hg:pg (num:Nat) with
     | none=>rw[hM.none hnum hg];rfl
     | some g=>rw[(hM.some hnum hg).1];rfl
    have hno:(P.getD num zMH).is=true->(P.getD num zMH).rc=0:=λ hi=>by
     cases hg:pg (num:Nat) with
     | none=>rw[hM.none hnum hg] at hi;cases hi
     | some g=>
      have h8:=hM.some hnum hg
      rw[h8.2.2.2]
      cases hz:g.rc with
      | zero=>rfl
      | succ r=>exact absurd ⟨num,hnum,rfl,g,hg,by omega⟩ hdt
    rw[hE] at hS8
    have hR:=steal17r_not _ pa pc qa qc (m+1) fl P hP num hnum hno
    generalize (if (P.getD num zMH).is then (0:Int) else 4)=E at *
    refine Yt [0,1,2,3,4,5] (.e 6 [] (.f [7] .o)) ([[(b5,.cells ⟨[.int .i64 kd,.int .i64 num,.int .i64 at',.slice a n c]⟩ 77 (0,0))]]) ?_
    repeat' (refine iT ?_;first|refine rA ?_|(refine rE ?_<;>(refine Zb (.func 79) ?_;refine qR rfl rfl (hS8) ?_;try simp only[kA])<;>(try simp only[kA])<;>refine zN ?_))
    all_goals (repeat' (first|(refine Zb (.func 86) ?_;refine qR rfl rfl (hR) ?_;try simp only[kA])|refine zV ?_|intro _))
    all_goals exact qE (L':=poL mb lb rb db m fl R w D k es ck va sp) ⟨Hp.le_refl _,m,fl,t,R,w,D,k,held,pg,es,ck,va,sp,pa,pc,qa,qc,m+1,fl,true,rfl,rfl,hdk,.inl ⟨rfl,rfl,rfl,by omega,by omega,id,⟨hst,hlg,hrg,hdk,hmp,hinv,P,Q,hP,hQ,hM,hH⟩⟩⟩
   ·have hE:stealE pg page=2:=by unfold stealE;rw[if_neg hr]
    rw[hE] at hS8
    have hRa:=λ ρ2=>steal17r_arg ρ2 pa pc qa qc (m+1) fl page hr
    refine Yt [0,1,2,3,4,5] (.e 6 [] (.f [7] .o)) ([[(b5,.cells ⟨[.int .i64 kd,.int .i64 page,.int .i64 at',.slice a n c]⟩ 77 (0,0))]]) ?_
    repeat' (refine iT ?_;first|refine rA ?_|(refine rE ?_<;>(refine Zb (.func 79) ?_;refine qR rfl rfl (hS8) ?_;try simp only[kA])<;>(try simp only[kA])<;>refine zN ?_))
    all_goals (repeat' (first|(refine Zb (.func 86) ?_;refine qR rfl rfl (hRa _) ?_;try simp only[kA])|refine zV ?_|intro _))
    all_goals exact qE (L':=poL mb lb rb db m fl R w D k es ck va sp) ⟨Hp.le_refl _,m,fl,t,R,w,D,k,held,pg,es,ck,va,sp,pa,pc,qa,qc,m+1,fl,true,rfl,rfl,hdk,.inl ⟨rfl,rfl,rfl,by omega,by omega,id,⟨hst,hlg,hrg,hdk,hmp,hinv,P,Q,hP,hQ,hM,hH⟩⟩⟩
 ·rw[show (((4:Nat):Int) == 0)=false from rfl]
  repeat' (first|refine zV ?_|intro _)
  have hEv:=evict17_spec _ pb fb lb mb hp page pg es ck hmp
  have hi8:=hinv.evict page
  by_cases hr:0<=page/\page<64
  ·obtain⟨num,rfl⟩:∃num:Nat,page=num:=⟨page.toNat,by omega⟩
   have hnum:num<64:=by omega
   have hE:Wc pg num=evictX (P.getD num zMH):=by
    unfold Wc evictX
    rw[if_pos hr]
    cases hg:pg (num:Nat) with
    | none=>rw[hM.none hnum hg];rfl
    | some g=>rw[(hM.some hnum hg).1,(hM.some hnum hg).2.2.2];rfl
   have hME:MR (evictM P num) (vw (evictG pg num)):=by
    unfold evictM evictG
    rw[hE]
    split
    ·rw[vw_del];exact hM.del hP.len hnum
    ·exact hM
   rw[hE] at hEv
   have hR:=evict17r_spec _ pa pc qa qc (m+1) fl P Q hP hQ num hnum
   generalize evictX (P.getD num zMH)=E at *
   generalize evictM P num=P8 at *
   refine Yt [0,1,2,3,4,5] (.e 6 [] (.f [7] .o)) ([[(b5,.cells ⟨[.int .i64 kd,.int .i64 num,.int .i64 at',.slice a n c]⟩ 77 (0,0))]]) ?_
   repeat' (refine iT ?_;first|refine rA ?_|(refine rE ?_<;>(refine Zb (.func 78) ?_;refine qC rfl rfl hEv ?_;rintro v8 ρ8 L8 hq8 ⟨rfl,rfl,es8,ck8,hm8,rfl⟩;try simp only[kB])<;>(try simp only[kA])<;>refine zN ?_))
   all_goals (repeat' (first|(refine Zb (.func 87) ?_;refine qC rfl rfl hR ?_;rintro v7 ρ7 L7 hq7 ⟨hl7,rfl,pa7,pc7,qa7,qc7,rfl,hP7,hQ7⟩;try simp only[kB])|refine zV ?_|intro _))
   all_goals exact qE (L':=poL mb lb rb db m fl R w D k es8 ck8 va sp) ⟨hl7,m,fl,t,R,w,D,k,held,evictG pg num,es8,ck8,va,sp,pa7,pc7,qa7,qc7,m+1,fl,true,rfl,rfl,hdk,.inl ⟨rfl,rfl,rfl,by omega,by omega,id,⟨hst,hlg.mono hl7,hrg.mono hl7,hdk,hm8.mono hl7,hi8,P8,Q,hP7,hQ7,hME,hH⟩⟩⟩
  ·have hE:Wc pg page=2:=by unfold Wc;rw[if_neg hr]
   have hG:evictG pg page=pg:=by unfold evictG;rw[hE];rfl
   rw[hE,hG] at hEv
   have hRa:=λ ρ2=>evict17r_arg ρ2 pa pc qa qc (m+1) fl page hr
   refine Yt [0,1,2,3,4,5] (.e 6 [] (.f [7] .o)) ([[(b5,.cells ⟨[.int .i64 kd,.int .i64 page,.int .i64 at',.slice a n c]⟩ 77 (0,0))]]) ?_
   repeat' (refine iT ?_;first|refine rA ?_|(refine rE ?_<;>(refine Zb (.func 78) ?_;refine qC rfl rfl hEv ?_;rintro v8 ρ8 L8 hq8 ⟨rfl,rfl,es8,ck8,hm8,rfl⟩;try simp only[kB])<;>(try simp only[kA])<;>refine zN ?_))
   all_goals (repeat' (first|(refine Zb (.func 87) ?_;refine qR rfl rfl (hRa _) ?_;try simp only[kA])|refine zV ?_|intro _))
   all_goals exact qE (L':=poL mb lb rb db m fl R w D k es8 ck8 va sp) ⟨Hp.le_refl _,m,fl,t,R,w,D,k,held,pg,es8,ck8,va,sp,pa,pc,qa,qc,m+1,fl,true,rfl,rfl,hdk,.inl ⟨rfl,rfl,rfl,by omega,by omega,id,⟨hst,hlg,hrg,hdk,hm8,hinv,P,Q,hP,hQ,hM,hH⟩⟩⟩
 ·rw[show (((5:Nat):Int) == 0)=false from rfl]
  repeat' (first|refine zV ?_|intro _)
  by_cases hr:0<=page/\page<64
  ·obtain⟨num,rfl⟩:∃num:Nat,page=num:=⟨page.toNat,by omega⟩
   have hnum:num<64:=by omega
   have hpl:=page_lv _ pb fb lb mb db 902 num t hp hf (by omega) hnum k D hdk pg es ck hmp held hst.fo hst.lv
   have hi2:=hinv.hold (k:=(num:Nat)) hr
   have hM2:MR (holdM P Q num) (Wd held (vw pg) (num:Nat)):=hM.hold hH hP.len hnum
   have hl2:(holdM P Q num).length=64:=by rw[holdM_len];exact hP.len
   have hR:=λ {ρ2:Hp} (hq:Hp.le _ ρ2)=>page17r_spec ρ2 pa pc qa qc (m+1) fl P Q (hP.mono hq) (hQ.mono hq) num hnum
   have hat:=hM2 num hnum
   rw[holdV_self] at hat
   generalize holdM P Q num=P2 at *
   generalize Yx held (vw pg) (num:Nat)=S at *
   obtain⟨Sc,Sl,Sr⟩:=S
   dsimp only at hpl
   rw[getD_mh (show num<P2.length by omega)] at hat
   have hyc:(P2[num]'(by omega)).c=Sc/\(P2[num]'(by omega)).lsn=Sl:=by
    split at hat
    ·simp only[Option.some.injEq,Prod.mk.injEq] at hat
     exact⟨hat.1.symm,hat.2.1.symm⟩
    ·cases hat
   clear hat
   refine Yt [0,1,2,3,4,5] (.b 6 11 [7,8,9,10] [] (.e 11 [] (.e 12 [] (.f [13,14] .o))) (.e 6 [7,8,9,10] (.e 12 [] (.f [13,14] .o)))) ([[(b5,.cells ⟨[.int .i64 kd,.int .i64 num,.int .i64 at',.slice a n c]⟩ 77 (0,0))]]) ?_
   repeat' (refine iT ?_;first|refine rA ?_|((first|(refine iE ?_;refine rE ?_)|(refine iB ?_;refine rB ?_ ?_))<;>((first|(refine Zb (.func 80) ?_;refine qC rfl rfl hpl ?_;rintro v6 ρ6 L6 hq6 ⟨hl6,w6,es6,ck6,pg6,D6,rfl,hC6,hm6,hv6,hk6,hL6,hF6,rfl⟩;try simp only[kB])|(refine qEf ?_;try intro _))<;>(try simp only[kA])<;>refine zN ?_)))
   all_goals (repeat' (first|(refine Zb (.func 88) ?_;refine qC rfl rfl (hR hl6) ?_;rintro v7 ρ7 L7 hq7 ⟨hl7,rfl,pa7,pc7,qa7,qc7,rfl,hP7,hQ7⟩;obtain⟨bp,op,Cp,Tp,fp,f1,hbp,hfp,hcp⟩:=hP7.at'.get (show num<P2.length by omega);have hcx:=hP7.cin _ (aM (show num<P2.length by omega));subst f1;generalize P2[num]'(by omega)=y at *;obtain⟨yi,yw,yc,yl,yr⟩:=y;dsimp only at hyc;obtain⟨rfl,rfl⟩:=hyc;dsimp only at hcx hcp hC6;try simp only[kB])|(refine Zb (.func 81) ?_;refine qR rfl rfl (sameR_spec _ w6 yw yc yc (hC6.mono hl7) hcx) ?_;simp only[decide_true,List.nil_append,List.cons_append])|refine zV ?_|intro _))
   all_goals
    have hl67:=Hp.le_trans hl6 hl7
    rw[<-hv6] at hM2 hi2
    exact qE (L':=poL mb lb rb db m fl R w D6 k es6 ck6 va sp) ⟨hl67,m,fl,t,R,w,D6,k,held,pg6,es6,ck6,va,sp,_,pc7,qa7,qc7,m+1,fl,true,rfl,rfl,hk6,.inl ⟨rfl,rfl,rfl,by omega,by omega,λ h=>by rw[hL6.armed];exact h,⟨hst.lv' hL6 hF6,hlg.mono hl67,hrg.mono hl67,hk6,hm6.mono hl7,hi2,P2,Q,hP7,hQ7,hM2,hH⟩⟩⟩
  ·have hpl:=λ ρ2=>page17_arg ρ2 pb page hr
   have hRa:=λ ρ2=>page17r_arg ρ2 pa pc qa qc (m+1) fl page hr
   have hsm:=λ ρ2=>sameR_spec ρ2 zCV zCV ⟨0,[],[]⟩ ⟨0,[],[]⟩ CIn.nil CIn.nil
   simp only[decide_true] at hsm
   refine Yt [0,1,2,3,4,5] (.b 6 11 [7,8,9,10] [] (.e 11 [] (.e 12 [] (.f [13,14] .o))) (.e 6 [7,8,9,10] (.e 12 [] (.f [13,14] .o)))) ([[(b5,.cells ⟨[.int .i64 kd,.int .i64 page,.int .i64 at',.slice a n c]⟩ 77 (0,0))]]) ?_
   repeat' (refine iT ?_;first|refine rA ?_|((first|(refine iE ?_;refine rE ?_)|(refine iB ?_;refine rB ?_ ?_))<;>((first|(refine Zb (.func 80) ?_;refine qR rfl rfl (hpl _) ?_;try simp only[kA])|(refine qEf ?_;try intro _))<;>(try simp only[kA])<;>refine zN ?_)))
   all_goals (repeat' (first|(refine Zb (.func 88) ?_;refine qR rfl rfl (hRa _) ?_;try simp only[kA])|(refine Zb (.func 81) ?_;refine qR rfl rfl (hsm _) ?_;try simp only[kA])|refine zV ?_|intro _))
   all_goals exact qE (L':=poL mb lb rb db m fl R w D k es ck va sp) ⟨Hp.le_refl _,m,fl,t,R,w,D,k,held,pg,es,ck,va,sp,pa,pc,qa,qc,m+1,fl,true,rfl,rfl,hdk,.inl ⟨rfl,rfl,rfl,by omega,by omega,id,⟨hst,hlg,hrg,hdk,hmp,hinv,P,Q,hP,hQ,hM,hH⟩⟩⟩
 ·rw[show (((6:Nat):Int) == 0)=false from rfl]
  have hfit:=λ n (hn:n<64)=>(hinv.seen hn).1
  have hfo:=forest17_spec _ pb fb lb mb db 902 t hp hf (by omega) k D hdk pg es ck hmp held hst.fo hst.lv (λ n hn=>(hfit n hn).ok)
  have hR:=λ {ρ2:Hp} (hq:Hp.le _ ρ2)=>forest17r_spec ρ2 pa pc qa qc (m+1) fl P Q (hP.mono hq) (hQ.mono hq) (vw pg) held hM hH hfit
  have hi2:=hinv.hAV 64 (aR _)
  generalize Vx held (vw pg) 64=cs at *
  repeat' (first|(refine Zb (.func 89) ?_;refine qC rfl rfl hfo ?_;rintro v6 ρ6 L6 hq6 ⟨hl6,fv6,e6,es6,ck6,pg6,D6,rfl,hf6,hm6,hv6,hk6,hL6,hF6,rfl⟩;obtain⟨he6,fa6,fn6,fc6,fl6,rfl,hn6,hF6',hm6'⟩:=hf6;try simp only[kB])|(refine Zb (.func 90) ?_;refine qC rfl rfl (hR hl6) ?_;rintro v7 ρ7 L7 hq7 ⟨hl7,rfl,pa7,pc7,qa7,qc7,P7,fv7,e7,rfl,hf7,hP7,hQ7,hM7⟩;obtain⟨he7,fa7,fn7,fc7,fl7,rfl,hn7,hF7',hm7'⟩:=hf7;try simp only[kB])|(refine Zb (.func 91) ?_;refine qR rfl rfl (same13_spec _ fa6 fa7 fn6 fn7 fc6 fc7 fl6 fl7 (hF6'.mono hl7) hF7' (by omega)) ?_;simp only[hm6',hm7',decide_true,List.nil_append,List.cons_append];rw[<-he7] at he6;subst he6)|refine zV ?_|intro _)
  have hl67:=Hp.le_trans hl6 hl7
  rw[<-hv6] at hM7 hi2
  exact qE (L':=poL mb lb rb db m fl R w D6 k es6 ck6 va sp) ⟨hl67,m,fl,t,R,w,D6,k,held,pg6,es6,ck6,va,sp,pa7,pc7,qa7,qc7,m+1,fl,true,rfl,rfl,hk6,.inl ⟨rfl,rfl,rfl,by omega,by omega,λ h=>by rw[hL6.armed];exact h,⟨hst.lv' hL6 hF6,hlg.mono hl67,hrg.mono hl67,hk6,hm6.mono hl7,hi2,P7,Q,hP7,hQ7,hM7,hH⟩⟩⟩
 ·rw[show (((7:Nat):Int) == 0)=false from rfl]
  have hF:=flush16_spec _ lb rb db (pS R fl m) va sp hlg w hrg k D hdk lsn (by have:=hst.le;show fl<1000000000000000;omega)
  by_cases hto:lsn<=m
  ·have hfm:∃R' f',((pS R fl m).flush lsn D).1=pS R' f' m:=by
    unfold LgS.flush
    split
    ·exact⟨R,fl,rfl⟩
    ·exact⟨_,_,rfl⟩
   rcases hst.flush hto with⟨h1,⟨R9,h2,h3⟩,h4⟩|⟨h1,h2,h3,h4⟩
   ·rw[h1,h2] at hF
    generalize ((pS R fl m).flush lsn D).2.1=D8 at *
    have hmx:max ((fl:Nat):Int) ((lsn:Nat):Int)=((max fl lsn:Nat):Int):=by omega
    repeat' (first|(refine Zb (.func 15) ?_;refine qC rfl rfl hF ?_;rintro v6 ρ6 L6 hq6 ⟨rfl,hl6,w6,k6,hr6,hk6,rfl⟩;try simp only[kB])|refine zV ?_|intro _)
    try rw[hmx]
    exact qE (L':=poL mb lb rb db m (max fl lsn) R9 w6 D8 k6 es ck va sp) ⟨hl6,m,max fl lsn,t,R9,w6,D8,k6,held,pg,es,ck,va,sp,pa,pc,qa,qc,m+1,max fl lsn,true,rfl,rfl,hk6,.inl ⟨rfl,rfl,rfl,by omega,by omega,h4,⟨h3,(hlg.mono hl6).at R9 (max fl lsn),hr6,hk6,hmp.mono hl6,hinv,P,Q,hP.mono hl6,hQ.mono hl6,hM,hH⟩⟩⟩
   ·obtain⟨R8,f8,hform⟩:=hfm
    rw[hform] at hF
    generalize ((pS R fl m).flush lsn D).2.1=D8 at *
    generalize ((pS R fl m).flush lsn D).2.2=e8 at *
    repeat' (first|(refine Zb (.func 15) ?_;refine qC rfl rfl hF ?_;rintro v6 ρ6 L6 hq6 ⟨rfl,hl6,w6,k6,hr6,hk6,rfl⟩;try simp only[kB])|refine zV ?_|intro _)
    exact qE (L':=poL mb lb rb db m f8 R8 w6 D8 k6 es ck va sp) ⟨hl6,m,f8,t,R8,w6,D8,k6,held,pg,es,ck,va,sp,pa,pc,qa,qc,m+1,fl,true,rfl,rfl,hk6,.inr ⟨h2,h3,h4⟩⟩
  ·have e:(pS R fl m).flush lsn D=(pS R fl m,D,2):=by unfold LgS.flush;rw[if_pos (by rw[pS_next];omega)]
   rw[e] at hF
   repeat' (first|(refine Zb (.func 15) ?_;refine qC rfl rfl hF ?_;rintro v6 ρ6 L6 hq6 ⟨rfl,hl6,w6,k6,hr6,hk6,rfl⟩;try simp only[kB])|refine zV ?_|intro _)
   exact qE (L':=poL mb lb rb db m fl R w6 D k6 es ck va sp) ⟨hl6,m,fl,t,R,w6,D,k6,held,pg,es,ck,va,sp,pa,pc,qa,qc,m+1,fl,true,rfl,rfl,hk6,.inl ⟨rfl,rfl,rfl,by omega,by omega,id,⟨hst,hlg.mono hl6,hr6,hk6,hmp.mono hl6,hinv,P,Q,hP.mono hl6,hQ.mono hl6,hM,hH⟩⟩⟩
end Go.Proofs.E
