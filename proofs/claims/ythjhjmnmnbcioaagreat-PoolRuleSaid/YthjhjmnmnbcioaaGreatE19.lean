/- Laws of PoolRule. Part 19 of 26. -/
import Derived.Test.YthjhjmnmnbcioaaGreatE18
set_option linter.unusedVariables false
set_option linter.unusedSimpArgs false
set_option linter.unusedSectionVars false
namespace Go.Proofs.E
open Go Tryz
set_option maxRecDepth 4000
set_option maxHeartbeats 1000000
attribute [local irreducible] Yl TL TC TE Spec YW R1 Hp.le EnvLe TS TR YS Zv TP QP
theorem lnumber_spec (ρ:Hp)(a:Option Addr)(n c:Nat)(l:Bs)(h:SIn ρ Zk a n l)(hn:n<=8) :
  Spec prog 122 [.slice a n c] ρ [] (λ v ρ' L'=>v=.int .u64 (ZM l:Nat)/\ρ'=ρ/\L'=[]):=by
 have hl:=h.len
 refine Za func122 rfl rfl rfl λ u R=>?_
 simp only[Zc,kA]
 repeat' (first|refine zW ?_|intro _)
 refine lpG (Nat×Nat) [5,6] (λ y=>[(7,.int .i64 y.1),(2,.int .u64 (y.2:Nat))]) (λ y=>ρ) (λ y=>[]) (λ y=>y.1<=n/\y.2=ZM (l.take y.1)) (λ y=>n-y.1) (0,0) ⟨aZ _,rfl⟩ ?_
 rintro⟨k,z⟩ hI
 try simp only[kB] at hI ⊢
 try dsimp only at hI ⊢
 obtain⟨hk,hz⟩:=hI
 by_cases hlt:k<n
 ·obtain⟨b,off,C,T,fr,rfl,hb,hc⟩:=h.get (show k<l.length by omega)
  have hzl:=unbe_take_lt l k (by omega) (by omega)
  rw[<-hz] at hzl
  have hs:=take_succ_unbe l k (by omega)
  have hbt:l[k].toNat<256:=l[k].toNat_lt
  generalize l[k]=b8 at *
  simp only[Zk] at hc
  repeat' (first|refine zW ?_|intro _)
  have e:(z:Int)*256+(b8.toNat:Int)=((z*256+b8.toNat:Nat):Int):=by omega
  rw[e]
  refine rnG (k+1,z*256+b8.toNat) (⟨hlt,by dsimp only;rw[hs,hz]⟩)
 ·have hk2:k=n:=by omega
  subst hk2
  rw[aT (by omega)] at hz
  subst hz
  repeat' (first|refine zW ?_|intro _)
  exact qE ⟨rfl,rfl,rfl⟩
def notedS (S:LgS)(b:Bs):LgS×Bool:=
 if b.length=0 then (S,true) else if b.length=12 then ({ S with ma:=ZM (b.take 8),nx:=(ZM (b.drop 8):Nat) },decide (1<=ZM (b.drop 8)/\ZM (b.drop 8)<=1073741824)) else (S,false)
theorem noted_spec (ρ:Hp)(lb rb:Nat)(S:LgS)(v:Value)(a:Option Addr)(n c:Nat)(b:Bs)(h:SIn ρ Zk a n b)(hc:n<=c) :
  Spec prog 62 [.pointer (some ⟨lb,0,none⟩),.slice a n c] ρ [ZW lb rb S v] (λ z ρ' L'=>z=.bool (notedS S b).2/\ρ'=ρ/\L'=[ZW lb rb (notedS S b).1 v]):=by
 have hl:=h.len
 refine Za func62 rfl rfl rfl λ u R=>?_
 simp only[Zc,kA,ZW]
 by_cases h0:n=0
 ·have e:notedS S b=(S,true):=if_pos (by omega)
  rw[e]
  have hd:((n:Int) == 0)=true:=by rw[h0];rfl
  repeat' (first|refine zW ?_|intro _)
  exact qE ⟨rfl,rfl,rfl⟩
 have hd:((n:Int) == 0)=false:=by simp;omega
 by_cases h12:n=12
 ·have hd2:((n:Int) == 12)=true:=by rw[h12];rfl
  have e:notedS S b=({ S with ma:=ZM (b.take 8),nx:=(ZM (b.drop 8):Nat) },decide (1<=ZM (b.drop 8)/\ZM (b.drop 8)<=1073741824)):=by
   unfold notedS;rw[if_neg (by omega),if_pos (by omega)]
  rw[e]
  have h8:=h.take (show 8<=n by omega)
  have h4:=h.sub (show 8<=n by omega) (aR n) hc
  rw[aT (by simp;omega)] at h4
  have hub:ZM (b.drop 8)<4294967296:=by
   have:=XT (b.drop 8);simpa [show b.length=12 by omega] using this
  subst h12
  repeat' (first|(refine Zb (.func 122) ?_;refine qR rfl rfl (lnumber_spec _ _ _ _ _ h8 (by decide)) ?_;try simp only[kA])|(refine Zb (.func 122) ?_;refine qR rfl rfl (lnumber_spec _ _ _ _ _ h4 (by decide)) ?_;try simp only[kA])|refine zW ?_|(refine zG (λ hb=>?_) (λ hb=>?_)<;>(try simp only[kH] at hb))|intro _)
  all_goals (refine qF (L':=[ZW lb rb { S with ma:=ZM (b.take 8),nx:=(ZM (b.drop 8):Nat) } v]) ?_;exact⟨WR (by (try simp[*]);first|done|omega|(intros;omega)|(constructor<;>intros<;>(try simp_all)<;>omega)),rfl,rfl⟩)
 ·have hd2:((n:Int) == 12)=false:=by simp;omega
  have e:notedS S b=(S,false):=by unfold notedS;rw[if_neg (by omega),if_neg (by omega)]
  rw[e]
  repeat' (first|refine zW ?_|intro _)
  exact qE ⟨rfl,rfl,rfl⟩
theorem u32_spec (ρ:Hp)(br:Nat)(a:Option Addr)(n c:Nat)(l:List UInt8)(h:SIn ρ Zk a n l)(hc:n<=c)(st:Int) :
  Spec prog 126 [.pointer (some ⟨br,0,none⟩)] ρ [rdC br a n c st]
   (λ v ρ' L'=>v=.int .u32 ((Yc 4 l st).1:Nat)/\ρ'=ρ/\∃a' n' c',SIn ρ Zk a' n' (Yc 4 l st).2.1/\n'<=c'/\L'=[rdC br a' n' c' (Yc 4 l st).2.2]):=by
 have hb:=Wm 4 l st
 have hn:=number_spec ρ br a n c l h hc st 4 (by omega)
 generalize Yc 4 l st=r at *
 refine Za func126 rfl rfl rfl λ u R=>?_
 simp only[Zc,kA]
 repeat' (first|(refine Zb (.func 187) ?_;refine qC rfl rfl (hn) ?_;rintro v ρ' L' hle ⟨rfl,rfl,a',n',c',hs',hc',rfl⟩<;>(try simp only[kA]))|refine zV ?_|intro _)
 exact qE ⟨rfl,rfl,a',n',c',hs',hc',rfl⟩
abbrev reC (tb br:Nat)(ra:Option Addr)(rn rc:Nat)(v:RV)(r:Rc)(bad:Bool):List (Nat×Obj):=[(tb,.cells ⟨[.pointer (some ⟨br,0,none⟩),.slice ra rn rc,.int .i64 r.kind,.int .u64 r.lsn,.int .i64 r.txn,.int .u64 r.prev,.int .u64 r.next,.slice v.i.a v.i.n v.i.c,.slice v.s.a v.s.n v.s.c,.int .i64 r.nextTxn,.slice v.t.a v.t.n v.t.c,.slice v.d.a v.d.n v.d.c,.bool bad]⟩ 209 (0,0))]
structure RdAt (ρ:Hp)(a:Option Addr)(n c:Nat)(ra:Option Addr)(rn rc:Nat)(R:List UInt8)(s:Yu):Prop where
 at':SIn ρ Zk a n s.1
 cap:n<=c
 rest:SIn ρ Zk ra rn R
 rcap:rn<=rc
 big:rn<=1000000
 suf:∃X,R=X++s.1
theorem RdAt.mono {ρ ρ' a n c ra rn rc R s}(h:RdAt ρ a n c ra rn rc R s)(hle:ρ.le ρ'):RdAt ρ' a n c ra rn rc R s:=⟨h.at'.mono hle,h.cap,h.rest.mono hle,h.rcap,h.big,h.suf⟩
theorem numR_suf (k:Nat)(l:List UInt8)(st:Int):∃X,l=X++(Yc k l st).2.1:=by
 unfold Yc
 split
 ·exact⟨[],rfl⟩
 ·split
  ·exact⟨[],rfl⟩
  ·exact⟨l.take k,(List.take_append_drop k l).symm⟩
theorem rawR_suf (k:Nat)(l:List UInt8)(st:Int):∃X,l=X++(VA k l st).2.1:=by
 unfold VA
 split
 ·exact⟨[],rfl⟩
 ·split
  ·exact⟨[],rfl⟩
  ·exact⟨l.take k,(List.take_append_drop k l).symm⟩
theorem RdAt.num {ρ a n c ra rn rc R s}(h:RdAt ρ a n c ra rn rc R s)(k:Nat){a' n' c'}(h1:SIn ρ Zk a' n' (Yc k s.1 s.2.1).2.1)(h2:n'<=c'):RdAt ρ a' n' c' ra rn rc R (rdN k s).2:=by
 obtain⟨X,hX⟩:=h.suf
 obtain⟨Y,hY⟩:=numR_suf k s.1 s.2.1
 exact⟨h1,h2,h.rest,h.rcap,h.big,X++Y,by rw[aA,hX];exact congrArg (X++·) hY⟩
theorem RdAt.skip {ρ a n c ra rn rc R s}(h:RdAt ρ a n c ra rn rc R s)(k:Int){a' n' c'}(h1:SIn ρ Zk a' n' (VA k.toNat s.1 s.2.1).2.1)(h2:n'<=c'):RdAt ρ a' n' c' ra rn rc R (skipS k s):=by
 obtain⟨X,hX⟩:=h.suf
 obtain⟨Y,hY⟩:=rawR_suf k.toNat s.1 s.2.1
 exact⟨h1,h2,h.rest,h.rcap,h.big,X++Y,by rw[aA,hX];exact congrArg (X++·) hY⟩
abbrev rdL (tb br:Nat)(a:Option Addr)(n c:Nat)(ra:Option Addr)(rn rc:Nat)(v:RV)(r:Rc)(s:Yu):SH:=[reC tb br ra rn rc v r s.2.2,rdC br a n c s.2.1]
theorem n8_spec (ρ:Hp)(br:Nat){a n c ra rn rc R}{s:Yu}(h:RdAt ρ a n c ra rn rc R s):Spec prog 124 [.pointer (some ⟨br,0,none⟩)] ρ [rdC br a n c s.2.1]
  (λ v ρ' L'=>v=.int .u8 ((rdN 1 s).1:Nat)/\ρ'=ρ/\∃a' n' c',RdAt ρ a' n' c' ra rn rc R (rdN 1 s).2/\L'=[rdC br a' n' c' (rdN 1 s).2.2.1]):=by
 refine (u8_spec ρ br a n c s.1 h.at' h.cap s.2.1).mono ?_
 rintro v ρ' L' _ ⟨h1,h2,a',n',c',h3,h4,h5⟩
 exact⟨h1,h2,a',n',c',h.num 1 h3 h4,h5⟩
theorem n16_spec (ρ:Hp)(br:Nat){a n c ra rn rc R}{s:Yu}(h:RdAt ρ a n c ra rn rc R s):Spec prog 196 [.pointer (some ⟨br,0,none⟩)] ρ [rdC br a n c s.2.1]
  (λ v ρ' L'=>v=.int .u16 ((rdN 2 s).1:Nat)/\ρ'=ρ/\∃a' n' c',RdAt ρ a' n' c' ra rn rc R (rdN 2 s).2/\L'=[rdC br a' n' c' (rdN 2 s).2.2.1]):=by
 refine (u16_spec ρ br a n c s.1 h.at' h.cap s.2.1).mono ?_
 rintro v ρ' L' _ ⟨h1,h2,a',n',c',h3,h4,h5⟩
 exact⟨h1,h2,a',n',c',h.num 2 h3 h4,h5⟩
theorem n32_spec (ρ:Hp)(br:Nat){a n c ra rn rc R}{s:Yu}(h:RdAt ρ a n c ra rn rc R s):Spec prog 126 [.pointer (some ⟨br,0,none⟩)] ρ [rdC br a n c s.2.1]
  (λ v ρ' L'=>v=.int .u32 ((rdN 4 s).1:Nat)/\ρ'=ρ/\∃a' n' c',RdAt ρ a' n' c' ra rn rc R (rdN 4 s).2/\L'=[rdC br a' n' c' (rdN 4 s).2.2.1]):=by
 refine (u32_spec ρ br a n c s.1 h.at' h.cap s.2.1).mono ?_
 rintro v ρ' L' _ ⟨h1,h2,a',n',c',h3,h4,h5⟩
 exact⟨h1,h2,a',n',c',h.num 4 h3 h4,h5⟩
theorem n64_spec (ρ:Hp)(br:Nat){a n c ra rn rc R}{s:Yu}(h:RdAt ρ a n c ra rn rc R s):Spec prog 125 [.pointer (some ⟨br,0,none⟩)] ρ [rdC br a n c s.2.1]
  (λ v ρ' L'=>v=.int .u64 ((rdN 8 s).1:Nat)/\ρ'=ρ/\∃a' n' c',RdAt ρ a' n' c' ra rn rc R (rdN 8 s).2/\L'=[rdC br a' n' c' (rdN 8 s).2.2.1]):=by
 refine (u64_spec ρ br a n c s.1 h.at' h.cap s.2.1).mono ?_
 rintro v ρ' L' _ ⟨h1,h2,a',n',c',h3,h4,h5⟩
 exact⟨h1,h2,a',n',c',h.num 8 h3 h4,h5⟩
theorem Wn (k:Nat)(s:Yu):(rdN k s).1<256 ^ k:=Wm k s.1 s.2.1
theorem rdN_bad (k:Nat)(s:Yu):(rdN k s).2.2.2=s.2.2:=rfl
theorem rok_spec (ρ:Hp)(tb br:Nat)(a:Option Addr)(n c:Nat)(ra:Option Addr)(rn rc:Nat)(v:RV)(r:Rc)(s:Yu):Spec prog 132 [.pointer (some ⟨tb,0,none⟩)] ρ (rdL tb br a n c ra rn rc v r s)
  (λ z ρ' L'=>z=.bool (okS s)/\ρ'=ρ/\L'=rdL tb br a n c ra rn rc v r s):=by
 obtain⟨l,st,bad⟩:=s
 unfold okS rdL
 refine Za func132 rfl rfl rfl λ u R=>?_
 simp only[Zc,kA]
 cases bad
 ·repeat' (first|(refine Zb (.func 201) ?_;refine qR rfl rfl (XE _ br a n c st) ?_;try simp only[kA])|refine zV ?_|intro _)
  refine qF (L':=[reC tb br ra rn rc v r false,rdC br a n c st]) ?_
  exact⟨WR (by (try simp[*]);first|done|omega|(intros;omega)|(constructor<;>intros<;>(try simp_all)<;>omega)),rfl,rfl⟩
 ·repeat' (first|refine zV ?_|intro _)
  exact qE ⟨rfl,rfl,rfl⟩
theorem tkT_fst_bad {α:Type}{t:List UInt8->α×Int×Int}{z:α}{s:Yu}(h:okS s=false):tkT t z s=(z,s):=by unfold tkT;rw[h];rfl
theorem tkT_err {α:Type}{t:List UInt8->α×Int×Int}{z:α}{s:Yu}(h:okS s=true)(he:(t s.1).2.2≠0):tkT t z s=(z,s.1,s.2.1,true):=by unfold tkT;rw[h,if_pos rfl,if_neg he]
theorem tkT_ok {α:Type}{t:List UInt8->α×Int×Int}{z:α}{s:Yu}(h:okS s=true)(he:(t s.1).2.2=0):tkT t z s=((t s.1).1,skipS (t s.1).2.1 s):=by unfold tkT;rw[h,if_pos rfl,if_pos he]
theorem RdAt.flag {ρ a n c ra rn rc R l st b}(h:RdAt ρ a n c ra rn rc R (l,st,b))(b':Bool):RdAt ρ a n c ra rn rc R (l,st,b'):=⟨h.at',h.cap,h.rest,h.rcap,h.big,h.suf⟩
theorem rtakenC_spec (ρ:Hp)(tb br:Nat)(v:RV)(r:Rc)(s:Yu){a n c ra rn rc Rs}(h:RdAt ρ a n c ra rn rc Rs s) :
  Spec prog 190 [.pointer (some ⟨tb,0,none⟩),.func (.func 191) ⟨[]⟩ ⟨[]⟩] ρ (rdL tb br a n c ra rn rc v r s)
   (λ z ρ' L'=>ρ.le ρ'/\∃cv a' n' c',z=.agg ⟨Yv (tkT Zq ztC s).1.kind cv⟩/\CI ρ' cv (tkT Zq ztC s).1/\RdAt ρ' a' n' c' ra rn rc Rs (tkT Zq ztC s).2/\L'=rdL tb br a' n' c' ra rn rc v r (tkT Zq ztC s).2):=by
 have hok:=rok_spec ρ tb br a n c ra rn rc v r s
 have hsl:=h.at'.len
 have hrl:=h.rest.len
 have hrb:=h.big
 have hrc:=h.rcap
 have hcap:=h.cap
 obtain⟨X,hX⟩:=h.suf
 have hXl:=congrArg List.length hX
 rw[aL] at hXl
 refine Za func190 rfl rfl rfl λ u R=>?_
 simp only[Zc,kA]
 cases ho:okS s
 ·rw[ho] at hok
  rw[tkT_fst_bad ho]
  repeat' (first|(refine Zb (.func 132) ?_;refine qR rfl rfl (hok) ?_;try simp only[kA])|refine zV ?_|intro _)
  exact qE ⟨Hp.le_refl _,nilCV,a,n,c,rfl,CI.nil,h,rfl⟩
 ·rw[ho] at hok
  obtain⟨l,st,bad⟩:=s
  have h2:=okS_iff ho
  simp only[Prod.mk.injEq] at h2
  obtain⟨rfl,rfl⟩:=h2
  dsimp only at hsl hX hXl
  have hlo:((rn:Int)-(n:Int)).toNat=rn-n:=by omega
  have hsub:=h.rest.sub (lo':=((rn:Int)-(n:Int)).toNat) (hi':=rn) (by omega) (aR _) (cap:=rc) hrc
  have hdl:(List.drop ((rn:Int)-(n:Int)).toNat Rs).take (rn-((rn:Int)-(n:Int)).toNat)=l:=by
   rw[hlo,hX,show rn-n=X.length by omega,List.drop_left' rfl,aT (by omega)]
  rw[hdl] at hsub
  have htc:=takeCont_spec ρ _ _ (rc-((rn:Int)-(n:Int)).toNat) l hsub (by omega)
  by_cases he:(Zq l).2.2=0
  ·obtain⟨m,e1,hm,g1,g2,g3⟩:=takeCont_ok he
   have hraw:=λ ρ (h:SIn ρ Zk a n l)=>raw_spec ρ br a n c l h hcap 0 m (by omega)
   have hskip:=λ {ρ a' n' c'} (h:RdAt ρ a n c ra rn rc Rs (l,0,false)) (h1:SIn ρ Zk a' n' (VA m l 0).2.1) (h2:n'<=c')=>h.skip (m:Int) (by simpa using h1) h2
   rw[tkT_ok ho he]
   dsimp only
   rw[e1] at htc ⊢
   rw[he] at htc
   unfold skipS at hskip ⊢
   simp only[Int.toNat_natCast] at hskip ⊢
   generalize (Zq l).1=x at *
   generalize VA m l 0=q at *
   repeat' (first|(refine Zb (.func 132) ?_;refine qR rfl rfl (hok) ?_;try simp only[kA])|refine zV ?_|intro _)
   refine tpZ [0,1,2,3,4,5,6,7,8,9,10,11,12,13] (.b 14 22 [15,16] [] (.b 17 22 [18,19,20,21] [] (.e 22 [] (.e 23 [] (.f [24,25] .o))) (.e 17 [18,19,20,21] (.e 23 [] (.f [24,25] .o)))) (.e 14 [15,16] (.e 17 [18,19,20,21] (.e 23 [] (.f [24,25] .o))))) ?_
   repeat' (refine iT ?_;first|refine rA ?_|((first|(refine iE ?_;refine rE ?_)|(refine iB ?_;refine rB ?_ ?_))<;>((first|(refine Zb (.func 133) ?_;refine qR rfl rfl (Vg _ br a n c 0) ?_;try simp only[kA])|(refine Zb (.tmp 14) ?_;refine qC rfl rfl (htc) ?_;rintro v ρ' L' hle ⟨hle1,w,rfl,hC,rfl⟩<;>(try simp only[kA]))|(refine qEf ?_;try intro _))<;>(try simp only[kA])<;>refine zN ?_)))
   all_goals (repeat' (first|(refine Zb (.func 240) ?_;refine qC rfl rfl (hraw _ (h.at'.mono (by assumption))) ?_;rintro v ρ' L' hle ⟨hle2,va,vn,vc,a',n',c',rfl,hvc,hs1,hs2,hc',rfl⟩<;>(try simp only[kA]))|refine zV ?_|intro _))
   all_goals exact qE ⟨Hp.le_trans hle1 hle2,w,a',n',c',rfl,⟨hC.mono hle2,g3.row,λ k hk=>(g3.kid k hk).id⟩,hskip (h.mono (Hp.le_trans hle1 hle2)) hs2 hc',rfl⟩
  ·rw[tkT_err ho he]
   obtain⟨f1,f2⟩:=takeCont_bad he
   rw[f1,f2] at htc
   dsimp only
   generalize (Zq l).2.2=e at *
   repeat' (first|(refine Zb (.func 132) ?_;refine qR rfl rfl (hok) ?_;try simp only[kA])|refine zV ?_|intro _)
   refine tpZ [0,1,2,3,4,5,6,7,8,9,10,11,12,13] (.b 14 22 [15,16] [] (.b 17 22 [18,19,20,21] [] (.e 22 [] (.e 23 [] (.f [24,25] .o))) (.e 17 [18,19,20,21] (.e 23 [] (.f [24,25] .o)))) (.e 14 [15,16] (.e 17 [18,19,20,21] (.e 23 [] (.f [24,25] .o))))) ?_
   repeat' (refine iT ?_;first|refine rA ?_|((first|(refine iE ?_;refine rE ?_)|(refine iB ?_;refine rB ?_ ?_))<;>((first|(refine Zb (.func 133) ?_;refine qR rfl rfl (Vg _ br a n c 0) ?_;try simp only[kA])|(refine Zb (.tmp 14) ?_;refine qC rfl rfl (htc) ?_;rintro v ρ' L' hle ⟨hle1,w,rfl,hC,rfl⟩<;>(try simp only[kA]))|(refine qEf ?_;try intro _))<;>(try simp only[kA])<;>refine zN ?_)))
   all_goals (repeat' (first|refine zV ?_|intro _))
   all_goals exact qE ⟨hle1,nilCV,a,n,c,rfl,CI.nil,(h.mono hle1).flag true,rfl⟩
theorem rowFit_z:XU ztR:=⟨by decide,by decide⟩
theorem takeRow_bad {l:List UInt8}(h:(Yd l).2.2≠0):(Yd l).1=ztR/\(Yd l).2.1=0:=by
 unfold Yd at h ⊢
 dsimp only at h ⊢
 generalize WA l 0 false=r at *
 obtain⟨x,l2,st2,b2⟩:=r
 dsimp only at h ⊢
 unfold takenE at h
 unfold takenN
 cases b2
 ·simp only[aB,if_false] at h ⊢
  simp[h]
 ·simp
theorem rtakenR_spec (ρ:Hp)(tb br:Nat)(v:RV)(r:Rc)(s:Yu){a n c ra rn rc Rs}(h:RdAt ρ a n c ra rn rc Rs s) :
  Spec prog 194 [.pointer (some ⟨tb,0,none⟩),.func (.func 195) ⟨[]⟩ ⟨[]⟩] ρ (rdL tb br a n c ra rn rc v r s)
   (λ z ρ' L'=>ρ.le ρ'/\XU (tkT Yd ztR s).1/\∃a' n' c',z=.agg ⟨Yz (tkT Yd ztR s).1⟩/\RdAt ρ' a' n' c' ra rn rc Rs (tkT Yd ztR s).2/\L'=rdL tb br a' n' c' ra rn rc v r (tkT Yd ztR s).2):=by
 have hok:=rok_spec ρ tb br a n c ra rn rc v r s
 have hsl:=h.at'.len
 have hrl:=h.rest.len
 have hrb:=h.big
 have hrc:=h.rcap
 have hcap:=h.cap
 obtain⟨X,hX⟩:=h.suf
 have hXl:=congrArg List.length hX
 rw[aL] at hXl
 refine Za func194 rfl rfl rfl λ u R=>?_
 simp only[Zc,kA]
 cases ho:okS s
 ·rw[ho] at hok
  rw[tkT_fst_bad ho]
  repeat' (first|(refine Zb (.func 132) ?_;refine qR rfl rfl (hok) ?_;try simp only[kA])|refine zV ?_|intro _)
  exact qE ⟨Hp.le_refl _,rowFit_z,a,n,c,rfl,h,rfl⟩
 ·rw[ho] at hok
  obtain⟨l,st,bad⟩:=s
  have h2:=okS_iff ho
  simp only[Prod.mk.injEq] at h2
  obtain⟨rfl,rfl⟩:=h2
  dsimp only at hsl hX hXl
  have hlo:((rn:Int)-(n:Int)).toNat=rn-n:=by omega
  have hsub:=h.rest.sub (lo':=((rn:Int)-(n:Int)).toNat) (hi':=rn) (by omega) (aR _) (cap:=rc) hrc
  have hdl:(List.drop ((rn:Int)-(n:Int)).toNat Rs).take (rn-((rn:Int)-(n:Int)).toNat)=l:=by
   rw[hlo,hX,show rn-n=X.length by omega,List.drop_left' rfl,aT (by omega)]
  rw[hdl] at hsub
  have htc:=takeRow_spec ρ _ _ (rc-((rn:Int)-(n:Int)).toNat) l hsub (by omega)
  by_cases he:(Yd l).2.2=0
  ·obtain⟨m,e1,hm,g1,g2,g3⟩:=takeRow_ok he
   have hraw:=λ ρ (h:SIn ρ Zk a n l)=>raw_spec ρ br a n c l h hcap 0 m (by omega)
   have hskip:=λ {ρ a' n' c'} (h:RdAt ρ a n c ra rn rc Rs (l,0,false)) (h1:SIn ρ Zk a' n' (VA m l 0).2.1) (h2:n'<=c')=>h.skip (m:Int) (by simpa using h1) h2
   rw[tkT_ok ho he]
   dsimp only
   rw[e1] at htc ⊢
   rw[he] at htc
   unfold skipS at hskip ⊢
   simp only[Int.toNat_natCast] at hskip ⊢
   generalize (Yd l).1=x at *
   generalize VA m l 0=q at *
   repeat' (first|(refine Zb (.func 132) ?_;refine qR rfl rfl (hok) ?_;try simp only[kA])|refine zV ?_|intro _)
   refine tpZ [0,1,2,3,4,5,6,7,8,9,10,11,12,13] (.b 14 22 [15,16] [] (.b 17 22 [18,19,20,21] [] (.e 22 [] (.e 23 [] (.f [24,25] .o))) (.e 17 [18,19,20,21] (.e 23 [] (.f [24,25] .o)))) (.e 14 [15,16] (.e 17 [18,19,20,21] (.e 23 [] (.f [24,25] .o))))) ?_
   repeat' (refine iT ?_;first|refine rA ?_|((first|(refine iE ?_;refine rE ?_)|(refine iB ?_;refine rB ?_ ?_))<;>((first|(refine Zb (.func 133) ?_;refine qR rfl rfl (Vg _ br a n c 0) ?_;try simp only[kA])|(refine Zb (.tmp 14) ?_;refine qC rfl rfl (htc) ?_;rintro v ρ' L' hle ⟨rfl,hle1,rfl⟩<;>(try simp only[kA]))|(refine qEf ?_;try intro _))<;>(try simp only[kA])<;>refine zN ?_)))
   all_goals (repeat' (first|(refine Zb (.func 240) ?_;refine qC rfl rfl (hraw _ (h.at'.mono (by assumption))) ?_;rintro v ρ' L' hle ⟨hle2,va,vn,vc,a',n',c',rfl,hvc,hs1,hs2,hc',rfl⟩<;>(try simp only[kA]))|refine zV ?_|intro _))
   all_goals exact qE ⟨Hp.le_trans hle1 hle2,g3,a',n',c',rfl,hskip (h.mono (Hp.le_trans hle1 hle2)) hs2 hc',rfl⟩
  ·rw[tkT_err ho he]
   obtain⟨f1,f2⟩:=takeRow_bad he
   rw[f1,f2] at htc
   dsimp only
   generalize (Yd l).2.2=e at *
   repeat' (first|(refine Zb (.func 132) ?_;refine qR rfl rfl (hok) ?_;try simp only[kA])|refine zV ?_|intro _)
   refine tpZ [0,1,2,3,4,5,6,7,8,9,10,11,12,13] (.b 14 22 [15,16] [] (.b 17 22 [18,19,20,21] [] (.e 22 [] (.e 23 [] (.f [24,25] .o))) (.e 17 [18,19,20,21] (.e 23 [] (.f [24,25] .o)))) (.e 14 [15,16] (.e 17 [18,19,20,21] (.e 23 [] (.f [24,25] .o))))) ?_
   repeat' (refine iT ?_;first|refine rA ?_|((first|(refine iE ?_;refine rE ?_)|(refine iB ?_;refine rB ?_ ?_))<;>((first|(refine Zb (.func 133) ?_;refine qR rfl rfl (Vg _ br a n c 0) ?_;try simp only[kA])|(refine Zb (.tmp 14) ?_;refine qC rfl rfl (htc) ?_;rintro v ρ' L' hle ⟨rfl,hle1,rfl⟩<;>(try simp only[kA]))|(refine qEf ?_;try intro _))<;>(try simp only[kA])<;>refine zN ?_)))
   all_goals (repeat' (first|refine zV ?_|intro _))
   all_goals exact qE ⟨hle1,rowFit_z,a,n,c,rfl,(h.mono hle1).flag true,rfl⟩
abbrev cbC (cb tb:Nat):List (Nat×Obj):=[(cb,.cells ⟨[.pointer (some ⟨tb,0,none⟩)]⟩ 205 (0,0))]
theorem rchange1_spec (ρ:Hp)(tb br cb:Nat)(v:RV)(r:Rc)(s:Yu){a n c ra rn rc Rs}(h:RdAt ρ a n c ra rn rc Rs s) :
  Spec prog 189 [.pointer (some ⟨cb,0,none⟩)] ρ (cbC cb tb::rdL tb br a n c ra rn rc v r s)
   (λ z ρ' L'=>ρ.le ρ'/\∃x a' n' c',z=.agg ⟨imV x⟩/\Im.In ρ' x/\x.plain=(imD (decide (r.kind=2)) s).1/\RdAt ρ' a' n' c' ra rn rc Rs (imD (decide (r.kind=2)) s).2/\L'=cbC cb tb::rdL tb br a' n' c' ra rn rc v r (imD (decide (r.kind=2)) s).2):=by
 have h8:=n8_spec ρ br h
 have hlt:=Wn 1 s
 unfold imD
 rw[show rdL tb br a n c ra rn rc v r s=[reC tb br ra rn rc v r (rdN 1 s).2.2.2,rdC br a n c s.2.1] from rfl]
 generalize rdN 1 s=p at *
 obtain⟨x1,s1⟩:=p
 dsimp only at h8 hlt ⊢
 unfold imDa imDb
 have hC:=λ ρ a n c (h:RdAt ρ a n c ra rn rc Rs s1)=>rtakenC_spec ρ tb br v r s1 h
 refine Za func189 rfl rfl rfl λ u R=>?_
 simp only[Zc,kA]
 by_cases h2:r.kind=2
 ·simp only[decide_eq_true h2,if_true]
  generalize tkT Zq ztC s1=q1 at *
  obtain⟨b,s2⟩:=q1
  dsimp only at hC ⊢
  have hC2:=λ ρ a n c (h:RdAt ρ a n c ra rn rc Rs s2)=>rtakenC_spec ρ tb br v r s2 h
  generalize tkT Zq ztC s2=q2 at *
  obtain⟨ca,s3⟩:=q2
  dsimp only at hC2 ⊢
  repeat' (first|(refine Zb (.func 124) ?_;refine qC rfl rfl (h8) ?_;rintro v ρ' L' hle ⟨rfl,rfl,a1,n1,c1,h1,rfl⟩<;>(try simp only[kA]))|(refine Zb (.func 190) ?_;refine qC rfl rfl (hC _ _ _ _ h1) ?_;rintro v ρ' L' hle ⟨hl2,w2,a2,n2,c2,rfl,hw2,g2,rfl⟩<;>(try simp only[kA]))|(refine Zb (.func 190) ?_;refine qC rfl rfl (hC2 _ _ _ _ g2) ?_;rintro v ρ' L' hle ⟨hl3,w3,a3,n3,c3,rfl,hw3,g3,rfl⟩<;>(try simp only[kA]))|refine zV ?_|intro _)
  exact qE ⟨Hp.le_trans hl2 hl3,⟨x1,w2,b,w3,ca⟩,a3,n3,c3,rfl,⟨hw2.mono hl3,hw3⟩,rfl,g3,rfl⟩
 ·simp only[decide_eq_false h2,aB,if_false]
  generalize tkT Zq ztC s1=q1 at *
  obtain⟨ca,s2⟩:=q1
  dsimp only at hC ⊢
  repeat' (first|(refine Zb (.func 124) ?_;refine qC rfl rfl (h8) ?_;rintro v ρ' L' hle ⟨rfl,rfl,a1,n1,c1,h1,rfl⟩<;>(try simp only[kA]))|(refine Zb (.func 190) ?_;refine qC rfl rfl (hC _ _ _ _ h1) ?_;rintro v ρ' L' hle ⟨hl2,w2,a2,n2,c2,rfl,hw2,g2,rfl⟩<;>(try simp only[kA]))|refine zV ?_|intro _)
  exact qE ⟨hl2,⟨x1,nilCV,ztC,w2,ca⟩,a2,n2,c2,rfl,⟨CI.nil,hw2⟩,rfl,g2,rfl⟩
theorem rdone1_spec (ρ:Hp)(tb br cb:Nat)(v:RV)(r:Rc)(s:Yu){a n c ra rn rc Rs}(h:RdAt ρ a n c ra rn rc Rs s) :
  Spec prog 193 [.pointer (some ⟨cb,0,none⟩)] ρ (cbC cb tb::rdL tb br a n c ra rn rc v r s)
   (λ z ρ' L'=>ρ.le ρ'/\z=.agg ⟨stpV (stpD s).1⟩/\XU (stpD s).1.row/\∃a' n' c',RdAt ρ' a' n' c' ra rn rc Rs (stpD s).2/\L'=cbC cb tb::rdL tb br a' n' c' ra rn rc v r (stpD s).2):=by
 have h8:=n8_spec ρ br h
 have hlt:=Wn 1 s
 unfold stpD
 rw[show rdL tb br a n c ra rn rc v r s=[reC tb br ra rn rc v r (rdN 1 s).2.2.2,rdC br a n c s.2.1] from rfl]
 generalize rdN 1 s=p at *
 obtain⟨x1,s1⟩:=p
 dsimp only at h8 hlt ⊢
 refine Za func193 rfl rfl rfl λ u R=>?_
 simp only[Zc,kA]
 by_cases h23:x1=2\/x1=3
 ·unfold stpDt stpDr
  rw[if_pos h23]
  have hC:=λ ρ a n c (h:RdAt ρ a n c ra rn rc Rs s1)=>rtakenR_spec ρ tb br v r s1 h
  generalize tkT Yd ztR s1=q1 at *
  obtain⟨b,s2⟩:=q1
  dsimp only at hC ⊢
  rcases h23 with e|e
  all_goals (repeat' (first|(refine Zb (.func 124) ?_;refine qC rfl rfl (h8) ?_;rintro v ρ' L' hle ⟨rfl,rfl,a1,n1,c1,h1,rfl⟩<;>(try simp only[kA]))|(refine Zb (.func 194) ?_;refine qC rfl rfl (hC _ _ _ _ h1) ?_;rintro v ρ' L' hle ⟨hl2,hf,a2,n2,c2,rfl,g2,rfl⟩<;>(try simp only[kA]))|refine zV ?_|intro _))
  all_goals exact qE ⟨hl2,rfl,hf,a2,n2,c2,g2,rfl⟩
 ·unfold stpDt stpDi
  rw[if_neg h23]
  have k8:=λ ρ a n c (h:RdAt ρ a n c ra rn rc Rs s1)=>n8_spec ρ br h
  have hlt1:=Wn 1 s1
  rw[show s1.2.2=(rdN 1 s1).2.2.2 from rfl]
  generalize rdN 1 s1=p1 at *
  obtain⟨x2,s2⟩:=p1
  dsimp only at k8 hlt1 ⊢
  have k16:=λ ρ a n c (h:RdAt ρ a n c ra rn rc Rs s2)=>n16_spec ρ br h
  have hlt2:=Wn 2 s2
  rw[show s2.2.2=(rdN 2 s2).2.2.2 from rfl]
  generalize rdN 2 s2=p2 at *
  obtain⟨x3,s3⟩:=p2
  dsimp only at k16 hlt2 ⊢
  unfold stpDb
  by_cases hx1:x1=1
  ·rw[if_pos hx1]
   have k64:=λ ρ a n c (h:RdAt ρ a n c ra rn rc Rs s3)=>n64_spec ρ br h
   have hlt3:=Wn 8 s3
   rw[show s3.2.2=(rdN 8 s3).2.2.2 from rfl]
   generalize rdN 8 s3=p3 at *
   obtain⟨x4,s4⟩:=p3
   dsimp only at k64 hlt3 ⊢
   repeat' (first|(refine Zb (.func 124) ?_;refine qC rfl rfl (h8) ?_;rintro v ρ' L' hle ⟨rfl,rfl,a1,n1,c1,h1,rfl⟩<;>(try simp only[kA]))|(refine Zb (.func 124) ?_;refine qC rfl rfl (k8 _ _ _ _ h1) ?_;rintro v ρ' L' hle ⟨rfl,rfl,a2,n2,c2,h2,rfl⟩<;>(try simp only[kA]))|(refine Zb (.func 196) ?_;refine qC rfl rfl (k16 _ _ _ _ h2) ?_;rintro v ρ' L' hle ⟨rfl,rfl,a3,n3,c3,h3,rfl⟩<;>(try simp only[kA]))|(refine Zb (.func 125) ?_;refine qC rfl rfl (k64 _ _ _ _ h3) ?_;rintro v ρ' L' hle ⟨rfl,rfl,a4,n4,c4,h4,rfl⟩<;>(try simp only[kA]))|refine zV ?_|intro _)
   exact qE ⟨Hp.le_refl _,rfl,⟨by dsimp only;omega,by dsimp only;decide⟩,a4,n4,c4,h4,rfl⟩
  ·rw[if_neg hx1]
   repeat' (first|(refine Zb (.func 124) ?_;refine qC rfl rfl (h8) ?_;rintro v ρ' L' hle ⟨rfl,rfl,a1,n1,c1,h1,rfl⟩<;>(try simp only[kA]))|(refine Zb (.func 124) ?_;refine qC rfl rfl (k8 _ _ _ _ h1) ?_;rintro v ρ' L' hle ⟨rfl,rfl,a2,n2,c2,h2,rfl⟩<;>(try simp only[kA]))|(refine Zb (.func 196) ?_;refine qC rfl rfl (k16 _ _ _ _ h2) ?_;rintro v ρ' L' hle ⟨rfl,rfl,a3,n3,c3,h3,rfl⟩<;>(try simp only[kA]))|refine zV ?_|intro _)
   exact qE ⟨Hp.le_refl _,rfl,⟨by dsimp only;omega,by dsimp only;decide⟩,a3,n3,c3,h3,rfl⟩
theorem rckpt2_spec (ρ:Hp)(tb br cb:Nat)(v:RV)(r:Rc)(s:Yu){a n c ra rn rc Rs}(h:RdAt ρ a n c ra rn rc Rs s) :
  Spec prog 200 [.pointer (some ⟨cb,0,none⟩)] ρ (cbC cb tb::rdL tb br a n c ra rn rc v r s)
   (λ z ρ' L'=>ρ.le ρ'/\z=.agg ⟨ckPV (ckPD s).1⟩/\True/\∃a' n' c',RdAt ρ' a' n' c' ra rn rc Rs (ckPD s).2/\L'=cbC cb tb::rdL tb br a' n' c' ra rn rc v r (ckPD s).2):=by
 have h8:=n8_spec ρ br h
 have hlt:=Wn 1 s
 unfold ckPD
 rw[show rdL tb br a n c ra rn rc v r s=[reC tb br ra rn rc v r (rdN 1 s).2.2.2,rdC br a n c s.2.1] from rfl]
 generalize rdN 1 s=p at *
 obtain⟨x1,s1⟩:=p
 dsimp only at h8 hlt ⊢
 unfold ckPr
 have k64:=λ ρ a n c (h:RdAt ρ a n c ra rn rc Rs s1)=>n64_spec ρ br h
 have hlt3:=Wn 8 s1
 rw[show s1.2.2=(rdN 8 s1).2.2.2 from rfl]
 generalize rdN 8 s1=p3 at *
 obtain⟨x4,s4⟩:=p3
 dsimp only at k64 hlt3 ⊢
 refine Za func200 rfl rfl rfl λ u R=>?_
 simp only[Zc,kA]
 repeat' (first|(refine Zb (.func 124) ?_;refine qC rfl rfl (h8) ?_;rintro v ρ' L' hle ⟨rfl,rfl,a1,n1,c1,h1,rfl⟩<;>(try simp only[kA]))|(refine Zb (.func 125) ?_;refine qC rfl rfl (k64 _ _ _ _ h1) ?_;rintro v ρ' L' hle ⟨rfl,rfl,a4,n4,c4,h4,rfl⟩<;>(try simp only[kA]))|refine zV ?_|intro _)
 exact qE ⟨Hp.le_refl _,rfl,trivial,a4,n4,c4,h4,rfl⟩
theorem rckpt1_spec (ρ:Hp)(tb br cb:Nat)(v:RV)(r:Rc)(s:Yu){a n c ra rn rc Rs}(h:RdAt ρ a n c ra rn rc Rs s) :
  Spec prog 198 [.pointer (some ⟨cb,0,none⟩)] ρ (cbC cb tb::rdL tb br a n c ra rn rc v r s)
   (λ z ρ' L'=>ρ.le ρ'/\z=.agg ⟨ckTV (ckTD s).1⟩/\True/\∃a' n' c',RdAt ρ' a' n' c' ra rn rc Rs (ckTD s).2/\L'=cbC cb tb::rdL tb br a' n' c' ra rn rc v r (ckTD s).2):=by
 have h8:=n32_spec ρ br h
 have hlt:=Wn 4 s
 unfold ckTD
 rw[show rdL tb br a n c ra rn rc v r s=[reC tb br ra rn rc v r (rdN 4 s).2.2.2,rdC br a n c s.2.1] from rfl]
 generalize rdN 4 s=p at *
 obtain⟨x1,s1⟩:=p
 dsimp only at h8 hlt ⊢
 unfold ckTf
 have k1:=λ ρ a n c (h:RdAt ρ a n c ra rn rc Rs s1)=>n64_spec ρ br h
 have hlt1:=Wn 8 s1
 rw[show s1.2.2=(rdN 8 s1).2.2.2 from rfl]
 generalize rdN 8 s1=p1 at *
 obtain⟨x2,s2⟩:=p1
 dsimp only at k1 hlt1 ⊢
 unfold ckTl
 have k2:=λ ρ a n c (h:RdAt ρ a n c ra rn rc Rs s2)=>n64_spec ρ br h
 have hlt2:=Wn 8 s2
 rw[show s2.2.2=(rdN 8 s2).2.2.2 from rfl]
 generalize rdN 8 s2=p2 at *
 obtain⟨x3,s3⟩:=p2
 dsimp only at k2 hlt2 ⊢
 unfold ckTu
 have k3:=λ ρ a n c (h:RdAt ρ a n c ra rn rc Rs s3)=>n64_spec ρ br h
 have hlt3:=Wn 8 s3
 rw[show s3.2.2=(rdN 8 s3).2.2.2 from rfl]
 generalize rdN 8 s3=p3 at *
 obtain⟨x4,s4⟩:=p3
 dsimp only at k3 hlt3 ⊢
 unfold ckTe
 have k4:=λ ρ a n c (h:RdAt ρ a n c ra rn rc Rs s4)=>n8_spec ρ br h
 have hlt4:=Wn 1 s4
 rw[show s4.2.2=(rdN 1 s4).2.2.2 from rfl]
 generalize rdN 1 s4=p4 at *
 obtain⟨x5,s5⟩:=p4
 dsimp only at k4 hlt4 ⊢
 refine Za func198 rfl rfl rfl λ u R=>?_
 simp only[Zc,kA]
 repeat' (first|(refine Zb (.func 126) ?_;refine qC rfl rfl (h8) ?_;rintro v ρ' L' hle ⟨rfl,rfl,a1,n1,c1,h1,rfl⟩<;>(try simp only[kA]))|refine zV ?_|intro _)
 refine Yt [0,1,2,3,5,6,7,8,10,11,12,13] (.e 4 [15] (.e 9 [] (.e 14 [] (.e 16 [17] (.e 18 [19] (.e 20 [] .o)))))) ([[(_,.cells ⟨[.pointer (some ⟨tb,0,none⟩)]⟩ 205 (0,0))],[(tb,_)]]) ?_
 repeat' (refine iT ?_;first|refine rA ?_|(refine rE ?_<;>((first|(refine Zb (.func 125) ?_;refine qC rfl rfl (k1 _ _ _ _ h1) ?_;rintro v ρ' L' hle ⟨rfl,rfl,a2,n2,c2,g2,rfl⟩<;>(try simp only[kA]))|(refine Zb (.func 125) ?_;refine qC rfl rfl (k2 _ _ _ _ g2) ?_;rintro v ρ' L' hle ⟨rfl,rfl,a3,n3,c3,g3,rfl⟩<;>(try simp only[kA]))|(refine Zb (.func 125) ?_;refine qC rfl rfl (k3 _ _ _ _ g3) ?_;rintro v ρ' L' hle ⟨rfl,rfl,a4,n4,c4,g4,rfl⟩<;>(try simp only[kA]))|refine qEf ?_)<;>(try simp only[kA])<;>refine zN ?_)))
 all_goals (repeat' (first|(refine Zb (.func 124) ?_;refine qC rfl rfl (k4 _ _ _ _ g4) ?_;rintro v ρ' L' hle ⟨rfl,rfl,a5,n5,c5,g5,rfl⟩<;>(try simp only[kA]))|refine zV ?_|intro _))
 all_goals exact qE ⟨Hp.le_refl _,rfl,trivial,a5,n5,c5,g5,rfl⟩
end Go.Proofs.E
