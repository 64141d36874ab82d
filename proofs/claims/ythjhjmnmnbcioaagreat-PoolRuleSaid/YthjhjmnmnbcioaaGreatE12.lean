/- Laws of PoolRule. Part 12 of 26. -/
import Derived.Test.YthjhjmnmnbcioaaGreatE11
set_option linter.unusedVariables false
set_option linter.unusedSimpArgs false
set_option linter.unusedSectionVars false
namespace Go.Proofs.E
open Go Tryz
set_option maxRecDepth 4000
set_option maxHeartbeats 1000000
attribute [local irreducible] Yl TL TC TE Spec YW R1 Hp.le EnvLe TS TR YS Zv TP QP
def Ve (x:Nat):Nat:=if x % 2=1 then (x / 2) ^^^ 2197175160 else x / 2
def hit:Nat->Nat->Nat
 | 0,x=>x
 | j+1,x=>Ve (hit j x)
theorem hstep_lt {x:Nat}(h:x<4294967296):Ve x<4294967296:=by
 unfold Ve
 split
 ·exact Nat.xor_lt_two_pow (n:=32) (by omega) (by decide)
 ·omega
theorem hit_lt {x:Nat}(h:x<4294967296):∀j,hit j x<4294967296
 | 0=>h
 | j+1=>hstep_lt (hit_lt h j)
def tabV:List Value:=(List.range 16).map λ n=>.int .u32 (hit 4 n:Nat)
def tabU (i:Nat):List Value:=((List.range i).map λ n=>Value.int .u32 (hit 4 n:Nat))++List.replicate (16-i) (.int .u32 0)
theorem tabU_len {i:Nat}(h:i<=16):(tabU i).length=16:=by simp[tabU];omega
theorem stc_at (A B:List Value)(x y:Value){i:Nat}(h:A.length=i):stc (A++x::B) (0+i*1) [y]=A++y::B:=by
 unfold stc
 rw[Nat.zero_add,Nat.mul_one,List.take_left' h]
 have hd:List.drop (i+[y].length) (A++x::B)=B:=by
  rw[List.drop_append,List.drop_eq_nil_of_le (by simp;omega)]
  simp[<-h]
 rw[hd];simp
theorem tabU_set {i:Nat}(h:i<16):stc (tabU i) (0+i*1) [Value.int .u32 (hit 4 i:Nat)]=tabU (i+1):=by
 unfold tabU
 have e:16-i=(16-(i+1))+1:=by omega
 rw[e,List.replicate_succ,stc_at _ _ _ _ (by simp),List.range_succ,List.map_append]
 simp
theorem halves_spec (ρ:Hp):Spec prog 296 [] ρ [] (λ v ρ' L'=>v=.agg ⟨tabV⟩/\ρ'=ρ/\L'=[]):=by
 refine Za func296 rfl rfl rfl λ u R=>?_
 simp only[Zc,kA]
 repeat' (first|refine zB ?_|intro _)
 rename_i b0 b1
 refine lpG (Nat×(List Value)) [0,1] (λ z=>[(4,.int .i64 z.1)]) (λ z=>ρ) (λ z=>[[(b1,.cells ⟨z.2⟩ 364 (0,0))]]) (λ z=>z.1<=16/\z.2=tabU z.1) (λ z=>16-z.1) ((0,List.replicate 16 (.int .u32 0))) ⟨aZ _,rfl⟩ ?_
 rintro⟨i,cs⟩ hI
 try simp only[kB] at hI ⊢
 try dsimp only at hI ⊢
 obtain⟨hi,rfl⟩:=hI
 have hcl:=tabU_len hi
 by_cases hlt:i<16
 ·have hst:=tabU_set hlt
  repeat' (first|refine zB ?_|intro _)
  refine lpG (Nat×Nat) [0,1,2,4,5,6,7,8] (λ z=>[(9,.int .i64 z.1),(3,.int .u32 z.2)]) (λ z=>ρ) (λ z=>[]) (λ z=>z.1<=4/\z.2=hit z.1 i) (λ z=>4-z.1) (0,i) ⟨aZ _,rfl⟩ ?_
  rintro⟨j,y⟩ hI
  try simp only[kB] at hI ⊢
  try dsimp only at hI ⊢
  obtain⟨hj,rfl⟩:=hI
  have hyl:=hit_lt (x:=i) (by omega) j
  by_cases hlj:j<4
  ·generalize hy:hit j i=y at *
   have hand:andI (y:Int) 1=((y % 2:Nat):Int):=by simp[andI,Nat.and_one_is_mod]
   have hnx:hit (j+1) i=Ve y:=by rw[<-hy];rfl
   unfold Ve at hnx
   have hdv:((y:Nat):Int) / 2 ^ 1=((y / 2:Nat):Int):=by omega
   by_cases ho:y % 2=1
   ·rw[if_pos ho] at hnx
    have hxo:xorI ((y / 2:Nat):Int) 2197175160=((hit (j+1) i:Nat):Int):=by
     rw[hnx]
     show ((((y / 2:Nat):Int).toNat ^^^ (2197175160:Int).toNat:Nat):Int)=_
     rw[Int.toNat_natCast];rfl
    rw[ho] at hand
    repeat' (first|refine zB ?_|intro _)
    simp only[hdv,hxo]
    refine rnG (j+1,_) (⟨hlj,rfl⟩)
   ·rw[if_neg ho] at hnx
    rw[show y % 2=0 by omega] at hand
    repeat' (first|refine zB ?_|intro _)
    simp only[hdv,<-hnx]
    refine rnG (j+1,_) (⟨hlj,rfl⟩)
  ·have h4:j=4:=by omega
   subst h4
   repeat' (first|refine zB ?_|intro _)
   rw[hst]
   refine rnG (i+1,_) (⟨hlt,rfl⟩)
 ·have h16:i=16:=by omega
  subst h16
  have ht:tabU 16=tabV:=by simp[tabU,tabV]
  rw[ht] at hcl ⊢
  repeat' (first|refine zB ?_|intro _)
  exact qE (L':=[]) ⟨rfl,rfl,rfl⟩
def hal (l n:Nat):Nat:=(l / 16) ^^^ hit 4 ((l ^^^ n) &&& 15)
def byt (l:Nat)(c:UInt8):Nat:=hal (hal l (c.toNat &&& 15)) (c.toNat / 16)
def goesN (l:Nat)(b:List UInt8):Nat:=b.foldl byt l
def sumB (b:List UInt8):Nat:=4294967295 ^^^ goesN 4294967295 b
theorem and15 (n:Nat):n &&& 15<16:=Nat.lt_of_le_of_lt Nat.and_le_right (by decide)
theorem hal_lt {l n:Nat}(h:l<4294967296):hal l n<4294967296:=by
 unfold hal
 exact Nat.xor_lt_two_pow (n:=32) (by omega) (hit_lt (by have:=and15 (l ^^^ n);omega) 4)
theorem byt_lt {l:Nat}{c:UInt8}(h:l<4294967296):byt l c<4294967296:=hal_lt (hal_lt h)
theorem goesN_lt:∀(b:List UInt8) {l:Nat},l<4294967296->goesN l b<4294967296
 | [],l,h=>h
 | c::r,l,h=>by show goesN (byt l c) r<_;exact goesN_lt r (byt_lt h)
theorem sumB_lt (b:List UInt8):sumB b<4294967296:=Nat.xor_lt_two_pow (n:=32) (by decide) (goesN_lt b (by decide))
theorem tabV_len:tabV.length=16:=by simp[tabV]
theorem tabV_at {i:Nat}(h:i<16):tabV[0+i*1]?=some (.int .u32 (hit 4 i:Nat)):=by
 simp[tabV,h]
theorem goes1_spec (ρ:Hp)(lb tb l n:Nat)(hl:l<4294967296)(hn:n<256) :
  Spec prog 297 [.int .u8 n,.pointer (some ⟨lb,0,none⟩),.pointer (some ⟨tb,0,none⟩)] ρ [[(lb,.cells ⟨[.int .u32 l]⟩ 211 (0,0))],[(tb,.cells ⟨tabV⟩ 364 (0,0))]]
   (λ v ρ' L'=>v=.tuple ⟨[]⟩/\ρ'=ρ/\L'=[[(lb,.cells ⟨[.int .u32 (hal l n:Nat)]⟩ 211 (0,0))],[(tb,.cells ⟨tabV⟩ 364 (0,0))]]):=by
 have hx:xorI (l:Int) (n:Int)=((l ^^^ n:Nat):Int):=by simp[xorI]
 have hxl:l ^^^ n<4294967296:=Nat.xor_lt_two_pow (n:=32) (by omega) (by omega)
 have ha:andI ((l ^^^ n:Nat):Int) 15=(((l ^^^ n) &&& 15:Nat):Int):=by simp[andI]
 have hal':=and15 (l ^^^ n)
 have hlen:=tabV_len
 have hat:=tabV_at hal'
 have hv:=hit_lt (x:=(l ^^^ n) &&& 15) (by omega) 4
 have hd:((l:Nat):Int) / 2 ^ 4=((l / 16:Nat):Int):=by omega
 have hr:xorI ((l / 16:Nat):Int) ((hit 4 ((l ^^^ n) &&& 15):Nat):Int)=((hal l n:Nat):Int):=by
  show (((((l / 16:Nat):Int).toNat) ^^^ (((hit 4 ((l ^^^ n) &&& 15):Nat):Int)).toNat:Nat):Int)=_
  rw[Int.toNat_natCast,Int.toNat_natCast];rfl
 generalize (l ^^^ n) &&& 15=i at *
 have ha2:andI (xorI (l:Int) (n:Int)) 15=(i:Int):=by rw[hx,ha]
 have hat2:tabV[0+(andI (xorI (l:Int) (n:Int)) 15).toNat*1]?=some (.int .u32 (hit 4 i:Nat)):=by rw[ha2,Int.toNat_natCast];exact hat
 have hxb:0<=xorI (l:Int) (n:Int)/\xorI (l:Int) (n:Int)<4294967296:=by omega
 refine Za func297 rfl rfl rfl λ u R=>?_
 simp only[Zc,kA]
 refine Yt [3,4] (.b 0 2 [1] [5,6,7,8] (.e 2 [5,6,7,8,9] (.e 10 [] .o)) (.e 0 [1,9] (.e 10 [] .o))) ([[(tb,.cells ⟨tabV⟩ 364 (0,0))]]) ?_
 repeat' (refine iT ?_;first|refine rA ?_|(refine iQ ?_;refine rQ ?_ (y:=by intro _ _;first|exact y_and rfl rfl (by simp only[bitsHi];omega) (by simp only[bitsHi];omega) (by decide)|exact y_xor rfl rfl (by simp only[bitsHi];omega) (by simp only[bitsHi];omega) (by decide)))|((first|(refine iE ?_;refine rE ?_)|(refine iB ?_;refine rB ?_ ?_))<;>((first|(refine i_qq ?_;refine qQ ?_)|refine qEf ?_)<;>(try simp only[kA])<;>refine zN ?_)))
 all_goals (repeat' (first|refine zB ?_|intro _))
 all_goals simp only[hd,hr]
 all_goals exact qE (L':=[[(lb,_)],[(tb,_)]]) ⟨rfl,rfl,rfl⟩
theorem goes_spec (ρ:Hp)(l:Nat)(hl:l<4294967296)(a:Option Addr)(n c:Nat)(b:List UInt8)(hb:SIn ρ Zk a n b)(hbig:n<=1000000) :
  Spec prog 291 [.int .u32 l,.slice a n c] ρ [] (λ v ρ' L'=>v=.int .u32 (goesN l b:Nat)/\ρ'=ρ/\L'=[]):=by
 have hlen:=hb.len
 refine Za func291 rfl rfl rfl λ u R=>?_
 simp only[Zc,kA]
 repeat' (first|(refine Zb (.func 296) ?_;refine qC rfl rfl (halves_spec _) ?_;rintro v ρ' L' hle ⟨rfl,rfl,rfl⟩<;>(try simp only[kA]))|refine zB ?_|intro _)
 rename_i lb tb
 refine lpG (Nat×Nat) [2,4,6,11,12] (λ z=>[(13,.int .i64 z.1)]) (λ z=>ρ') (λ z=>[[(tb,.cells ⟨tabV⟩ 364 (0,0))],[(lb,.cells ⟨[.int .u32 z.2]⟩ 211 (0,0))]]) (λ z=>z.1<=n/\z.2<4294967296/\z.2=goesN l (b.take z.1)) (λ z=>n-z.1) (0,l) ⟨aZ _,hl,rfl⟩ ?_
 rintro⟨i,y⟩ hI
 try simp only[kB] at hI ⊢
 try dsimp only at hI ⊢
 obtain⟨hi,hy,hgo⟩:=hI
 by_cases hlt:i<n
 ·obtain⟨bx,off,C,T,fr,rfl,hb1,hc1⟩:=hb.get (show i<b.length by omega)
  have hnx:goesN l (b.take (i+1))=byt y (b[i]'(by omega)):=by
   rw[hgo];unfold goesN;rw[aG (by omega),List.foldl_append];rfl
  generalize b[i]'(by omega)=ch at *
  have hcl:=ch.toNat_lt
  have hq1:ch.toNat &&& 15<256:=by have:=and15 ch.toNat;omega
  have hsh:((ch.toNat:Nat):Int) / 2 ^ 4=((ch.toNat / 16:Nat):Int):=by omega
  have hh:=hal_lt (n:=ch.toNat &&& 15) hy
  have hand:andI ((ch.toNat:Nat):Int) 15=((ch.toNat &&& 15:Nat):Int):=by simp[andI]
  repeat' (first|refine zB ?_|intro _)
  simp only[hand]
  repeat' (first|(refine Zb (.tmp 17) ?_;refine qC rfl rfl (goes1_spec _ lb tb y (ch.toNat &&& 15) hy hq1) ?_;rintro v ρ' L' hle ⟨rfl,rfl,rfl⟩<;>(try simp only[kA]))|(refine Zb (.tmp 21) ?_;refine qC rfl rfl (goes1_spec _ lb tb (hal y (ch.toNat &&& 15)) (ch.toNat / 16) hh (by omega)) ?_;rintro v ρ' L' hle ⟨rfl,rfl,rfl⟩<;>(try simp only[kA]))|refine zB ?_|intro _)
  refine rnG (i+1,byt y ch) (⟨hlt,byt_lt hy,hnx.symm⟩)
 ·have hin:i=n:=by omega
  subst hin
  rw[aT (by omega)] at hgo
  repeat' (first|refine zB ?_|intro _)
  rw[hgo]
  exact qE (L':=[]) ⟨rfl,rfl,rfl⟩
theorem sum32_spec (ρ:Hp)(a:Option Addr)(n c:Nat)(b:List UInt8)(hb:SIn ρ Zk a n b)(hbig:n<=1000000) :
  Spec prog 251 [.slice a n c] ρ [] (λ v ρ' L'=>v=.int .u32 (sumB b:Nat)/\ρ'=ρ/\L'=[]):=by
 have hj:Spec prog 282 [.int .u32 0,.slice a n c] ρ [] (λ v ρ' L'=>v=.int .u32 (sumB b:Nat)/\ρ'=ρ/\L'=[]):=by
  have h1:xorI 4294967295 0=((4294967295:Nat):Int):=by simp[xorI]
  have hg:=goesN_lt b (l:=4294967295) (by decide)
  have hgs:=goes_spec ρ 4294967295 (by decide) a n c b hb hbig
  have h2:xorI 4294967295 ((goesN 4294967295 b:Nat):Int)=((sumB b:Nat):Int):=by
   show (((4294967295:Int).toNat ^^^ ((goesN 4294967295 b:Nat):Int).toNat:Nat):Int)=_
   rw[Int.toNat_natCast];rfl
  generalize goesN 4294967295 b=g at *
  refine Za func282 rfl rfl rfl λ u R=>?_
  simp only[Zc,kA]
  repeat' (first|refine zB ?_|intro _)
  simp only[h1]
  repeat' (first|(refine Zb (.func 291) ?_;refine qC rfl rfl (hgs) ?_;rintro v ρ' L' hle ⟨rfl,rfl,rfl⟩<;>(try simp only[kA]))|refine zB ?_|intro _)
  rw[h2]
  exact qE (L':=[]) ⟨rfl,rfl,rfl⟩
 refine Za func251 rfl rfl rfl λ u R=>?_
 simp only[Zc,kA]
 repeat' (first|(refine Zb (.func 282) ?_;refine qC rfl rfl (hj) ?_;rintro v ρ' L' hle ⟨rfl,rfl,rfl⟩<;>(try simp only[kA]))|refine zB ?_|intro _)
 exact qE (L':=[]) ⟨rfl,rfl,rfl⟩
structure SlD where
 stamp:Nat
 lsn:Nat
 c:ZO
 right:Bool
 most:Nat
def zSl:SlD:=⟨0,0,⟨0,[],[]⟩,false,0⟩
abbrev slV (s:SlD)(w:CV):List Value:=[.int .u64 s.stamp,.int .u64 s.lsn,.int .i64 s.c.kind,.slice w.ra w.rn w.rc,.slice w.ka w.kn w.kc,.bool s.right,.int .u64 s.most]
def dataB (c:ZO):Bs:=Xp 84 (UInt8.ofNat (Yf c).length::Yf c)
theorem dataB_len (c:ZO):(dataB c).length=84:=Wq _ _
def bodyF (num st lsn:Nat)(c:ZO)(i:Nat):Bs:=UInt8.ofNat num::UInt8.ofNat i::(be 8 st++(be 8 lsn++((dataB c).drop (42*i)).take 42))
def Zx (num st lsn:Nat)(c:ZO)(i:Nat):Blk:=bodyF num st lsn c i++be 4 (sumB (bodyF num st lsn c i))
theorem bodyF_len (num st lsn:Nat)(c:ZO){i:Nat}(hi:i<2):(bodyF num st lsn c i).length=60:=by
 simp[bodyF,Zh,dataB_len];omega
theorem Xg (num st lsn:Nat)(c:ZO){i:Nat}(hi:i<2):(Zx num st lsn c i).length=64:=by
 unfold Zx;rw[aL,bodyF_len num st lsn c hi,Zh]
theorem fit_lay {n:Nat}{l:Bs}(h:l.length<=n):Xp n l=l++z8 (n-l.length):=by
 unfold Xp z8
 rw[List.take_append,aT h,List.take_replicate]
 congr 2;omega
theorem data_lay {l:Bs}(x:UInt8)(h:l.length<=83):stc (stc ((z8 84).map Zk) (0+Int.toNat 0*1) [Zk x]) 1 ((l.map Zk).take 83)=(Xp 84 (x::l)).map Zk:=by
 have e1:stc ((z8 84).map Zk) (0+Int.toNat 0*1) [Zk x]=Zk x::List.replicate 83 (Zk 0):=by simp[stc,z8]
 have e2:∀m,List.drop (1+m) (Zk x::List.replicate 83 (Zk 0))=List.replicate (83-m) (Zk 0):=λ m=>by rw[Nat.add_comm,List.drop_succ_cons,List.drop_replicate]
 rw[e1,fit_lay (by simp;omega),aT (by simp;omega)]
 unfold stc
 rw[e2]
 simp[z8]
def outF (num st lsn:Nat)(c:ZO)(i:Nat):Bs:=(List.range i).flatMap (Zx num st lsn c)++z8 (128-64*i)
theorem outF_one (num st lsn:Nat)(c:ZO):outF num st lsn c 1=Zx num st lsn c 0++z8 64:=by simp[outF]
theorem outF_two (num st lsn:Nat)(c:ZO):outF num st lsn c 2=Zx num st lsn c 0++Zx num st lsn c 1:=by
 rw[outF,show List.range 2=[0,1] from rfl];simp[z8]
theorem outF_len (num st lsn:Nat)(c:ZO){i:Nat}(hi:i<=2):(outF num st lsn c i).length=128:=by
 rcases (show i=0\/i=1\/i=2 by omega) with rfl|rfl|rfl
 ·simp[outF,z8]
 ·rw[outF_one,aL,Xg _ _ _ _ (by omega)];simp[z8]
 ·rw[outF_two,aL,Xg _ _ _ _ (by omega),Xg _ _ _ _ (by omega)]
theorem outF_lay (num st lsn:Nat)(c:ZO){i:Nat}(hi:i<2):stc ((outF num st lsn c i).map Zk) (0+i*64) (((Zx num st lsn c i).map Zk).take 64)=(outF num st lsn c (i+1)).map Zk:=by
 have hp:=Xg num st lsn c hi
 rw[aT (by simp;omega)]
 rcases (show i=0\/i=1 by omega) with rfl|rfl
 ·rw[outF_one]
  simp only[outF,List.range_zero,List.flatMap_nil,List.nil_append,stc]
  simp[z8,hp]
 ·rw[outF_one,outF_two]
  have h0:=Xg num st lsn c (i:=0) (by omega)
  simp only[stc,List.map_append]
  rw[List.take_left' (by simp[h0]),List.drop_eq_nil_of_le (by simp[h0,hp,z8])]
  simp
theorem parts_spec (ρ:Hp)(num:Nat)(hnum:num<64)(s:SlD)(w:CV)(h:CIn ρ w s.c.rows s.c.kids)(hok:Zp s.c=true)(hir:∀r∈s.c.rows,r.id<65536)(hik:∀k∈s.c.kids,k.id<65536)(hst:s.stamp<18446744073709551616)(hls:s.lsn<18446744073709551616) :
  Spec prog 208 [.int .i64 num,.agg ⟨slV s w⟩] ρ [] (λ v ρ' L'=>v=.agg ⟨(Zx num s.stamp s.lsn s.c 0++Zx num s.stamp s.lsn s.c 1).map Zk⟩/\ρ.le ρ'/\L'=[]):=by
 have hce:=contE_spec ρ w s.c h hir hik
 rw[hok] at hce
 simp only[if_true] at hce
 refine Za func208 rfl rfl rfl λ u R=>?_
 simp only[Zc,kA]
 repeat' (first|(refine Zb (.func 250) ?_;refine qC rfl rfl (hce) ?_;rintro v ρ' L' hle ⟨hl1,xa,xn,xc,rfl,hxc,hxs,rfl⟩<;>(try simp only[kA]))|refine zW ?_|intro _)
 have hxl:=hxs.len
 have h82:=Vc hok
 have hlb:=lenB (n:=xn) (by omega)
 have hdl:=data_lay (l:=Yf s.c) (UInt8.ofNat xn) (by omega)
 rename_i b3 b4
 repeat' (first|(refine WK rfl rfl (by omega) (by omega) (by omega) (by omega) rfl (λ hbn=>?_);simp only[Nat.mul_one,made_z8])|refine zW ?_|intro _)
 simp only[show (Int.toNat 84=Int.toNat 1)=False from eq_false (by decide),if_false,Option.map_some,YY,hlb]
 refine tl_copy (ys:=(Yf s.c).map Zk) rfl rfl (SIn.srcV hxs) (by simpa using hxl) (ZH _) (by simp[stc,z8];omega) rfl ?_
 rw[show Int.toNat 84-Int.toNat 1=83 from rfl,show 0+Int.toNat 1*1=1 from rfl,show Int.toNat 84=84 from rfl,hdl,show Xp 84 (UInt8.ofNat xn::Yf s.c)=dataB s.c by rw[<-hxl];rfl]
 refine Zt [(hbn,.cells ⟨(dataB s.c).map Zk⟩ 5 (0,0))] (h:=Rem.here) (λ ρ2 hl2 hfz=>?_)
 have hdn:=hfz _ (List.mem_singleton.2 rfl)
 have hdt:=sIn_l hdn
 rw[dataB_len] at hdt
 repeat' (first|refine zW ?_|intro _)
 refine lpG (Nat×Hp) [0,3,4,7] (λ z=>[(26,.int .i64 z.1)]) (λ z=>z.2) (λ z=>[[(b4,.cells ⟨(outF num s.stamp s.lsn s.c z.1).map Zk⟩ 199 (0,0))],[(b3,.cells ⟨slV s w⟩ 173 (0,0))]]) (λ z=>z.1<=2/\ρ2.le z.2) (λ z=>2-z.1) (0,ρ2) ⟨aZ _,Hp.le_refl _⟩ ?_
 rintro⟨i,ρ3⟩ hI
 try simp only[kB] at hI ⊢
 try dsimp only at hI ⊢
 obtain⟨hi,hl3⟩:=hI
 by_cases hlt:i<2
 ·have hsub:=(hdt.mono hl3).sub (lo':=i*42) (hi':=(i+1)*42) (by omega) (by omega) (cap:=84) (by omega)
  have hbn8:=lenB (n:=num) (by omega)
  have hbi8:=lenB (n:=i) (by omega)
  have hbl:=bodyF_len num s.stamp s.lsn s.c hlt
  have hpl:=Xg num s.stamp s.lsn s.c hlt
  have hol:=outF_lay num s.stamp s.lsn s.c hlt
  have hoL:=outF_len num s.stamp s.lsn s.c hi
  repeat' (first|refine zW ?_|intro _)
  refine Yt [0,1,2,3,5,6,8,9] (.e 4 [] (.e 7 [] (.e 10 [] (.f [11] .o)))) ([[(b3,.cells ⟨slV s w⟩ 173 (0,0))]]) ?_
  repeat' (refine iT ?_;first|refine rA ?_|(refine rE ?_<;>((first|(simp only[hbn8,hbi8];refine Zl rfl rfl rfl rfl (by simp) rfl rfl (λ hb8=>?_);refine Zt [(hb8,.cells ⟨[UInt8.ofNat num,UInt8.ofNat i].map Zk⟩ 5 (0,0))] (h:=Rem.here) (λ ρ4 hl4 hfz4=>?_);have hs4:=sIn_l (hfz4 _ (List.mem_singleton.2 rfl)))|(refine Zb (.func 231) ?_;refine qC rfl rfl (put64_spec _ _ _ _ _ hs4 s.stamp hst (by simp)) ?_;rintro v5 ρ5 L5 hle5 ⟨rfl,sp5,hown5,rfl⟩;simp only[kA];refine Zt _ (h:=Rem.here) (λ ρ6 hl6 hfz6=>?_);obtain⟨a6,c6,rfl,hc6,hs6⟩:=hown5.sIn hfz6)|(refine Zb (.func 231) ?_;refine qC rfl rfl (put64_spec _ _ _ _ _ hs6 s.lsn hls (by simp)) ?_;rintro v7 ρ7 L7 hle7 ⟨rfl,sp7,hown7,rfl⟩;simp only[kA])|(refine qEf ?_;try intro _))<;>(try simp only[kA])<;>refine zN ?_)))
  have hown7':OwnS v7 18 ((UInt8.ofNat num::UInt8.ofNat i::(be 8 s.stamp++be 8 s.lsn)).map Zk) sp7 1:=hown7
  have h60:18+((i+1)*42-i*42)=60:=by omega
  have hq1:((i:Int)*42).toNat=i*42:=by omega
  have hq2:(((i:Int)+1)*42).toNat=(i+1)*42:=by omega
  have hbody:(UInt8.ofNat num::UInt8.ofNat i::(be 8 s.stamp++be 8 s.lsn)).map Zk++(((dataB s.c).drop (i*42)).take ((i+1)*42-i*42)).map Zk=(bodyF num s.stamp s.lsn s.c i).map Zk:=by
   rw[show (i+1)*42-i*42=42 by omega,Nat.mul_comm i 42,<-List.map_append]
   congr 1
  have hl37:ρ3.le ρ7:=Hp.le_trans hl4 hl6
  repeat' (first|(simp only[hq1,hq2];refine YA (m:=(i+1)*42-i*42) (sz:=1) rfl rfl hown7' (hR:=by infer_instance) (SIn.srcV (hsub.mono hl37)) (by simp[dataB_len];omega) (ZH _) (by decide) rfl (by omega) (by omega) rfl (λ v8 sp8 hown8=>?_);rw[hbody] at hown8 ⊢;refine Zt (ZG v8 ((bodyF num s.stamp s.lsn s.c i).map Zk) sp8 5) (h:=by infer_instance) (λ ρ8 hl8 hfz8=>?_);obtain⟨a8,c8,rfl,hc8,hs8⟩:=hown8.sIn hfz8;simp only[h60] at hs8 hc8 hown8 ⊢)|refine zW ?_|intro _)
  refine Yt [0,1,2,3,4] (.e 5 [] (.e 6 [] (.e 7 [] .o))) ([]) ?_
  repeat' (refine iT ?_;first|refine rA ?_|(refine rE ?_<;>((first|(refine Zb (.func 251) ?_;refine qR rfl rfl (sum32_spec _ a8 60 c8 _ hs8 (by omega)) ?_;try simp only[kA])|(refine Zb (.func 232) ?_;refine qC rfl rfl (put32_spec _ a8 60 c8 _ hs8 (sumB (bodyF num s.stamp s.lsn s.c i)) (sumB_lt _) (by omega)) ?_;rintro v9 ρ9 L9 hle9 ⟨rfl,sp9,hown9,rfl⟩;simp only[kA];refine Zt _ (h:=Rem.here) (λ ρ10 hl10 hfz10=>?_);obtain⟨a10,c10,rfl,hc10,hs10⟩:=hown9.sIn hfz10)|((try simp only[Int.toNat_natCast]);refine tl_copy (ys:=(Zx num s.stamp s.lsn s.c i).map Zk) rfl rfl (SIn.srcV hs10) (by simp[hpl]) (ZH _) (by simp[hoL];omega) rfl ?_;simp only[hol])|(refine qEf ?_;try intro _))<;>(try simp only[kA])<;>refine zN ?_)))
  all_goals (repeat' (first|refine zW ?_|intro _))
  all_goals refine rnG (i+1,_) (⟨hlt,Hp.le_trans hl3 (Hp.le_trans hl37 (Hp.le_trans hl8 hl10))⟩)
 ·have h2:i=2:=by omega
  subst h2
  have hL2:((outF num s.stamp s.lsn s.c 2).map Zk).length=128:=by rw[List.length_map];exact outF_len _ _ _ _ (by omega)
  rw[outF_two] at hL2 ⊢
  have hL1:=ZH (Zx num s.stamp s.lsn s.c 0++Zx num s.stamp s.lsn s.c 1)
  repeat' (first|refine zW ?_|intro _)
  have hfin:=Hp.le_trans hl1 (Hp.le_trans hl2 hl3)
  exact qE (L':=[]) ⟨rfl,hfin,rfl⟩
def Yo (num:Nat)(a b:Blk):SlD:=
 if 83<(a.getD 18 0).toNat then zSl
 else
  ⟨ZM ((a.drop 2).take 8),ZM ((a.drop 10).take 8),(Zq ((((a.drop 18).take 42++(b.drop 18).take 42).drop 1).take (a.getD 18 0).toNat)).1,
   decide ((Zq ((((a.drop 18).take 42++(b.drop 18).take 42).drop 1).take (a.getD 18 0).toNat)).2.2=0/\(Zq ((((a.drop 18).take 42++(b.drop 18).take 42).drop 1).take (a.getD 18 0).toNat)).2.1=(a.getD 18 0).toNat/\0<ZM ((a.drop 2).take 8) /\
    Zx num (ZM ((a.drop 2).take 8)) (ZM ((a.drop 10).take 8)) (Zq ((((a.drop 18).take 42++(b.drop 18).take 42).drop 1).take (a.getD 18 0).toNat)).1 0++Zx num (ZM ((a.drop 2).take 8)) (ZM ((a.drop 10).take 8)) (Zq ((((a.drop 18).take 42++(b.drop 18).take 42).drop 1).take (a.getD 18 0).toNat)).1 1=a++b),0⟩
theorem unbe_take8 (l:Bs):ZM (l.take 8)<18446744073709551616:=by
 have:=XT (l.take 8)
 have h8:(l.take 8).length<=8:=by simp;omega
 have:256 ^ (l.take 8).length<=256 ^ 8:=Nat.pow_le_pow_right (by decide) h8
 omega
theorem u64_ok (ρ:Hp)(br:Nat)(a:Option Addr)(n c:Nat)(l:Bs)(h:SIn ρ Zk a n l)(hc:n<=c)(h8:8<=n) :
  Spec prog 125 [.pointer (some ⟨br,0,none⟩)] ρ [rdC br a n c 0]
   (λ v ρ' L'=>v=.int .u64 (ZM (l.take 8):Nat)/\ρ'=ρ/\∃a' c',SIn ρ Zk a' (n-8) (l.drop 8)/\n-8<=c'/\L'=[rdC br a' (n-8) c' 0]):=by
 have hl:=h.len
 have e:Yc 8 l 0=(ZM (l.take 8),l.drop 8,0):=by unfold Yc;rw[if_neg (by simp),if_neg (by omega)]
 refine (u64_spec ρ br a n c l h hc 0).mono ?_
 rintro v ρ' L' _ ⟨h1,h2,a',n',c',h3,h4,h5⟩
 rw[e] at h1 h3 h5
 have hn:n'=n-8:=by have:=h3.len;simp at this;omega
 subst hn
 exact⟨h1,h2,a',c',h3,h4,h5⟩
theorem u32_ok (ρ:Hp)(br:Nat)(a:Option Addr)(n c:Nat)(l:Bs)(h:SIn ρ Zk a n l)(hc:n<=c)(h4:4<=n) :
  Spec prog 126 [.pointer (some ⟨br,0,none⟩)] ρ [rdC br a n c 0] (λ v ρ' L'=>v=.int .u32 (ZM (l.take 4):Nat)/\ρ'=ρ/\∃a' n' c',L'=[rdC br a' n' c' 0]):=by
 have hl:=h.len
 have e:Yc 4 l 0=(ZM (l.take 4),l.drop 4,0):=by unfold Yc;rw[if_neg (by simp),if_neg (by omega)]
 have hn:=number_spec ρ br a n c l h hc 0 4 (by omega)
 rw[e] at hn
 have hlt:=XT (l.take 4)
 rw[show (l.take 4).length=4 by simp;omega] at hlt
 dsimp only at hn
 generalize ZM (l.take 4)=x at *
 refine Za func126 rfl rfl rfl λ u R=>?_
 simp only[Zc,kA]
 repeat' (first|(refine Zb (.func 187) ?_;refine qC rfl rfl (hn) ?_;rintro v ρ' L' hle ⟨rfl,rfl,a',n',c',hs',hc',rfl⟩<;>(try simp only[kA]))|refine zB ?_|intro _)
 exact qE ⟨rfl,rfl,a',n',c',rfl⟩
theorem says_spec (ρ:Hp)(num:Nat)(hnum:num<64)(a b:Blk)(ha:a.length=64)(hb:b.length=64) :
  Spec prog 217 [.int .i64 num,.agg ⟨(a++b).map Zk⟩] ρ [] (λ v ρ' L'=>ρ.le ρ'/\∃w,v=.agg ⟨slV (Yo num a b) w⟩/\CIn ρ' w (Yo num a b).c.rows (Yo num a b).c.kids/\L'=[]):=by
 have hab:((a++b).map Zk).length=128:=by simp[ha,hb]
 have hone:=ZH (a++b)
 have e8:((a++b).drop 2).take 16=(a.drop 2).take 16:=by rw[List.drop_append_of_le_length (by omega),List.take_append_of_le_length (by simp;omega)]
 refine Za func217 rfl rfl rfl λ u R=>?_
 simp only[Zc,kA]
 repeat' (first|refine zB ?_|intro _)
 rename_i b3 b4
 refine Zt [(b3,.cells ⟨(a++b).map Zk⟩ 199 (0,0))] (h:=by infer_instance) (λ ρ1 hl1 hfz=>?_)
 have hbs:=hfz _ (List.mem_singleton.2 rfl)
 have hs16:=XR hbs 2 16 (by simp;omega)
 rw[e8] at hs16
 simp only[show 0+Int.toNat 0*64+Int.toNat 2*1=2 from rfl,show Int.toNat 18-Int.toNat 2=16 from rfl]
 repeat' (first|(refine Zb (.func 123) ?_;refine qC rfl rfl (read_spec _ _ 16 _ _ hs16 (by omega)) ?_;rintro v2 ρ2 L2 hle2 ⟨hl2,br,ra,rc,rfl,hrc,hrs,rfl⟩;simp only[kA])|refine zB ?_|intro _)
 repeat' (first|(refine Zb (.func 125) ?_;refine qC rfl rfl (u64_ok _ br ra 16 rc _ hrs hrc (by omega)) ?_;rintro v3 ρ3 L3 hle3 ⟨rfl,rfl,ra3,rc3,hrs3,hrc3,rfl⟩;simp only[kA])|refine zB ?_|intro _)
 repeat' (first|(refine Zb (.func 125) ?_;refine qC rfl rfl (u64_ok _ br ra3 8 rc3 _ hrs3 hrc3 (by omega)) ?_;rintro v4 ρ4 L4 hle4 ⟨rfl,rfl,ra4,rc4,hrs4,hrc4,rfl⟩;simp only[kA])|refine zB ?_|intro _)
 rename_i b6
 have hd0:(a++b).getD 18 0=a.getD 18 0:=by simp[List.getD_eq_getElem?_getD,List.getElem?_append_left (show 18<a.length by omega)]
 have hx1:ZM (((a.drop 2).take 16).take 8)=ZM ((a.drop 2).take 8):=by rw[List.take_take];rfl
 have hx2:ZM ((((a.drop 2).take 16).drop 8).take 8)=ZM ((a.drop 10).take 8):=by rw[List.drop_take,List.take_take,List.drop_drop];rfl
 simp only[hx1,hx2]
 have hb4:=Hp.at' hl2 hbs
 dsimp only at hb4
 have hld:List.take 128 (List.drop 0 ((a++b).map Zk))=(a++b).map Zk:=by rw[List.drop_zero,aT (by omega)]
 obtain⟨dat,hdat⟩:∃dat,dat=(a.drop 18).take 42++(b.drop 18).take 42:=⟨_,rfl⟩
 have hdl:dat.length=84:=by rw[hdat];simp;omega
 repeat' (first|refine zB ?_|intro _)
 refine lpG (Nat×Hp×Value×(List Value)) [0,3,4,6,22] (λ z=>[(23,.int .i64 z.1),(7,z.2.2.1)]) (λ z=>z.2.1) (λ z=>[ZG z.2.2.1 ((dat.take (42*z.1)).map Zk) z.2.2.2 5]) (λ z=>z.1<=2/\ρ4.le z.2.1/\OwnS z.2.2.1 (42*z.1) ((dat.take (42*z.1)).map Zk) z.2.2.2 1) (λ z=>2-z.1) (0,ρ4,.slice none 0 0,[]) ⟨aZ _,Hp.le_refl _,OwnS.nil 1⟩ ?_
 rintro⟨i,ρ5,v,sp⟩ hI
 try simp only[kB] at hI ⊢
 try dsimp only at hI ⊢
 obtain⟨hi,hl5,hown⟩:=hI
 by_cases hlt:i<2
 ·obtain⟨blk,hbl,hix,hnx⟩:∃blk:Blk,blk.length=64/\(((a++b).map Zk).drop (i*64)).take 64=blk.map Zk/\((dat.take (42*i)).map Zk++((blk.drop 18).take 42).map Zk)=(dat.take (42*(i+1))).map Zk:=by
   have hla:((a.drop 18).take 42).length=42:=by simp;omega
   have hlb:((b.drop 18).take 42).length=42:=by simp;omega
   rcases (show i=0\/i=1 by omega) with rfl|rfl
   ·refine⟨a,ha, ?_, ?_⟩
    ·rw[List.map_append,Nat.zero_mul,List.drop_zero,List.take_left' (by simpa using ha)]
    ·rw[hdat]
     simp only[Nat.mul_zero,List.take_zero,List.map_nil,List.nil_append]
     rw[List.take_left' hla]
   ·refine⟨b,hb, ?_, ?_⟩
    ·rw[List.map_append,Nat.one_mul,List.drop_left' (by simpa using ha),aT (by simp;omega)]
    ·rw[aT (show dat.length<=42*(1+1) by omega),hdat,List.take_left' (by omega),List.map_append]
  have hb64:(blk.map Zk).length=64:=by simpa using hbl
  have hbo:=ZH blk
  have hsub:((blk.map Zk).drop 18).take 42=((blk.drop 18).take 42).map Zk:=by rw[List.map_take,List.map_drop]
  have hsl:(((blk.drop 18).take 42).map Zk).length=42:=by simp;omega
  repeat' (first|(refine tl_y (y_index_a rfl rfl hlt hix) rfl rfl ?_)|(simp only[show Int.toNat 60-Int.toNat 18=42 from rfl,show 0+Int.toNat 18*1=18 from rfl];refine YA (ys:=((blk.drop 18).take 42).map Zk) (m:=42) (sz:=1) rfl rfl hown (hR:=by infer_instance) (SrcV.find hsub) hsl (ZH _) (by decide) rfl (by omega) (by omega) rfl (λ v7 sp7 hown7=>?_);rw[hnx] at hown7 ⊢)|refine zB ?_|intro _)
  refine rnG (i+1,ρ5,v7,sp7) (⟨hlt,hl5,hown7⟩)
 ·have h2:i=2:=by omega
  subst h2
  rw[aT (show dat.length<=42*2 by omega)] at hown ⊢
  repeat' (first|refine zB ?_|intro _)
  refine Zt (ZG v (dat.map Zk) sp 5) (h:=by infer_instance) (λ ρ6 hl6 hfz6=>?_)
  obtain⟨a7,c7,rfl,hc7,hs7⟩:=hown.sIn hfz6
  obtain⟨bx,ox,Cx',Tx,frx,rfl,hbx,hcx⟩:=hs7.get (i:=0) (by omega)
  have hda:dat[0]'(by omega)=a.getD 18 0:=by
   simp only[hdat]
   rw[List.getElem_append_left (by simp;omega),List.getElem_take,List.getElem_drop]
   rw[List.getD_eq_getElem?_getD,List.getElem?_eq_getElem (by omega)];rfl
  rw[hda] at hcx
  have hdlt:=(a.getD 18 0).toNat_lt
  have hsF:Yo num a b=if 83<(a.getD 18 0).toNat then zSl else
   ⟨ZM ((a.drop 2).take 8),ZM ((a.drop 10).take 8),(Zq ((dat.drop 1).take (a.getD 18 0).toNat)).1,
   decide ((Zq ((dat.drop 1).take (a.getD 18 0).toNat)).2.2=0/\(Zq ((dat.drop 1).take (a.getD 18 0).toNat)).2.1=(a.getD 18 0).toNat/\0<ZM ((a.drop 2).take 8) /\
    Zx num (ZM ((a.drop 2).take 8)) (ZM ((a.drop 10).take 8)) (Zq ((dat.drop 1).take (a.getD 18 0).toNat)).1 0++Zx num (ZM ((a.drop 2).take 8)) (ZM ((a.drop 10).take 8)) (Zq ((dat.drop 1).take (a.getD 18 0).toNat)).1 1=a++b),0⟩:=by
   rw[hdat];rfl
  have hst8:=unbe_take8 (a.drop 2)
  have hls8:=unbe_take8 (a.drop 10)
  generalize Yo num a b=S at *
  generalize ZM ((a.drop 2).take 8)=st at *
  generalize ZM ((a.drop 10).take 8)=ls at *
  generalize a.getD 18 0=d8 at *
  have hcx2:Cx'[ox+Int.toNat 0*1]?=some (Zk d8):=hcx
  have hl46:ρ.le ρ6:=Hp.le_trans hl1 (Hp.le_trans hl2 (Hp.le_trans hl5 hl6))
  by_cases hbig:83<d8.toNat
  ·rw[if_pos hbig] at hsF
   subst hsF
   repeat' (first|refine zB ?_|intro _)
   exact qE (L':=[]) ⟨hl46,⟨none,0,0,none,0,0⟩,rfl,CIn.nil,rfl⟩
  ·rw[if_neg hbig] at hsF
   have hsub:=hs7.sub (lo':=1) (hi':=1+d8.toNat) (by omega) (by omega) (cap:=c7) (by omega)
   rw[show 1+d8.toNat-1=d8.toNat by omega] at hsub
   have htc:=takeCont_spec _ _ d8.toNat (c7-1) _ hsub (by omega)
   have hok:=@takeCont_ok ((dat.drop 1).take d8.toNat)
   generalize Zq ((dat.drop 1).take d8.toNat)=r at *
   obtain⟨cc,kk,ec⟩:=r
   dsimp only at hsF htc hok
   have hq1:((1:Int)+(d8.toNat:Int)).toNat-Int.toNat 1=d8.toNat:=by omega
   repeat' (first|(simp only[hq1];refine Zb (.func 191) ?_;refine qC rfl rfl htc ?_;rintro v8 ρ8 L8 hle8 ⟨hl8,w,rfl,hC,rfl⟩;simp only[kA])|refine zB ?_|intro _)
   have hb8:=Hp.at' (Hp.le_trans hl2 (Hp.le_trans hl5 (Hp.le_trans hl6 hl8))) hbs
   dsimp only at hb8
   have hl48:=Hp.le_trans hl46 hl8
   by_cases h1:ec=0
   ·obtain⟨n1,rfl,_,hco,_,hcf⟩:=hok h1
    have hir:∀r∈cc.rows,r.id<65536:=λ r hr=>(hcf.row r hr).id
    have hik:∀k∈cc.kids,k.id<65536:=λ k hk=>(hcf.kid k hk).id
    by_cases h2:(n1:Int)=d8.toNat
    ·by_cases h3:0<st
     ·have hEq:EqC prog 8 199 (.agg ⟨(Zx num st ls cc 0++Zx num st ls cc 1).map Zk⟩) (.agg ⟨(a++b).map Zk⟩) (decide (Zx num st ls cc 0++Zx num st ls cc 1=a++b)):=eqC_two (m:=5) _ _ _ _ (Xg _ _ _ _ (by omega)) (Xg _ _ _ _ (by omega)) ha hb
      have h3':(0:Int)<((st:Nat):Int):=by omega
      by_cases h4:Zx num st ls cc 0++Zx num st ls cc 1=a++b
      ·rw[decide_eq_true h4] at hEq
       refine Yt [0,1,2,3,4,5,6,7,8,9] (.e 10 [11,12,13,14,17] (.e 15 [] (.e 16 [18,19,20] (.e 21 [] .o)))) ([]) ?_
       repeat' (refine iT ?_;first|refine rA ?_|(refine rE ?_<;>((try refine ZX ?_);(first|(refine Zb (.func 208) ?_;refine qC rfl rfl (parts_spec _ num hnum ⟨st,ls,cc,false,0⟩ w hC hco hir hik hst8 hls8) ?_;rintro v9 ρ9 L9 hle9 ⟨rfl,hl9,rfl⟩;simp only[kA])|(refine i_qq ?_;refine qQ ?_)|refine qEf ?_)<;>(try simp only[kA])<;>refine zN ?_)))
       all_goals (repeat' (first|refine zB ?_|intro _))
       all_goals have hv:S=⟨st,ls,cc,true,0⟩:=by rw[hsF];congr 1;exact decide_eq_true ⟨h1,h2,h3,h4⟩
       all_goals subst hv
       all_goals have hfin:=Hp.le_trans hl48 hl9
       all_goals exact qE (L':=[]) ⟨hfin,w,rfl,hC.mono hl9,rfl⟩
      ·rw[decide_eq_false h4] at hEq
       refine Yt [0,1,2,3,4,5,6,7,8,9] (.e 10 [11,12,13,14,17] (.e 15 [] (.e 16 [18,19,20] (.e 21 [] .o)))) ([]) ?_
       repeat' (refine iT ?_;first|refine rA ?_|(refine rE ?_<;>((try refine ZX ?_);(first|(refine Zb (.func 208) ?_;refine qC rfl rfl (parts_spec _ num hnum ⟨st,ls,cc,false,0⟩ w hC hco hir hik hst8 hls8) ?_;rintro v9 ρ9 L9 hle9 ⟨rfl,hl9,rfl⟩;simp only[kA])|(refine i_qq ?_;refine qQ ?_)|refine qEf ?_)<;>(try simp only[kA])<;>refine zN ?_)))
       all_goals (repeat' (first|refine zB ?_|intro _))
       all_goals have hv:S=⟨st,ls,cc,false,0⟩:=by rw[hsF];congr 1;exact decide_eq_false (λ hh=>h4 hh.2.2.2)
       all_goals subst hv
       all_goals have hfin:=Hp.le_trans hl48 hl9
       all_goals exact qE (L':=[]) ⟨hfin,w,rfl,hC.mono hl9,rfl⟩
     ·have h3':¬(0:Int)<((st:Nat):Int):=by omega
      refine Yt [0,1,2,3,4,5,6,7,8,9] (.e 10 [11,12,13,14,17] (.e 15 [] (.e 16 [18,19,20] (.e 21 [] .o)))) ([]) ?_
      repeat' (refine iT ?_;first|refine rA ?_|(refine rE ?_<;>((try refine ZX ?_);(first|(refine i_qq ?_;refine qQ ?_)|refine qEf ?_)<;>(try simp only[kA])<;>refine zN ?_)))
      all_goals (repeat' (first|refine zB ?_|intro _))
      all_goals have hv:S=⟨st,ls,cc,false,0⟩:=by rw[hsF];congr 1;exact decide_eq_false (λ hh=>h3 hh.2.2.1)
      all_goals subst hv
      all_goals have hfin:=hl48
      all_goals exact qE (L':=[]) ⟨hfin,w,rfl,hC,rfl⟩
    ·refine Yt [0,1,2,3,4,5,6,7,8,9] (.e 10 [11,12,13,14,17] (.e 15 [] (.e 16 [18,19,20] (.e 21 [] .o)))) ([]) ?_
     repeat' (refine iT ?_;first|refine rA ?_|(refine rE ?_<;>((try refine ZX ?_);(first|(refine i_qq ?_;refine qQ ?_)|refine qEf ?_)<;>(try simp only[kA])<;>refine zN ?_)))
     all_goals (repeat' (first|refine zB ?_|intro _))
     all_goals have hv:S=⟨st,ls,cc,false,0⟩:=by rw[hsF];congr 1;exact decide_eq_false (λ hh=>h2 hh.2.1)
     all_goals subst hv
     all_goals have hfin:=hl48
     all_goals exact qE (L':=[]) ⟨hfin,w,rfl,hC,rfl⟩
   ·refine Yt [0,1,2,3,4,5,6,7,8,9] (.e 10 [11,12,13,14,17] (.e 15 [] (.e 16 [18,19,20] (.e 21 [] .o)))) ([]) ?_
    repeat' (refine iT ?_;first|refine rA ?_|(refine rE ?_<;>((try refine ZX ?_);(first|(refine i_qq ?_;refine qQ ?_)|refine qEf ?_)<;>(try simp only[kA])<;>refine zN ?_)))
    all_goals (repeat' (first|refine zB ?_|intro _))
    all_goals have hv:S=⟨st,ls,cc,false,0⟩:=by rw[hsF];congr 1;exact decide_eq_false (λ hh=>h1 hh.1)
    all_goals subst hv
    all_goals have hfin:=hl48
    all_goals exact qE (L':=[]) ⟨hfin,w,rfl,hC,rfl⟩
def Xw (b:Blk):Nat:=ZM ((b.drop 2).take 8)
theorem stampOf_lt (b:Blk):Xw b<18446744073709551616:=unbe_take8 _
def PartOk (num i:Nat)(b:Blk):Prop:=(b.getD 0 0).toNat=num/\(b.getD 1 0).toNat=i/\ZM (b.drop 60)=sumB (b.take 60)
instance (num i:Nat)(b:Blk):Decidable (PartOk num i b):=by unfold PartOk;infer_instance
def stampR (num i:Nat)(b:Blk):Nat:=if PartOk num i b then Xw b else 0
def Wp (num:Nat)(a b:Blk):Nat:=max (stampR num 0 a) (stampR num 1 b)
def stampsTo (num:Nat)(a b:Blk)(i:Nat):Nat:=if i=0 then 0 else if i=1 then stampR num 0 a else Wp num a b
theorem stamps_spec (ρ:Hp)(num:Nat)(hnum:num<64)(a b:Blk)(ha:a.length=64)(hb:b.length=64) :
  Spec prog 218 [.int .i64 num,.agg ⟨(a++b).map Zk⟩] ρ [] (λ v ρ' L'=>v=.int .u64 (Wp num a b:Nat)/\ρ.le ρ'/\L'=[]):=by
 have hab:((a++b).map Zk).length=128:=by simp[ha,hb]
 have hone:=ZH (a++b)
 have hld:List.take 128 (List.drop 0 ((a++b).map Zk))=(a++b).map Zk:=by rw[List.drop_zero,aT (by omega)]
 refine Za func218 rfl rfl rfl λ u R=>?_
 simp only[Zc,kA]
 repeat' (first|refine zB ?_|intro _)
 refine lpG (Nat×Hp×Nat) [0,4,8] (λ z=>[(9,.int .i64 z.1),(5,.int .u64 z.2.2)]) (λ z=>z.2.1) (λ z=>[]) (λ z=>z.1<=2/\ρ.le z.2.1/\z.2.2=stampsTo num a b z.1) (λ z=>2-z.1) (0,ρ,0) ⟨aZ _,Hp.le_refl _,rfl⟩ ?_
 rintro⟨i,ρ5,y⟩ hI
 try simp only[kB] at hI ⊢
 try dsimp only at hI ⊢
 obtain⟨hi,hl5,hy⟩:=hI
 by_cases hlt:i<2
 ·obtain⟨blk,hbl,hix,hnx⟩:∃blk:Blk,blk.length=64/\(((a++b).map Zk).drop (i*64)).take 64=blk.map Zk/\max (stampsTo num a b i) (stampR num i blk)=stampsTo num a b (i+1):=by
   rcases (show i=0\/i=1 by omega) with rfl|rfl
   ·refine⟨a,ha, ?_,by simp[stampsTo]⟩
    rw[List.map_append,Nat.zero_mul,List.drop_zero,List.take_left' (by simpa using ha)]
   ·refine⟨b,hb, ?_,by simp[stampsTo,Wp]⟩
    rw[List.map_append,Nat.one_mul,List.drop_left' (by simpa using ha),aT (by simp;omega)]
  have hb64:(blk.map Zk).length=64:=by simpa using hbl
  have hbo:=ZH blk
  repeat' (first|(refine tl_y (y_index_a rfl rfl hlt hix) rfl rfl ?_)|refine zB ?_|intro _)
  rename_i b2 b7
  refine Vn [(b7,.cells ⟨blk.map Zk⟩ 105 (0,0))] (h:=by infer_instance) (λ ρ6 hl6 hfz=>?_)
  have hbs:=hfz _ (List.mem_singleton.2 rfl)
  dsimp only at hbs
  have hs60:=XR hbs 60 4 (by omega)
  have hsA:=XR hbs 0 60 (by omega)
  have hs16:=XR hbs 2 16 (by omega)
  rw[List.drop_zero] at hsA
  have hx60:ZM (((blk.drop 60).take 4).take 4)=ZM (blk.drop 60):=by rw[List.take_take,aT (by simp;omega)]
  have hc0:(blk.map Zk)[0+Int.toNat 0*1]?=some (Zk (blk.getD 0 0)):=by
   rw[show 0+Int.toNat 0*1=0 from rfl,List.getElem?_map,List.getD_eq_getElem?_getD,List.getElem?_eq_getElem (by omega)];rfl
  have hc1:(blk.map Zk)[0+Int.toNat 1*1]?=some (Zk (blk.getD 1 0)):=by
   rw[show 0+Int.toNat 1*1=1 from rfl,List.getElem?_map,List.getD_eq_getElem?_getD,List.getElem?_eq_getElem (by omega)];rfl
  have hx8:ZM (((blk.drop 2).take 16).take 8)=Xw blk:=by rw[List.take_take];rfl
  have hl0:=(blk.getD 0 0).toNat_lt
  have hl1:=(blk.getD 1 0).toNat_lt
  have hyl:y<18446744073709551616:=by
   have h1:=stampOf_lt a;have h2:=stampOf_lt b
   subst hy;unfold stampsTo Wp stampR;repeat' split
   all_goals omega
  by_cases h0:(blk.getD 0 0).toNat=num
  ·by_cases h1:(blk.getD 1 0).toNat=i
   ·by_cases h2:ZM (blk.drop 60)=sumB (blk.take 60)
    ·have h2':((ZM (blk.drop 60):Nat):Int)=((sumB (blk.take 60):Nat):Int):=by rw[h2]
     have hR:stampR num i blk=Xw blk:=if_pos ⟨h0,h1,h2⟩
     rw[hR,<-hy] at hnx
     refine Yt [0,1,2,3,4,5,6,7,8,9,10,11,12,13,16] (.e 14 [] (.e 15 [] (.e 17 [] (.f [18,19] .o)))) ([]) ?_
     repeat' (refine iT ?_;first|refine rA ?_|(refine rE ?_<;>((try refine ZX ?_);(first|(refine Zb (.func 123) ?_;refine qC rfl rfl (read_spec _ _ 4 _ _ (by first|exact hs60|exact hs60.mono (by assumption)) (by omega)) ?_;rintro v2 ρ2 L2 hle2 ⟨hl2,br,ra,rc,rfl,hrc,hrs,rfl⟩;simp only[kA])|(refine Zb (.func 126) ?_;refine qC rfl rfl (u32_ok _ br ra 4 rc _ hrs hrc (by omega)) ?_;rintro v3 ρ3 L3 hle3 ⟨rfl,rfl,ra3,rn3,rc3,rfl⟩;simp only[kA,hx60])|(refine Zb (.func 251) ?_;refine qC rfl rfl (sum32_spec _ _ 60 _ _ (by first|exact hsA|exact hsA.mono (by assumption)) (by omega)) ?_;rintro v4 ρ4 L4 hle4 ⟨rfl,rfl,rfl⟩;simp only[kA]))<;>(try simp only[kA])<;>refine zN ?_)))
     all_goals have hs16':=hs16.mono hl2
     all_goals (repeat' (first|(refine Zb (.func 123) ?_;refine qC rfl rfl (read_spec _ _ 16 _ _ hs16' (by omega)) ?_;rintro v5 ρ7 L5 hle5 ⟨hl7,br5,ra5,rc5,rfl,hrc5,hrs5,rfl⟩;simp only[kA])|(refine Zb (.func 125) ?_;refine qC rfl rfl (u64_ok _ br5 ra5 16 rc5 _ hrs5 hrc5 (by omega)) ?_;rintro v6 ρ8 L6 hle6 ⟨rfl,rfl,ra6,rc6,hrs6,hrc6,rfl⟩;simp only[kA,hx8])|refine zB ?_|intro _))
     all_goals rw[show max ((y:Nat):Int) ((Xw blk:Nat):Int)=((max y (Xw blk):Nat):Int) by omega]
     all_goals have hfin:=Hp.le_trans hl5 (Hp.le_trans hl6 (Hp.le_trans hl2 hl7))
     all_goals refine rnG (i+1,_,max y (Xw blk)) (⟨hlt,hfin,hnx⟩)
    ·have h2':¬((ZM (blk.drop 60):Nat):Int)=((sumB (blk.take 60):Nat):Int):=by omega
     refine Yt [0,1,2,3,4,5,6,7,8,9,10,11,12,13,16] (.e 14 [] (.e 15 [] (.e 17 [] (.f [18,19] .o)))) ([]) ?_
     repeat' (refine iT ?_;first|refine rA ?_|(refine rE ?_<;>((try refine ZX ?_);(first|(refine Zb (.func 123) ?_;refine qC rfl rfl (read_spec _ _ 4 _ _ (by first|exact hs60|exact hs60.mono (by assumption)) (by omega)) ?_;rintro v2 ρ2 L2 hle2 ⟨hl2,br,ra,rc,rfl,hrc,hrs,rfl⟩;simp only[kA])|(refine Zb (.func 126) ?_;refine qC rfl rfl (u32_ok _ br ra 4 rc _ hrs hrc (by omega)) ?_;rintro v3 ρ3 L3 hle3 ⟨rfl,rfl,ra3,rn3,rc3,rfl⟩;simp only[kA,hx60])|(refine Zb (.func 251) ?_;refine qC rfl rfl (sum32_spec _ _ 60 _ _ (by first|exact hsA|exact hsA.mono (by assumption)) (by omega)) ?_;rintro v4 ρ4 L4 hle4 ⟨rfl,rfl,rfl⟩;simp only[kA]))<;>(try simp only[kA])<;>refine zN ?_)))
     all_goals (repeat' (first|refine zB ?_|intro _))
     all_goals have hR0:stampR num i blk=0:=if_neg (λ hh=>h2 hh.2.2)
     all_goals rw[hR0,Nat.max_zero,<-hy] at hnx
     all_goals have hfin:=Hp.le_trans hl5 (Hp.le_trans hl6 hl2)
     all_goals refine rnG (i+1,_,y) (⟨hlt,hfin,hnx⟩)
   ·skip
    refine Yt [0,1,2,3,4,5,6,7,8,9,10,11,12,13,16] (.e 14 [] (.e 15 [] (.e 17 [] (.f [18,19] .o)))) ([]) ?_
    repeat' (refine iT ?_;first|refine rA ?_|(refine rE ?_<;>((try refine ZX ?_);(first|refine qEf ?_)<;>(try simp only[kA])<;>refine zN ?_)))
    all_goals (repeat' (first|refine zB ?_|intro _))
    all_goals have hR0:stampR num i blk=0:=if_neg (λ hh=>h1 hh.2.1)
    all_goals rw[hR0,Nat.max_zero,<-hy] at hnx
    all_goals refine rnG (i+1,ρ6,y) (⟨hlt,Hp.le_trans hl5 hl6,hnx⟩)
  ·skip
   refine Yt [0,1,2,3,4,5,6,7,8,9,10,11,12,13,16] (.e 14 [] (.e 15 [] (.e 17 [] (.f [18,19] .o)))) ([]) ?_
   repeat' (refine iT ?_;first|refine rA ?_|(refine rE ?_<;>((try refine ZX ?_);(first|refine qEf ?_)<;>(try simp only[kA])<;>refine zN ?_)))
   all_goals (repeat' (first|refine zB ?_|intro _))
   all_goals have hR0:stampR num i blk=0:=if_neg (λ hh=>h0 hh.1)
   all_goals rw[hR0,Nat.max_zero,<-hy] at hnx
   all_goals refine rnG (i+1,ρ6,y) (⟨hlt,Hp.le_trans hl5 hl6,hnx⟩)
 ·have h2:i=2:=by omega
  subst h2
  repeat' (first|refine zB ?_|intro _)
  subst hy
  exact qE (L':=[]) ⟨rfl,hl5,rfl⟩
structure FIn (ρ:Hp)(fb db base:Nat):Prop where
 at':ρ fb=some (.cells ⟨[.pointer (some ⟨db,0,none⟩),.int .i64 base]⟩ 239 (0,0))
theorem FIn.mono {ρ ρ':Hp}{fb db base:Nat}(h:FIn ρ fb db base)(hle:ρ.le ρ'):FIn ρ' fb db base:=⟨Hp.at' hle h.at'⟩
theorem at14_spec (ρ:Hp)(fb db base num which:Nat)(h:FIn ρ fb db base)(hb:base<=100000)(hn:num<64)(hw:which<2) :
  Spec prog 210 [.pointer (some ⟨fb,0,none⟩),.int .i64 num,.int .i64 which] ρ [] (λ v ρ' L'=>v=.int .i64 ((base+4*num+2*which:Nat):Int)/\ρ'=ρ/\L'=[]):=by
 have hb1:=h.at'
 refine Za func210 rfl rfl rfl λ u R=>?_
 simp only[Zc,kA]
 repeat' (first|refine zB ?_|intro _)
 rw[show (base:Int)+(2*(num:Int)+(which:Int))*2=((base+4*num+2*which:Nat):Int) by omega]
 exact qE (L':=[]) ⟨rfl,rfl,rfl⟩
def slotAt (num:Nat)(a b:Blk):SlD:={ Yo num a b with most:=Wp num a b }
def Wo (D:DS)(i:Nat):DS×(Blk×Blk)×Int:=
 if (D.read i).2.2≠0 then ((D.read i).1,(Xs,Xs),(D.read i).2.2)
 else if ((D.read i).1.read (i+1:Nat)).2.2≠0 then (((D.read i).1.read (i+1:Nat)).1,(Xs,Xs),((D.read i).1.read (i+1:Nat)).2.2)
 else (((D.read i).1.read (i+1:Nat)).1,((D.read i).2.1,((D.read i).1.read (i+1:Nat)).2.1),0)
def slD (D:DS)(base num:Nat):Nat->DS
 | 0=>D
 | k+1=>(Wo (slD D base num k) (base+4*num+2*k)).1
def slR (D:DS)(base num k:Nat):DS×(Blk×Blk)×Int:=Wo (slD D base num k) (base+4*num+2*k)
def slY (num:Nat)(r:DS×(Blk×Blk)×Int):SlD×Int:=if r.2.2≠0 then (zSl,r.2.2) else (slotAt num r.2.1.1 r.2.1.2,0)
def YI (D:DS)(base num:Nat):List (SlD×Int):=
 if (slR D base num 0).2.2≠0 then [slY num (slR D base num 0)] else [slY num (slR D base num 0),slY num (slR D base num 1)]
def encS (ρ:Hp)(y:SlD×Int)(vs:List Value):Prop:=∃w,vs=[.agg ⟨slV y.1 w⟩,.int .i64 y.2]/\CIn ρ w y.1.c.rows y.1.c.kids
theorem rdSlot_ok {D:DS}{i:Nat}(h:D.Ok):(Wo D i).1.Ok:=by
 unfold Wo
 split
 ·exact h.read
 ·split<;>exact h.read.read
theorem slD_ok {D:DS}{base num:Nat}(h:D.Ok):∀k,(slD D base num k).Ok
 | 0=>h
 | k+1=>rdSlot_ok (slD_ok h k)
theorem rdSlot_secs (D:DS)(i:Nat):(Wo D i).1.secs=D.secs:=by
 unfold Wo
 split
 ·rw[read_secs]
 ·split<;>rw[read_secs,read_secs]
theorem Xz (D:DS)(base num:Nat):∀k,(slD D base num k).secs=D.secs
 | 0=>rfl
 | k+1=>by rw[slD,rdSlot_secs,Xz D base num k]
theorem slD_dok {k:DK}{D:DS}{base num:Nat}(h:DOk k D)(j:Nat):DOk k (slD D base num j):=⟨slD_ok h.ok j,by rw[Xz];exact h.map⟩
theorem slotsX_at {D:DS}{base num j:Nat}(h:j<(YI D base num).length):(YI D base num)[j]=slY num (slR D base num j):=by
 have:∀l:List (SlD×Int),YI D base num=l->∀h:j<l.length,l[j]=slY num (slR D base num j):=by
  intro l hl h
  unfold YI at hl
  split at hl<;>subst hl
  ·have:j=0:=by simpa using h
   subst this;rfl
  ·rcases (show j=0\/j=1 by simp at h;omega) with rfl|rfl<;>rfl
 exact this _ rfl h
theorem slotsX_len {D:DS}{base num:Nat}(h:(slR D base num 0).2.2=0):(YI D base num).length=2:=by
 unfold YI;rw[if_neg (by simp[h])];rfl
theorem slotsX_last {D:DS}{base num j:Nat}(h:j<(YI D base num).length)(he:(slR D base num j).2.2≠0):(YI D base num).length=j+1:=by
 unfold YI at h ⊢
 split
 ·rename_i hc
  rw[if_pos hc] at h
  have:j=0:=by simpa using h
  subst this;rfl
 ·rename_i hc
  rw[if_neg hc] at h
  rcases (show j=0\/j=1 by simp at h;omega) with rfl|rfl
  ·exact absurd he hc
  ·rfl
theorem slots_iter (ρ0:Hp)(b2 b3 fb db base num:Nat)(hf:FIn ρ0 fb db base)(h2:ρ0 b2=some (.cells ⟨[.pointer (some ⟨fb,0,none⟩)]⟩ 78 (0,0)))(h3:ρ0 b3=some (.cells ⟨[.int .i64 num]⟩ 3 (0,0)))
  (hb:base<=100000) (hn:num<64) (k:DK) (D:DS) (hD:DOk k D) :
  IterS prog 216 [] [.pointer (some ⟨b2,0,none⟩),.pointer (some ⟨b3,0,none⟩)] encS ρ0 (λ pre=>Zg db k (slD D base num pre.length)) (YI D base num):=by
 intro l J Jx hM hY ρ Lj hl0 hJ
 have hXl:(YI D base num).length<=2:=by unfold YI;split<;>simp
 refine Za func216 rfl rfl rfl λ u R=>?_
 simp only[Zc,kB,List.length_nil]
 repeat' (first|refine zB ?_|intro _)
 refine lpG (Nat×Hp×SH) [0,1,2] (λ z=>[(10,.int .i64 z.1)]) (λ z=>z.2.1) (λ z=>Zg db k (slD D base num z.1)++z.2.2) (λ z=>z.1<=(YI D base num).length/\ρ.le z.2.1/\J ((YI D base num).take z.1) z.2.1 z.2.2/\(z.1<2->z.1<(YI D base num).length)) (λ z=>2-z.1) (0,ρ,Lj) ⟨aZ _,Hp.le_refl _,hJ,λ _=>by unfold YI;split<;>simp⟩ ?_
 rintro⟨j,ρ1,L1⟩ hI
 try simp only[kB] at hI ⊢
 try dsimp only at hI ⊢
 obtain⟨hj,hle1,hjj,hjx⟩:=hI
 by_cases hlt:j<2
 ·have hk2:=hjx hlt
  have hpre:=take_succ_pre (YI D base num) j hk2
  have hts:=aG hk2
  rw[slotsX_at hk2] at hpre hts
  have hlast:=slotsX_last (j:=j) hk2
  have hlen2:=λ h:j=0=>slotsX_len (D:=D) (base:=base) (num:=num) |>.comp (λ hh:(slR D base num j).2.2=0=>by rw[<-h];exact hh)
  have hSd:slD D base num (j+1)=(slR D base num j).1:=rfl
  have hDj:=slD_dok (base:=base) (num:=num) hD j
  have hlen:(List.take j (YI D base num)++[slY num (slR D base num j)]).length=j+1:=by simp;omega
  have hy:=λ vs ρ Lj h1 h2 h3=>hY _ _ vs ρ Lj hpre h1 h2 h3
  simp only[hlen,hSd] at hy
  have hR:slR D base num j=Wo (slD D base num j) (base+4*num+2*j):=rfl
  unfold Wo at hR
  have hat:=λ ρ (h:FIn ρ fb db base)=>at14_spec ρ fb db base num j h hb hn hlt
  have hbd:base+4*num+2*j<=200000:=by omega
  generalize slR D base num j=RES at *
  generalize base+4*num+2*j=ix at *
  generalize slD D base num j=Dj at *
  have hk0:∀ρ,Spec prog _ _ ρ _ _:=λ ρ=>kread ρ db k Dj (ix:Nat) hDj
  have hDa:DOk k (Dj.read (ix:Nat)).1:=⟨hDj.ok.read,hDj.map.read⟩
  have hs0:=read_len hDj.ok (ix:Nat)
  generalize Dj.read (ix:Nat)=r0 at *
  obtain⟨Da,s0,e0⟩:=r0
  dsimp only at hR hk0 hDa hs0
  have hk1:∀ρ,Spec prog _ _ ρ _ _:=λ ρ=>kread ρ db k Da ((ix+1:Nat):Nat) hDa
  have hDb:DOk k (Da.read ((ix+1:Nat):Nat)).1:=⟨hDa.ok.read,hDa.map.read⟩
  have hs1:=read_len hDa.ok ((ix+1:Nat):Nat)
  generalize Da.read ((ix+1:Nat):Nat)=r1 at *
  obtain⟨Db,s1,e1⟩:=r1
  dsimp only at hR hk1 hDb hs1
  repeat' (first|refine zB ?_|intro _)
  rename_i b5
  have hl01:=Hp.le_trans hl0 hle1
  have hf1:=hf.mono hl01
  have hb2:=Hp.at' hl01 h2
  have hb3:=Hp.at' hl01 h3
  have hfile:=hf1.at'
  have hpl0:(s0.map Zk).length=64:=by simpa using hs0
  have hpo0:=ZH s0
  have hpl1:(s1.map Zk).length=64:=by simpa using hs1
  have hpo1:=ZH s1
  have hst0:stc ((z8 128).map Zk) (0+Int.toNat 0*64) (s0.map Zk)=(s0++z8 64).map Zk:=by simp[stc,z8,hs0]
  have hst1:stc ((s0++z8 64).map Zk) (0+Int.toNat 1*64) (s1.map Zk)=(s0++s1).map Zk:=by simp[stc,z8,hs0,hs1]
  have hl128:((s0++z8 64).map Zk).length=128:=by simp[z8,hs0]
  have hlc:((s0++s1).map Zk).length=128:=by simp[hs0,hs1]
  have hoc:=ZH (s0++s1)
  have hix0:(ix:Int)+0=(ix:Int):=by omega
  have hix1:(ix:Int)+1=((ix+1:Nat):Int):=by omega
  refine lpG (Int×(List Value)×DS) [0,1,2,4,5,10,11,12] (λ z=>[(13,.int .i64 z.1)]) (λ z=>ρ1) (λ z=>[[(b5,.cells ⟨z.2.1⟩ 199 (0,0))]]++Zg db k z.2.2) (λ z=>DOk k z.2.2/\((z.1=0/\z.2.2=Dj/\z.2.1=(z8 128).map Zk)\/(z.1=1/\z.2.2=Da/\e0=0/\z.2.1=(s0++z8 64).map Zk)\/(z.1=2/\z.2.2=Db/\e0=0/\e1=0/\z.2.1=(s0++s1).map Zk))) (λ z=>(2-z.1).toNat) ((0,(z8 128).map Zk,Dj)) (⟨hDj,.inl ⟨rfl,rfl,rfl⟩⟩) ?_
  rintro⟨i,cs,D1⟩ hI
  try simp only[kB] at hI ⊢
  try dsimp only at hI ⊢
  obtain⟨hD1,hor⟩:=hI
  rcases hor with⟨rfl,rfl,rfl⟩|⟨rfl,rfl,rfl,rfl⟩|⟨rfl,rfl,rfl,rfl,rfl⟩
  ·by_cases he:e0=0
   ·subst he
    repeat' (first|refine zB ?_|intro _)
    refine Yt [0,1,2,3,4,5,6,8] (.b 7 14 [9] [] (.b 10 14 [11,12] [] (.b 13 14 [] [] (.e 14 [] (.e 15 [] (.f [16] .o))) (.b 13 15 [] [] (.e 15 [] (.f [16] .o)) (.e 13 [] (.f [16] .o)))) (.e 10 [11,12] (.b 13 15 [] [] (.e 15 [] (.f [16] .o)) (.e 13 [] (.f [16] .o))))) (.e 7 [9] (.e 10 [11,12] (.b 13 15 [] [] (.e 15 [] (.f [16] .o)) (.e 13 [] (.f [16] .o)))))) ([]) ?_
    repeat' (refine iT ?_;first|refine rA ?_|((first|(refine iE ?_;refine rE ?_)|(refine iB ?_;refine rB ?_ ?_))<;>((first|(refine Zb (.func 210) ?_;refine qC rfl rfl ((hat _ hf1)) ?_;rintro v ρ' L' hle ⟨rfl,rfl,rfl⟩<;>(try simp only[kA]))|(simp only[hix0];refine Zb (.func 119) ?_;refine qC rfl rfl (hk0 _) ?_;rintro v2 ρ2 L2 hle2 ⟨rfl,rfl,hD2,rfl⟩;try simp only[kA])|(refine i_qq ?_;refine qQ ?_)|(refine qEf ?_;try intro _))<;>(try simp only[kA])<;>refine zN ?_)))
    all_goals (repeat' (first|refine zB ?_|intro _))
    all_goals rw[hst0]
    all_goals refine rnG (1,(s0++z8 64).map Zk,Da) (⟨hD2,.inr (.inl (by simp))⟩)
   ·have hcb:(e0 != 0)=true:=by simpa using he
    have hRE:RES=(Da,(Xs,Xs),e0):=by rw[hR];exact if_pos he
    subst hRE
    have hsY:slY num (Da,(Xs,Xs),e0)=(zSl,e0):=if_pos he
    rw[hsY] at hy hts
    have hln:=hlast he
    have hfull:YI D base num=List.take j (YI D base num)++[(zSl,e0)]:=by rw[<-hts];exact (aT (by omega)).symm
    have hyE:=λ ρ h1 h3=>hy [.agg ⟨slV zSl ⟨none,0,0,none,0,0⟩⟩,.int .i64 e0] ρ L1 h1 ⟨⟨none,0,0,none,0,0⟩,rfl,CIn.nil⟩ h3
    repeat' (first|refine zB ?_|intro _)
    refine Yt [0,1,2,3,4,5,6,8] (.b 7 14 [9] [] (.b 10 14 [11,12] [] (.b 13 14 [] [] (.e 14 [] (.e 15 [] (.f [16] .o))) (.b 13 15 [] [] (.e 15 [] (.f [16] .o)) (.e 13 [] (.f [16] .o)))) (.e 10 [11,12] (.b 13 15 [] [] (.e 15 [] (.f [16] .o)) (.e 13 [] (.f [16] .o))))) (.e 7 [9] (.e 10 [11,12] (.b 13 15 [] [] (.e 15 [] (.f [16] .o)) (.e 13 [] (.f [16] .o)))))) ([]) ?_
    repeat' (refine iT ?_;first|refine rA ?_|((first|(refine iE ?_;refine rE ?_)|(refine iB ?_;refine rB ?_ ?_))<;>((first|(refine Zb (.func 210) ?_;refine qC rfl rfl ((hat _ hf1)) ?_;rintro v ρ' L' hle ⟨rfl,rfl,rfl⟩<;>(try simp only[kA]))|(simp only[hix0];refine Zb (.func 119) ?_;refine qC rfl rfl (hk0 _) ?_;rintro v2 ρ2 L2 hle2 ⟨rfl,rfl,hD2,rfl⟩;try simp only[kA])|(refine i_qq ?_;refine qQ ?_)|(refine qEf ?_;try intro _))<;>(try simp only[kA])<;>refine zN ?_)))
    all_goals try simp only[hcb]
    all_goals (repeat' (first|(refine Zb (.tmp 32) ?_;refine qY rfl rfl (hyE _ hl01 hjj) ?_;rintro v ρ' L' hle ⟨Lj',rfl,⟨rfl,hj'⟩|⟨rfl,hj'⟩⟩<;>(try simp only[kA]))|refine zB ?_|intro _))
    all_goals first|exact qE (L':=Zg db k Da++Lj') ⟨Lj',.inl ⟨by show Zg db k Da++Lj'=Zg db k (slD D base num (YI D base num).length)++Lj';rw[hln,hSd],by rw[hfull];exact hj'⟩⟩|exact qE (L':=Zg db k Da++Lj') ⟨Lj',.inr ⟨List.take j (YI D base num)++[(zSl,e0)],by show Zg db k Da++Lj'=Zg db k (slD D base num _)++Lj';rw[<-hfull,hln,hSd],hj'⟩⟩
  ·by_cases he:e1=0
   ·subst he
    repeat' (first|refine zB ?_|intro _)
    refine Yt [0,1,2,3,4,5,6,8] (.b 7 14 [9] [] (.b 10 14 [11,12] [] (.b 13 14 [] [] (.e 14 [] (.e 15 [] (.f [16] .o))) (.b 13 15 [] [] (.e 15 [] (.f [16] .o)) (.e 13 [] (.f [16] .o)))) (.e 10 [11,12] (.b 13 15 [] [] (.e 15 [] (.f [16] .o)) (.e 13 [] (.f [16] .o))))) (.e 7 [9] (.e 10 [11,12] (.b 13 15 [] [] (.e 15 [] (.f [16] .o)) (.e 13 [] (.f [16] .o)))))) ([]) ?_
    repeat' (refine iT ?_;first|refine rA ?_|((first|(refine iE ?_;refine rE ?_)|(refine iB ?_;refine rB ?_ ?_))<;>((first|(refine Zb (.func 210) ?_;refine qC rfl rfl ((hat _ hf1)) ?_;rintro v ρ' L' hle ⟨rfl,rfl,rfl⟩<;>(try simp only[kA]))|(simp only[hix1];refine Zb (.func 119) ?_;refine qC rfl rfl (hk1 _) ?_;rintro v2 ρ2 L2 hle2 ⟨rfl,rfl,hD2,rfl⟩;try simp only[kA])|(refine i_qq ?_;refine qQ ?_)|(refine qEf ?_;try intro _))<;>(try simp only[kA])<;>refine zN ?_)))
    all_goals (repeat' (first|refine zB ?_|intro _))
    all_goals rw[hst1]
    all_goals refine rnG (2,(s0++s1).map Zk,Db) (⟨hD2,.inr (.inr (by simp))⟩)
   ·have hcb:(e1 != 0)=true:=by simpa using he
    have hRE:RES=(Db,(Xs,Xs),e1):=by rw[hR];rw[if_neg (by simp)];exact if_pos he
    subst hRE
    have hsY:slY num (Db,(Xs,Xs),e1)=(zSl,e1):=if_pos he
    rw[hsY] at hy hts
    have hln:=hlast he
    have hfull:YI D base num=List.take j (YI D base num)++[(zSl,e1)]:=by rw[<-hts];exact (aT (by omega)).symm
    have hyE:=λ ρ h1 h3=>hy [.agg ⟨slV zSl ⟨none,0,0,none,0,0⟩⟩,.int .i64 e1] ρ L1 h1 ⟨⟨none,0,0,none,0,0⟩,rfl,CIn.nil⟩ h3
    repeat' (first|refine zB ?_|intro _)
    refine Yt [0,1,2,3,4,5,6,8] (.b 7 14 [9] [] (.b 10 14 [11,12] [] (.b 13 14 [] [] (.e 14 [] (.e 15 [] (.f [16] .o))) (.b 13 15 [] [] (.e 15 [] (.f [16] .o)) (.e 13 [] (.f [16] .o)))) (.e 10 [11,12] (.b 13 15 [] [] (.e 15 [] (.f [16] .o)) (.e 13 [] (.f [16] .o))))) (.e 7 [9] (.e 10 [11,12] (.b 13 15 [] [] (.e 15 [] (.f [16] .o)) (.e 13 [] (.f [16] .o)))))) ([]) ?_
    repeat' (refine iT ?_;first|refine rA ?_|((first|(refine iE ?_;refine rE ?_)|(refine iB ?_;refine rB ?_ ?_))<;>((first|(refine Zb (.func 210) ?_;refine qC rfl rfl ((hat _ hf1)) ?_;rintro v ρ' L' hle ⟨rfl,rfl,rfl⟩<;>(try simp only[kA]))|(simp only[hix1];refine Zb (.func 119) ?_;refine qC rfl rfl (hk1 _) ?_;rintro v2 ρ2 L2 hle2 ⟨rfl,rfl,hD2,rfl⟩;try simp only[kA])|(refine i_qq ?_;refine qQ ?_)|(refine qEf ?_;try intro _))<;>(try simp only[kA])<;>refine zN ?_)))
    all_goals try simp only[hcb]
    all_goals (repeat' (first|(refine Zb (.tmp 32) ?_;refine qY rfl rfl (hyE _ hl01 hjj) ?_;rintro v ρ' L' hle ⟨Lj',rfl,⟨rfl,hj'⟩|⟨rfl,hj'⟩⟩<;>(try simp only[kA]))|refine zB ?_|intro _))
    all_goals first|exact qE (L':=Zg db k Db++Lj') ⟨Lj',.inl ⟨by show Zg db k Db++Lj'=Zg db k (slD D base num (YI D base num).length)++Lj';rw[hln,hSd],by rw[hfull];exact hj'⟩⟩|exact qE (L':=Zg db k Db++Lj') ⟨Lj',.inr ⟨List.take j (YI D base num)++[(zSl,e1)],by show Zg db k Db++Lj'=Zg db k (slD D base num _)++Lj';rw[<-hfull,hln,hSd],hj'⟩⟩
  ·have hRE:RES=(D1,(s0,s1),0):=by rw[hR,if_neg (by simp),if_neg (by simp)]
   subst hRE
   have hsY:slY num (D1,(s0,s1),0)=(slotAt num s0 s1,0):=if_neg (by simp)
   rw[hsY] at hy hts
   have hsa:=λ ρ=>says_spec ρ num hn s0 s1 hs0 hs1
   have hsm:=λ ρ=>stamps_spec ρ num hn s0 s1 hs0 hs1
   repeat' (first|(refine Zb (.func 217) ?_;refine qC rfl rfl (hsa _) ?_;rintro v3 ρ3 L3 hle3 ⟨hl3,w,rfl,hC,rfl⟩;have hb3':=Hp.at' hl3 hb3;try simp only[kA])|refine zB ?_|intro _)
   repeat' (first|(refine Zb (.func 218) ?_;refine qC rfl rfl (hsm _) ?_;rintro v4 ρ4 L4 hle4 ⟨rfl,hl4,rfl⟩;try simp only[kA])|refine zB ?_|intro _)
   have hl14:=Hp.le_trans hl3 hl4
   have hyG:=hy [.agg ⟨slV (slotAt num s0 s1) w⟩,.int .i64 0] ρ4 L1 (Hp.le_trans hl01 hl14) ⟨w,rfl,hC.mono hl4⟩ (hM _ _ _ _ hl14 hjj)
   repeat' (first|(refine Zb (.tmp 47) ?_;refine qY rfl rfl (hyG) ?_;rintro v ρ' L' hle ⟨Lj',rfl,⟨rfl,hj'⟩|⟨rfl,hj'⟩⟩<;>(try simp only[kA]))|refine zB ?_|intro _)
   ·have hD1e:D1=slD D base num (j+1):=hSd.symm
    have hfl:j+1<2->j+1<(YI D base num).length:=λ h=>by
     have:=hlen2 (by omega) rfl;omega
    repeat' (first|refine zB ?_|intro _)
    rw[hD1e]
    refine rnG (j+1,ρ',Lj') (⟨hk2,Hp.le_trans hle1 (Hp.le_trans hl14 hle),by dsimp only;rw[hts];exact hj',hfl⟩)
   ·exact qE (L':=Zg db k D1++Lj') ⟨Lj',.inr ⟨List.take j (YI D base num)++[(slotAt num s0 s1,0)],by show Zg db k D1++Lj'=Zg db k (slD D base num _)++Lj';rw[aL,List.length_singleton,List.length_take,Nat.min_eq_left (by omega),hSd],hj'⟩⟩
 ·have h2:j=2:=by omega
  subst h2
  have hln:(YI D base num).length=2:=by omega
  rw[aT (by omega)] at hjj
  repeat' (first|refine zB ?_|intro _)
  exact qE (L':=Zg db k (slD D base num 2)++L1) ⟨L1,.inl ⟨by show Zg db k (slD D base num 2)++L1=Zg db k (slD D base num (YI D base num).length)++L1;rw[hln],hjj⟩⟩
theorem slots_spec (ρ:Hp)(fb num:Nat) :
  Spec prog 152 [.pointer (some ⟨fb,0,none⟩),.int .i64 num] ρ [] (λ v ρ' L'=>ρ.le ρ'/\∃b2 b3,v=.func (.func 216) ⟨[]⟩ ⟨[.pointer (some ⟨b2,0,none⟩),.pointer (some ⟨b3,0,none⟩)]⟩/\ρ' b2=some (.cells ⟨[.pointer (some ⟨fb,0,none⟩)]⟩ 78 (0,0))/\ρ' b3=some (.cells ⟨[.int .i64 num]⟩ 3 (0,0))/\L'=[]):=by
 refine Za func152 rfl rfl rfl λ u R=>?_
 simp only[Zc,kA]
 repeat' (first|refine zB ?_|intro _)
 rename_i b2 b3
 refine ZB [(b2,.cells ⟨[.pointer (some ⟨fb,0,none⟩)]⟩ 78 (0,0))] (h:=by infer_instance) (λ ρ1 hl1 hf1=>?_)
 refine ZB [(b3,.cells ⟨[.int .i64 num]⟩ 3 (0,0))] (h:=by infer_instance) (λ ρ2 hl2 hf2=>?_)
 have h1:=Hp.at' hl2 (hf1 _ (List.mem_singleton.2 rfl))
 have h2:=hf2 _ (List.mem_singleton.2 rfl)
 have hfin:=Hp.le_trans hl1 hl2
 exact qE (L':=[]) ⟨hfin,b2,b3,rfl,h1,h2,rfl⟩
structure CS where
 best:SlD
 other:Nat
 most:Nat
def CS.step (a:CS)(which:Nat)(s:SlD):CS:=
 if s.right=true/\(a.best.right=false\/a.best.stamp<s.stamp) then ⟨s,1-which,max a.most s.most⟩ else ⟨a.best,a.other,max a.most s.most⟩
def csTo (D:DS)(base num:Nat):Nat->CS
 | 0=>⟨zSl,0,0⟩
 | k+1=>(csTo D base num k).step k (slY num (slR D base num k)).1
theorem pre_last {α:Type}{pre X:List α}{y:α}(h:pre++[y] <+: X):∃hl:pre.length<X.length,X[pre.length]=y:=by
 obtain⟨t,rfl⟩:=h
 exact⟨by simp,by simp⟩
theorem saysF_lt (num:Nat)(a b:Blk):(Yo num a b).stamp<18446744073709551616/\(Yo num a b).lsn<18446744073709551616:=by
 unfold Yo
 split
 ·exact⟨by decide,by decide⟩
 ·exact⟨unbe_take8 _,unbe_take8 _⟩
theorem stampsF_lt (num:Nat)(a b:Blk):Wp num a b<18446744073709551616:=by
 have h1:=stampOf_lt a;have h2:=stampOf_lt b
 unfold Wp stampR
 repeat' split
 all_goals omega
structure SlLt (s:SlD):Prop where
 stamp:s.stamp<18446744073709551616
 lsn:s.lsn<18446744073709551616
 most:s.most<18446744073709551616
theorem zSl_lt:SlLt zSl:=⟨by decide,by decide,by decide⟩
theorem slY_lt (num:Nat)(r:DS×(Blk×Blk)×Int):SlLt (slY num r).1:=by
 unfold slY
 split
 ·exact zSl_lt
 ·exact⟨(saysF_lt _ _ _).1,(saysF_lt _ _ _).2,stampsF_lt _ _ _⟩
theorem csTo_lt (D:DS)(base num:Nat):∀k,SlLt (csTo D base num k).best/\(csTo D base num k).most<18446744073709551616/\(csTo D base num k).other<2
 | 0=>⟨zSl_lt,by show (0:Nat)<_;omega,by show (0:Nat)<2;omega⟩
 | k+1=>by
  obtain⟨h1,h2,h3⟩:=csTo_lt D base num k
  have h4:=slY_lt num (slR D base num k)
  have h5:=h4.most
  rw[csTo,CS.step]
  split
  ·exact⟨h4,by dsimp only;omega,by dsimp only;omega⟩
  ·exact⟨h1,by dsimp only;omega,h3⟩
def Zo (D:DS)(base num:Nat):(SlD×Nat)×DS×Int:=
 if (slR D base num 0).2.2≠0 then ((zSl,0),(slR D base num 0).1,(slR D base num 0).2.2)
 else if (slR D base num 1).2.2≠0 then ((zSl,0),(slR D base num 1).1,(slR D base num 1).2.2)
 else (({ (csTo D base num 2).best with most:=(csTo D base num 2).most },(csTo D base num 2).other),slD D base num 2,0)
abbrev cntC (b4 b5 b6 b7 b8:Nat)(s:SlD)(w:CV)(other:Int)(e which:Int)(most:Nat):SH:=[[(b4,.cells ⟨slV s w⟩ 173 (0,0))],[(b5,.cells ⟨[.int .i64 other]⟩ 3 (0,0))],[(b6,.cells ⟨[.int .i64 e]⟩ 25 (0,0))],[(b7,.cells ⟨[.int .i64 which]⟩ 3 (0,0))],[(b8,.cells ⟨[.int .u64 most]⟩ 35 (0,0))]]
abbrev zCV:CV:=⟨none,0,0,none,0,0⟩
theorem fcounts_spec (ρ:Hp)(fb db base num:Nat)(hf:FIn ρ fb db base)(hb:base<=100000)(hn:num<64)(k:DK)(D:DS)(hD:DOk k D) :
  Spec prog 93 [.pointer (some ⟨fb,0,none⟩),.int .i64 num] ρ (Zg db k D) (λ v ρ' L'=>ρ.le ρ'/\∃w,v=.tuple ⟨[.agg ⟨slV (Zo D base num).1.1 w⟩,.int .i64 (Zo D base num).1.2,.int .i64 (Zo D base num).2.2]⟩/\CIn ρ' w (Zo D base num).1.1.c.rows (Zo D base num).1.1.c.kids/\DOk k (Zo D base num).2.1/\L'=Zg db k (Zo D base num).2.1):=by
 refine Za func93 rfl rfl rfl λ u R=>?_
 simp only[Zc,kA]
 repeat' (first|(refine Zb (.func 152) ?_;refine qC rfl rfl (slots_spec _ fb num) ?_;rintro v1 ρ1 L1 hle1 ⟨hl1,c2,c3,rfl,hc2,hc3,rfl⟩;try simp only[kA])|refine zB ?_|intro _)
 rename_i b4 b5 b6 b7 b8
 have hf1:=hf.mono hl1
 have hIt:=slots_iter ρ1 c2 c3 fb db base num hf1 hc2 hc3 hb hn k D hD
 have hXl:(YI D base num).length<=2:=by unfold YI;split<;>simp
 have hlt:=csTo_lt D base num
 refine tc_rangeFuncS (S:=λ pre=>Zg db k (slD D base num pre.length)) (L0:=cntC b4 b5 b6 b7 b8 zSl zCV 0 0 0 0) (R:=R) (R0:=[(b8,.cells ⟨[.int .u64 0]⟩ 35 (0,0))]::[(b7,.cells ⟨[.int .i64 0]⟩ 3 (0,0))]::[(b6,.cells ⟨[.int .i64 0]⟩ 25 (0,0))]::[(b5,.cells ⟨[.int .i64 0]⟩ 3 (0,0))]::[(b4,.cells ⟨slV zSl zCV⟩ 173 (0,0))]::R) rfl rfl hIt (Hp.le_refl _) (λ ρ y vs ⟨w,e,_⟩=>by rw[e];rfl) rfl
  (λ pre ρ2 Lu=>ρ1.le ρ2/\(∀j,j<pre.length->(slR D base num j).2.2=0)/\∃w,CIn ρ2 w (csTo D base num pre.length).best.c.rows (csTo D base num pre.length).best.c.kids/\Lu=cntC b4 b5 b6 b7 b8 (csTo D base num pre.length).best w (csTo D base num pre.length).other 0 pre.length (csTo D base num pre.length).most)
  (λ pre c ρ2 Lu=>c=.ret/\ρ1.le ρ2/\∃which most e,e≠0/\Zo D base num=((zSl,0),slD D base num pre.length,e)/\Lu=cntC b4 b5 b6 b7 b8 zSl zCV 0 e which most)
  ?k1 ?k2 (λ pre ρ2 ρ3 Lj h23 ⟨h1,h2,w,h3,h4⟩=>⟨Hp.le_trans h1 h23,h2,w,h3.mono h23,h4⟩) ⟨Hp.le_refl _,by simp,zCV,CIn.nil,rfl⟩ ?round ?done ?stop
 case k1=>exact tk
 case k2=>exact tk
 case round=>
  rintro l tm r pre y vs ρ2 Lu u R' hpre hl2 ⟨w,rfl,hC⟩ ⟨hl3,hno,w0,hC0,rfl⟩ hr hrec
  obtain⟨hpl,hy⟩:=pre_last hpre
  rw[slotsX_at hpl] at hy
  have hp2:pre.length<2:=by omega
  simp only[envP,kA,aL,List.length_singleton]
  have hq:=hlt pre.length
  repeat' (first|refine zB ?_|intro _)
  refine ZR [(l,.loop r)] ?_
  refine te_begin rfl hr (λ r' hbz hrec'=>?_)
  rename_i b9
  have hy2:y.2=(slR D base num pre.length).2.2:=by
   rw[<-hy];unfold slY;split
   ·rfl
   ·rename_i hc;simp only[ne_eq,Decidable.not_not] at hc;rw[hc]
  by_cases he:y.2=0
  ·have hno':∀j,j<pre.length+1->(slR D base num j).2.2=0:=λ j hj=>by
    rcases (show j<pre.length\/j=pre.length by omega) with h|h
    ·exact hno j h
    ·rw[h,<-hy2,he]
   have Ve:csTo D base num (pre.length+1)=(csTo D base num pre.length).step pre.length y.1:=by rw[<-hy];rfl
   have hsl:=slY_lt num (slR D base num pre.length)
   rw[hy] at hsl
   obtain⟨s,e⟩:=y
   dsimp only at he Ve hC hsl
   subst he
   clear hy hy2
   unfold CS.step at Ve
   obtain⟨hb1,hb2,hb3⟩:=hq
   have hb4:=hb1.stamp
   have hb5:=hsl.stamp
   have hb6:=hsl.most
   generalize csTo D base num pre.length=a at *
   obtain⟨sst,sls,sc,srt,smo⟩:=s
   obtain⟨⟨bst,bls,bc,brt,bmo⟩,aot,amo⟩:=a
   dsimp only at *
   have h1w:(1:Int)-(pre.length:Int)=((1-pre.length:Nat):Int):=by omega
   have h2w:(pre.length:Int)+1=((pre.length+1:Nat):Int):=by omega
   have h3m:max ((amo:Nat):Int) ((smo:Nat):Int)=((max amo smo:Nat):Int):=by omega
   cases srt
   ·skip
    rw[if_neg (by simp)] at Ve
    repeat' (first|refine zB ?_|intro _)
    simp only[h2w,h3m]
    refine ZR [(l,.loop r')] ?_
    refine te_next (Lu:=cntC b4 b5 b6 b7 b8 ⟨bst,bls,bc,brt,bmo⟩ w0 aot 0 ((pre.length+1:Nat):Int) (max amo smo)) rfl (Hp.le_refl _) ⟨hrec'.tmps.trans hrec.tmps,hrec'.params.trans hrec.params,hrec'.assign.trans hrec.assign,hrec'.body.trans hrec.body⟩ tk tk inferInstance ?_
    exact⟨hl3,hno',w0,by rw[Ve];exact hC0,by rw[Ve]⟩
   ·cases brt
    ·skip
     rw[if_pos (by simp)] at Ve
     repeat' (first|refine zB ?_|intro _)
     refine Yt [0,1,2] (.e 3 [] (.e 4 [] .o)) ([[(b9,.cells ⟨slV ⟨sst,sls,sc,true,smo⟩ w⟩ 173 (0,0))],[(b7,.cells ⟨[.int .i64 (pre.length:Nat)]⟩ 3 (0,0))]]) ?_
     repeat' (refine iT ?_;first|refine rA ?_|(refine rE ?_<;>(refine qEf ?_)<;>(try simp only[kA])<;>refine zN ?_))
     all_goals (repeat' (first|refine zB ?_|intro _))
     all_goals simp only[h1w,h2w,h3m]
     all_goals refine ZR [(l,.loop r')] ?_
     all_goals refine te_next (Lu:=cntC b4 b5 b6 b7 b8 ⟨sst,sls,sc,true,smo⟩ w ((1-pre.length:Nat):Int) 0 ((pre.length+1:Nat):Int) (max amo smo)) rfl (Hp.le_refl _) ⟨hrec'.tmps.trans hrec.tmps,hrec'.params.trans hrec.params,hrec'.assign.trans hrec.assign,hrec'.body.trans hrec.body⟩ tk tk inferInstance ?_
     all_goals exact⟨hl3,hno',w,by rw[Ve];exact hC,by rw[Ve]⟩
    ·by_cases hlt2:bst<sst
     ·have hlt3:((bst:Nat):Int)<((sst:Nat):Int):=by omega
      rw[if_pos (⟨rfl,.inr hlt2⟩)] at Ve
      repeat' (first|refine zB ?_|intro _)
      refine Yt [0,1,2] (.e 3 [] (.e 4 [] .o)) ([[(b9,.cells ⟨slV ⟨sst,sls,sc,true,smo⟩ w⟩ 173 (0,0))],[(b7,.cells ⟨[.int .i64 (pre.length:Nat)]⟩ 3 (0,0))]]) ?_
      repeat' (refine iT ?_;first|refine rA ?_|(refine rE ?_<;>(refine qEf ?_)<;>(try simp only[kA])<;>refine zN ?_))
      all_goals (repeat' (first|refine zB ?_|intro _))
      all_goals simp only[h1w,h2w,h3m]
      all_goals refine ZR [(l,.loop r')] ?_
      all_goals refine te_next (Lu:=cntC b4 b5 b6 b7 b8 ⟨sst,sls,sc,true,smo⟩ w ((1-pre.length:Nat):Int) 0 ((pre.length+1:Nat):Int) (max amo smo)) rfl (Hp.le_refl _) ⟨hrec'.tmps.trans hrec.tmps,hrec'.params.trans hrec.params,hrec'.assign.trans hrec.assign,hrec'.body.trans hrec.body⟩ tk tk inferInstance ?_
      all_goals exact⟨hl3,hno',w,by rw[Ve];exact hC,by rw[Ve]⟩
     ·have hlt3:¬((bst:Nat):Int)<((sst:Nat):Int):=by omega
      rw[if_neg (by simp;omega)] at Ve
      repeat' (first|refine zB ?_|intro _)
      simp only[h2w,h3m]
      refine ZR [(l,.loop r')] ?_
      refine te_next (Lu:=cntC b4 b5 b6 b7 b8 ⟨bst,bls,bc,true,bmo⟩ w0 aot 0 ((pre.length+1:Nat):Int) (max amo smo)) rfl (Hp.le_refl _) ⟨hrec'.tmps.trans hrec.tmps,hrec'.params.trans hrec.params,hrec'.assign.trans hrec.assign,hrec'.body.trans hrec.body⟩ tk tk inferInstance ?_
      exact⟨hl3,hno',w0,by rw[Ve];exact hC0,by rw[Ve]⟩
  ·have hcb:(y.2 != 0)=true:=by simpa using he
   have hcd:Zo D base num=((zSl,0),slD D base num (pre.length+1),y.2):=by
    rw[hy2] at he ⊢
    unfold Zo
    rcases (show pre.length=0\/pre.length=1 by omega) with h|h
    ·rw[h] at he ⊢;rw[if_pos he];rfl
    ·rw[h] at he ⊢;rw[if_neg (by have:=hno 0 (by omega);simp[this]),if_pos he];rfl
   repeat' (first|refine zB ?_|intro _)
   refine ZR [(l,.loop r')] ?_
   refine te_leave (Lu:=cntC b4 b5 b6 b7 b8 zSl zCV 0 y.2 pre.length (csTo D base num pre.length).most) rfl rfl (Hp.le_refl _) ⟨hrec'.tmps.trans hrec.tmps,hrec'.params.trans hrec.params,hrec'.assign.trans hrec.assign,hrec'.body.trans hrec.body⟩ tk tk inferInstance ?_
   exact⟨rfl,hl3,_,_,y.2,he,hcd,rfl⟩
 case done=>
  rintro D0 ρ2 Lu hl2 ⟨hl3,hno,w,hC,rfl⟩
  have h0:(slR D base num 0).2.2=0:=hno 0 (by unfold YI;split<;>simp)
  have hln:=slotsX_len h0
  have h1:=hno 1 (by omega)
  have hcd:Zo D base num=(({ (csTo D base num 2).best with most:=(csTo D base num 2).most },(csTo D base num 2).other),slD D base num 2,0):=by
   unfold Zo
   rw[if_neg (by simp[h0]),if_neg (by simp[h1])]
  rw[hln] at hC
  simp only[kA,hln]
  generalize csTo D base num 2=a at *
  obtain⟨⟨bst,bls,bc,brt,bmo⟩,aot,amo⟩:=a
  dsimp only at *
  have hfin:=Hp.le_trans hl1 hl3
  repeat' (first|refine zB ?_|intro _)
  refine Yt [] (.b 0 1 [] [] (.b 1 2 [] [] (.e 2 [] (.e 3 [] (.e 4 [] .o))) (.e 1 [] (.e 3 [] (.e 4 [] .o)))) (.e 0 [] (.e 2 [] (.e 3 [] (.e 4 [] .o))))) ([]) ?_
  repeat' (refine iT ?_;first|refine rA ?_|((first|(refine iE ?_;refine rE ?_)|(refine iB ?_;refine rB ?_ ?_))<;>((first|(refine i_qq ?_;refine qQ ?_)|refine qEf ?_)<;>(try simp only[kA])<;>refine zN ?_)))
  all_goals (repeat' (first|refine zB ?_|intro _))
  all_goals refine ZR [(D0,.deferred (some []))] ?_
  all_goals rw[hcd]
  all_goals exact We rfl rfl rfl inferInstance (Vr rfl (ZN rfl rfl) (Zr rfl rfl) (Zr rfl rfl)) hfin tk (by infer_instance) (L':=Zg db k (slD D base num 2)) ⟨hfin,w,rfl,hC,slD_dok hD 2,rfl⟩
 case stop=>
  rintro D0 pre c ρ2 Lu hl2 ⟨rfl,hl3,which,most,e,he,hcd,rfl⟩
  simp only[kA]
  have hfin:=Hp.le_trans hl1 hl3
  repeat' (first|refine zB ?_|intro _)
  refine ZR [(D0,.deferred (some []))] ?_
  rw[hcd]
  exact We rfl rfl rfl inferInstance (Vr rfl (ZN rfl rfl) (Zr rfl rfl) (Zr rfl rfl)) hfin tk (by infer_instance) (L':=Zg db k (slD D base num pre.length)) ⟨hfin,zCV,rfl,CIn.nil,slD_dok hD _,rfl⟩
theorem row_spec (ρ0 ρ:Hp)(fb base:Nat)(g:Nat)(cs:List Value)(S:SH)(xs:List (Nat×Blk))(hl0:ρ0.le ρ)(hI:Iter prog g [] cs pencV ρ0 S xs)[hF:Zz prog g](h64:∀p∈xs,p.2.length=64)(b:Nat)(hf:FIn ρ fb b base)(k:DK)(D:DS)(hD:DOk k D) :
  Spec prog 144 [.pointer (some ⟨fb,0,none⟩),.func (.func g) ⟨[]⟩ ⟨cs⟩] ρ (S++Zg b k D) (λ v ρ' L'=>v=.int .i64 (DS.lays xs D).2/\ρ.le ρ'/\∃k',DOk k' (DS.lays xs D).1/\L'=S++Zg b k' (DS.lays xs D).1):=by
 refine Za func144 rfl rfl rfl λ u R=>?_
 simp only[Zc,kB]
 repeat' (first|refine zB ?_|intro _)
 rename_i b2 b4
 refine tc_rangeFunc (S:=S) (L0:=[[(b2,.cells ⟨[.pointer (some ⟨fb,0,none⟩)]⟩ 78 (0,0))],[(b4,.cells ⟨[.int .i64 0]⟩ 25 (0,0))]]++Zg b k D) (R:=R) (R0:=[(b4,.cells ⟨[.int .i64 0]⟩ 25 (0,0))]::[(b2,.cells ⟨[.pointer (some ⟨fb,0,none⟩)]⟩ 78 (0,0))]::(Zg b k D++R)) rfl rfl hI hl0 (λ _=>rfl) rfl
  (λ pre ρ1 Lu=>∃D1 k1,ρ.le ρ1/\Wr D pre D1/\DOk k1 D1/\Lu=[[(b2,.cells ⟨[.pointer (some ⟨fb,0,none⟩)]⟩ 78 (0,0))],[(b4,.cells ⟨[.int .i64 0]⟩ 25 (0,0))]]++Zg b k1 D1)
  (λ c ρ1 Lu=>c=.exit 0/\∃D2 k2 e,ρ.le ρ1/\e≠0/\DS.lays xs D=(D2,e)/\DOk k2 D2/\Lu=[[(b2,.cells ⟨[.pointer (some ⟨fb,0,none⟩)]⟩ 78 (0,0))],[(b4,.cells ⟨[.int .i64 e]⟩ 25 (0,0))]]++Zg b k2 D2) ?k1 ?k2 ⟨D,k,Hp.le_refl _,.nil,hD,rfl⟩ ?round ?done ?stop
 case k1=>exact tk
 case k2=>exact tk
 case round=>
  rintro l tm r pre y ρ1 Lu u R' hpre hl1 ⟨D1,k1,hl2,hwr,hD1,rfl⟩ hr hrec
  simp only[envP,kA]
  have hm64:=h64 y (hpre.subset (by simp))
  have hy1:=ZH y.2
  have hyl:(y.2.map Zk).length=64:=by simpa using hm64
  repeat' (first|refine zB ?_|intro _)
  refine ZR [(l,.loop r)] ?_
  refine te_begin rfl hr (λ r' hbz hrec'=>?_)
  rename_i b7
  have hfile:=(hf.mono hl2).at'
  repeat' (first|refine zB ?_|intro _)
  by_cases hc:(D1.write (y.1:Int) y.2).2=0
  ·have hcb:((D1.write (y.1:Int) y.2).2 != 0)=false:=by simpa using hc
   have hw2:=hwr.snoc hc
   refine Yt [0,1,2,3,4,5] (.e 6 [] (.e 7 [] .o)) ([[(b2,.cells ⟨[.pointer (some ⟨fb,0,none⟩)]⟩ 78 (0,0))],[(b7,.cells ⟨y.2.map Zk⟩ 105 (0,0))]]) ?_
   repeat' (refine iT ?_;first|refine rA ?_|(refine rE ?_<;>((first|(refine Zb (.func 95) ?_;refine qC rfl rfl (kwrite _ b k1 D1 y.1 y.2 hm64 hD1) ?_;rintro v ρ' L' hle ⟨rfl,rfl,k2,hD2,rfl⟩<;>(try simp only[kA]))|refine qEf ?_)<;>(try simp only[kA])<;>refine zN ?_)))
   simp only[hc]
   repeat' (first|refine zB ?_|intro _)
   refine ZR [(l,.loop r')] ?_
   refine te_next (Lu:=[[(b2,.cells ⟨[.pointer (some ⟨fb,0,none⟩)]⟩ 78 (0,0))],[(b4,.cells ⟨[.int .i64 0]⟩ 25 (0,0))]]++Zg b k2 (D1.write (y.1:Int) y.2).1) rfl (Hp.le_refl _) ⟨hrec'.tmps.trans hrec.tmps,hrec'.params.trans hrec.params,hrec'.assign.trans hrec.assign,hrec'.body.trans hrec.body⟩ tk tk inferInstance ?_
   exact⟨_,k2,hl2,hw2,hD2,rfl⟩
  ·have hcb:((D1.write (y.1:Int) y.2).2 != 0)=true:=by simpa using hc
   have hst:=hwr.stop hpre hc
   refine Yt [0,1,2,3,4,5] (.e 6 [] (.e 7 [] .o)) ([[(b2,.cells ⟨[.pointer (some ⟨fb,0,none⟩)]⟩ 78 (0,0))],[(b7,.cells ⟨y.2.map Zk⟩ 105 (0,0))]]) ?_
   repeat' (refine iT ?_;first|refine rA ?_|(refine rE ?_<;>((first|(refine Zb (.func 95) ?_;refine qC rfl rfl (kwrite _ b k1 D1 y.1 y.2 hm64 hD1) ?_;rintro v ρ' L' hle ⟨rfl,rfl,k2,hD2,rfl⟩<;>(try simp only[kA]))|refine qEf ?_)<;>(try simp only[kA])<;>refine zN ?_)))
   repeat' (first|refine zB ?_|intro _)
   refine ZR [(l,.loop r')] ?_
   refine te_leave (Lu:=[[(b2,.cells ⟨[.pointer (some ⟨fb,0,none⟩)]⟩ 78 (0,0))],[(b4,.cells ⟨[.int .i64 (D1.write (y.1:Int) y.2).2]⟩ 25 (0,0))]]++Zg b k2 (D1.write (y.1:Int) y.2).1) rfl rfl (Hp.le_refl _) ⟨hrec'.tmps.trans hrec.tmps,hrec'.params.trans hrec.params,hrec'.assign.trans hrec.assign,hrec'.body.trans hrec.body⟩ tk tk inferInstance ?_
   exact⟨rfl,_,k2,_,hl2,hc,hst,hD2,rfl⟩
 case done=>
  rintro D0 ρ1 Lu hl1 ⟨D1,k1,hl2,hwr,hD1,rfl⟩
  simp only[kA]
  have hlay:=hwr.lays []
  rw[aN,DS.lays] at hlay
  rw[hlay]
  have hfile:=(hf.mono hl2).at'
  repeat' (first|(refine Zb (.func 96) ?_;refine qC rfl rfl (ksync _ b k1 D1 hD1) ?_;rintro v ρ' L' hle ⟨rfl,hl3,k2,hD2,rfl⟩<;>(try simp only[kA]))|refine zB ?_|intro _)
  refine ZR [(D0,.deferred (some []))] ?_
  exact We rfl rfl rfl inferInstance (res1 rfl (ZZ rfl)) (Hp.le_trans hl2 hl3) tk (by infer_instance) (L':=S++Zg b k2 D1.sync.1) ⟨rfl,Hp.le_trans hl2 hl3,k2,hD2,rfl⟩
 case stop=>
  rintro D0 c ρ1 Lu hl1 ⟨rfl,D2,k2,e,hl2,he,hlay,hD2,rfl⟩
  simp only[kA]
  have heb:(e != 0)=true:=by simpa using he
  rw[hlay]
  repeat' (first|refine zB ?_|intro _)
  refine ZR [(D0,.deferred (some []))] ?_
  exact We rfl rfl rfl inferInstance (res1 rfl (ZZ rfl)) hl2 tk (by infer_instance) (L':=S++Zg b k2 D2) ⟨rfl,hl2,k2,hD2,rfl⟩
theorem page_spec (ρ:Hp)(num:Int):Spec prog 92 [.int .i64 num] ρ [] (λ v ρ' L'=>v=.bool (decide (0<=num/\num<64))/\ρ'=ρ/\L'=[]):=by
 by_cases h0:0<=num
 ·by_cases h1:num<64
  ·rw[decide_eq_true ⟨h0,h1⟩]
   refine Za func92 rfl rfl rfl λ u R=>?_
   simp only[Zc,kA]
   repeat' (first|refine zB ?_|intro _)
   exact qE (L':=[]) ⟨rfl,rfl,rfl⟩
  ·rw[decide_eq_false (λ h=>h1 h.2)]
   refine Za func92 rfl rfl rfl λ u R=>?_
   simp only[Zc,kA]
   repeat' (first|refine zB ?_|intro _)
   exact qE (L':=[]) ⟨rfl,rfl,rfl⟩
 ·rw[decide_eq_false (λ h=>h0 h.1)]
  refine Za func92 rfl rfl rfl λ u R=>?_
  simp only[Zc,kA]
  repeat' (first|refine zB ?_|intro _)
  exact qE (L':=[]) ⟨rfl,rfl,rfl⟩
def OpenOk (D:DS)(base:Int):Prop:=0<=base/\base+256<=D.secs.length
instance (D:DS)(base:Int):Decidable (OpenOk D base):=by unfold OpenOk;infer_instance
theorem openf_spec (ρ:Hp)(db:Nat)(k:DK)(D:DS)(hD:DOk k D)(base:Nat)(h:base+256<=D.secs.length) :
  Spec prog 94 [.pointer (some ⟨db,0,none⟩),.int .i64 base] ρ (Zg db k D) (λ v ρ' L'=>ρ.le ρ'/\∃fb,v=.tuple ⟨[.pointer (some ⟨fb,0,none⟩),.int .i64 0]⟩/\FIn ρ' fb db base/\L'=Zg db k D):=by
 have hln:=hD.ok.secs.len
 refine Za func94 rfl rfl rfl λ u R=>?_
 simp only[Zc,kA]
 repeat' (first|(refine Zb (.func 39) ?_;refine qR rfl rfl (klen _ db k D) ?_;try simp only[kA])|refine zB ?_|intro _)
 rename_i fb
 refine ZB [(fb,.cells ⟨[.pointer (some ⟨db,0,none⟩),.int .i64 base]⟩ 239 (0,0))] (h:=by infer_instance) (λ ρ1 hl1 hf1=>?_)
 have h1:=hf1 _ (List.mem_singleton.2 rfl)
 have hF:FIn ρ1 fb db base:=⟨h1⟩
 exact qE (L':=Zg db k D) ⟨hl1,fb,rfl,hF,rfl⟩
theorem Open_spec (ρ:Hp)(db:Nat)(k:DK)(D:DS)(hD:DOk k D)(base:Nat)(h:base+256<=D.secs.length) :
  Spec prog 35 [.pointer (some ⟨db,0,none⟩),.int .i64 base] ρ (Zg db k D) (λ v ρ' L'=>ρ.le ρ'/\∃fb,v=.tuple ⟨[.pointer (some ⟨fb,0,none⟩),.int .i64 0]⟩/\FIn ρ' fb db base/\L'=Zg db k D):=by
 refine Za func35 rfl rfl rfl λ u R=>?_
 simp only[Zc,kA]
 repeat' (first|(refine Zb (.func 94) ?_;refine qC rfl rfl (openf_spec _ db k D hD base h) ?_;rintro v1 ρ1 L1 hle1 ⟨hl1,fb,rfl,hF,rfl⟩;try simp only[kA])|refine zB ?_|intro _)
 exact qE (L':=Zg db k D) ⟨hl1,fb,rfl,hF,rfl⟩
def ZC (base:Nat):List (Nat×Blk):=(List.range 256).map λ i=>(base+i,Xs)
theorem noughtsF_at {base k:Nat}(hk:k<(ZC base).length):(ZC base)[k]=(base+k,Xs):=by simp[ZC]
theorem noughtsF_len {base:Nat}:(ZC base).length=256:=by simp[ZC]
theorem noughtsF_64 {n:Nat}:∀p∈ZC n,p.2.length=64:=λ p hp=>by
 simp only[ZC,List.mem_map] at hp
 obtain⟨k,_,rfl⟩:=hp;rfl
theorem noughtsF_iter (ρ0:Hp)(sb base:Nat)(hn:base<=1000000):Iter prog 145 [] [.pointer (some ⟨sb,0,none⟩)] pencV ρ0 [[(sb,.cells ⟨[.int .i64 base]⟩ 3 (0,0))]] (ZC base):=by
 intro l J Jx hY ρ Lj hl0 hJ
 have hlen:=noughtsF_len (base:=base)
 refine Za func145 rfl rfl rfl λ u R=>?_
 simp only[Zc,kB]
 repeat' (first|refine zB ?_|intro _)
 refine lpG (Nat×Hp×SH) [0,1] (λ z=>[(4,.int .i64 z.1)]) (λ z=>z.2.1) (λ z=>[[(sb,.cells ⟨[.int .i64 base]⟩ 3 (0,0))]]++z.2.2) (λ z=>z.1<=256/\ρ.le z.2.1/\J ((ZC base).take z.1) z.2.1 z.2.2) (λ z=>256-z.1) (0,ρ,Lj) ⟨aZ _,Hp.le_refl _,hJ⟩ ?_
 rintro⟨k,ρ1,L1⟩ hI
 try simp only[kB] at hI ⊢
 try dsimp only at hI ⊢
 obtain⟨hk,hle1,hj⟩:=hI
 by_cases hlt:k<256
 ·have hk2:k<(ZC base).length:=by omega
  have hpre:=take_succ_pre (ZC base) k hk2
  rw[noughtsF_at] at hpre
  have hts:=aG hk2
  rw[noughtsF_at] at hts
  have hy:=hY _ _ ρ1 L1 hpre (Hp.le_trans hl0 hle1) hj
  have hbk:(base:Int)+(k:Int)=((base+k:Nat):Int):=by omega
  repeat' (first|(simp only[Value.cells,zblk_cells,hbk];refine Zb (.tmp 7) ?_;refine qY rfl rfl hy ?_;rintro v ρ' L' hle ⟨Lj',rfl,⟨rfl,hj'⟩|⟨rfl,hj'⟩⟩<;>(try simp only[kA]))|refine zB ?_|intro _)
  ·refine rnG (k+1,ρ',Lj') (⟨hlt,Hp.le_trans hle1 hle,by dsimp only;rw[hts];exact hj'⟩)
  ·exact qE (L':=[[(sb,.cells ⟨[.int .i64 base]⟩ 3 (0,0))]]++Lj') ⟨Lj',rfl,.inr hj'⟩
 ·have hk2:k=256:=by omega
  subst hk2
  rw[aT (by omega)] at hj
  repeat' (first|refine zB ?_|intro _)
  exact qE (L':=[[(sb,.cells ⟨[.int .i64 base]⟩ 3 (0,0))]]++L1) ⟨L1,rfl,.inl hj⟩
theorem Format_spec (ρ:Hp)(db:Nat)(k:DK)(D:DS)(hD:DOk k D)(base:Nat)(h:base+256<=D.secs.length)(h0:(DS.lays (ZC base) D).2=0) :
  Spec prog 82 [.pointer (some ⟨db,0,none⟩),.int .i64 base] ρ (Zg db k D) (λ v ρ' L'=>ρ.le ρ'/\∃fb k',v=.tuple ⟨[.pointer (some ⟨fb,0,none⟩),.int .i64 0]⟩/\FIn ρ' fb db base/\DOk k' (DS.lays (ZC base) D).1/\L'=Zg db k' (DS.lays (ZC base) D).1):=by
 have hln:=hD.ok.secs.len
 refine Za func82 rfl rfl rfl λ u R=>?_
 simp only[Zc,kA]
 repeat' (first|(refine Zb (.func 94) ?_;refine qC rfl rfl (openf_spec _ db k D hD base h) ?_;rintro v1 ρ1 L1 hle1 ⟨hl1,fb,rfl,hF,rfl⟩;try simp only[kA])|refine zB ?_|intro _)
 rename_i b3
 repeat' (first|(refine Zb (.func 144) ?_;refine qC rfl rfl (row_spec _ _ fb base 145 [.pointer (some ⟨b3,0,none⟩)] [[(b3,.cells ⟨[.int .i64 base]⟩ 3 (0,0))]] (ZC base) (Hp.le_refl _) (noughtsF_iter _ b3 base (by omega)) noughtsF_64 db hF k D hD) ?_;rintro v2 ρ2 L2 hle2 ⟨rfl,hl2,k2,hD2,rfl⟩;simp only[kB,h0])|refine zB ?_|intro _)
 have hfin:=Hp.le_trans hl1 hl2
 have hF2:=hF.mono hl2
 exact qE (L':=Zg db k2 (DS.lays (ZC base) D).1) ⟨hfin,fb,k2,rfl,hF2,hD2,rfl⟩
def Xy (D:DS)(base num:Nat):(ZO×Nat×Int)×DS:=
 if (Zo D base num).2.2≠0\/(Zo D base num).1.1.right=false then ((⟨0,[],[]⟩,0,(Zo D base num).2.2),(Zo D base num).2.1)
 else (((Zo D base num).1.1.c,(Zo D base num).1.1.lsn,0),(Zo D base num).2.1)
theorem Read_spec (ρ:Hp)(fb db base num:Nat)(hf:FIn ρ fb db base)(hb:base<=100000)(hn:num<64)(k:DK)(D:DS)(hD:DOk k D) :
  Spec prog 33 [.pointer (some ⟨fb,0,none⟩),.int .i64 num] ρ (Zg db k D) (λ v ρ' L'=>ρ.le ρ'/\∃w,v=.tuple ⟨[.agg ⟨Yv (Xy D base num).1.1.kind w⟩,.int .u64 ((Xy D base num).1.2.1:Nat),.int .i64 (Xy D base num).1.2.2]⟩/\CIn ρ' w (Xy D base num).1.1.rows (Xy D base num).1.1.kids/\DOk k (Xy D base num).2/\L'=Zg db k (Xy D base num).2):=by
 have hp:=page_spec ρ num
 rw[decide_eq_true ⟨by omega,by omega⟩] at hp
 have hcn:=fcounts_spec ρ fb db base num hf hb hn k D hD
 have hR:Xy D base num=if (Zo D base num).2.2≠0\/(Zo D base num).1.1.right=false then ((⟨0,[],[]⟩,0,(Zo D base num).2.2),(Zo D base num).2.1)
  else (((Zo D base num).1.1.c,(Zo D base num).1.1.lsn,0),(Zo D base num).2.1):=rfl
 generalize Xy D base num=RES at *
 generalize Zo D base num=r at *
 obtain⟨⟨⟨st,ls,c,rt,mo⟩,ot⟩,D',ec⟩:=r
 dsimp only at hR hcn
 refine Za func33 rfl rfl rfl λ u R=>?_
 simp only[Zc,kA]
 by_cases he:ec=0
 ·subst he
  cases rt with
  | true=>
   rw[if_neg (by simp)] at hR
   subst hR
   repeat' (first|(refine Zb (.func 92) ?_;refine qR rfl rfl (hp) ?_;try simp only[kA])|(refine Zb (.func 93) ?_;refine qC rfl rfl hcn ?_;rintro v2 ρ2 L2 hle2 ⟨hl2,w,rfl,hC,hD2,rfl⟩;try simp only[kA])|refine zB ?_|intro _)
   rename_i b4 b7
   refine Yt [0,1,2,3] (.e 4 [] (.f [5,6] .o)) ([[(b7,.cells ⟨slV ⟨st,ls,c,true,mo⟩ w⟩ 173 (0,0))]]) ?_
   repeat' (refine iT ?_;first|refine rA ?_|(refine rE ?_<;>(refine qEf ?_)<;>(try simp only[kA])<;>refine zN ?_))
   all_goals (repeat' (first|refine zB ?_|intro _))
   all_goals exact qE (L':=Zg db k D') ⟨hl2,w,rfl,hC,hD2,rfl⟩
  | false=>
   rw[if_pos (.inr rfl)] at hR
   subst hR
   repeat' (first|(refine Zb (.func 92) ?_;refine qR rfl rfl (hp) ?_;try simp only[kA])|(refine Zb (.func 93) ?_;refine qC rfl rfl hcn ?_;rintro v2 ρ2 L2 hle2 ⟨hl2,w,rfl,hC,hD2,rfl⟩;try simp only[kA])|refine zB ?_|intro _)
   exact qE (L':=Zg db k D') ⟨hl2,zCV,rfl,CIn.nil,hD2,rfl⟩
 ·have hcb:(ec != 0)=true:=by simpa using he
  rw[if_pos (.inl he)] at hR
  subst hR
  repeat' (first|(refine Zb (.func 92) ?_;refine qR rfl rfl (hp) ?_;try simp only[kA])|(refine Zb (.func 93) ?_;refine qC rfl rfl hcn ?_;rintro v2 ρ2 L2 hle2 ⟨hl2,w,rfl,hC,hD2,rfl⟩;try simp only[kA])|refine zB ?_|intro _)
  exact qE (L':=Zg db k D') ⟨hl2,zCV,rfl,CIn.nil,hD2,rfl⟩
def Yy (ix:Nat)(a b:Blk):List (Nat×Blk):=[(ix,a),(ix+1,b)]
abbrev wS (b1 b2 b3 b4 fb num other:Nat)(a b:Blk):SH:=[[(b1,.cells ⟨(a++b).map Zk⟩ 199 (0,0))],[(b2,.cells ⟨[.pointer (some ⟨fb,0,none⟩)]⟩ 78 (0,0))],[(b3,.cells ⟨[.int .i64 num]⟩ 3 (0,0))],[(b4,.cells ⟨[.int .i64 other]⟩ 3 (0,0))]]
theorem write_iter (ρ0:Hp)(b1 b2 b3 b4 fb db base num other:Nat)(a b:Blk)(ha:a.length=64)(hb:b.length=64)(hf:FIn ρ0 fb db base)(hbase:base<=100000)(hn:num<64)(ho:other<2) :
  Iter prog 209 [] [.pointer (some ⟨b1,0,none⟩),.pointer (some ⟨b2,0,none⟩),.pointer (some ⟨b3,0,none⟩),.pointer (some ⟨b4,0,none⟩)] pencV ρ0 (wS b1 b2 b3 b4 fb num other a b) (Yy (base+4*num+2*other) a b):=by
 intro l J Jx hY ρ Lj hl0 hJ
 have hat:=λ ρ (h:FIn ρ fb db base)=>at14_spec ρ fb db base num other h hbase hn ho
 have hix0:base+4*num+2*other<=200000:=by omega
 generalize base+4*num+2*other=ix at *
 have hab:((a++b).map Zk).length=128:=by simp[ha,hb]
 have hone:=ZH (a++b)
 have hld:List.take 128 (List.drop 0 ((a++b).map Zk))=(a++b).map Zk:=by rw[List.drop_zero,aT (by omega)]
 refine Za func209 rfl rfl rfl λ u R=>?_
 simp only[Zc,kB]
 repeat' (first|refine zB ?_|intro _)
 refine lpG (Nat×Hp×SH) [0,2,3,4,8] (λ z=>[(9,.int .i64 z.1)]) (λ z=>z.2.1) (λ z=>wS b1 b2 b3 b4 fb num other a b++z.2.2) (λ z=>z.1<=2/\ρ.le z.2.1/\J ((Yy ix a b).take z.1) z.2.1 z.2.2) (λ z=>2-z.1) (0,ρ,Lj) ⟨aZ _,Hp.le_refl _,hJ⟩ ?_
 rintro⟨i,ρ1,L1⟩ hI
 try simp only[kB] at hI ⊢
 try dsimp only at hI ⊢
 obtain⟨hi,hle1,hj⟩:=hI
 by_cases hlt:i<2
 ·obtain⟨blk,hbl,hix,hpw⟩:∃blk:Blk,blk.length=64/\(((a++b).map Zk).drop (i*64)).take 64=blk.map Zk/\(Yy ix a b).take (i+1)=(Yy ix a b).take i++[(ix+i,blk)]:=by
   rcases (show i=0\/i=1 by omega) with rfl|rfl
   ·refine⟨a,ha, ?_,rfl⟩
    rw[List.map_append,Nat.zero_mul,List.drop_zero,List.take_left' (by simpa using ha)]
   ·refine⟨b,hb, ?_,rfl⟩
    rw[List.map_append,Nat.one_mul,List.drop_left' (by simpa using ha),aT (by simp;omega)]
  have hb64:(blk.map Zk).length=64:=by simpa using hbl
  have hbo:=ZH blk
  have hpre:(Yy ix a b).take i++[(ix+i,blk)] <+: Yy ix a b:=by rw[<-hpw];exact List.take_prefix _ _
  have hf1:=hf.mono (Hp.le_trans hl0 hle1)
  have hy:=hY _ _ ρ1 L1 hpre (Hp.le_trans hl0 hle1) hj
  have hii:(ix:Int)+(i:Int)=((ix+i:Nat):Int):=by omega
  repeat' (first|(refine tl_y (y_index_a rfl rfl hlt hix) rfl rfl ?_)|refine zB ?_|intro _)
  rename_i b7
  refine Yt [0,1,2,3,5,7] (.e 4 [6] (.e 8 [] (.f [9] .o))) ([[(b2,.cells ⟨[.pointer (some ⟨fb,0,none⟩)]⟩ 78 (0,0))],[(b3,.cells ⟨[.int .i64 num]⟩ 3 (0,0))],[(b4,.cells ⟨[.int .i64 other]⟩ 3 (0,0))],[(b7,.cells ⟨blk.map Zk⟩ 105 (0,0))]]) ?_
  repeat' (refine iT ?_;first|refine rA ?_|(refine rE ?_<;>((first|(refine Zb (.func 210) ?_;refine qC rfl rfl ((hat _ hf1)) ?_;rintro v ρ' L' hle ⟨rfl,rfl,rfl⟩<;>(try simp only[kA]))|(simp only[hii];refine Zb (.tmp 13) ?_;refine qY rfl rfl hy ?_;rintro v ρ' L' hle ⟨Lj',rfl,⟨rfl,hj'⟩|⟨rfl,hj'⟩⟩<;>(try simp only[kB])))<;>(try simp only[kA])<;>refine zN ?_)))
  ·repeat' (first|refine zB ?_|intro _)
   refine rnG (i+1,ρ',Lj') (⟨hlt,Hp.le_trans hle1 hle,by dsimp only;rw[hpw];exact hj'⟩)
  ·repeat' (first|refine zB ?_|intro _)
   exact qE (L':=wS b1 b2 b3 b4 fb num other a b++Lj') ⟨Lj',rfl,.inr hj'⟩
 ·have h2:i=2:=by omega
  subst h2
  repeat' (first|refine zB ?_|intro _)
  exact qE (L':=wS b1 b2 b3 b4 fb num other a b++L1) ⟨L1,rfl,.inl hj⟩
def YN (D:DS)(base num lsn:Nat)(c:ZO):DS×Int:=
 if (Zo D base num).2.2≠0 then (Zo D base num).2
 else if (Zo D base num).1.1.most=18446744073709551615 then ((Zo D base num).2.1,6)
 else DS.lays (Yy (base+4*num+2*(Zo D base num).1.2) (Zx num ((Zo D base num).1.1.most+1) lsn c 0) (Zx num ((Zo D base num).1.1.most+1) lsn c 1)) (Zo D base num).2.1
theorem countsD_lt (D:DS)(base num:Nat):(Zo D base num).1.1.most<18446744073709551616/\(Zo D base num).1.2<2:=by
 unfold Zo
 split
 ·exact⟨by show (0:Nat)<_;omega,by show (0:Nat)<2;omega⟩
 ·split
  ·exact⟨by show (0:Nat)<_;omega,by show (0:Nat)<2;omega⟩
  ·exact⟨(csTo_lt D base num 2).2.1,(csTo_lt D base num 2).2.2⟩
theorem Write_spec (ρ:Hp)(fb db base num lsn:Nat)(hf:FIn ρ fb db base)(hb:base<=100000)(hn:num<64)(hls:lsn<18446744073709551616)(c:ZO)(w:CV)(hC:CIn ρ w c.rows c.kids)(hok:Zp c=true)(hir:∀r∈c.rows,r.id<65536)(hik:∀k∈c.kids,k.id<65536)(k:DK)(D:DS)(hD:DOk k D) :
  Spec prog 141 [.pointer (some ⟨fb,0,none⟩),.int .i64 num,.int .u64 lsn,.agg ⟨Yv c.kind w⟩] ρ (Zg db k D) (λ v ρ' L'=>v=.int .i64 (YN D base num lsn c).2/\ρ.le ρ'/\∃k',DOk k' (YN D base num lsn c).1/\L'=Zg db k' (YN D base num lsn c).1):=by
 have hp:=page_spec ρ num
 rw[decide_eq_true ⟨by omega,by omega⟩] at hp
 have hck:=Xn ρ w c hC
 rw[hok] at hck
 simp only[if_true] at hck
 have hcn:=fcounts_spec ρ fb db base num hf hb hn k D hD
 have hclt:=countsD_lt D base num
 have hR:YN D base num lsn c=if (Zo D base num).2.2≠0 then (Zo D base num).2
  else if (Zo D base num).1.1.most=18446744073709551615 then ((Zo D base num).2.1,6)
  else DS.lays (Yy (base+4*num+2*(Zo D base num).1.2) (Zx num ((Zo D base num).1.1.most+1) lsn c 0) (Zx num ((Zo D base num).1.1.most+1) lsn c 1)) (Zo D base num).2.1:=rfl
 generalize YN D base num lsn c=RES at *
 generalize Zo D base num=r at *
 obtain⟨⟨⟨st,ls,c0,rt,mo⟩,ot⟩,D',ec⟩:=r
 dsimp only at hR hcn hclt
 refine Za func141 rfl rfl rfl λ u R=>?_
 simp only[Zc,kA]
 by_cases he:ec=0
 ·subst he
  rw[if_neg (by simp)] at hR
  by_cases hmo:mo=18446744073709551615
  ·rw[if_pos hmo] at hR
   subst hR
   have hmo':((mo:Nat):Int)=18446744073709551615:=by omega
   repeat' (first|(refine Zb (.func 92) ?_;refine qC rfl rfl (hp) ?_;rintro v ρ' L' hle ⟨rfl,rfl,rfl⟩<;>(try simp only[kA]))|(refine Zb (.func 205) ?_;refine qC rfl rfl (hck) ?_;rintro v ρ' L' hle ⟨rfl,rfl,rfl⟩<;>(try simp only[kA]))|(refine Zb (.func 93) ?_;refine qC rfl rfl hcn ?_;rintro v2 ρ2 L2 hle2 ⟨hl2,w2,rfl,hC2,hD2,rfl⟩;try simp only[kA])|refine zB ?_|intro _)
   exact qE (L':=Zg db k D') ⟨rfl,hl2,k,hD2,rfl⟩
  ·rw[if_neg hmo] at hR
   have hmo':¬((mo:Nat):Int)=18446744073709551615:=by omega
   have hm1:((mo:Nat):Int)+1=((mo+1:Nat):Int):=by omega
   have hmlt:mo+1<18446744073709551616:=by omega
   repeat' (first|(refine Zb (.func 92) ?_;refine qC rfl rfl (hp) ?_;rintro v ρ' L' hle ⟨rfl,rfl,rfl⟩<;>(try simp only[kA]))|(refine Zb (.func 205) ?_;refine qC rfl rfl (hck) ?_;rintro v ρ' L' hle ⟨rfl,rfl,rfl⟩<;>(try simp only[kA]))|(refine Zb (.func 93) ?_;refine qC rfl rfl hcn ?_;rintro v2 ρ2 L2 hle2 ⟨hl2,w2,rfl,hC2,hD2,rfl⟩;try simp only[kA])|(refine tl_y (y_build (vs:=[.int .u64 ((mo+1:Nat):Int),.int .u64 lsn,.agg ⟨Yv c.kind w⟩]) (cells:=⟨slV ⟨mo+1,lsn,c,false,0⟩ w⟩) rfl rfl) rfl rfl ?_)|refine zB ?_|intro _)
   repeat' (first|(refine Zb (.func 208) ?_;refine qC rfl rfl (parts_spec _ num hn ⟨mo+1,lsn,c,false,0⟩ w (hC.mono hl2) hok hir hik hmlt hls) ?_;rintro v5 ρ5 L5 hle5 ⟨rfl,hl5,rfl⟩;dsimp only;have hP0:=Xg num (mo+1) lsn c (i:=0) (by omega);have hP1:=Xg num (mo+1) lsn c (i:=1) (by omega);have hPo:=ZH (Zx num (mo+1) lsn c 0++Zx num (mo+1) lsn c 1);have hPl:((Zx num (mo+1) lsn c 0++Zx num (mo+1) lsn c 1).map Zk).length=128:=(by simp[hP0,hP1]);try simp only[kA])|refine zB ?_|intro _)
   rename_i b4 b5 b7 hq b10 b11 b13
   have hf5:=hf.mono (Hp.le_trans hl2 hl5)
   have h64:∀p∈Yy (base+4*num+2*ot) (Zx num (mo+1) lsn c 0) (Zx num (mo+1) lsn c 1),p.2.length=64:=λ p hp=>by
    simp only[Yy,List.mem_cons,List.not_mem_nil,or_false] at hp
    rcases hp with rfl|rfl
    ·exact hP0
    ·exact hP1
   repeat' (first|(refine Zb (.func 144) ?_;refine qC rfl rfl (row_spec _ _ fb base 209 [.pointer (some ⟨b13,0,none⟩),.pointer (some ⟨b4,0,none⟩),.pointer (some ⟨b5,0,none⟩),.pointer (some ⟨b11,0,none⟩)] (wS b13 b4 b5 b11 fb num ot (Zx num (mo+1) lsn c 0) (Zx num (mo+1) lsn c 1)) _ (Hp.le_refl _) (write_iter _ b13 b4 b5 b11 fb db base num ot _ _ hP0 hP1 hf5 hb hn hclt.2) h64 db hf5 k D' hD2) ?_;rintro v6 ρ6 L6 hle6 ⟨rfl,hl6,k6,hD6,rfl⟩;simp only[kB])|refine zB ?_|intro _)
   subst hR
   have hfin:=Hp.le_trans hl2 (Hp.le_trans hl5 hl6)
   exact qE (L':=Zg db k6 _) ⟨rfl,hfin,k6,hD6,rfl⟩
 ·have hcb:(ec != 0)=true:=by simpa using he
  rw[if_pos he] at hR
  subst hR
  repeat' (first|(refine Zb (.func 92) ?_;refine qC rfl rfl (hp) ?_;rintro v ρ' L' hle ⟨rfl,rfl,rfl⟩<;>(try simp only[kA]))|(refine Zb (.func 205) ?_;refine qC rfl rfl (hck) ?_;rintro v ρ' L' hle ⟨rfl,rfl,rfl⟩<;>(try simp only[kA]))|(refine Zb (.func 93) ?_;refine qC rfl rfl hcn ?_;rintro v2 ρ2 L2 hle2 ⟨hl2,w2,rfl,hC2,hD2,rfl⟩;try simp only[kA])|refine zB ?_|intro _)
  exact qE (L':=Zg db k D') ⟨rfl,hl2,k,hD2,rfl⟩
end Go.Proofs.E
