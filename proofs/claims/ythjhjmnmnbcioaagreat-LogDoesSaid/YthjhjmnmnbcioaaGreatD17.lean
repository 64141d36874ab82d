/- Laws of LogDoes. Part 17 of 30. -/
import Derived.Test.YthjhjmnmnbcioaaGreatD16
set_option linter.unusedVariables false
set_option linter.unusedSimpArgs false
set_option linter.unusedSectionVars false
namespace Go.Proofs.E
open Go Tryz
set_option maxRecDepth 4000
set_option maxHeartbeats 1000000
attribute [local irreducible] Yl TL TC TE Spec YL R1 Hp.le EnvLe TS TR YS Zt TP QP
theorem sameR_spec (ρ:Hp)(w w':CV)(c d:Wm)(h:CIn ρ w c.rows c.kids)(h':CIn ρ w' d.rows d.kids) :
  Spec prog 81 [.agg ⟨XI c.kind w⟩,.agg ⟨XI d.kind w'⟩] ρ [] (λ v ρ' L'=>v=.bool (decide (c=d))/\ρ'=ρ/\L'=[]):=by
 obtain⟨kind,rows,kids⟩:=c
 obtain⟨kind',rows',kids'⟩:=d
 obtain⟨ra,rn,rc,ka,kn,kc⟩:=w
 obtain⟨ra',rn',rc',ka',kn',kc'⟩:=w'
 obtain⟨hr,hk,hrb,hkb,hrc,hkc⟩:=h
 obtain⟨hr',hk',hrb',hkb',hrc',hkc'⟩:=h'
 dsimp only at hrc hkc hr hk hrb hkb hrc' hkc' hr' hk' hrb' hkb' ⊢
 have hrn:=hr.len
 have hkn:=hk.len
 have hrn':=hr'.len
 have hkn':=hk'.len
 simp only[Wm.mk.injEq]
 refine Zb func81 rfl rfl rfl λ u R=>?_
 simp only[Zc,kA,XI]
 by_cases h1:kind=kind'
 ·by_cases h2:rn=rn'
  ·by_cases h3:kn=kn'
   ·subst h1;subst h2;subst h3
    repeat' (first|refine zW ?_|intro _)
    rename_i b1 b2
    refine lpG Nat [2,3,4,32] (λ z=>[(33,.int .i64 z)]) (λ z=>ρ) (λ z=>[[(b2,.cells ⟨[.int .i64 kind,.slice ra' rn rc',.slice ka' kn kc']⟩ 88 (0,0))],[(b1,.cells ⟨[.int .i64 kind,.slice ra rn rc,.slice ka kn kc]⟩ 88 (0,0))]]) (λ z=>z<=rn/\rows.take z=rows'.take z) (λ z=>rn-z) 0 ⟨aZ _,rfl⟩ ?_
    rintro k hI
    try simp only[kB] at hI ⊢
    try dsimp only at hI ⊢
    obtain⟨hk0,hpre⟩:=hI
    by_cases hlt:k<rn
    ·obtain⟨b,off,C,T,fr,rfl,hb,hfit,hc⟩:=hr.get (show k<rows.length by omega)
     obtain⟨b',off',C',T',fr',rfl,hb',hfit',hc'⟩:=hr'.get (show k<rows'.length by omega)
     have ht1:=aG (show k<rows.length by omega)
     have ht2:=aG (show k<rows'.length by omega)
     have hf:rows=rows'->rows[k]'(by omega)=rows'[k]'(by omega):=λ e=>by subst e;rfl
     generalize rows[k]'(by omega)=x at *
     generalize rows'[k]'(by omega)=y at *
     by_cases he:x=y
     ·have hd:decide (x=y)=true:=decide_eq_true he
      repeat' (first|refine zW ?_|intro _)
      refine tpA [0] (.f [1,2,3,4,5,6,7,8,9,10] .o) ([[(b2,.cells ⟨[.int .i64 kind,.slice (some ⟨b',off',none⟩) rn rc',.slice ka' kn kc']⟩ 88 (0,0))],[(b1,.cells ⟨[.int .i64 kind,.slice (some ⟨b,off,none⟩) rn rc,.slice ka kn kc]⟩ 88 (0,0))]]) ?_
      repeat' (refine iT ?_;first|refine rA ?_)
      repeat' (first|refine zW ?_|intro _)
      refine rnG (k+1) (⟨hlt,by rw[ht1,ht2,hpre,he]⟩)
     ·have hd:decide (x=y)=false:=decide_eq_false he
      rw[decide_eq_false (λ e=>he (hf e.2.1))]
      repeat' (first|refine zW ?_|intro _)
      refine tpA [0] (.f [1,2,3,4,5,6,7,8,9,10] .o) ([[(b2,.cells ⟨[.int .i64 kind,.slice (some ⟨b',off',none⟩) rn rc',.slice ka' kn kc']⟩ 88 (0,0))],[(b1,.cells ⟨[.int .i64 kind,.slice (some ⟨b,off,none⟩) rn rc,.slice ka kn kc]⟩ 88 (0,0))]]) ?_
      repeat' (refine iT ?_;first|refine rA ?_)
      repeat' (first|refine zW ?_|intro _)
      exact qE ⟨rfl,rfl,rfl⟩
    ·have hk2:k=rn:=by omega
     subst hk2
     rw[aT (by omega),aT (by omega)] at hpre
     subst hpre
     repeat' (first|refine zW ?_|intro _)
     refine lpG Nat [2,3,4,50] (λ z=>[(51,.int .i64 z)]) (λ z=>ρ) (λ z=>[[(b2,.cells ⟨[.int .i64 kind,.slice ra' k rc',.slice ka' kn kc']⟩ 88 (0,0))],[(b1,.cells ⟨[.int .i64 kind,.slice ra k rc,.slice ka kn kc]⟩ 88 (0,0))]]) (λ z=>z<=kn/\kids.take z=kids'.take z) (λ z=>kn-z) 0 ⟨aZ _,rfl⟩ ?_
     rintro j hI
     try simp only[kB] at hI ⊢
     try dsimp only at hI ⊢
     obtain⟨hj0,hpre⟩:=hI
     by_cases hlj:j<kn
     ·obtain⟨b,off,C,T,fr,rfl,hb,hfit,hc⟩:=hk.get (show j<kids.length by omega)
      obtain⟨b',off',C',T',fr',rfl,hb',hfit',hc'⟩:=hk'.get (show j<kids'.length by omega)
      have ht1:=aG (show j<kids.length by omega)
      have ht2:=aG (show j<kids'.length by omega)
      have hf:kids=kids'->kids[j]'(by omega)=kids'[j]'(by omega):=λ e=>by subst e;rfl
      generalize kids[j]'(by omega)=x at *
      generalize kids'[j]'(by omega)=y at *
      by_cases he:x=y
      ·have hd:decide (x=y)=true:=decide_eq_true he
       repeat' (first|refine zW ?_|intro _)
       refine tpA [0] (.f [1,2,3,4,5,6,7,8,9,10] .o) ([[(b2,.cells ⟨[.int .i64 kind,.slice ra' k rc',.slice (some ⟨b',off',none⟩) kn kc']⟩ 88 (0,0))],[(b1,.cells ⟨[.int .i64 kind,.slice ra k rc,.slice (some ⟨b,off,none⟩) kn kc]⟩ 88 (0,0))]]) ?_
       repeat' (refine iT ?_;first|refine rA ?_)
       repeat' (first|refine zW ?_|intro _)
       refine rnG (j+1) (⟨hlj,by rw[ht1,ht2,hpre,he]⟩)
      ·have hd:decide (x=y)=false:=decide_eq_false he
       rw[decide_eq_false (λ e=>he (hf e.2.2))]
       repeat' (first|refine zW ?_|intro _)
       refine tpA [0] (.f [1,2,3,4,5,6,7,8,9,10] .o) ([[(b2,.cells ⟨[.int .i64 kind,.slice ra' k rc',.slice (some ⟨b',off',none⟩) kn kc']⟩ 88 (0,0))],[(b1,.cells ⟨[.int .i64 kind,.slice ra k rc,.slice (some ⟨b,off,none⟩) kn kc]⟩ 88 (0,0))]]) ?_
       repeat' (refine iT ?_;first|refine rA ?_)
       repeat' (first|refine zW ?_|intro _)
       exact qE ⟨rfl,rfl,rfl⟩
     ·have hj2:j=kn:=by omega
      subst hj2
      rw[aT (by omega),aT (by omega)] at hpre
      subst hpre
      rw[decide_eq_true ⟨trivial,trivial,rfl⟩]
      repeat' (first|refine zW ?_|intro _)
      exact qE ⟨rfl,rfl,rfl⟩
   ·rw[decide_eq_false (λ e=>h3 (by rw[<-hkn,<-hkn',e.2.2]))]
    repeat' (first|refine zW ?_|intro _)
    exact qE ⟨rfl,rfl,rfl⟩
  ·rw[decide_eq_false (λ e=>h2 (by rw[<-hrn,<-hrn',e.2.1]))]
   repeat' (first|refine zW ?_|intro _)
   exact qE ⟨rfl,rfl,rfl⟩
 ·rw[decide_eq_false (λ e=>h1 e.1)]
  repeat' (first|refine zW ?_|intro _)
  exact qE ⟨rfl,rfl,rfl⟩
abbrev bAt (l:List UInt8)(i:Nat):Nat:=(l.getD i 0).toNat
def rowW (l:List UInt8):Row:=⟨(bAt l 0:Nat),bAt l 1*256+bAt l 2,i64N (ZV ((l.drop 3).take 8)),(l.drop 12).take (bAt l 11)⟩
def WM (l:List UInt8):Prop:=12<=l.length/\bAt l 0<3/\bAt l 11<=8/\12+bAt l 11<=l.length
theorem numR_go {k:Nat}{l:List UInt8}(h:k<=l.length):Yd k l 0=(ZV (l.take k),l.drop k,0):=by
 unfold Yd
 rw[if_neg (by simp),if_neg (by omega)]
theorem numR_no {k:Nat}{l:List UInt8}(h:l.length<k):Yd k l 0=(0,l,7):=by
 unfold Yd
 rw[if_neg (by simp),if_pos h]
theorem numR_st (k:Nat)(l:List UInt8):Yd k l 7=(0,l,7):=by
 unfold Yd
 rw[if_pos (by decide)]
theorem unbe_at1 (l:List UInt8)(k:Nat)(h:k<l.length):ZV ((l.drop k).take 1)=bAt l k:=by
 rw[List.drop_eq_getElem_cons h,List.take_succ_cons,List.take_zero,unbe_one]
 simp[bAt,List.getD_eq_getElem?_getD,h]
theorem unbe_at2 (l:List UInt8)(k:Nat)(h:k+1<l.length):ZV ((l.drop k).take 2)=bAt l k*256+bAt l (k+1):=by
 rw[List.drop_eq_getElem_cons (show k<l.length by omega),List.drop_eq_getElem_cons h,List.take_succ_cons,List.take_succ_cons,List.take_zero]
 simp[ZV,bAt,List.getD_eq_getElem?_getD,h,show k<l.length by omega]
theorem takeRow_W (l:List UInt8):((ZY l).2.2=0↔WM l)/\(WM l->ZY l=(rowW l,((12+bAt l 11:Nat):Int),0)):=by
 unfold ZY Wt WM
 by_cases h1:l.length<1
 ·rw[numR_no h1]
  simp[Xu,Wl,show ¬12<=l.length by omega]
 ·have e1:=unbe_at1 l 0 (by omega)
  rw[List.drop_zero] at e1
  rw[numR_go (by omega),e1]
  by_cases ht:bAt l 0<3
  ·have hti:((bAt l 0:Nat):Int)<3:=by omega
   simp only[Xu,decide_eq_true hti]
   by_cases h3:l.length<3
   ·simp only[numR_no (show (l.drop 1).length<2 by simp;omega),numR_st]
    simp[Wl,show ¬12<=l.length by omega]
   ·simp only[numR_go (show 2<=(l.drop 1).length by simp;omega),List.drop_drop]
    by_cases h11:l.length<11
    ·simp only[show 1+2=3 from rfl,show 2+1=3 from rfl,numR_no (show (l.drop 3).length<8 by simp;omega),numR_st]
     simp[Wl,show ¬12<=l.length by omega]
    ·simp only[show 1+2=3 from rfl,show 2+1=3 from rfl,numR_go (show 8<=(l.drop 3).length by simp;omega),List.drop_drop]
     by_cases h12:l.length<12
     ·simp only[show 3+8=11 from rfl,show 8+3=11 from rfl,numR_no (show (l.drop 11).length<1 by simp;omega)]
      simp[Wl,show ¬12<=l.length by omega]
     ·simp only[show 3+8=11 from rfl,show 8+3=11 from rfl,numR_go (show 1<=(l.drop 11).length by simp;omega),List.drop_drop,unbe_at1 l 11 (by omega),unbe_at2 l 1 (by omega)]
      by_cases hn:bAt l 11<=8
      ·have hni:((bAt l 11:Nat):Int)<=8:=by omega
       by_cases hl:12+bAt l 11<=l.length
       ·have hlen:(l.drop 12).length=l.length-12:=by simp
        simp[Wl,Vy,Va,hn,hni,hl,ht,rowW,show 12<=l.length by omega,show ¬l.length-12<bAt l 11 by omega]
        omega
       ·simp[Wl,Va,hn,hni,hl,show l.length-12<bAt l 11 by omega]
      ·have hni:¬((bAt l 11:Nat):Int)<=8:=by omega
       simp[Wl,hn,hni]
  ·have hti:¬((bAt l 0:Nat):Int)<3:=by omega
   simp[Xu,Wl,hti,ht]
theorem bAt_get (l:List UInt8)(i:Nat)(h:i<l.length):(l[i]'h).toNat=bAt l i:=by simp[bAt,List.getD_eq_getElem?_getD,h]
theorem takenD_spec (ρ:Hp)(a:Option Addr)(n c:Nat)(l:List UInt8)(h:SIn ρ Zk a n l)(h3:3<=n):Spec prog 274 [.slice a n c] ρ []
  (λ v ρ' L'=>v=.agg ⟨[.int .i64 (bAt l 0:Nat),.int .u16 (bAt l 1*256+bAt l 2:Nat)]⟩/\ρ'=ρ/\L'=[]):=by
 have hl:=h.len
 obtain⟨b,off,C,T,fr,rfl,hb,hc0⟩:=h.get (show 0<l.length by omega)
 obtain⟨b',off',C',T',fr',e',hb',hc1⟩:=h.get (show 1<l.length by omega)
 cases e'
 cases hb.symm.trans hb'
 obtain⟨b',off',C',T',fr',e',hb'',hc2⟩:=h.get (show 2<l.length by omega)
 cases e'
 cases hb.symm.trans hb''
 have g0:=bAt_get l 0 (by omega)
 have g1:=bAt_get l 1 (by omega)
 have g2:=bAt_get l 2 (by omega)
 rw[<-g0,<-g1,<-g2]
 generalize l[0]'(by omega)=y0 at *
 generalize l[1]'(by omega)=y1 at *
 generalize l[2]'(by omega)=y2 at *
 rw[show (((y1.toNat*256+y2.toNat:Nat)):Int)=(y1.toNat:Int)*256+(y2.toNat:Int) by omega]
 have t0:=y0.toNat_lt
 have t1:=y1.toNat_lt
 have t2:=y2.toNat_lt
 refine Zb func274 rfl rfl rfl λ u R=>?_
 simp only[Zc,kA]
 repeat' (first|refine zV ?_|intro _)
 rename_i b2
 refine tpA [0,1,2,3,4,5,6,7,8,9,10,11,12,13,14] (.e 15 [] .o) ([]) ?_
 repeat' (refine iT ?_;first|refine rAb ?_|(refine rE ?_<;>(refine qEf ?_)<;>(try simp only[kA])<;>refine zN ?_))
 all_goals (repeat' (first|refine zV ?_|intro _))
 all_goals exact qE (L':=[]) ⟨rfl,rfl,rfl⟩
theorem wrap_mod (n:Int):IntKind.i64.wrap n % 18446744073709551616=n % 18446744073709551616:=by
 simp only[IntKind.wrap,IntKind.signed,IntKind.bits,Bool.true_and]
 split<;>omega
theorem wrap_cg {n m:Int}(h:n % 18446744073709551616=m % 18446744073709551616):IntKind.i64.wrap n=IntKind.i64.wrap m:=by
 have h':n % (2 ^ IntKind.i64.bits:Int)=m % (2 ^ IntKind.i64.bits:Int):=h
 unfold IntKind.wrap
 simp only[h']
theorem i64_step (m c:Nat):IntKind.i64.wrap (IntKind.i64.wrap (i64N m*2 ^ 8)+(c:Int))=i64N (m*256+c):=by
 have h1:=wrap_mod (i64N m*2 ^ 8)
 have h2:i64N m % 18446744073709551616=_:=wrap_mod (m:Int)
 refine wrap_cg ?_
 generalize IntKind.i64.wrap (i64N m*2 ^ 8)=x at *
 generalize i64N m=y at *
 omega
theorem takeRowD_spec (ρ:Hp)(a:Option Addr)(n c:Nat)(l:List UInt8)(h:SIn ρ Zk a n l)(hc:n<=c)(hb:n<=1000000):Spec prog 247 [.slice a n c] ρ []
  (λ v ρ' L'=>(∃x k e,v=.tuple ⟨[.agg ⟨Ym x⟩,.int .i64 k,.int .i64 e]⟩/\(e=0↔WM l)/\(WM l->x=rowW l/\k=((12+bAt l 11:Nat):Int)))/\ρ'=ρ/\L'=[]):=by
 have hl:=h.len
 refine Zb func247 rfl rfl rfl λ u R=>?_
 simp only[Zc,kA]
 by_cases h1:n<1
 ·have hno:¬WM l:=λ e=>by have:=e.1;omega
  repeat' (first|refine zV ?_|intro _)
  exact qE (L':=[]) ⟨⟨⟨0,0,0,[]⟩,0,7,rfl,⟨λ e=>absurd e (by decide),λ e=>absurd e hno⟩,λ e=>absurd e hno⟩,rfl,rfl⟩
 obtain⟨b,off,C,T,fr,rfl,hbb,hc0⟩:=h.get (show 0<l.length by omega)
 have g0:=bAt_get l 0 (by omega)
 generalize l[0]'(by omega)=y0 at *
 have t0:=y0.toNat_lt
 by_cases ht:y0.toNat<3
 ·have htd:decide (0<=(y0.toNat:Int)/\(y0.toNat:Int)<3)=true:=decide_eq_true (by omega)
  by_cases h12:n<12
  ·have hno:¬WM l:=λ e=>by have:=e.1;omega
   repeat' (first|(refine Za (.func 253) ?_;refine qC rfl rfl (YN _ _) ?_;rintro v ρ' L' hle ⟨rfl,rfl,rfl⟩<;>(try simp only[kA,htd]))|refine zV ?_|intro _)
   exact qE (L':=[]) ⟨⟨⟨0,0,0,[]⟩,0,7,rfl,⟨λ e=>absurd e (by decide),λ e=>absurd e hno⟩,λ e=>absurd e hno⟩,rfl,rfl⟩
  obtain⟨b',off',C',T',fr',e',hb',hc11⟩:=h.get (show 11<l.length by omega)
  cases e'
  cases hbb.symm.trans hb'
  have g11:=bAt_get l 11 (by omega)
  generalize l[11]'(by omega)=y11 at *
  have t11:=y11.toNat_lt
  by_cases hn:y11.toNat<=8
  ·by_cases hln:12+y11.toNat<=n
   ·have hok:WM l:=⟨by omega,by omega,by omega,by omega⟩
    have hT:=takenD_spec ρ (some ⟨b,off,none⟩) n c l h (by omega)
    repeat' (first|(refine Za (.func 253) ?_;refine qC rfl rfl (YN _ _) ?_;rintro v ρ' L' hle ⟨rfl,rfl,rfl⟩<;>(try simp only[kA,htd]))|(refine Za (.func 274) ?_;refine qC rfl rfl (hT) ?_;rintro v ρ' L' hle ⟨rfl,rfl,rfl⟩<;>(try simp only[kA]))|refine zV ?_|intro _)
    rename_i b2 _ b5
    have hsub:=h.sub (lo':=3) (hi':=11) (by omega) (by omega) (cap:=c) hc
    have hsub2:=h.sub (lo':=12) (hi':=12+y11.toNat) (by omega) hln (cap:=c) hc
    simp only[show Int.toNat 3=3 from rfl,show Int.toNat 11=11 from rfl] at hsub ⊢
    generalize (if c=3 then some (⟨b,off,none⟩:Addr) else Option.map (λ x:Addr=>x.add (3*1)) (some ⟨b,off,none⟩))=pp at *
    obtain⟨D,hD⟩:∃D,(l.drop 3).take 8=D:=⟨_,rfl⟩
    have hDl:D.length=8:=by rw[<-hD];simp;omega
    have hsub:SIn ρ' Zk pp 8 D:=hD ▸ hsub
    refine lpG Nat [0,2,3,4,5,47,48] (λ z=>[(49,.int .i64 z)]) (λ z=>ρ') (λ z=>[[(b5,.cells ⟨[.int .i64 (bAt l 0:Nat),.int .u16 (bAt l 1*256+bAt l 2:Nat),.int .i64 (i64N (ZV (D.take z))),strV []]⟩ 171 (0,0))],[(b2,.cells ⟨[.int .i64 0,.int .u16 0,.int .i64 0,strV []]⟩ 171 (0,0))]]) (λ z=>z<=8) (λ z=>8-z) 0 (aZ _) ?_
    rintro k hI
    try simp only[kB] at hI ⊢
    try dsimp only at hI ⊢
    by_cases hlt:k<8
    ·obtain⟨bd,od,Cd,Td,fd,ed,hbd,hcd⟩:=hsub.get (show k<D.length by omega)
     have ht:=aG (show k<D.length by omega)
     have hst:=i64_step (ZV (D.take k)) (D[k]'(by omega)).toNat
     rw[<-unbe_snoc,<-ht] at hst
     generalize D[k]'(by omega)=z at *
     have hzt:=z.toNat_lt
     rw[ed]
     repeat' (first|refine zV ?_|intro _)
     rw[hst,<-ed]
     refine rnG (k+1) (hlt)
    ·have hk8:D.take k=D:=aT (by omega)
     rw[hk8]
     repeat' (first|refine zV ?_|intro _)
     exact qE (L':=[]) ⟨⟨⟨(bAt l 0:Nat),bAt l 1*256+bAt l 2,i64N (ZV D),(l.drop 12).take (12+y11.toNat-12)⟩,_,0,rfl,⟨λ _=>hok,λ _=>rfl⟩,λ _=>⟨by unfold rowW;rw[hD,<-g11,show 12+y11.toNat-12=y11.toNat by omega],by rw[<-g11]⟩⟩,rfl,rfl⟩
   ·have hno:¬WM l:=λ e=>by have:=e.2.2.2;omega
    repeat' (first|(refine Za (.func 253) ?_;refine qC rfl rfl (YN _ _) ?_;rintro v ρ' L' hle ⟨rfl,rfl,rfl⟩<;>(try simp only[kA,htd]))|refine zV ?_|intro _)
    exact qE (L':=[]) ⟨⟨⟨0,0,0,[]⟩,0,7,rfl,⟨λ e=>absurd e (by decide),λ e=>absurd e hno⟩,λ e=>absurd e hno⟩,rfl,rfl⟩
  ·have hno:¬WM l:=λ e=>by have:=e.2.2.1;omega
   repeat' (first|(refine Za (.func 253) ?_;refine qC rfl rfl (YN _ _) ?_;rintro v ρ' L' hle ⟨rfl,rfl,rfl⟩<;>(try simp only[kA,htd]))|refine zV ?_|intro _)
   exact qE (L':=[]) ⟨⟨⟨0,0,0,[]⟩,0,161,rfl,⟨λ e=>absurd e (by decide),λ e=>absurd e hno⟩,λ e=>absurd e hno⟩,rfl,rfl⟩
 ·have hno:¬WM l:=λ e=>by have:=e.2.1;omega
  have htd:decide (0<=(y0.toNat:Int)/\(y0.toNat:Int)<3)=false:=decide_eq_false (by omega)
  repeat' (first|(refine Za (.func 253) ?_;refine qC rfl rfl (YN _ _) ?_;rintro v ρ' L' hle ⟨rfl,rfl,rfl⟩<;>(try simp only[kA,htd]))|refine zV ?_|intro _)
  exact qE (L':=[]) ⟨⟨⟨0,0,0,[]⟩,0,161,rfl,⟨λ e=>absurd e (by decide),λ e=>absurd e hno⟩,λ e=>absurd e hno⟩,rfl,rfl⟩
theorem preB_of {α:Type}(f:α->List UInt8)(P:α->Prop)(hu:∀a b x y,P a->P b->f a++x=f b++y->a=b):∀(RS cs:List α) (x y:List UInt8),(∀r∈RS,P r)->(∀r∈cs,P r)->RS.length<=cs.length->RS.flatMap f++x=cs.flatMap f++y->RS=cs.take RS.length/\x=(cs.drop RS.length).flatMap f++y
 | [],cs,x,y,_,_,_,e=>⟨rfl,by simpa using e⟩
 | r::RS,[],_,_,_,_,hl,_=>absurd hl (by simp)
 | r::RS,c::cs,x,y,h1,h2,hl,e=>by
  rw[List.flatMap_cons,List.flatMap_cons,aA,aA] at e
  have hrc:=hu r c _ _ (h1 r (by simp)) (h2 c (by simp)) e
  subst hrc
  obtain⟨g1,g2⟩:=preB_of f P hu RS cs x y (λ z hz=>h1 z (by simp[hz])) (λ z hz=>h2 z (by simp[hz])) (by simpa using hl) (List.append_cancel_left e)
  refine⟨?_,by simpa using g2⟩
  rw[aC,List.take_succ_cons,<-g1]
theorem row_one (a b:Row)(x y:List UInt8)(ha:Yx a=true/\Ys a)(hb:Yx b=true/\Ys b)(e:ZE a++x=ZE b++y):a=b:=by
 have h1:=takeRow_back ha.1 ha.2 x
 rw[e,takeRow_back hb.1 hb.2 y] at h1
 exact (congrArg Prod.fst h1).symm
theorem rowW_ok {l:List UInt8}(h:WM l):Yx (rowW l)=true/\Ys (rowW l)/\l=ZE (rowW l)++l.drop (12+bAt l 11)/\(ZE (rowW l)).length=12+bAt l 11:=by
 obtain⟨h1,h2⟩:=takeRow_W l
 obtain⟨n,e1,e2,e3,e4,e5⟩:=takeRow_ok (h1.2 h)
 rw[h2 h] at e1 e3 e4 e5
 dsimp only at e1 e3 e4 e5
 have hn:n=12+bAt l 11:=by omega
 subst hn
 refine⟨e3,e5, ?_, ?_⟩
 ·rw[e4,List.take_append_drop]
 ·rw[e4,List.length_take];omega
theorem rowB_W {r:Row}(h:Yx r=true)(hf:Ys r)(rest:List UInt8):WM (ZE r++rest):=(takeRow_W _).1.1 (by rw[takeRow_back h hf rest])
theorem tB_one {t t':Int}(h:0<=t/\t<256)(h':0<=t'/\t'<256)(e:tB t=tB t'):t=t':=by
 have:=congrArg UInt8.toNat e
 simp only[tB,UInt8.toNat_ofNat'] at this
 omega
theorem kid_one (a b:Kid)(x y:List UInt8)(ha:(0<=a.t/\a.t<256)/\a.id<65536/\0<=a.page/\a.page<256)(hb:(0<=b.t/\b.t<256)/\b.id<65536/\0<=b.page/\b.page<256)(e:Yq a++x=Yq b++y):a=b:=by
 obtain⟨t,i,p⟩:=a
 obtain⟨t',i',p'⟩:=b
 have hl:(Yq ⟨t,i,p⟩).length=(Yq ⟨t',i',p'⟩).length:=by simp[Yq,XQ,Zd]
 obtain⟨e1,_⟩:=List.append_inj e hl
 unfold Yq XQ at e1
 dsimp only at e1 ha hb
 simp only[List.cons_append,List.cons.injEq] at e1
 obtain⟨e2,e3⟩:=e1
 obtain⟨e4,e5⟩:=List.append_inj e3 (by simp[Zd])
 have e6:=congrArg ZV e4
 rw[WT,WT] at e6
 have e7:=tB_one ha.1 hb.1 e2
 have e8:=tB_one ha.2.2 hb.2.2 (List.cons.inj e5).1
 subst e7 e8
 have:i=i':=by omega
 subst this
 rfl
theorem takeCont_fw {l:List UInt8}(h:(Zm l).2.2=0):∃c rest,l=Ya c++rest/\ZG c=true/\ContFit c/\Zm l=(c,(((Ya c).length:Nat):Int),0):=by
 obtain⟨n,e1,e2,e3,e4,e5⟩:=Vk h
 refine⟨(Zm l).1,l.drop n,by rw[e4,List.take_append_drop],e3,e5, ?_⟩
 rw[e4,List.length_take,Nat.min_eq_left e2,<-e1,<-h]
theorem contK {l:List UInt8}(h:(Zm l).2.2=0) :
  (∃rest,l=0::rest/\Zm l=(⟨0,[],[]⟩,1,0))
  \/ (∃rs rest,l=1::UInt8.ofNat rs.length::(rs.flatMap ZE++rest)/\rs.length<=4/\(∀r∈rs,Yx r=true/\Ys r)/\Zm l=(⟨1,rs,[]⟩,((2+(rs.flatMap ZE).length:Nat):Int),0))
  \/ (∃ks rest,l=2::UInt8.ofNat ks.length::(ks.flatMap Yq++rest)/\ks.length<=4/\(∀k∈ks,(0<=k.t/\k.t<256)/\k.id<65536/\0<=k.page/\k.page<256)/\Zm l=(⟨2,[],ks⟩,((2+(ks.flatMap Yq).length:Nat):Int),0)):=by
 obtain⟨c,rest,e1,e2,e3,e4⟩:=takeCont_fw h
 have f:=Wg e2
 rcases contB_form e2 with⟨k,rfl,e⟩|⟨k,hk,e⟩|⟨k,hk,e⟩
 ·refine .inl ⟨rest, ?_, ?_⟩
  ·rw[e1,e];rfl
  ·rw[e4,e];rfl
 ·obtain⟨kind,rows,kids⟩:=c
  dsimp only at k hk e f
  subst k hk
  refine .inr (.inl ⟨rows,rest, ?_,f.rl,λ r hr=>⟨f.row r hr,e3.row r hr⟩, ?_⟩)
  ·rw[e1,e];rfl
  ·rw[e4,e,aC,aC,show (rows.flatMap ZE).length+1+1=2+(rows.flatMap ZE).length by omega]
 ·obtain⟨kind,rows,kids⟩:=c
  dsimp only at k hk e f
  subst k hk
  refine .inr (.inr ⟨kids,rest, ?_,f.kl,λ r hr=>?_, ?_⟩)
  ·rw[e1,e];rfl
  ·have g1:=f.kid r hr
   have g2:=(e3.kid r hr).id
   omega
  ·rw[e4,e,aC,aC,show (kids.flatMap Yq).length+1+1=2+(kids.flatMap Yq).length by omega]
theorem rows_no {l:List UInt8}{y1:UInt8}{RS:List Row}{m:Nat}(g0:l=1::y1::l.drop 2)(hR:∀r∈RS,Yx r=true/\Ys r)(hl:RS.length<y1.toNat)(hd:l.drop 2=RS.flatMap ZE++l.drop m)(hn:¬WM (l.drop m)):(Zm l).2.2≠0:=λ e=>by
 rcases contK e with⟨r,e1,_⟩|⟨rs,r,e1,e2,e3,_⟩|⟨rs,r,e1,e2,_⟩
 ·rw[g0] at e1
  exact absurd (List.cons.inj e1).1 (by decide)
 ·rw[g0] at e1
  obtain⟨h1,h2⟩:=List.cons.inj (List.cons.inj e1).2
  subst h1
  simp only[UInt8.toNat_ofNat'] at hl
  rw[hd] at h2
  obtain⟨_,g⟩:=preB_of ZE (λ r=>Yx r=true/\Ys r) (λ a b x y=>row_one a b x y) RS rs _ _ hR e3 (by omega) h2
  rw[List.drop_eq_getElem_cons (show RS.length<rs.length by omega),List.flatMap_cons,aA] at g
  have:=e3 _ (aM (show RS.length<rs.length by omega))
  exact hn (by rw[g];exact rowB_W this.1 this.2 _)
 ·rw[g0] at e1
  exact absurd (List.cons.inj e1).1 (by decide)
theorem rows_end {l:List UInt8}{y1:UInt8}{RS:List Row}{m:Nat}(g0:l=1::y1::l.drop 2)(hR:∀r∈RS,Yx r=true/\Ys r)(hl:RS.length=y1.toNat)(hd:l.drop 2=RS.flatMap ZE++l.drop m) :
  (ZG ⟨1,RS,[]⟩=true->Zm l=(⟨1,RS,[]⟩,((2+(RS.flatMap ZE).length:Nat):Int),0))/\(ZG ⟨1,RS,[]⟩=false->(Zm l).2.2≠0):=by
 have hy:y1=UInt8.ofNat RS.length:=by rw[hl,UInt8.ofNat_toNat]
 constructor
 ·intro h
  have h1:=takeCont_back h ⟨λ r hr=>(hR r hr).2,by simp⟩ (l.drop m)
  have h2:Ya ⟨1,RS,[]⟩=1::UInt8.ofNat RS.length::RS.flatMap ZE:=by simp[Ya,cntB,tB]
  rw[h2,List.cons_append,List.cons_append,<-hd,<-hy,<-g0] at h1
  rw[h1,aC,aC,show (RS.flatMap ZE).length+1+1=2+(RS.flatMap ZE).length by omega]
 ·intro h e
  have ho:=Vk e
  rcases contK e with⟨r,e1,_⟩|⟨rs,r,e1,e2,e3,e4⟩|⟨rs,r,e1,e2,_⟩
  ·rw[g0] at e1
   exact absurd (List.cons.inj e1).1 (by decide)
  ·rw[g0] at e1
   obtain⟨h1,h2⟩:=List.cons.inj (List.cons.inj e1).2
   have h3:RS.length=rs.length:=by
    rw[h1] at hl
    simp only[UInt8.toNat_ofNat'] at hl
    omega
   rw[hd] at h2
   obtain⟨g,_⟩:=preB_of ZE (λ r=>Yx r=true/\Ys r) (λ a b x y=>row_one a b x y) RS rs _ _ hR e3 (by omega) h2
   rw[h3,List.take_length] at g
   subst g
   obtain⟨_,_,_,o,_⟩:=ho
   rw[e4] at o
   rw[h] at o
   exact absurd o (by decide)
  ·rw[g0] at e1
   exact absurd (List.cons.inj e1).1 (by decide)
theorem bAt_lt (l:List UInt8)(i:Nat):bAt l i<256:=by unfold bAt;exact UInt8.toNat_lt _
def kidW (l:List UInt8):Kid:=⟨(bAt l 0:Nat),bAt l 1*256+bAt l 2,(bAt l 3:Nat)⟩
def KidFt (k:Kid):Prop:=(0<=k.t/\k.t<256)/\k.id<65536/\0<=k.page/\k.page<256
theorem kidW_ok {l:List UInt8}(h:4<=l.length):KidFt (kidW l)/\l=Yq (kidW l)++l.drop 4:=by
 have b0:=bAt_lt l 0
 have b1:=bAt_lt l 1
 have b2:=bAt_lt l 2
 have b3:=bAt_lt l 3
 refine⟨⟨by unfold kidW;dsimp only;omega,by unfold kidW;dsimp only;omega,by unfold kidW;dsimp only;omega⟩, ?_⟩
 match l,h with
 | a::b::c::d::r,_=>
  have hu:a.toNat<256/\b.toNat<256/\c.toNat<256/\d.toNat<256:=⟨a.toNat_lt,b.toNat_lt,c.toNat_lt,d.toNat_lt⟩
  have e2:be 2 (b.toNat*256+c.toNat)=[b,c]:=by
   have:=Vm (k:=2) (l:=[b,c]) (by simp)
   simpa [ZV] using this
  simp[kidW,Yq,XQ,tB,bAt,e2]
theorem kids_no {l:List UInt8}{y1:UInt8}{KS:List Kid}{m:Nat}(g0:l=2::y1::l.drop 2)(hR:∀r∈KS,KidFt r)(hl:KS.length<y1.toNat)(hd:l.drop 2=KS.flatMap Yq++l.drop m)(hn:l.length<m+4):(Zm l).2.2≠0:=λ e=>by
 rcases contK e with⟨r,e1,_⟩|⟨rs,r,e1,e2,e3,_⟩|⟨rs,r,e1,e2,e3,_⟩
 ·rw[g0] at e1
  exact absurd (List.cons.inj e1).1 (by decide)
 ·rw[g0] at e1
  exact absurd (List.cons.inj e1).1 (by decide)
 ·rw[g0] at e1
  obtain⟨h1,h2⟩:=List.cons.inj (List.cons.inj e1).2
  subst h1
  simp only[UInt8.toNat_ofNat'] at hl
  rw[hd] at h2
  obtain⟨_,g⟩:=preB_of Yq KidFt (λ a b x y=>kid_one a b x y) KS rs _ _ hR e3 (by omega) h2
  rw[List.drop_eq_getElem_cons (show KS.length<rs.length by omega),List.flatMap_cons,aA] at g
  have:=congrArg List.length g
  rw[aL,Vr,List.length_drop] at this
  omega
theorem kids_end {l:List UInt8}{y1:UInt8}{KS:List Kid}{m:Nat}(g0:l=2::y1::l.drop 2)(hR:∀r∈KS,KidFt r)(hl:KS.length=y1.toNat)(hd:l.drop 2=KS.flatMap Yq++l.drop m) :
  (ZG ⟨2,[],KS⟩=true->Zm l=(⟨2,[],KS⟩,((2+(KS.flatMap Yq).length:Nat):Int),0))/\(ZG ⟨2,[],KS⟩=false->(Zm l).2.2≠0):=by
 have hy:y1=UInt8.ofNat KS.length:=by rw[hl,UInt8.ofNat_toNat]
 constructor
 ·intro h
  have h1:=takeCont_back h ⟨by simp,λ k hk=>(hR k hk).2.1⟩ (l.drop m)
  have h2:Ya ⟨2,[],KS⟩=2::UInt8.ofNat KS.length::KS.flatMap Yq:=by simp[Ya,cntB,tB]
  rw[h2,List.cons_append,List.cons_append,<-hd,<-hy,<-g0] at h1
  rw[h1,aC,aC,show (KS.flatMap Yq).length+1+1=2+(KS.flatMap Yq).length by omega]
 ·intro h e
  have ho:=Vk e
  rcases contK e with⟨r,e1,_⟩|⟨rs,r,e1,e2,e3,e4⟩|⟨rs,r,e1,e2,e3,e4⟩
  ·rw[g0] at e1
   exact absurd (List.cons.inj e1).1 (by decide)
  ·rw[g0] at e1
   exact absurd (List.cons.inj e1).1 (by decide)
  ·rw[g0] at e1
   obtain⟨h1,h2⟩:=List.cons.inj (List.cons.inj e1).2
   have h3:KS.length=rs.length:=by
    rw[h1] at hl
    simp only[UInt8.toNat_ofNat'] at hl
    omega
   rw[hd] at h2
   obtain⟨g,_⟩:=preB_of Yq KidFt (λ a b x y=>kid_one a b x y) KS rs _ _ hR e3 (by omega) h2
   rw[h3,List.take_length] at g
   subst g
   obtain⟨_,_,_,o,_⟩:=ho
   rw[e4] at o
   rw[h] at o
   exact absurd o (by decide)
theorem takeContD_spec (ρ:Hp)(a:Option Addr)(n c:Nat)(l:List UInt8)(h:SIn ρ Zk a n l)(hc:n<=c)(hb:n<=1000000):Spec prog 273 [.slice a n c] ρ []
  (λ v ρ' L'=>ρ.le ρ'/\(∃x w k e,v=.tuple ⟨[.agg ⟨XI x.kind w⟩,.int .i64 k,.int .i64 e]⟩/\(e=0↔(Zm l).2.2=0)/\(e=0->CIn ρ' w x.rows x.kids/\x=(Zm l).1/\k=(Zm l).2.1))/\L'=[]):=by
 have hl:=h.len
 refine Zb func273 rfl rfl rfl λ u R=>?_
 simp only[Zc,kA]
 by_cases h1:n<1
 ·have hno:(Zm l).2.2≠0:=λ e=>by
   obtain⟨n',_,e2,_,e4,_⟩:=Vk e
   have:=congrArg List.length e4
   simp[Ya] at this
   omega
  repeat' (first|refine zV ?_|intro _)
  exact qE (L':=[]) ⟨Hp.le_refl _,⟨⟨0,[],[]⟩,⟨none,0,0,none,0,0⟩,0,7,rfl,⟨λ e=>absurd e (by decide),λ e=>absurd e hno⟩,λ e=>absurd e (by decide)⟩,rfl⟩
 obtain⟨b,off,C,T,fr,rfl,hbb,hc0⟩:=h.get (show 0<l.length by omega)
 have g0:l=l[0]'(by omega)::l.drop 1:=by rw[<-List.drop_eq_getElem_cons (show 0<l.length by omega),List.drop_zero]
 generalize l[0]'(by omega)=y0 at *
 have t0:=y0.toNat_lt
 by_cases hk2:y0.toNat<=2
 ·by_cases hk0:y0.toNat=0
  ·have hy:y0=0:=UInt8.toNat_inj.1 hk0
   have hT:Zm l=(⟨0,[],[]⟩,1,0):=by
    have:=takeCont_back (c:=⟨0,[],[]⟩) (by decide) ⟨by simp,by simp⟩ (l.drop 1)
    rw[g0,hy];exact this
   have hR:=Vb ρ ⟨none,0,0,none,0,0⟩ ⟨0,[],[]⟩ CIn.nil (by simp) (by simp)
   rw[show ZG ⟨0,[],[]⟩=true by decide] at hR
   subst hy
   repeat' (first|(refine Za (.func 147) ?_;refine qC rfl rfl (hR) ?_;rintro v ρ' L' hle ⟨rfl,rfl,rfl⟩<;>(try simp only[kA]))|refine zV ?_|intro _)
   exact qE (L':=[]) ⟨Hp.le_refl _,⟨⟨0,[],[]⟩,⟨none,0,0,none,0,0⟩,1,0,rfl,⟨λ e=>by rw[hT],λ _=>rfl⟩,λ _=>⟨CIn.nil,by rw[hT],by rw[hT]⟩⟩,rfl⟩
  ·by_cases h2:n<2
   ·have hno:(Zm l).2.2≠0:=λ e=>by
     rcases contK e with⟨r,e1,_⟩|⟨_,r,e1,_⟩|⟨_,r,e1,_⟩
     ·rw[g0] at e1
      have:=(List.cons.inj e1).1
      subst this
      exact hk0 (by decide)
     all_goals
      have:=congrArg List.length e1
      simp only[aC] at this
      omega
    repeat' (first|refine zV ?_|intro _)
    exact qE (L':=[]) ⟨Hp.le_refl _,⟨⟨0,[],[]⟩,⟨none,0,0,none,0,0⟩,0,7,rfl,⟨λ e=>absurd e (by decide),λ e=>absurd e hno⟩,λ e=>absurd e (by decide)⟩,rfl⟩
   obtain⟨b',off',C',T',fr',e',hb',hc1⟩:=h.get (show 1<l.length by omega)
   cases e'
   cases hbb.symm.trans hb'
   have g1:l.drop 1=l[1]'(by omega)::l.drop 2:=List.drop_eq_getElem_cons (show 1<l.length by omega)
   rw[g1] at g0
   generalize l[1]'(by omega)=y1 at *
   have t1:=y1.toNat_lt
   have hy0:y0.toNat=1\/y0.toNat=2:=by omega
   by_cases h4:y1.toNat<=4
   ·rcases hy0 with hy|hy
    ·have hy1:y0=1:=UInt8.toNat_inj.1 hy
     repeat' (first|refine zV ?_|intro _)
     rename_i b2 b5
     refine lpG (Nat×Value×(List Value)×(List Row)×Nat) [0,2,5,53] (λ z=>[(54,.int .u8 z.1),(6,.int .i64 z.2.2.2.2),(3,.int .i64 0),(4,.int .i64 0)]) (λ z=>ρ) (λ z=>[[(b5,.cells ⟨[.int .i64 (y0.toNat:Int),z.2.1,.slice none 0 0]⟩ 88 (0,0))],Zq z.2.1 ((z.2.2.2.1.map Ym).flatten) z.2.2.1 171,[(b2,.cells ⟨[.int .i64 0,.slice none 0 0,.slice none 0 0]⟩ 88 (0,0))]]) (λ z=>z.1<=y1.toNat/\z.2.2.2.1.length=z.1/\(∀r∈z.2.2.2.1,Yx r=true/\Ys r)/\z.2.2.2.2=2+(z.2.2.2.1.flatMap ZE).length/\z.2.2.2.2<=n/\l.drop 2=z.2.2.2.1.flatMap ZE++l.drop z.2.2.2.2/\OwnS z.2.1 z.1 ((z.2.2.2.1.map Ym).flatten) z.2.2.1 4) (λ z=>y1.toNat-z.1) (0,.slice none 0 0,[],[],2) ⟨aZ _,rfl,by simp,rfl,by show 2<=n;omega,by simp,OwnS.nil 4⟩ ?_
     rintro⟨k,vv,sp,RS,m⟩ hI
     try simp only[kB] at hI ⊢
     try dsimp only at hI ⊢
     obtain⟨hk,hRl,hRo,hm,hmn,hd,hown⟩:=hI
     obtain⟨va,vc,rfl,_⟩:=hown.slice
     have hfitC:∀r∈RS,r.id<65536:=λ r hr=>(hRo r hr).2.id
     by_cases hlt:k<y1.toNat
     ·have hsub:=h.sub (lo':=(m:Int).toNat) (hi':=n) (by omega) (aR _) (cap:=c) hc
      have hsl:((l.drop (m:Int).toNat).take (n-(m:Int).toNat))=l.drop m:=by rw[Int.toNat_natCast,aT (by rw[List.length_drop];omega)]
      rw[hsl] at hsub
      have htr:=takeRowD_spec ρ _ (n-(m:Int).toNat) (c-(m:Int).toNat) (l.drop m) hsub (by omega) (by omega)
      have hno:=rows_no (l:=l) (y1:=y1) (RS:=RS) (m:=m) (by rw[<-hy1];exact g0) hRo (by omega) hd
      by_cases hW:WM (l.drop m)
      ·obtain⟨hok,hfit,heq,hlen⟩:=rowW_ok hW
       have htr2:Spec prog 247 [.slice (if c=(m:Int).toNat then some ⟨b,off,none⟩ else (some ⟨b,off,none⟩:Option Addr).map (·.add ((m:Int).toNat*1))) (n-(m:Int).toNat) (c-(m:Int).toNat)] ρ [] (λ v ρ' L'=>v=.tuple ⟨[.agg ⟨Ym (rowW (l.drop m))⟩,.int .i64 ((12+bAt (l.drop m) 11:Nat):Int),.int .i64 0]⟩/\ρ'=ρ/\L'=[]):=by
        refine htr.mono ?_
        rintro v ρ' L' _ ⟨⟨x,kk,e,q1,q2,q3⟩,q4,q5⟩
        obtain⟨rfl,rfl⟩:=q3 hW
        exact⟨by rw[q1,q2.2 hW],q4,q5⟩
       have hml:m+(12+bAt (l.drop m) 11)<=n:=by have:=hW.2.2.2;rw[List.length_drop] at this;omega
       rw[<-hlen] at htr2 hml
       have hdd:l.drop (m+(ZE (rowW (l.drop m))).length)=(l.drop m).drop (12+bAt (l.drop m) 11):=by rw[List.drop_drop,hlen]
       generalize rowW (l.drop m)=row at *
       rw[<-hdd] at heq
       repeat' (first|(refine Za (.func 247) ?_;refine qC rfl rfl (htr2) ?_;rintro v ρ' L' hle ⟨rfl,rfl,rfl⟩<;>(try simp only[kA]))|(refine Zp (css:=[Ym row]) (sz:=4) rfl rfl rfl rfl (by simp) (by simp) rfl (λ bs=>?_);simp only[aF,List.flatten_nil,aN])|(refine ZH (ys:=Ym row) (m:=1) rfl rfl hown (hR:=by repeat (first|exact Zl|apply Zn)) SrcV.lit rfl rfl (by decide) rfl (by omega) (by omega) rfl (λ v3 sp3 hown3=>?_);obtain⟨va3,vc3,rfl,_⟩:=hown3.slice)|refine zV ?_|intro _)
       have hm1:(RS.map Ym).flatten++Ym row=((RS++[row]).map Ym).flatten:=by simp
       rw[hm1] at hown3 ⊢
       refine rnG (k+1,.slice va3 (k+1) vc3,sp3,RS++[row],m+(ZE row).length) (⟨hlt,by rw[aL,hRl];rfl,λ r hr=>(List.mem_append.1 hr).elim (hRo r) (λ hr=>by rw[List.mem_singleton.1 hr];exact⟨hok,hfit⟩),by dsimp only;rw[List.flatMap_append,aL,List.flatMap_singleton];omega,hml,by rw[hd,List.flatMap_append,List.flatMap_singleton,aA,<-heq],hown3⟩)
      ·repeat' (first|(refine Za (.func 247) ?_;refine qC rfl rfl (htr) ?_;rintro v ρ' L' hle ⟨⟨x,kk,e,rfl,he,_⟩,rfl,rfl⟩<;>(try simp only[kA]))|refine zV ?_|intro _)
       have hne:e≠0:=λ q=>hW (he.1 q)
       have hcb:(e != 0)=true:=by simpa using hne
       rw[hcb]
       repeat' (first|refine zV ?_|intro _)
       exact qE (L':=[]) ⟨Hp.le_refl _,⟨⟨0,[],[]⟩,⟨none,0,0,none,0,0⟩,0,e,rfl,⟨λ q=>absurd q hne,λ q=>absurd q (hno hW)⟩,λ q=>absurd q hne⟩,rfl⟩
     ·have hend:=rows_end (l:=l) (y1:=y1) (RS:=RS) (m:=m) (by rw[<-hy1];exact g0) hRo (by omega) hd
      refine XL (Zq (.slice va k vc) ((RS.map Ym).flatten) sp 171) (λ ρ3 hle3 hfz=>?_)
      obtain⟨sa,sc,f1,hsc,hA⟩:=hown.aIn hRl (λ x _=>rowV_len x) hfz
      cases f1
      clear hfz
      have hCI:CIn ρ3 ⟨va,k,vc,none,0,0⟩ RS []:=⟨hA,AIn.nil,by dsimp only;omega,aZ _,hsc,aR _⟩
      have hR:Spec prog 147 [.agg ⟨[.int .i64 (y0.toNat:Int),.slice va k vc,.slice none 0 0]⟩] ρ3 [] (λ r ρ' L'=>r=.bool (ZG ⟨1,RS,[]⟩)/\ρ'=ρ3/\L'=[]):=by
       rw[hy]
       exact Vb ρ3 ⟨va,k,vc,none,0,0⟩ ⟨1,RS,[]⟩ hCI hfitC (by simp)
      cases hok:ZG ⟨1,RS,[]⟩
      ·rw[hok] at hR
       have hno:=hend.2 hok
       repeat' (first|(refine Za (.func 147) ?_;refine qC rfl rfl (hR) ?_;rintro v ρ' L' hle ⟨rfl,rfl,rfl⟩<;>(try simp only[kA]))|refine zV ?_|intro _)
       exact qE (L':=[]) (hle:=hle3) ⟨hle3,⟨⟨0,[],[]⟩,⟨none,0,0,none,0,0⟩,0,161,rfl,⟨λ e=>absurd e (by decide),λ e=>absurd e hno⟩,λ e=>absurd e (by decide)⟩,rfl⟩
      ·rw[hok] at hR
       have hT:=hend.1 hok
       repeat' (first|(refine Za (.func 147) ?_;refine qC rfl rfl (hR) ?_;rintro v ρ' L' hle ⟨rfl,rfl,rfl⟩<;>(try simp only[kA]))|refine zV ?_|intro _)
       rw[hy]
       exact qE (L':=[]) (hle:=hle3) ⟨hle3,⟨⟨1,RS,[]⟩,⟨va,k,vc,none,0,0⟩,m,0,rfl,⟨λ e=>by rw[hT],λ _=>rfl⟩,λ _=>⟨hCI,by rw[hT],by rw[hT,hm]⟩⟩,rfl⟩
    ·have hy1:y0=2:=UInt8.toNat_inj.1 hy
     repeat' (first|refine zV ?_|intro _)
     rename_i b2 b5
     refine lpG (Nat×Value×(List Value)×(List Kid)×Nat) [0,2,5,53] (λ z=>[(54,.int .u8 z.1),(6,.int .i64 z.2.2.2.2),(3,.int .i64 0),(4,.int .i64 0)]) (λ z=>ρ) (λ z=>[[(b5,.cells ⟨[.int .i64 (y0.toNat:Int),.slice none 0 0,z.2.1]⟩ 88 (0,0))],Zq z.2.1 ((z.2.2.2.1.map Xj).flatten) z.2.2.1 227,[(b2,.cells ⟨[.int .i64 0,.slice none 0 0,.slice none 0 0]⟩ 88 (0,0))]]) (λ z=>z.1<=y1.toNat/\z.2.2.2.1.length=z.1/\(∀r∈z.2.2.2.1,KidFt r)/\z.2.2.2.2=2+(z.2.2.2.1.flatMap Yq).length/\z.2.2.2.2<=n/\l.drop 2=z.2.2.2.1.flatMap Yq++l.drop z.2.2.2.2/\OwnS z.2.1 z.1 ((z.2.2.2.1.map Xj).flatten) z.2.2.1 3) (λ z=>y1.toNat-z.1) (0,.slice none 0 0,[],[],2) ⟨aZ _,rfl,by simp,rfl,by show 2<=n;omega,by simp,OwnS.nil 3⟩ ?_
     rintro⟨k,vv,sp,KS,m⟩ hI
     try simp only[kB] at hI ⊢
     try dsimp only at hI ⊢
     obtain⟨hk,hKl,hKo,hm,hmn,hd,hown⟩:=hI
     obtain⟨va,vc,rfl,_⟩:=hown.slice
     have hfitC:∀r∈KS,r.id<65536:=λ r hr=>(hKo r hr).2.1
     by_cases hlt:k<y1.toNat
     ·by_cases hs:n<m+4
      ·have hno:=kids_no (l:=l) (y1:=y1) (KS:=KS) (m:=m) (by rw[<-hy1];exact g0) hKo (by omega) hd (by omega)
       repeat' (first|refine zV ?_|intro _)
       exact qE (L':=[]) ⟨Hp.le_refl _,⟨⟨0,[],[]⟩,⟨none,0,0,none,0,0⟩,0,7,rfl,⟨λ q=>absurd q (by decide),λ q=>absurd q hno⟩,λ q=>absurd q (by decide)⟩,rfl⟩
      ·have hsub:=h.sub (lo':=(m:Int).toNat) (hi':=n) (by omega) (aR _) (cap:=c) hc
       have hsl:((l.drop (m:Int).toNat).take (n-(m:Int).toNat))=l.drop m:=by rw[Int.toNat_natCast,aT (by rw[List.length_drop];omega)]
       rw[hsl] at hsub
       have htk:=takenD_spec ρ _ (n-(m:Int).toNat) (c-(m:Int).toNat) (l.drop m) hsub (by omega)
       obtain⟨hKf,hKe⟩:=kidW_ok (l:=l.drop m) (by rw[List.length_drop];omega)
       rw[List.drop_drop] at hKe
       obtain⟨b4,off4,C4,T4,fr4,e4,hb4,hc4⟩:=h.get (show ((m:Int)+3).toNat<l.length by omega)
       cases e4
       cases hbb.symm.trans hb4
       have hb3:Zk (l[((m:Int)+3).toNat]'(by omega))=.int .u8 (bAt (l.drop m) 3:Nat):=by
        have:(l[((m:Int)+3).toNat]'(by omega)).toNat=bAt (l.drop m) 3:=by
         rw[<-bAt_get (l.drop m) 3 (by rw[List.length_drop];omega),List.getElem_drop]
         congr 2
        rw[Zk,this]
       rw[hb3] at hc4
       have hb3l:=bAt_lt (l.drop m) 3
       have hkv:Xj (kidW (l.drop m))=[.int .i64 (bAt (l.drop m) 0:Nat),.int .u16 (bAt (l.drop m) 1*256+bAt (l.drop m) 2:Nat),.int .i64 (bAt (l.drop m) 3:Nat)]:=rfl
       have hkl:=Vr (kidW (l.drop m))
       generalize kidW (l.drop m)=kid at *
       generalize bAt (l.drop m) 0=q0 at *
       generalize bAt (l.drop m) 1*256+bAt (l.drop m) 2=q1 at *
       generalize bAt (l.drop m) 3=q3 at *
       repeat' (first|refine zV ?_|intro _)
       refine tc_phase 15 (Zt _ _ ([[(b5,.cells ⟨[.int .i64 (y0.toNat:Int),.slice none 0 0,.slice va k vc]⟩ 88 (0,0))]])) (by decide +kernel) (Xq (hT:=tk) (Hp.le_refl _)) ?_
       simp only[List.take_succ_cons,List.take_zero]
       all_goals (refine rFa 0 ?_;refine rLd 1 ?_;refine rMv 2 ?_;refine rMv 3 ?_;refine rSl 4 ?_;refine rMv 6 ?_;refine rMv 7 ?_;refine rAd 8 ?_;refine rIa 9 ?_;refine rLd 10 ?_;refine rCv 11 ?_)
       all_goals (refine WL (i:=5) ?_;((try refine ZM ?_);(first|(refine Za (.func 274) ?_;refine qC rfl rfl (htk) ?_;rintro v ρ' L' hle ⟨rfl,rfl,rfl⟩<;>(try simp only[kA]))|(refine qEf ?_;try intro _))<;>((try simp only[kA]);refine Yz ?_;refine Wn ?_)))
       all_goals refine rBu 12 ?_ (y:=λ _ _=>VC rfl)
       all_goals (refine WL (i:=13) ?_;((try refine ZM ?_);(first|(refine Zp (css:=[[.int .i64 (q0:Nat),.int .u16 (q1:Nat),.int .i64 (q3:Nat)]]) (sz:=3) rfl rfl rfl rfl (by simp) (by simp) rfl (λ bs=>?_);simp only[aF,List.flatten_nil,aN])|(refine qEf ?_;try intro _))<;>((try simp only[kA]);refine Yz ?_;refine Wn ?_)))
       all_goals (refine WL (i:=14) ?_;((try refine ZM ?_);(first|(refine Zp (css:=[[.int .i64 (q0:Nat),.int .u16 (q1:Nat),.int .i64 (q3:Nat)]]) (sz:=3) rfl rfl rfl rfl (by simp) (by simp) rfl (λ bs=>?_);simp only[aF,List.flatten_nil,aN])|(refine ZH (ys:=[.int .i64 (q0:Nat),.int .u16 (q1:Nat),.int .i64 (q3:Nat)]) (m:=1) rfl rfl hown (hR:=by repeat (first|exact Zl|apply Zn)) SrcV.lit rfl rfl (by decide) rfl (by omega) (by omega) rfl (λ v3 sp3 hown3=>?_);obtain⟨va3,vc3,rfl,_⟩:=hown3.slice)|(refine qEf ?_;try intro _))<;>((try simp only[kA]);refine Yz ?_;refine Wn ?_)))
       all_goals refine rDone ?_
       all_goals refine te_phase (fuel:=2) (m:=[true,true,true,true,true,true,true,true,true,true,true,true,true,true,true,false,false]) (Zt _ _ ([])) rfl rfl (Xq (hT:=tk) (Hp.le_refl _)) ?_
       all_goals refine rFa 15 ?_
       all_goals (refine WL (i:=16) ?_;((try refine ZM ?_);(first|(refine qEf ?_;try intro _))<;>((try simp only[kA]);refine Yz ?_;refine Wn ?_)))
       all_goals refine rDone ?_
       all_goals (repeat' (first|refine zV ?_|intro _))
       all_goals
        have hm1:(KS.map Xj).flatten++Xj kid=((KS++[kid]).map Xj).flatten:=by simp
        rw[<-hkv,hm1] at hown3 ⊢
       all_goals refine rnG (k+1,.slice va3 (k+1) vc3,sp3,KS++[kid],m+4) (⟨hlt,by rw[aL,hKl];rfl,λ r hr=>(List.mem_append.1 hr).elim (hKo r) (λ hr=>by rw[List.mem_singleton.1 hr];exact hKf),by dsimp only;rw[List.flatMap_append,aL,List.flatMap_singleton];omega,by dsimp only;omega,by dsimp only;rw[hd,List.flatMap_append,List.flatMap_singleton,aA,<-hKe],hown3⟩)
     ·have hend:=kids_end (l:=l) (y1:=y1) (KS:=KS) (m:=m) (by rw[<-hy1];exact g0) hKo (by omega) hd
      refine XL (Zq (.slice va k vc) ((KS.map Xj).flatten) sp 227) (λ ρ3 hle3 hfz=>?_)
      obtain⟨sa,sc,f1,hsc,hA⟩:=hown.aIn hKl (λ x _=>kidV_len x) hfz
      cases f1
      clear hfz
      have hCI:CIn ρ3 ⟨none,0,0,va,k,vc⟩ [] KS:=⟨AIn.nil,hA,aZ _,by dsimp only;omega,aR _,hsc⟩
      have hR:Spec prog 147 [.agg ⟨[.int .i64 (y0.toNat:Int),.slice none 0 0,.slice va k vc]⟩] ρ3 [] (λ r ρ' L'=>r=.bool (ZG ⟨2,[],KS⟩)/\ρ'=ρ3/\L'=[]):=by
       rw[hy]
       exact Vb ρ3 ⟨none,0,0,va,k,vc⟩ ⟨2,[],KS⟩ hCI (by simp) hfitC
      cases hok:ZG ⟨2,[],KS⟩
      ·rw[hok] at hR
       have hno:=hend.2 hok
       repeat' (first|(refine Za (.func 147) ?_;refine qC rfl rfl (hR) ?_;rintro v ρ' L' hle ⟨rfl,rfl,rfl⟩<;>(try simp only[kA]))|refine zV ?_|intro _)
       exact qE (L':=[]) (hle:=hle3) ⟨hle3,⟨⟨0,[],[]⟩,⟨none,0,0,none,0,0⟩,0,161,rfl,⟨λ e=>absurd e (by decide),λ e=>absurd e hno⟩,λ e=>absurd e (by decide)⟩,rfl⟩
      ·rw[hok] at hR
       have hT:=hend.1 hok
       repeat' (first|(refine Za (.func 147) ?_;refine qC rfl rfl (hR) ?_;rintro v ρ' L' hle ⟨rfl,rfl,rfl⟩<;>(try simp only[kA]))|refine zV ?_|intro _)
       rw[hy]
       exact qE (L':=[]) (hle:=hle3) ⟨hle3,⟨⟨2,[],KS⟩,⟨none,0,0,va,k,vc⟩,m,0,rfl,⟨λ e=>by rw[hT],λ _=>rfl⟩,λ _=>⟨hCI,by rw[hT],by rw[hT,hm]⟩⟩,rfl⟩
   ·have hno:(Zm l).2.2≠0:=λ e=>by
     rcases contK e with⟨r,e1,_⟩|⟨rs,r,e1,e2,_⟩|⟨rs,r,e1,e2,_⟩
     ·rw[g0] at e1
      have:=(List.cons.inj e1).1
      subst this
      exact hk0 (by decide)
     all_goals
      rw[g0] at e1
      have:=(List.cons.inj (List.cons.inj e1).2).1
      subst this
      simp only[UInt8.toNat_ofNat'] at h4
      omega
    rcases hy0 with hy|hy
    all_goals (repeat' (first|refine zV ?_|intro _))
    all_goals exact qE (L':=[]) ⟨Hp.le_refl _,⟨⟨0,[],[]⟩,⟨none,0,0,none,0,0⟩,0,161,rfl,⟨λ e=>absurd e (by decide),λ e=>absurd e hno⟩,λ e=>absurd e (by decide)⟩,rfl⟩
 ·have hno:(Zm l).2.2≠0:=λ e=>by
   rcases contK e with⟨r,e1,_⟩|⟨_,r,e1,_⟩|⟨_,r,e1,_⟩
   all_goals
    rw[g0] at e1
    have:=(List.cons.inj e1).1
    subst this
    exact hk2 (by decide)
  repeat' (first|refine zV ?_|intro _)
  exact qE (L':=[]) ⟨Hp.le_refl _,⟨⟨0,[],[]⟩,⟨none,0,0,none,0,0⟩,0,161,rfl,⟨λ e=>absurd e (by decide),λ e=>absurd e hno⟩,λ e=>absurd e (by decide)⟩,rfl⟩
abbrev rdB (rb:Nat)(s:SV)(bad:Bool):List (Nat×Obj):=[(rb,.cells ⟨[.slice s.a s.n s.c,.bool bad]⟩ 280 (0,0))]
structure RdI (ρ:Hp)(s:SV)(l:List UInt8):Prop where
 at':SIn ρ Zk s.a s.n l
 cap:s.n<=s.c
 big:s.n<=1000000
theorem RdI.mono {ρ ρ':Hp}{s:SV}{l:List UInt8}(h:RdI ρ s l)(hle:ρ.le ρ'):RdI ρ' s l:=⟨h.at'.mono hle,h.cap,h.big⟩
theorem RdI.rest {ρ:Hp}{s:SV}{l:List UInt8}(h:RdI ρ s l){k:Nat}(hk:k<=s.n):RdI ρ ⟨if s.c=k then s.a else s.a.map (·.add (k*1)),s.n-k,s.c-k⟩ (l.drop k):=by
 have hl:=h.at'.len
 have hb:=h.big
 have hc:=h.cap
 have hs:=h.at'.sub (lo':=k) (hi':=s.n) hk (aR _) (cap:=s.c) hc
 rw[aT (by rw[List.length_drop];omega)] at hs
 exact⟨hs,by dsimp only;omega,by dsimp only;omega⟩
theorem u64_step (m c:Nat)(h:m*256+c<18446744073709551616):IntKind.u64.wrap (IntKind.u64.wrap ((m:Int)*2 ^ 8)+(c:Int))=((m*256+c:Nat):Int):=by
 have e:∀a:Int,IntKind.u64.wrap a=a % 18446744073709551616:=λ _=>rfl
 rw[e,e];omega
theorem Zo (ρ:Hp)(rb:Nat)(s:SV)(k:Int):Spec prog 202 [.pointer (some ⟨rb,0,none⟩),.int .i64 k] ρ [rdB rb s true] (λ z ρ' L'=>z=.int .u64 0/\ρ'=ρ/\L'=[rdB rb s true]):=by
 refine Zb func202 rfl rfl rfl λ u R=>?_
 simp only[Zc,kA]
 repeat' (first|refine zV ?_|intro _)
 exact qE (L':=[rdB rb s true]) ⟨rfl,rfl,rfl⟩
theorem num_no (ρ:Hp)(rb:Nat)(s:SV)(k:Nat)(hk:s.n<k):Spec prog 202 [.pointer (some ⟨rb,0,none⟩),.int .i64 k] ρ [rdB rb s false] (λ z ρ' L'=>z=.int .u64 0/\ρ'=ρ/\L'=[rdB rb s true]):=by
 refine Zb func202 rfl rfl rfl λ u R=>?_
 simp only[Zc,kA]
 repeat' (first|refine zV ?_|intro _)
 exact qE (L':=[rdB rb s true]) ⟨rfl,rfl,rfl⟩
theorem num_go (ρ:Hp)(rb:Nat)(s:SV)(l:List UInt8)(h:RdI ρ s l)(k:Nat)(hk:k<=s.n)(h8:k<=8):Spec prog 202 [.pointer (some ⟨rb,0,none⟩),.int .i64 k] ρ [rdB rb s false]
  (λ z ρ' L'=>z=.int .u64 (ZV (l.take k):Nat)/\ρ'=ρ/\∃s2,RdI ρ' s2 (l.drop k)/\L'=[rdB rb s2 false]):=by
 have hl:=h.at'.len
 have hrest:=h.rest hk
 have hcap:=h.cap
 have hbig:=h.big
 have htk:=h.at'.take (hi':=k) hk
 refine Zb func202 rfl rfl rfl λ u R=>?_
 simp only[Zc,kA]
 obtain⟨D,hD⟩:∃D,l.take k=D:=⟨_,rfl⟩
 have hDl:D.length=k:=by rw[<-hD,List.length_take];omega
 rw[hD] at htk ⊢
 repeat' (first|refine zV ?_|intro _)
 refine lpG Nat [0,1,4,29,30] (λ z=>[(31,.int .i64 z),(5,.int .u64 (ZV (D.take z):Nat))]) (λ z=>ρ) (λ z=>[rdB rb s false]) (λ z=>z<=k) (λ z=>k-z) 0 (aZ _) ?_
 rintro j hI
 try simp only[kB] at hI ⊢
 try dsimp only at hI ⊢
 by_cases hlt:j<k
 ·obtain⟨bd,od,Cd,Td,fd,ed,hbd,hcd⟩:=htk.get (show j<D.length by omega)
  have ht:=aG (show j<D.length by omega)
  have hb1:=Xy (D.take (j+1))
  have hpl:(D.take (j+1)).length<=8:=by rw[List.length_take];omega
  have hb2:ZV (D.take (j+1))<18446744073709551616:=Nat.lt_of_lt_of_le hb1 (Nat.pow_le_pow_right (by omega) hpl)
  have hst:=u64_step (ZV (D.take j)) (D[j]'(by omega)).toNat (by rw[<-unbe_snoc,<-ht];exact hb2)
  rw[<-unbe_snoc,<-ht] at hst
  generalize D[j]'(by omega)=z at *
  have hzt:=z.toNat_lt
  rw[ed]
  repeat' (first|refine zV ?_|intro _)
  rw[hst,<-ed]
  refine rnG (j+1) (hlt)
 ·have hk8:D.take j=D:=aT (by omega)
  rw[hk8]
  repeat' (first|refine zV ?_|intro _)
  simp only[Int.toNat_natCast]
  exact qE (L':=[rdB rb ⟨if s.c=k then s.a else s.a.map (·.add (k*1)),s.n-k,s.c-k⟩ false]) ⟨rfl,rfl,_,hrest,rfl⟩
theorem content_bad (ρ:Hp)(rb:Nat)(s:SV):Spec prog 246 [.pointer (some ⟨rb,0,none⟩)] ρ [rdB rb s true] (λ z ρ' L'=>z=.agg ⟨XI 0 Xo⟩/\ρ'=ρ/\L'=[rdB rb s true]):=by
 refine Zb func246 rfl rfl rfl λ u R=>?_
 simp only[Zc,kA]
 repeat' (first|refine zV ?_|intro _)
 exact qE (L':=[rdB rb s true]) ⟨rfl,rfl,rfl⟩
theorem content_no (ρ:Hp)(rb:Nat)(s:SV)(l:List UInt8)(h:RdI ρ s l)(hT:(Zm l).2.2≠0):Spec prog 246 [.pointer (some ⟨rb,0,none⟩)] ρ [rdB rb s false] (λ z ρ' L'=>ρ.le ρ'/\z=.agg ⟨XI 0 Xo⟩/\L'=[rdB rb s true]):=by
 have ht:=takeContD_spec ρ s.a s.n s.c l h.at' h.cap h.big
 have ht2:Spec prog 273 [.slice s.a s.n s.c] ρ [] (λ v ρ' L'=>ρ.le ρ'/\∃x w k e,v=.tuple ⟨[.agg ⟨XI x w⟩,.int .i64 k,.int .i64 e]⟩/\(e != 0)=true/\L'=[]):=by
  refine ht.mono ?_
  rintro z ρ' L' _ ⟨q1,⟨x,w,k,e,q2,q3,_⟩,q4⟩
  exact⟨q1,x.kind,w,k,e,q2,by simp only[bne_iff_ne,ne_eq];exact λ q=>hT (q3.1 q),q4⟩
 refine Zb func246 rfl rfl rfl λ u R=>?_
 simp only[Zc,kA]
 repeat' (first|(refine Za (.func 273) ?_;refine qC rfl rfl (ht2) ?_;rintro v ρ' L' hle ⟨hz1,x,w,k,e,rfl,he,rfl⟩<;>(try simp only[kA]))|refine zV ?_|intro _)
 rw[he]
 repeat' (first|refine zV ?_|intro _)
 exact qE (L':=[rdB rb s true]) ⟨hz1,rfl,rfl⟩
theorem content_go (ρ:Hp)(rb:Nat)(s:SV)(l:List UInt8)(h:RdI ρ s l)(c:Wm)(rest:List UInt8)(hl:l=Ya c++rest)(hT:Zm l=(c,(((Ya c).length:Nat):Int),0)):Spec prog 246 [.pointer (some ⟨rb,0,none⟩)] ρ [rdB rb s false]
  (λ z ρ' L'=>ρ.le ρ'/\∃w s2,z=.agg ⟨XI c.kind w⟩/\CIn ρ' w c.rows c.kids/\RdI ρ' s2 rest/\L'=[rdB rb s2 false]):=by
 have hn:=h.at'.len
 have hk:(Ya c).length<=s.n:=by rw[<-hn,hl,aL];omega
 have hcap:=h.cap
 have hbig:=h.big
 have hrest:=h.rest hk
 rw[hl,List.drop_left' rfl] at hrest
 have ht:=takeContD_spec ρ s.a s.n s.c l h.at' h.cap h.big
 rw[hT] at ht
 dsimp only at ht
 have ht2:Spec prog 273 [.slice s.a s.n s.c] ρ [] (λ v ρ' L'=>ρ.le ρ'/\∃w,v=.tuple ⟨[.agg ⟨XI c.kind w⟩,.int .i64 (((Ya c).length:Nat):Int),.int .i64 0]⟩/\CIn ρ' w c.rows c.kids/\L'=[]):=by
  refine ht.mono ?_
  rintro z ρ' L' _ ⟨q1,⟨x,w,k,e,q2,q3,q5⟩,q4⟩
  have he:=q3.2 rfl
  obtain⟨q6,rfl,rfl⟩:=q5 he
  exact⟨q1,w,by rw[q2,he],q6,q4⟩
 generalize (Ya c).length=k at *
 refine Zb func246 rfl rfl rfl λ u R=>?_
 simp only[Zc,kA]
 repeat' (first|(refine Za (.func 273) ?_;refine qC rfl rfl (ht2) ?_;rintro v ρ' L' hle ⟨hz1,w,rfl,hw,rfl⟩<;>(try simp only[kA]))|refine zV ?_|intro _)
 simp only[Int.toNat_natCast]
 exact qE (L':=[rdB rb ⟨if s.c=k then s.a else s.a.map (·.add (k*1)),s.n-k,s.c-k⟩ false]) ⟨hz1,w,_,rfl,hw,hrest.mono hz1,rfl⟩
theorem rdN_go {k:Nat}{l:List UInt8}(h:k<=l.length):Zy k (l,0,false)=(ZV (l.take k),l.drop k,0,false):=by
 unfold Zy;rw[numR_go h]
theorem rdN_no {k:Nat}{l:List UInt8}(h:l.length<k):okS (Zy k (l,0,false)).2=false:=by
 unfold Zy;rw[numR_no h];rfl
theorem XY (ρ:Hp)(rb:Nat)(s:SV)(l:List UInt8)(h:RdI ρ s l)(k B:Nat)(hB:256 ^ k=B)(h8:k<=8):Spec prog 202 [.pointer (some ⟨rb,0,none⟩),.int .i64 k] ρ [rdB rb s false]
  (λ z ρ' L'=>∃x:Nat,z=.int .u64 x/\ρ'=ρ/\x<B/\((∃s2 l2,Zy k (l,0,false)=(x,l2,0,false)/\RdI ρ' s2 l2/\L'=[rdB rb s2 false])\/(x=0/\okS (Zy k (l,0,false)).2=false/\L'=[rdB rb s true]))):=by
 have hl:=h.at'.len
 by_cases hk:k<=s.n
 ·refine (num_go ρ rb s l h k hk h8).mono ?_
  rintro z ρ' L' _ ⟨q1,q2,s2,q3,q4⟩
  have hb:=Xy (l.take k)
  rw[List.length_take,Nat.min_eq_left (by omega),hB] at hb
  exact⟨_,q1,q2,hb,.inl ⟨s2,_,rdN_go (by omega),q3,q4⟩⟩
 ·refine (num_no ρ rb s k (by omega)).mono ?_
  rintro z ρ' L' _ ⟨q1,q2,q3⟩
  exact⟨0,q1,q2,by rw[<-hB];exact Nat.pow_pos (by omega),.inr ⟨rfl,rdN_no (by omega),q3⟩⟩
theorem contD_spec (ρ:Hp)(rb:Nat)(s:SV)(l:List UInt8)(h:RdI ρ s l):Spec prog 246 [.pointer (some ⟨rb,0,none⟩)] ρ [rdB rb s false]
  (λ z ρ' L'=>∃c w,z=.agg ⟨XI c.kind w⟩/\ρ.le ρ'/\CI ρ' w c/\((∃s2 l2,tkT Zm ztC (l,0,false)=(c,l2,0,false)/\RdI ρ' s2 l2/\L'=[rdB rb s2 false])\/(okS (tkT Zm ztC (l,0,false)).2=false/\L'=[rdB rb s true]))):=by
 by_cases hT:(Zm l).2.2=0
 ·obtain⟨c,rest,hl,hok,hfit,hTe⟩:=takeCont_fw hT
  refine (content_go ρ rb s l h c rest hl hTe).mono ?_
  rintro z ρ' L' _ ⟨q1,w,s2,q2,q3,q4,q5⟩
  refine⟨c,w,q2,q1,⟨q3,hfit.row,λ k hk=>(hfit.kid k hk).id⟩,.inl ⟨s2,rest, ?_,q4,q5⟩⟩
  rw[hl]
  exact tkC_fw hok ⟨hfit.row,λ k hk=>(hfit.kid k hk).id⟩ rest
 ·refine (content_no ρ rb s l h hT).mono ?_
  rintro z ρ' L' _ ⟨q1,q2,q3⟩
  refine⟨ztC,Xo,q2,q1,CI.nil,.inr ⟨?_,q3⟩⟩
  rw[tkT_err rfl hT]
  rfl
theorem Vw {k:Nat}{s:Yg}(h:okS s=false):okS (Zy k s).2=false:=by
 obtain⟨l,st,bad⟩:=s
 unfold Zy okS at *
 dsimp only at *
 cases bad
 ·have hs:st≠0:=by simpa using h
  have:(Yd k l st).2.2=st:=by unfold Yd;rw[if_pos hs]
  rw[this];exact h
 ·rfl
theorem st_tk {α:Type}{t:List UInt8->α×Int×Int}{z:α}{s:Yg}(h:okS s=false):okS (tkT t z s).2=false:=by
 rw[tkT_fst_bad h];exact h
theorem st_stpDr {k:Nat}{s:Yg}(h:okS s=false):okS (stpDr k s).2=false:=st_tk h
theorem st_stpDb {k t i:Nat}{s:Yg}(h:okS s=false):okS (stpDb k t i s).2=false:=by
 unfold stpDb;split
 ·exact Vw h
 ·exact h
theorem st_stpDi {k t:Nat}{s:Yg}(h:okS s=false):okS (stpDi k t s).2=false:=st_stpDb (Vw h)
theorem st_stpDt {k:Nat}{s:Yg}(h:okS s=false):okS (stpDt k s).2=false:=by
 unfold stpDt;split
 ·exact st_stpDr h
 ·exact st_stpDi (Vw h)
theorem st_many {α:Type}{f:Yg->α×Yg}:∀{n:Nat} {s:Yg},okS s=false->okS (ZP f n s).2=false
 | 0,s,h=>h
 | n+1,s,h=>by rw[ZP,h];exact h
theorem many_step {α:Type}{f:Yg->α×Yg}{n:Nat}{l:List UInt8}:ZP f (n+1) (l,0,false)=((f (l,0,false)).1::(ZP f n (f (l,0,false)).2).1,(ZP f n (f (l,0,false)).2).2):=by
 rw[ZP,if_pos (by rfl)]
def StepO (ρ':Hp)(rb:Nat)(l:List UInt8)(z:Value)(L':SH):Prop:=∃x:Stp,z=.agg ⟨YJ x⟩/\Ys x.row/\((∃s2 l2,Wx (l,0,false)=(x,l2,0,false)/\RdI ρ' s2 l2/\L'=[rdB rb s2 false])\/(okS (Wx (l,0,false)).2=false/\∃s2,L'=[rdB rb s2 true]))
theorem fit0 {t:Int}{i:Nat}(hi:i<65536):Ys ⟨t,i,0,[]⟩:=⟨hi,by dsimp only;omega⟩
theorem stp_of {l l2:List UInt8}{k:Nat}(h:Zy 1 (l,0,false)=(k,l2,0,false)):Wx (l,0,false)=stpDt k (l2,0,false):=by unfold Wx;rw[h]
theorem stepD_spec (ρ:Hp)(rb:Nat)(s:SV)(l:List UInt8)(h:RdI ρ s l):Spec prog 204 [.pointer (some ⟨rb,0,none⟩)] ρ [rdB rb s false]
  (λ z ρ' L'=>ρ'=ρ/\StepO ρ' rb l z L'):=by
 refine Zb func204 rfl rfl rfl λ u R=>?_
 simp only[Zc,kA]
 repeat' (first|(refine Za (.func 202) ?_;refine qC rfl rfl (XY _ rb s l h 1 256 rfl (by decide)) ?_;rintro v ρ' L' hle ⟨k,rfl,rfl,hkb,⟨s2,l2,hk,h2,rfl⟩|⟨rfl,hno,rfl⟩⟩<;>(try simp only[kA]))|(refine Za (.func 202) ?_;refine qC rfl rfl (Zo _ rb s 1) ?_;rintro v ρ' L' hle ⟨rfl,rfl,rfl⟩<;>(try simp only[kA]))|(refine Za (.func 202) ?_;refine qC rfl rfl (Zo _ rb s 2) ?_;rintro v ρ' L' hle ⟨rfl,rfl,rfl⟩<;>(try simp only[kA]))|refine zV ?_|intro _)
 ·rename_i b2 b3
  have hst:=stp_of hk
  by_cases k23:k=2\/k=3
  ·have hst2:Wx (l,0,false)=stpDr k (l2,0,false):=by rw[hst];unfold stpDt;rw[if_pos k23]
   have htr:=takeRowD_spec ρ' s2.a s2.n s2.c l2 h2.at' h2.cap h2.big
   by_cases hW:WM l2
   ·obtain⟨hok,hfit,heq,hlen⟩:=rowW_ok hW
    have hml:12+bAt l2 11<=s2.n:=by have:=hW.2.2.2;rw[h2.at'.len] at this;omega
    have hrest:=h2.rest hml
    have hcap:=h2.cap
    have hbig:=h2.big
    have hfw:stpDr k (l2,0,false)=(⟨k,rowW l2,0⟩,l2.drop (12+bAt l2 11),0,false):=by
     have:=tkR_fw hok hfit (l2.drop (12+bAt l2 11))
     rw[<-heq] at this
     unfold stpDr
     rw[this]
    have htr2:Spec prog 247 [.slice s2.a s2.n s2.c] ρ' [] (λ v ρq L'=>v=.tuple ⟨[.agg ⟨Ym (rowW l2)⟩,.int .i64 ((12+bAt l2 11:Nat):Int),.int .i64 0]⟩/\ρ'=ρq/\L'=[]):=by
     refine htr.mono ?_
     rintro v ρ' L' _ ⟨⟨x,kk,e,q1,q2,q3⟩,q4,q5⟩
     obtain⟨rfl,rfl⟩:=q3 hW
     exact⟨by rw[q1,q2.2 hW],q4.symm,q5⟩
    generalize rowW l2=row at *
    generalize 12+bAt l2 11=m at *
    obtain⟨q,hq⟩:∃q,(((k:Nat):Int) == 2)=q:=⟨_,rfl⟩
    have hkq:(q=true/\k=2)\/(q=false/\k=3):=by
     rcases k23 with k2|k2
     ·exact .inl ⟨by rw[<-hq,k2];rfl,k2⟩
     ·exact .inr ⟨by rw[<-hq,k2];rfl,k2⟩
    rw[hq]
    clear hq
    rcases hkq with⟨rfl,k2⟩|⟨rfl,k2⟩
    all_goals
     repeat' (first|(refine Za (.func 247) ?_;refine qC rfl rfl (htr2) ?_;rintro v ρ' L' hle ⟨rfl,rfl,rfl⟩<;>(try simp only[kA]))|refine zV ?_|intro _)
     rename_i b4
     refine tc_phase 10 (Zt _ _ ([[(b4,.cells ⟨Ym row⟩ 171 (0,0))],rdB rb s2 false])) (by decide +kernel) (Xq (hT:=tk) (Hp.le_refl _)) ?_
     simp only[List.take_succ_cons,List.take_zero]
     all_goals (refine rLd 1 ?_;refine rMv 2 ?_;refine rNc 3 ?_;refine rFa 4 ?_;refine rLd 5 ?_;refine rMv 6 ?_;refine rSl 7 ?_;refine rFa 8 ?_)
     all_goals (refine rStep2 (i:=0) (j:=9) ?_ ?_<;>((try refine ZM ?_);(first|(refine i_qq ?_;refine qQ ?_)|(refine qEf ?_;try intro _))<;>((try simp only[kA]);refine Yz ?_;refine Wn ?_)))
     all_goals (first|(refine WL (i:=9) ?_;((try refine ZM ?_);(first|(refine i_qq ?_;refine qQ ?_)|(refine qEf ?_;try intro _))<;>((try simp only[kA]);refine Yz ?_;refine Wn ?_)))|(refine WL (i:=0) ?_;((try refine ZM ?_);(first|(refine i_qq ?_;refine qQ ?_)|(refine qEf ?_;try intro _))<;>((try simp only[kA]);refine Yz ?_;refine Wn ?_))))
     all_goals refine rDone ?_
     all_goals refine te_phase (fuel:=3) (m:=[true,true,true,true,true,true,true,true,true,true,false,false,false]) (Zt _ _ ([])) rfl rfl (Xq (hT:=tk) (Hp.le_refl _)) ?_
     all_goals (refine rNc 10 ?_;refine rFa 11 ?_)
     all_goals (refine WL (i:=12) ?_;((try refine ZM ?_);(first|(refine i_qq ?_;refine qQ ?_)|(refine qEf ?_;try intro _))<;>((try simp only[kA]);refine Yz ?_;refine Wn ?_)))
     all_goals refine rDone ?_
     all_goals (repeat' (first|refine zV ?_|intro _))
    all_goals simp only[Int.toNat_natCast]
    all_goals exact qE (L':=[rdB rb ⟨if s2.c=m then s2.a else s2.a.map (·.add (m*1)),s2.n-m,s2.c-m⟩ false]) ⟨rfl,⟨k,row,0⟩,rfl,hfit,.inl ⟨_,_,hst2.trans hfw,hrest,rfl⟩⟩
   ·have hno:okS (Wx (l,0,false)).2=false:=by
     rw[hst2]
     unfold stpDr
     rw[tkT_err rfl (λ e=>hW ((takeRow_W l2).1.1 e))];rfl
    have htr2:Spec prog 247 [.slice s2.a s2.n s2.c] ρ' [] (λ v ρq L'=>∃x kk e,v=.tuple ⟨[.agg ⟨Ym x⟩,.int .i64 kk,.int .i64 e]⟩/\(e != 0)=true/\ρ'=ρq/\L'=[]):=by
     refine htr.mono ?_
     rintro v ρ' L' _ ⟨⟨x,kk,e,q1,q2,q3⟩,q4,q5⟩
     exact⟨x,kk,e,q1,by simp only[bne_iff_ne,ne_eq];exact λ q=>hW (q2.1 q),q4.symm,q5⟩
    obtain⟨q,hq⟩:∃q,(((k:Nat):Int) == 2)=q:=⟨_,rfl⟩
    have hkq:(q=true/\k=2)\/(q=false/\k=3):=by
     rcases k23 with k2|k2
     ·exact .inl ⟨by rw[<-hq,k2];rfl,k2⟩
     ·exact .inr ⟨by rw[<-hq,k2];rfl,k2⟩
    rw[hq]
    clear hq
    rcases hkq with⟨rfl,k2⟩|⟨rfl,k2⟩
    all_goals
     repeat' (first|(refine Za (.func 247) ?_;refine qC rfl rfl (htr2) ?_;rintro v ρ' L' hle ⟨x,kk,e,rfl,he,rfl,rfl⟩<;>(try simp only[kA]))|refine zV ?_|intro _)
     rw[he]
     repeat' (first|refine zV ?_|intro _)
     exact qE (L':=[rdB rb s2 true]) ⟨rfl,⟨k,⟨0,0,0,[]⟩,0⟩,rfl,fit0 (by decide),.inr ⟨hno,s2,rfl⟩⟩
  ·have hq:(((k:Nat):Int) == 2)=false:=by simp;omega
   rw[hq]
   have hst2:Wx (l,0,false)=stpDi k (Zy 1 (l2,0,false)).1 (Zy 1 (l2,0,false)).2:=by rw[hst];unfold stpDt;rw[if_neg k23]
   have g1:okS (Zy 1 (l2,0,false)).2=false->okS (Wx (l,0,false)).2=false:=λ e=>by rw[hst2];exact st_stpDi e
   have g2:∀t l3,Zy 1 (l2,0,false)=(t,l3,0,false)->okS (Zy 2 (l3,0,false)).2=false->okS (Wx (l,0,false)).2=false:=λ t l3 e1 e=>by rw[hst2,e1];exact st_stpDb e
   have g3:∀t l3 i l4,Zy 1 (l2,0,false)=(t,l3,0,false)->Zy 2 (l3,0,false)=(i,l4,0,false)->Wx (l,0,false)=stpDb k t i (l4,0,false):=λ t l3 i l4 e1 e2=>by rw[hst2,e1];show stpDb k t (Zy 2 (l3,0,false)).1 (Zy 2 (l3,0,false)).2=_;rw[e2]
   by_cases k1:k=1
   ·repeat' (first|(refine Za (.func 202) ?_;refine qC rfl rfl (XY _ rb s2 l2 h2 1 256 rfl (by decide)) ?_;rintro v ρ' L' hle ⟨t,rfl,rfl,htb,⟨s3,l3,ht,h3,rfl⟩|⟨rfl,hno1,rfl⟩⟩<;>(try simp only[kA]))|(refine Za (.func 202) ?_;refine qC rfl rfl (XY _ rb s3 l3 h3 2 65536 rfl (by decide)) ?_;rintro v ρ' L' hle ⟨i,rfl,rfl,hib,⟨s4,l4,hi',h4,rfl⟩|⟨rfl,hno2,rfl⟩⟩<;>(try simp only[kA]))|(refine Za (.func 202) ?_;refine qC rfl rfl (XY _ rb s4 l4 h4 8 18446744073709551616 rfl (by decide)) ?_;rintro v ρ' L' hle ⟨v,rfl,rfl,hvb,⟨s5,l5,hv,h5,rfl⟩|⟨rfl,hno3,rfl⟩⟩<;>(try simp only[kA]))|(refine Za (.func 202) ?_;refine qC rfl rfl (Zo _ rb s2 2) ?_;rintro v ρ' L' hle ⟨rfl,rfl,rfl⟩<;>(try simp only[kA]))|(refine Za (.func 202) ?_;refine qC rfl rfl (Zo _ rb s2 8) ?_;rintro v ρ' L' hle ⟨rfl,rfl,rfl⟩<;>(try simp only[kA]))|(refine Za (.func 202) ?_;refine qC rfl rfl (Zo _ rb s3 8) ?_;rintro v ρ' L' hle ⟨rfl,rfl,rfl⟩<;>(try simp only[kA]))|refine zV ?_|intro _)
    ·exact qE (L':=[rdB rb s5 false]) ⟨rfl,⟨k,⟨t,i,0,[]⟩,i64N v⟩,rfl,fit0 hib,.inl ⟨_,_,(g3 _ _ _ _ ht hi').trans (by unfold stpDb;rw[if_pos k1,hv]),h5,rfl⟩⟩
    ·exact qE (L':=[rdB rb s4 true]) ⟨rfl,⟨k,⟨t,i,0,[]⟩,0⟩,rfl,fit0 hib,.inr ⟨by rw[g3 _ _ _ _ ht hi'];unfold stpDb;rw[if_pos k1];exact hno3,_,rfl⟩⟩
    ·exact qE (L':=[rdB rb s3 true]) ⟨rfl,⟨k,⟨t,0,0,[]⟩,0⟩,rfl,fit0 (by decide),.inr ⟨g2 _ _ ht hno2,_,rfl⟩⟩
    ·exact qE (L':=[rdB rb s2 true]) ⟨rfl,⟨k,⟨0,0,0,[]⟩,0⟩,rfl,fit0 (by decide),.inr ⟨g1 hno1,_,rfl⟩⟩
   ·repeat' (first|(refine Za (.func 202) ?_;refine qC rfl rfl (XY _ rb s2 l2 h2 1 256 rfl (by decide)) ?_;rintro v ρ' L' hle ⟨t,rfl,rfl,htb,⟨s3,l3,ht,h3,rfl⟩|⟨rfl,hno1,rfl⟩⟩<;>(try simp only[kA]))|(refine Za (.func 202) ?_;refine qC rfl rfl (XY _ rb s3 l3 h3 2 65536 rfl (by decide)) ?_;rintro v ρ' L' hle ⟨i,rfl,rfl,hib,⟨s4,l4,hi',h4,rfl⟩|⟨rfl,hno2,rfl⟩⟩<;>(try simp only[kA]))|(refine Za (.func 202) ?_;refine qC rfl rfl (Zo _ rb s2 2) ?_;rintro v ρ' L' hle ⟨rfl,rfl,rfl⟩<;>(try simp only[kA]))|refine zV ?_|intro _)
    ·exact qE (L':=[rdB rb s4 false]) ⟨rfl,⟨k,⟨t,i,0,[]⟩,0⟩,rfl,fit0 hib,.inl ⟨_,_,(g3 _ _ _ _ ht hi').trans (by unfold stpDb;rw[if_neg k1]),h4,rfl⟩⟩
    ·exact qE (L':=[rdB rb s3 true]) ⟨rfl,⟨k,⟨t,0,0,[]⟩,0⟩,rfl,fit0 (by decide),.inr ⟨g2 _ _ ht hno2,_,rfl⟩⟩
    ·exact qE (L':=[rdB rb s2 true]) ⟨rfl,⟨k,⟨0,0,0,[]⟩,0⟩,rfl,fit0 (by decide),.inr ⟨g1 hno1,_,rfl⟩⟩
 ·exact qE (L':=[rdB rb s true]) ⟨rfl,⟨0,⟨0,0,0,[]⟩,0⟩,rfl,fit0 (by decide),.inr ⟨st_stpDt hno,_,rfl⟩⟩
theorem many_app {α:Type}{f:Yg->α×Yg}{n k:Nat}{l0 l1 l2:List UInt8}{x:α}{acc:List α}(hk:k<n)(h:ZP f n (l0,0,false)=(acc++(ZP f (n-k) (l1,0,false)).1,(ZP f (n-k) (l1,0,false)).2))(hf:f (l1,0,false)=(x,l2,0,false)) :
  ZP f n (l0,0,false)=((acc++[x])++(ZP f (n-(k+1)) (l2,0,false)).1,(ZP f (n-(k+1)) (l2,0,false)).2):=by
 rw[h,show n-k=(n-(k+1))+1 by omega,many_step,hf]
 simp
theorem XX {α:Type}{f:Yg->α×Yg}{n k:Nat}{l0 l1:List UInt8}{acc:List α}(hk:k<n)(h:ZP f n (l0,0,false)=(acc++(ZP f (n-k) (l1,0,false)).1,(ZP f (n-k) (l1,0,false)).2))(hf:okS (f (l1,0,false)).2=false) :
  okS (ZP f n (l0,0,false)).2=false:=by
 rw[h,show n-k=(n-(k+1))+1 by omega,many_step]
 exact st_many hf
theorem im_go {two:Bool}{l1 l2 l3:List UInt8}{p:Nat}{c1:Wm}(h1:Zy 1 (l1,0,false)=(p,l2,0,false))(h2:imDb two (l2,0,false)=(c1,l3,0,false)):imD two (l1,0,false)=(⟨p,Xo,c1,Xo,(tkT Zm ztC (l3,0,false)).1⟩,(tkT Zm ztC (l3,0,false)).2):=by
 unfold imD;rw[h1];unfold imDa;rw[h2]
theorem im_no1 {two:Bool}{l1:List UInt8}(h1:okS (Zy 1 (l1,0,false)).2=false):okS (imD two (l1,0,false)).2=false:=by
 unfold imD imDa imDb
 refine st_tk ?_
 split
 ·exact st_tk h1
 ·exact h1
theorem im_no2 {l1 l2:List UInt8}{p:Nat}(h1:Zy 1 (l1,0,false)=(p,l2,0,false))(h2:okS (tkT Zm ztC (l2,0,false)).2=false):okS (imD true (l1,0,false)).2=false:=by
 unfold imD;rw[h1];exact st_tk h2
def ImsO (ρ':Hp)(rb:Nat)(two:Bool)(l:List UInt8)(z:Value)(L':SH):Prop:=∃(sv:SV) (xs:List Im),z=.slice sv.a sv.n sv.c/\AS ρ' 7 imV sv xs/\(∀x∈xs,Im.In ρ' x)/\((∃s2 l2,Yw (imD two) (l,0,false)=(xs.map Im.plain,l2,0,false)/\RdI ρ' s2 l2/\L'=[rdB rb s2 false])\/(okS (Yw (imD two) (l,0,false)).2=false/\∃s2,L'=[rdB rb s2 true]))
theorem images_true (ρ:Hp)(rb:Nat)(s:SV)(l:List UInt8)(h:RdI ρ s l):Spec prog 203 [.pointer (some ⟨rb,0,none⟩),.bool true] ρ [rdB rb s false]
  (λ z ρ' L'=>ρ.le ρ'/\ImsO ρ' rb true l z L'):=by
 refine Zb func203 rfl rfl rfl λ u R=>?_
 simp only[Zc,kA]
 repeat' (first|(refine Za (.func 202) ?_;refine qC rfl rfl (XY _ rb s l h 1 256 rfl (by decide)) ?_;rintro v ρ' L' hle ⟨n,rfl,rfl,hnb,⟨s0,l0,hn,h0,rfl⟩|⟨rfl,hno0,rfl⟩⟩<;>(try simp only[kA]))|refine zV ?_|intro _)
 case' inr=>
  repeat' (first|refine zV ?_|intro _)
  refine lpG Nat [0,1,8] (λ z=>[(9,.int .u64 z),(5,.slice none 0 0),(4,.slice none 0 0)]) (λ z=>ρ') (λ z=>[rdB rb s true]) (λ z=>z=0) (λ z=>0-z) 0 rfl ?_
  rintro k hI
  try simp only[kB] at hI ⊢
  try dsimp only at hI ⊢
  subst hI
  repeat' (first|refine zV ?_|intro _)
  exact qE (L':=[rdB rb s true]) ⟨Hp.le_refl _,WY,[],rfl,AS.nil,by simp,.inr ⟨st_many hno0,_,rfl⟩⟩
 have hmd:Yw (imD true) (l,0,false)=ZP (imD true) n (l0,0,false):=by unfold Yw;rw[hn]
 have hfin:∀(ρ1:Hp) (va:Option Addr) (vc:Nat) (acc:List Im),AIn ρ1 7 imV va acc.length acc->acc.length<=256->acc.length<=vc->AS ρ1 7 imV ⟨va,acc.length,vc⟩ acc:=λ ρ1 va vc acc h1 h2 h3=>⟨h1,by dsimp only;omega,h3⟩
 repeat' (first|refine zV ?_|intro _)
 refine lpG (Nat×Hp×SV×(List UInt8)×Value×(List Value)×(List Im)×Bool) [0,1,8] (λ z=>[(9,.int .u64 z.1),(5,z.2.2.2.2.1),(4,.slice none 0 0)]) (λ z=>z.2.1) (λ z=>[rdB rb z.2.2.1 z.2.2.2.2.2.2.2,Zq z.2.2.2.2.1 ((z.2.2.2.2.2.2.1.map imV).flatten) z.2.2.2.2.2.1 180]) (λ z=>z.1<=n/\Hp.le ρ' z.2.1/\z.2.2.2.2.2.2.1.length=z.1/\OwnS z.2.2.2.2.1 z.2.2.2.2.2.2.1.length ((z.2.2.2.2.2.2.1.map imV).flatten) z.2.2.2.2.2.1 7/\(∀x∈z.2.2.2.2.2.2.1,Im.In z.2.1 x)/\((z.2.2.2.2.2.2.2=false/\RdI z.2.1 z.2.2.1 z.2.2.2.1/\ZP (imD true) n (l0,0,false)=(z.2.2.2.2.2.2.1.map Im.plain++(ZP (imD true) (n-z.1) (z.2.2.2.1,0,false)).1,(ZP (imD true) (n-z.1) (z.2.2.2.1,0,false)).2))\/(z.2.2.2.2.2.2.2=true/\okS (ZP (imD true) n (l0,0,false)).2=false))) (λ z=>n-z.1) (0,ρ',s0,l0,.slice none 0 0,[],[],false) (⟨aZ _,Hp.le_refl _,rfl,OwnS.nil 7,by simp,.inl ⟨rfl,h0,rfl⟩⟩) ?_
 rintro⟨k,ρ1,s1,l1,vv,sp,acc,b1⟩ hI
 try simp only[kB] at hI ⊢
 try dsimp only at hI ⊢
 obtain⟨hk,hle1,hal,hown,hin,hor⟩:=hI
 obtain⟨va,vc,rfl,hvl⟩:=hown.slice
 by_cases hlt:k<n
 ·rcases hor with⟨rfl,h1,hms⟩|⟨rfl,hbad⟩
  ·repeat' (first|(refine Za (.func 202) ?_;refine qC rfl rfl (XY _ rb s1 l1 h1 1 256 rfl (by decide)) ?_;rintro v ρ' L' hle ⟨p,rfl,rfl,hpb,⟨s2,l2,hp,h2,rfl⟩|⟨rfl,hno1,rfl⟩⟩<;>(try simp only[kA]))|(refine Za (.func 246) ?_;refine qC rfl rfl (contD_spec _ rb s2 l2 h2) ?_;rintro v ρ' L' hle ⟨c1,w1,rfl,hz1,hc1,⟨s3,l3,hq1,h3,rfl⟩|⟨hno2,rfl⟩⟩<;>(try simp only[kA]))|(refine Za (.func 246) ?_;refine qC rfl rfl (contD_spec _ rb s3 l3 h3) ?_;rintro v ρ' L' hle ⟨c2,w2,rfl,hz2,hc2,⟨s4,l4,hq2,h4,rfl⟩|⟨hno3,rfl⟩⟩<;>(try simp only[kA]))|(refine Za (.func 246) ?_;refine qC rfl rfl (content_bad _ rb s1) ?_;rintro v ρ' L' hle ⟨rfl,rfl,rfl⟩<;>(try simp only[kA]))|(refine Za (.func 246) ?_;refine qC rfl rfl (content_bad _ rb s2) ?_;rintro v ρ' L' hle ⟨rfl,rfl,rfl⟩<;>(try simp only[kA]))|refine zV ?_|intro _)
   ·repeat' (first|(refine Zp (css:=[[.int .i64 (p:Nat),.int .i64 c1.kind,.slice w1.ra w1.rn w1.rc,.slice w1.ka w1.kn w1.kc,.int .i64 c2.kind,.slice w2.ra w2.rn w2.rc,.slice w2.ka w2.kn w2.kc]]) (sz:=7) rfl rfl rfl rfl (by simp) (by simp) rfl (λ bs=>?_);simp only[aF,List.flatten_nil,aN])|(refine ZH (ys:=[.int .i64 (p:Nat),.int .i64 c1.kind,.slice w1.ra w1.rn w1.rc,.slice w1.ka w1.kn w1.kc,.int .i64 c2.kind,.slice w2.ra w2.rn w2.rc,.slice w2.ka w2.kn w2.kc]) (m:=1) rfl rfl hown (hR:=by repeat (first|exact Zl|apply Zn)) SrcV.lit rfl rfl (by decide) rfl (by omega) (by omega) rfl (λ v3 sp3 hown3=>?_))|refine zV ?_|intro _)
    obtain⟨y,hy⟩:∃y:Im,(⟨p,w1,c1,w2,c2⟩:Im)=y:=⟨_,rfl⟩
    have hyv:[.int .i64 (p:Nat),.int .i64 c1.kind,.slice w1.ra w1.rn w1.rc,.slice w1.ka w1.kn w1.kc,.int .i64 c2.kind,.slice w2.ra w2.rn w2.rc,.slice w2.ka w2.kn w2.kc]=imV y:=by rw[<-hy]
    have hyi:Im.In ρ' y:=by rw[<-hy];exact⟨hc1.mono hz2,hc2⟩
    have hyp:y.plain=⟨p,Xo,c1,Xo,c2⟩:=by rw[<-hy]
    rw[hyv] at hown3 ⊢
    have hm1:(acc.map imV).flatten++imV y=((acc++[y]).map imV).flatten:=by simp
    rw[hm1] at hown3 ⊢
    refine rnG (k+1,ρ',s4,l4,v3,sp3,acc++[y],false) (⟨hlt,Hp.le_trans hle1 (Hp.le_trans hz1 hz2),by rw[aL,hal];rfl,by rw[aL];exact hown3,λ x hx=>(List.mem_append.1 hx).elim (λ hx=>(hin x hx).mono (Hp.le_trans hz1 hz2)) (λ hx=>by rw[List.mem_singleton.1 hx];exact hyi),.inl ⟨rfl,h4,by rw[List.map_append,List.map_singleton,hyp];exact many_app hlt hms (by rw[im_go hp (show imDb true (l2,0,false)=(c1,l3,0,false) from hq1),hq2])⟩⟩)
   ·repeat' (first|(refine Zp (css:=[[.int .i64 (p:Nat),.int .i64 c1.kind,.slice w1.ra w1.rn w1.rc,.slice w1.ka w1.kn w1.kc,.int .i64 c2.kind,.slice w2.ra w2.rn w2.rc,.slice w2.ka w2.kn w2.kc]]) (sz:=7) rfl rfl rfl rfl (by simp) (by simp) rfl (λ bs=>?_);simp only[aF,List.flatten_nil,aN])|(refine ZH (ys:=[.int .i64 (p:Nat),.int .i64 c1.kind,.slice w1.ra w1.rn w1.rc,.slice w1.ka w1.kn w1.kc,.int .i64 c2.kind,.slice w2.ra w2.rn w2.rc,.slice w2.ka w2.kn w2.kc]) (m:=1) rfl rfl hown (hR:=by repeat (first|exact Zl|apply Zn)) SrcV.lit rfl rfl (by decide) rfl (by omega) (by omega) rfl (λ v3 sp3 hown3=>?_))|refine zV ?_|intro _)
    obtain⟨y,hy⟩:∃y:Im,(⟨p,w1,c1,w2,c2⟩:Im)=y:=⟨_,rfl⟩
    have hyv:[.int .i64 (p:Nat),.int .i64 c1.kind,.slice w1.ra w1.rn w1.rc,.slice w1.ka w1.kn w1.kc,.int .i64 c2.kind,.slice w2.ra w2.rn w2.rc,.slice w2.ka w2.kn w2.kc]=imV y:=by rw[<-hy]
    have hyi:Im.In ρ' y:=by rw[<-hy];exact⟨hc1.mono hz2,hc2⟩
    have hyp:y.plain=⟨p,Xo,c1,Xo,c2⟩:=by rw[<-hy]
    rw[hyv] at hown3 ⊢
    have hm1:(acc.map imV).flatten++imV y=((acc++[y]).map imV).flatten:=by simp
    rw[hm1] at hown3 ⊢
    refine rnG (k+1,ρ',s3,l1,v3,sp3,acc++[y],true) (⟨hlt,Hp.le_trans hle1 (Hp.le_trans hz1 hz2),by rw[aL,hal];rfl,by rw[aL];exact hown3,λ x hx=>(List.mem_append.1 hx).elim (λ hx=>(hin x hx).mono (Hp.le_trans hz1 hz2)) (λ hx=>by rw[List.mem_singleton.1 hx];exact hyi),.inr ⟨rfl,XX hlt hms (by rw[im_go hp (show imDb true (l2,0,false)=(c1,l3,0,false) from hq1)];exact hno3)⟩⟩)
   ·repeat' (first|(refine Zp (css:=[[.int .i64 (p:Nat),.int .i64 c1.kind,.slice w1.ra w1.rn w1.rc,.slice w1.ka w1.kn w1.kc,.int .i64 0,.slice none 0 0,.slice none 0 0]]) (sz:=7) rfl rfl rfl rfl (by simp) (by simp) rfl (λ bs=>?_);simp only[aF,List.flatten_nil,aN])|(refine ZH (ys:=[.int .i64 (p:Nat),.int .i64 c1.kind,.slice w1.ra w1.rn w1.rc,.slice w1.ka w1.kn w1.kc,.int .i64 0,.slice none 0 0,.slice none 0 0]) (m:=1) rfl rfl hown (hR:=by repeat (first|exact Zl|apply Zn)) SrcV.lit rfl rfl (by decide) rfl (by omega) (by omega) rfl (λ v3 sp3 hown3=>?_))|refine zV ?_|intro _)
    obtain⟨y,hy⟩:∃y:Im,(⟨p,w1,c1,Xo,ztC⟩:Im)=y:=⟨_,rfl⟩
    have hyv:[.int .i64 (p:Nat),.int .i64 c1.kind,.slice w1.ra w1.rn w1.rc,.slice w1.ka w1.kn w1.kc,.int .i64 0,.slice none 0 0,.slice none 0 0]=imV y:=by rw[<-hy]
    have hyi:Im.In ρ' y:=by rw[<-hy];exact⟨hc1,CI.nil⟩
    have hyp:y.plain=⟨p,Xo,c1,Xo,ztC⟩:=by rw[<-hy]
    rw[hyv] at hown3 ⊢
    have hm1:(acc.map imV).flatten++imV y=((acc++[y]).map imV).flatten:=by simp
    rw[hm1] at hown3 ⊢
    refine rnG (k+1,ρ',s2,l1,v3,sp3,acc++[y],true) (⟨hlt,Hp.le_trans hle1 hz1,by rw[aL,hal];rfl,by rw[aL];exact hown3,λ x hx=>(List.mem_append.1 hx).elim (λ hx=>(hin x hx).mono (hz1)) (λ hx=>by rw[List.mem_singleton.1 hx];exact hyi),.inr ⟨rfl,XX hlt hms (im_no2 hp hno2)⟩⟩)
   ·repeat' (first|(refine Zp (css:=[[.int .i64 (0:Nat),.int .i64 0,.slice none 0 0,.slice none 0 0,.int .i64 0,.slice none 0 0,.slice none 0 0]]) (sz:=7) rfl rfl rfl rfl (by simp) (by simp) rfl (λ bs=>?_);simp only[aF,List.flatten_nil,aN])|(refine ZH (ys:=[.int .i64 (0:Nat),.int .i64 0,.slice none 0 0,.slice none 0 0,.int .i64 0,.slice none 0 0,.slice none 0 0]) (m:=1) rfl rfl hown (hR:=by repeat (first|exact Zl|apply Zn)) SrcV.lit rfl rfl (by decide) rfl (by omega) (by omega) rfl (λ v3 sp3 hown3=>?_))|refine zV ?_|intro _)
    obtain⟨y,hy⟩:∃y:Im,(⟨((0:Nat):Int),Xo,ztC,Xo,ztC⟩:Im)=y:=⟨_,rfl⟩
    have hyv:[.int .i64 (0:Nat),.int .i64 0,.slice none 0 0,.slice none 0 0,.int .i64 0,.slice none 0 0,.slice none 0 0]=imV y:=by rw[<-hy]
    have hyi:Im.In ρ' y:=by rw[<-hy];exact⟨CI.nil,CI.nil⟩
    have hyp:y.plain=⟨((0:Nat):Int),Xo,ztC,Xo,ztC⟩:=by rw[<-hy]
    rw[hyv] at hown3 ⊢
    have hm1:(acc.map imV).flatten++imV y=((acc++[y]).map imV).flatten:=by simp
    rw[hm1] at hown3 ⊢
    refine rnG (k+1,ρ',s1,l1,v3,sp3,acc++[y],true) (⟨hlt,hle1,by rw[aL,hal];rfl,by rw[aL];exact hown3,λ x hx=>(List.mem_append.1 hx).elim (λ hx=>(hin x hx).mono (Hp.le_refl _)) (λ hx=>by rw[List.mem_singleton.1 hx];exact hyi),.inr ⟨rfl,XX hlt hms (im_no1 hno1)⟩⟩)
  ·repeat' (first|refine zV ?_|intro _)
   exact qE (L':=[rdB rb s1 true]) (hle:=hle1) ⟨hle1,WY,[],rfl,AS.nil,by simp,.inr ⟨by rw[hmd];exact hbad,_,rfl⟩⟩
 ·have hkn:k=n:=by omega
  repeat' (first|refine zV ?_|intro _)
  refine ZB (Zq (.slice va acc.length vc) ((acc.map imV).flatten) sp 180) (λ ρ3 hle3 hfz=>?_)
  obtain⟨sa,sc,f1,hsc,hA2⟩:=hown.aIn rfl (λ x _=>imV_len x) hfz
  cases f1
  have hin3:∀x∈acc,Im.In ρ3 x:=λ x hx=>(hin x hx).mono hle3
  rcases hor with⟨rfl,h1,hms⟩|⟨rfl,hbad⟩
  ·rw[hkn,Nat.sub_self] at hms
   simp only[ZP,aN] at hms
   exact qE (L':=[rdB rb s1 false]) (hle:=Hp.le_trans hle1 hle3) ⟨Hp.le_trans hle1 hle3,⟨va,acc.length,vc⟩,acc,rfl,hfin _ _ _ _ hA2 (by omega) hsc,hin3,.inl ⟨_,_,hmd.trans hms,h1.mono hle3,rfl⟩⟩
  ·exact qE (L':=[rdB rb s1 true]) (hle:=Hp.le_trans hle1 hle3) ⟨Hp.le_trans hle1 hle3,⟨va,acc.length,vc⟩,acc,rfl,hfin _ _ _ _ hA2 (by omega) hsc,hin3,.inr ⟨by rw[hmd];exact hbad,_,rfl⟩⟩
theorem images_false (ρ:Hp)(rb:Nat)(s:SV)(l:List UInt8)(h:RdI ρ s l):Spec prog 203 [.pointer (some ⟨rb,0,none⟩),.bool false] ρ [rdB rb s false]
  (λ z ρ' L'=>ρ.le ρ'/\ImsO ρ' rb false l z L'):=by
 refine Zb func203 rfl rfl rfl λ u R=>?_
 simp only[Zc,kA]
 repeat' (first|(refine Za (.func 202) ?_;refine qC rfl rfl (XY _ rb s l h 1 256 rfl (by decide)) ?_;rintro v ρ' L' hle ⟨n,rfl,rfl,hnb,⟨s0,l0,hn,h0,rfl⟩|⟨rfl,hno0,rfl⟩⟩<;>(try simp only[kA]))|refine zV ?_|intro _)
 case' inr=>
  repeat' (first|refine zV ?_|intro _)
  refine lpG Nat [0,1,8] (λ z=>[(9,.int .u64 z),(5,.slice none 0 0),(4,.slice none 0 0)]) (λ z=>ρ') (λ z=>[rdB rb s true]) (λ z=>z=0) (λ z=>0-z) 0 rfl ?_
  rintro k hI
  try simp only[kB] at hI ⊢
  try dsimp only at hI ⊢
  subst hI
  repeat' (first|refine zV ?_|intro _)
  exact qE (L':=[rdB rb s true]) ⟨Hp.le_refl _,WY,[],rfl,AS.nil,by simp,.inr ⟨st_many hno0,_,rfl⟩⟩
 have hmd:Yw (imD false) (l,0,false)=ZP (imD false) n (l0,0,false):=by unfold Yw;rw[hn]
 have hfin:∀(ρ1:Hp) (va:Option Addr) (vc:Nat) (acc:List Im),AIn ρ1 7 imV va acc.length acc->acc.length<=256->acc.length<=vc->AS ρ1 7 imV ⟨va,acc.length,vc⟩ acc:=λ ρ1 va vc acc h1 h2 h3=>⟨h1,by dsimp only;omega,h3⟩
 repeat' (first|refine zV ?_|intro _)
 refine lpG (Nat×Hp×SV×(List UInt8)×Value×(List Value)×(List Im)×Bool) [0,1,8] (λ z=>[(9,.int .u64 z.1),(5,z.2.2.2.2.1),(4,.slice none 0 0)]) (λ z=>z.2.1) (λ z=>[rdB rb z.2.2.1 z.2.2.2.2.2.2.2,Zq z.2.2.2.2.1 ((z.2.2.2.2.2.2.1.map imV).flatten) z.2.2.2.2.2.1 180]) (λ z=>z.1<=n/\Hp.le ρ' z.2.1/\z.2.2.2.2.2.2.1.length=z.1/\OwnS z.2.2.2.2.1 z.2.2.2.2.2.2.1.length ((z.2.2.2.2.2.2.1.map imV).flatten) z.2.2.2.2.2.1 7/\(∀x∈z.2.2.2.2.2.2.1,Im.In z.2.1 x)/\((z.2.2.2.2.2.2.2=false/\RdI z.2.1 z.2.2.1 z.2.2.2.1/\ZP (imD false) n (l0,0,false)=(z.2.2.2.2.2.2.1.map Im.plain++(ZP (imD false) (n-z.1) (z.2.2.2.1,0,false)).1,(ZP (imD false) (n-z.1) (z.2.2.2.1,0,false)).2))\/(z.2.2.2.2.2.2.2=true/\okS (ZP (imD false) n (l0,0,false)).2=false))) (λ z=>n-z.1) (0,ρ',s0,l0,.slice none 0 0,[],[],false) (⟨aZ _,Hp.le_refl _,rfl,OwnS.nil 7,by simp,.inl ⟨rfl,h0,rfl⟩⟩) ?_
 rintro⟨k,ρ1,s1,l1,vv,sp,acc,b1⟩ hI
 try simp only[kB] at hI ⊢
 try dsimp only at hI ⊢
 obtain⟨hk,hle1,hal,hown,hin,hor⟩:=hI
 obtain⟨va,vc,rfl,hvl⟩:=hown.slice
 by_cases hlt:k<n
 ·rcases hor with⟨rfl,h1,hms⟩|⟨rfl,hbad⟩
  ·repeat' (first|(refine Za (.func 202) ?_;refine qC rfl rfl (XY _ rb s1 l1 h1 1 256 rfl (by decide)) ?_;rintro v ρ' L' hle ⟨p,rfl,rfl,hpb,⟨s2,l2,hp,h2,rfl⟩|⟨rfl,hno1,rfl⟩⟩<;>(try simp only[kA]))|(refine Za (.func 246) ?_;refine qC rfl rfl (contD_spec _ rb s2 l2 h2) ?_;rintro v ρ' L' hle ⟨c2,w2,rfl,hz2,hc2,⟨s4,l4,hq2,h4,rfl⟩|⟨hno3,rfl⟩⟩<;>(try simp only[kA]))|(refine Za (.func 246) ?_;refine qC rfl rfl (content_bad _ rb s1) ?_;rintro v ρ' L' hle ⟨rfl,rfl,rfl⟩<;>(try simp only[kA]))|refine zV ?_|intro _)
   ·repeat' (first|(refine Zp (css:=[[.int .i64 (p:Nat),.int .i64 0,.slice none 0 0,.slice none 0 0,.int .i64 c2.kind,.slice w2.ra w2.rn w2.rc,.slice w2.ka w2.kn w2.kc]]) (sz:=7) rfl rfl rfl rfl (by simp) (by simp) rfl (λ bs=>?_);simp only[aF,List.flatten_nil,aN])|(refine ZH (ys:=[.int .i64 (p:Nat),.int .i64 0,.slice none 0 0,.slice none 0 0,.int .i64 c2.kind,.slice w2.ra w2.rn w2.rc,.slice w2.ka w2.kn w2.kc]) (m:=1) rfl rfl hown (hR:=by repeat (first|exact Zl|apply Zn)) SrcV.lit rfl rfl (by decide) rfl (by omega) (by omega) rfl (λ v3 sp3 hown3=>?_))|refine zV ?_|intro _)
    obtain⟨y,hy⟩:∃y:Im,(⟨p,Xo,ztC,w2,c2⟩:Im)=y:=⟨_,rfl⟩
    have hyv:[.int .i64 (p:Nat),.int .i64 0,.slice none 0 0,.slice none 0 0,.int .i64 c2.kind,.slice w2.ra w2.rn w2.rc,.slice w2.ka w2.kn w2.kc]=imV y:=by rw[<-hy]
    have hyi:Im.In ρ' y:=by rw[<-hy];exact⟨CI.nil,hc2⟩
    have hyp:y.plain=⟨p,Xo,ztC,Xo,c2⟩:=by rw[<-hy]
    rw[hyv] at hown3 ⊢
    have hm1:(acc.map imV).flatten++imV y=((acc++[y]).map imV).flatten:=by simp
    rw[hm1] at hown3 ⊢
    refine rnG (k+1,ρ',s4,l4,v3,sp3,acc++[y],false) (⟨hlt,Hp.le_trans hle1 hz2,by rw[aL,hal];rfl,by rw[aL];exact hown3,λ x hx=>(List.mem_append.1 hx).elim (λ hx=>(hin x hx).mono (hz2)) (λ hx=>by rw[List.mem_singleton.1 hx];exact hyi),.inl ⟨rfl,h4,by rw[List.map_append,List.map_singleton,hyp];exact many_app hlt hms (by rw[im_go hp (show imDb false (l2,0,false)=(ztC,l2,0,false) from rfl),hq2])⟩⟩)
   ·repeat' (first|(refine Zp (css:=[[.int .i64 (p:Nat),.int .i64 0,.slice none 0 0,.slice none 0 0,.int .i64 c2.kind,.slice w2.ra w2.rn w2.rc,.slice w2.ka w2.kn w2.kc]]) (sz:=7) rfl rfl rfl rfl (by simp) (by simp) rfl (λ bs=>?_);simp only[aF,List.flatten_nil,aN])|(refine ZH (ys:=[.int .i64 (p:Nat),.int .i64 0,.slice none 0 0,.slice none 0 0,.int .i64 c2.kind,.slice w2.ra w2.rn w2.rc,.slice w2.ka w2.kn w2.kc]) (m:=1) rfl rfl hown (hR:=by repeat (first|exact Zl|apply Zn)) SrcV.lit rfl rfl (by decide) rfl (by omega) (by omega) rfl (λ v3 sp3 hown3=>?_))|refine zV ?_|intro _)
    obtain⟨y,hy⟩:∃y:Im,(⟨p,Xo,ztC,w2,c2⟩:Im)=y:=⟨_,rfl⟩
    have hyv:[.int .i64 (p:Nat),.int .i64 0,.slice none 0 0,.slice none 0 0,.int .i64 c2.kind,.slice w2.ra w2.rn w2.rc,.slice w2.ka w2.kn w2.kc]=imV y:=by rw[<-hy]
    have hyi:Im.In ρ' y:=by rw[<-hy];exact⟨CI.nil,hc2⟩
    have hyp:y.plain=⟨p,Xo,ztC,Xo,c2⟩:=by rw[<-hy]
    rw[hyv] at hown3 ⊢
    have hm1:(acc.map imV).flatten++imV y=((acc++[y]).map imV).flatten:=by simp
    rw[hm1] at hown3 ⊢
    refine rnG (k+1,ρ',s2,l1,v3,sp3,acc++[y],true) (⟨hlt,Hp.le_trans hle1 hz2,by rw[aL,hal];rfl,by rw[aL];exact hown3,λ x hx=>(List.mem_append.1 hx).elim (λ hx=>(hin x hx).mono (hz2)) (λ hx=>by rw[List.mem_singleton.1 hx];exact hyi),.inr ⟨rfl,XX hlt hms (by rw[im_go hp (show imDb false (l2,0,false)=(ztC,l2,0,false) from rfl)];exact hno3)⟩⟩)
   ·repeat' (first|(refine Zp (css:=[[.int .i64 (0:Nat),.int .i64 0,.slice none 0 0,.slice none 0 0,.int .i64 0,.slice none 0 0,.slice none 0 0]]) (sz:=7) rfl rfl rfl rfl (by simp) (by simp) rfl (λ bs=>?_);simp only[aF,List.flatten_nil,aN])|(refine ZH (ys:=[.int .i64 (0:Nat),.int .i64 0,.slice none 0 0,.slice none 0 0,.int .i64 0,.slice none 0 0,.slice none 0 0]) (m:=1) rfl rfl hown (hR:=by repeat (first|exact Zl|apply Zn)) SrcV.lit rfl rfl (by decide) rfl (by omega) (by omega) rfl (λ v3 sp3 hown3=>?_))|refine zV ?_|intro _)
    obtain⟨y,hy⟩:∃y:Im,(⟨((0:Nat):Int),Xo,ztC,Xo,ztC⟩:Im)=y:=⟨_,rfl⟩
    have hyv:[.int .i64 (0:Nat),.int .i64 0,.slice none 0 0,.slice none 0 0,.int .i64 0,.slice none 0 0,.slice none 0 0]=imV y:=by rw[<-hy]
    have hyi:Im.In ρ' y:=by rw[<-hy];exact⟨CI.nil,CI.nil⟩
    have hyp:y.plain=⟨((0:Nat):Int),Xo,ztC,Xo,ztC⟩:=by rw[<-hy]
    rw[hyv] at hown3 ⊢
    have hm1:(acc.map imV).flatten++imV y=((acc++[y]).map imV).flatten:=by simp
    rw[hm1] at hown3 ⊢
    refine rnG (k+1,ρ',s1,l1,v3,sp3,acc++[y],true) (⟨hlt,hle1,by rw[aL,hal];rfl,by rw[aL];exact hown3,λ x hx=>(List.mem_append.1 hx).elim (λ hx=>(hin x hx).mono (Hp.le_refl _)) (λ hx=>by rw[List.mem_singleton.1 hx];exact hyi),.inr ⟨rfl,XX hlt hms (im_no1 hno1)⟩⟩)
  ·repeat' (first|refine zV ?_|intro _)
   exact qE (L':=[rdB rb s1 true]) (hle:=hle1) ⟨hle1,WY,[],rfl,AS.nil,by simp,.inr ⟨by rw[hmd];exact hbad,_,rfl⟩⟩
 ·have hkn:k=n:=by omega
  repeat' (first|refine zV ?_|intro _)
  refine ZB (Zq (.slice va acc.length vc) ((acc.map imV).flatten) sp 180) (λ ρ3 hle3 hfz=>?_)
  obtain⟨sa,sc,f1,hsc,hA2⟩:=hown.aIn rfl (λ x _=>imV_len x) hfz
  cases f1
  have hin3:∀x∈acc,Im.In ρ3 x:=λ x hx=>(hin x hx).mono hle3
  rcases hor with⟨rfl,h1,hms⟩|⟨rfl,hbad⟩
  ·rw[hkn,Nat.sub_self] at hms
   simp only[ZP,aN] at hms
   exact qE (L':=[rdB rb s1 false]) (hle:=Hp.le_trans hle1 hle3) ⟨Hp.le_trans hle1 hle3,⟨va,acc.length,vc⟩,acc,rfl,hfin _ _ _ _ hA2 (by omega) hsc,hin3,.inl ⟨_,_,hmd.trans hms,h1.mono hle3,rfl⟩⟩
  ·exact qE (L':=[rdB rb s1 true]) (hle:=Hp.le_trans hle1 hle3) ⟨Hp.le_trans hle1 hle3,⟨va,acc.length,vc⟩,acc,rfl,hfin _ _ _ _ hA2 (by omega) hsc,hin3,.inr ⟨by rw[hmd];exact hbad,_,rfl⟩⟩
theorem rpage12_spec (ρ:Hp)(n:Int):Spec prog 175 [.int .i64 n] ρ [] (λ v ρ' L'=>v=.bool (pageOk n)/\ρ'=ρ/\L'=[]):=by
 refine Zb func175 rfl rfl rfl λ u R=>?_
 simp only[Zc,kA]
 repeat' (first|refine zV ?_|(refine zG (λ hb=>?_) (λ hb=>?_)<;>(try simp only[kH,kI] at hb))|intro _)
 all_goals (refine qF (L':=[]) ?_;exact⟨YK (by simp[pageOk];(try omega)),rfl,rfl⟩)
theorem step12_spec (ρ:Hp)(s:Stp)(hf:Ys s.row):Spec prog 176 [.agg ⟨YJ s⟩] ρ [] (λ v ρ' L'=>v=.bool (YR s)/\ρ'=ρ/\L'=[]):=by
 obtain⟨kind,row,bb⟩:=s
 have hck:=WO ρ row
 have ho:=rowV_only row
 unfold YR onlyOk
 dsimp only
 generalize hP:decide (row.val=0/\row.note=[])=P at *
 generalize hQ:Yx row=Q at *
 refine Zb func176 rfl rfl rfl λ u R=>?_
 simp only[Zc,kA]
 cases P<;>cases Q
 all_goals (repeat' (first|(refine iBu ?_;refine tl_y (v:=.agg ⟨Ym ⟨row.t,row.id,0,[]⟩⟩) (VB rfl rfl) rfl rfl ?_)|(refine iCm ?_;refine tl_y (y_eqc_l rfl rfl ho) rfl rfl ?_)|(refine Za (.func 236) ?_;refine qR rfl rfl (hck) ?_;try simp only[kA])|refine zV ?_|(refine zG (λ hb=>?_) (λ hb=>?_)<;>(try simp only[kH,kI] at hb))|intro _))
 all_goals (refine qF (L':=[]) ?_;exact⟨YK (by clear ho hck;(repeat' split)<;>simp_all<;>omega),rfl,rfl⟩)
theorem steps12_spec (ρ:Hp)(s:SV)(l:List Stp)(h:AS ρ 6 YJ s l)(hf:∀x∈l,Ys x.row):Spec prog 104 [.slice s.a s.n s.c] ρ [] (λ v ρ' L'=>v=.bool (decide (0<l.length/\l.length<=2) && l.all YR)/\ρ'=ρ/\L'=[]):=by
 have hl:=h.at'.len
 have hn:=h.big
 have hA:=h.at'
 rw[hl]
 generalize hq:l.all YR=q
 refine Zb func104 rfl rfl rfl λ u R=>?_
 simp only[Zc,kA]
 repeat' (first|refine zV ?_|intro _)
 refine lpG Nat [0,5,6] (λ z=>[(7,.int .i64 z),(2,.bool false)]) (λ z=>ρ) (λ z=>[]) (λ z=>z<=s.n/\(l.drop z).all YR=q) (λ z=>s.n-z) 0 ⟨aZ _,hq⟩ ?_
 rintro k hI
 try simp only[kB] at hI ⊢
 try dsimp only at hI ⊢
 obtain⟨hk,hok⟩:=hI
 by_cases hlt:k<s.n
 ·obtain⟨b,off,C,T,fr,e1,hb,hfit,hc⟩:=hA.get (show k<l.length by omega)
  have hmem:=aM (show k<l.length by omega)
  rw[List.drop_eq_getElem_cons (show k<l.length by omega),List.all_cons] at hok
  generalize l[k]'(by omega)=x at *
  have hst:=step12_spec ρ x (hf x hmem)
  rw[e1]
  cases hx:YR x
  ·rw[hx,Bool.false_and] at hok
   rw[hx] at hst
   subst hok
   rw[Bool.and_false]
   repeat' (first|(refine Za (.func 176) ?_;refine qR rfl rfl (hst) ?_;try simp only[kA])|refine zV ?_|intro _)
   exact qE (L':=[]) ⟨rfl,rfl,rfl⟩
  ·rw[hx,Bool.true_and] at hok
   rw[hx] at hst
   repeat' (first|(refine Za (.func 176) ?_;refine qR rfl rfl (hst) ?_;try simp only[kA])|refine zV ?_|intro _)
   rw[<-e1]
   refine rnG (k+1) (⟨hlt,hok⟩)
 ·have hk2:k=l.length:=by omega
  rw[hk2,List.drop_length,List.all_nil] at hok
  subst hok
  rw[Bool.and_true]
  repeat' (first|refine zV ?_|(refine zG (λ hb=>?_) (λ hb=>?_)<;>(try simp only[kH,kI] at hb))|intro _)
  all_goals (refine qF (L':=[]) ?_;exact⟨YK (by (try simp[*]);first|done|omega|(intros;omega)|(constructor<;>intros<;>(try simp_all)<;>omega)),rfl,rfl⟩)
end Go.Proofs.E
