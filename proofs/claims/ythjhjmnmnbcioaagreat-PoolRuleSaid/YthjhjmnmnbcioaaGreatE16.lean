/- Laws of PoolRule. Part 16 of 26. -/
import Derived.Test.YthjhjmnmnbcioaaGreatE15
set_option linter.unusedVariables false
set_option linter.unusedSimpArgs false
set_option linter.unusedSectionVars false
namespace Go.Proofs.E
open Go Tryz
set_option maxRecDepth 4000
set_option maxHeartbeats 1000000
attribute [local irreducible] Yl TL TC TE Spec YW R1 Hp.le EnvLe TS TR YS Zv TP QP
theorem Wk (ρ:Hp)(n:Int):Spec prog 253 [.int .i64 n] ρ [] (λ v ρ' L'=>v=.bool (decide (0<=n/\n<3))/\ρ'=ρ/\L'=[]):=by
 refine Za func253 rfl rfl rfl λ u R=>?_
 simp only[Zc,kA]
 by_cases h0:0<=n
 ·by_cases h1:n<3
  ·rw[decide_eq_true ⟨h0,h1⟩]
   repeat' (first|refine zW ?_|intro _)
   exact qE ⟨rfl,rfl,rfl⟩
  ·rw[decide_eq_false (λ h=>h1 h.2)]
   repeat' (first|refine zW ?_|intro _)
   exact qE ⟨rfl,rfl,rfl⟩
 ·rw[decide_eq_false (λ h=>h0 h.1)]
  repeat' (first|refine zW ?_|intro _)
  exact qE ⟨rfl,rfl,rfl⟩
theorem WD (ρ:Hp)(t:Int)(id:Nat)(h0:0<=t)(h3:t<3)(hid:id<65536):Spec prog 252 [.agg ⟨Vp t id⟩] ρ [] (λ v ρ' L'=>v=.int .i64 (t*65536+id)/\ρ'=ρ/\L'=[]):=by
 refine Za func252 rfl rfl rfl λ u R=>?_
 simp only[Zc,kA]
 repeat' (first|refine zW ?_|intro _)
 exact qE ⟨rfl,rfl,rfl⟩
theorem order_lt {t1 t2:Int}{i1 i2:Nat}(h1:i1<65536)(h2:i2<65536):Vv t1 i1 t2 i2<0↔t1*65536+i1<t2*65536+i2:=by
 rw[cmpK_lt];omega
theorem rightRow_spec (ρ:Hp)(r:Row):Spec prog 236 [.agg ⟨Yz r⟩] ρ [] (λ v ρ' L'=>v=.bool (Xi r)/\ρ'=ρ/\L'=[]):=by
 obtain⟨t,id,val,note⟩:=r
 refine Za func236 rfl rfl rfl λ u R=>?_
 simp only[Zc,kA,Xi]
 by_cases h1:0<=t/\t<3
 ·have hd:decide (0<=t/\t<3)=true:=decide_eq_true h1
  by_cases h2:note.length<=8
  ·rw[decide_eq_true ⟨h1,h2⟩]
   repeat' (first|(refine Zb (.func 253) ?_;refine qR rfl rfl (Wk _ _) ?_;try simp only[kA,hd])|refine zW ?_|intro _)
   exact qE ⟨rfl,rfl,rfl⟩
  ·rw[decide_eq_false (λ h=>h2 h.2)]
   repeat' (first|(refine Zb (.func 253) ?_;refine qR rfl rfl (Wk _ _) ?_;try simp only[kA,hd])|refine zW ?_|intro _)
   exact qE ⟨rfl,rfl,rfl⟩
 ·have hd:decide (0<=t/\t<3)=false:=decide_eq_false h1
  rw[decide_eq_false (λ h=>h1 h.1)]
  repeat' (first|(refine Zb (.func 253) ?_;refine qR rfl rfl (Wk _ _) ?_;try simp only[kA,hd])|refine zW ?_|intro _)
  exact qE ⟨rfl,rfl,rfl⟩
theorem risesB_split {α:Type}{most:Nat}{right:Nat->α->Bool}{lt:α->α->Bool}{l:List α}:∀k,ZA most right lt l k=(decide (l.length<=most) && ZA l.length right lt l k)
 | 0=>by simp[ZA]
 | k+1=>by rw[ZA,risesB_split k,ZA,Bool.and_assoc]
theorem rowsR_spec (ρ:Hp)(a:Option Addr)(n c:Nat)(l:List Row)(h:AIn ρ 4 Yz a n l)(hn:n<=1000000)(hid:∀r∈l,r.id<65536) :
  Spec prog 211 [.slice a n c] ρ [] (λ v ρ' L'=>v=.bool (rowsOk l)/\ρ'=ρ/\L'=[]):=by
 have hl:=h.len
 unfold rowsOk
 rw[risesB_split,hl]
 refine Za func211 rfl rfl rfl λ u R=>?_
 simp only[Zc,kA]
 generalize hrt:(λ (_:Nat) (r:Row)=>Xi r)=rt
 repeat' (first|refine zW ?_|intro _)
 refine lpG Nat [0,2,5,6] (λ z=>[(7,.int .i64 z)]) (λ z=>ρ) (λ z=>[]) (λ z=>z<=n/\ZA n rt ltR l z=true) (λ z=>n-z) 0 ⟨aZ _,by rw[ZA,hl];exact decide_eq_true (aR _)⟩ ?_
 rintro k hI
 try simp only[kB] at hI ⊢
 try dsimp only at hI ⊢
 obtain⟨hk,hok⟩:=hI
 by_cases hlt:k<n
 ·obtain⟨b,off,C,T,fr,rfl,hb,hfit,hc⟩:=h.get (show k<l.length by omega)
  have hs:=Wj (most:=n) (right:=rt) (lt:=ltR) (show k<l.length by omega)
  rw[hok,Bool.true_and] at hs
  have hrk:rt k (l[k]'(by omega))=Xi (l[k]'(by omega)):=by rw[<-hrt]
  rw[hrk] at hs
  have hfin:=λ (e:ZA n rt ltR l (k+1)=false)=>XX e (show k+1<=n by omega)
  have hmem:l[k]'(by omega)∈l:=aM _
  have hidk:=hid _ hmem
  cases hx:Xi (l[k]'(by omega))
  ·rw[hx,Bool.false_and] at hs
   rw[hfin hs,Bool.and_false]
   generalize l[k]'(by omega)=x at *
   repeat' (first|refine zW ?_|intro _)
   refine tpZ [0] (.e 1 [2,3,4,5,6,7,8,9,10,11,12,14,15] (.e 13 [] (.e 16 [] (.f [17,18,19] .o)))) ?_
   repeat' (refine iT ?_;first|refine rA ?_|(refine rE ?_<;>((try refine ZX ?_);(first|(refine Zb (.func 236) ?_;refine qR rfl rfl (rightRow_spec _ x) ?_;try simp only[kA,hx]))<;>(try simp only[kA])<;>refine zN ?_)))
   repeat' (first|refine zW ?_|intro _)
   exact qE ⟨rfl,rfl,rfl⟩
  ·rw[hx,Bool.true_and] at hs
   by_cases hk0:k=0
   ·have hs':ZA n rt ltR l (k+1)=true:=by rw[hs];simp[hk0]
    generalize l[k]'(by omega)=x at *
    repeat' (first|refine zW ?_|intro _)
    refine tpZ [0] (.e 1 [2,3,4,5,6,7,8,9,10,11,12,14,15] (.e 13 [] (.e 16 [] (.f [17,18,19] .o)))) ?_
    repeat' (refine iT ?_;first|refine rA ?_|(refine rE ?_<;>((try refine ZX ?_);(first|(refine Zb (.func 236) ?_;refine qR rfl rfl (rightRow_spec _ x) ?_;try simp only[kA,hx]))<;>(try simp only[kA])<;>refine zN ?_)))
    repeat' (first|refine zW ?_|intro _)
    refine rnG (k+1) (⟨hlt,hs'⟩)
   ·have hd:decide (k=0)=false:=decide_eq_false hk0
    rw[hd,Bool.false_or] at hs
    obtain⟨b2,off2,C2,T2,fr2,f1,hb2,hfit2,hc2⟩:=h.get (show k-1<l.length by omega)
    cases f1
    rw[hb] at hb2
    cases hb2
    have ek:((k:Int)-1).toNat=k-1:=by omega
    have hkey:List.take 2 (List.drop (off+((k:Int)-1).toNat*4) C)=Vp (l[k-1]'(by omega)).t (l[k-1]'(by omega)).id:=by
     rw[ek]
     have:=congrArg (List.take 2) hc2
     rw[List.take_take] at this
     exact this
    have hfit3:off+((k:Int)-1).toNat*4+2<=C.length:=by rw[ek];omega
    obtain⟨g1,g2⟩:=Vj hok (by omega)
    have hrp:=(g2 (k-1) (by omega) (by omega)).1
    have hrk1:rt (k-1) (l[k-1]'(by omega))=Xi (l[k-1]'(by omega)):=by rw[<-hrt]
    rw[hrk1] at hrp
    have hidp:=hid _ (aM (show k-1<l.length by omega))
    clear hc2 hfit2 hrk hrk1
    generalize l[k]'(by omega)=x at *
    generalize l[k-1]'(by omega)=y at *
    obtain⟨y0,y3,_⟩:=rowOk_iff hrp
    obtain⟨x0,x3,_⟩:=rowOk_iff hx
    have hor:=order_lt (t1:=y.t) (t2:=x.t) hidp hidk
    unfold ltR at hs
    by_cases hcm:Vv y.t y.id x.t x.id<0
    ·rw[decide_eq_true hcm] at hs
     have hcm2:=hor.1 hcm
     repeat' (first|refine zW ?_|intro _)
     refine tpZ [0] (.e 1 [2,3,4,5,6,7,8,9,10,11,12,14,15] (.e 13 [] (.e 16 [] (.f [17,18,19] .o)))) ?_
     repeat' (refine iT ?_;first|refine rA ?_|(refine rE ?_<;>((try refine ZX ?_);(first|(refine Zb (.func 236) ?_;refine qR rfl rfl (rightRow_spec _ x) ?_;try simp only[kA,hx])|(refine Zb (.func 252) ?_;refine qR rfl rfl (WD _ y.t y.id y0 y3 hidp) ?_;try simp only[kA])|(refine Zb (.func 252) ?_;refine qR rfl rfl (WD _ x.t x.id x0 x3 hidk) ?_;try simp only[kA]))<;>(try simp only[kA])<;>refine zN ?_)))
     all_goals (repeat' (first|refine zW ?_|intro _))
     all_goals refine rnG (k+1) (⟨hlt,hs⟩)
    ·rw[decide_eq_false hcm] at hs
     rw[hfin hs,Bool.and_false]
     have hcm2:¬(y.t*65536+y.id<x.t*65536+x.id):=λ h=>hcm (hor.2 h)
     repeat' (first|refine zW ?_|intro _)
     refine tpZ [0] (.e 1 [2,3,4,5,6,7,8,9,10,11,12,14,15] (.e 13 [] (.e 16 [] (.f [17,18,19] .o)))) ?_
     repeat' (refine iT ?_;first|refine rA ?_|(refine rE ?_<;>((try refine ZX ?_);(first|(refine Zb (.func 236) ?_;refine qR rfl rfl (rightRow_spec _ x) ?_;try simp only[kA,hx])|(refine Zb (.func 252) ?_;refine qR rfl rfl (WD _ y.t y.id y0 y3 hidp) ?_;try simp only[kA])|(refine Zb (.func 252) ?_;refine qR rfl rfl (WD _ x.t x.id x0 x3 hidk) ?_;try simp only[kA]))<;>(try simp only[kA])<;>refine zN ?_)))
     all_goals (repeat' (first|refine zW ?_|intro _))
     all_goals exact qE ⟨rfl,rfl,rfl⟩
 ·have hk2:k=n:=by omega
  subst hk2
  rw[hok,Bool.and_true]
  by_cases h4:k<=4
  ·rw[decide_eq_true h4]
   repeat' (first|refine zW ?_|intro _)
   exact qE ⟨rfl,rfl,rfl⟩
  ·rw[decide_eq_false h4]
   repeat' (first|refine zW ?_|intro _)
   exact qE ⟨rfl,rfl,rfl⟩
theorem psTo_mem {l:List Kid}{k:Nat}{p:Int}:p∈psTo l k↔∃x∈l.take k,x.page=p:=by simp only[psTo,List.mem_reverse,List.mem_map]
theorem kidsR_spec (ρ:Hp)(a:Option Addr)(n c:Nat)(l:List Kid)(h:AIn ρ 3 XD a n l)(hn:n<=1000000)(hnc:n<=c)(hid:∀r∈l,r.id<65536) :
  Spec prog 212 [.slice a n c] ρ [] (λ v ρ' L'=>v=.bool (decide (1<n) && kidsOk l)/\ρ'=ρ/\L'=[]):=by
 have hl:=h.len
 unfold kidsOk
 rw[risesB_split,hl]
 refine Za func212 rfl rfl rfl λ u R=>?_
 simp only[Zc,kA]
 generalize hrt:(λ (i:Nat) (k:Kid)=>kidOk i (psTo l i) k)=rt
 repeat' (first|refine zW ?_|intro _)
 refine lpG Nat [0,2,7,8] (λ z=>[(9,.int .i64 z)]) (λ z=>ρ) (λ z=>[]) (λ z=>z<=n/\ZA n rt ltK l z=true) (λ z=>n-z) 0 ⟨aZ _,by rw[ZA,hl];exact decide_eq_true (aR _)⟩ ?_
 rintro k hI
 try simp only[kB] at hI ⊢
 try dsimp only at hI ⊢
 obtain⟨hk,hok⟩:=hI
 by_cases hlt:k<n
 ·have hsub:=h.take (hi':=k) (by omega)
  obtain⟨b,off,C,T,fr,rfl,hb,hfit,hc⟩:=h.get (show k<l.length by omega)
  have hs:=Wj (most:=n) (right:=rt) (lt:=ltK) (show k<l.length by omega)
  rw[hok,Bool.true_and] at hs
  have hrk:rt k (l[k]'(by omega))=kidOk k (psTo l k) (l[k]'(by omega)):=by rw[<-hrt]
  rw[hrk] at hs
  have hfin:=λ (e:ZA n rt ltK l (k+1)=false)=>XX e (show k+1<=n by omega)
  have hmem:l[k]'(by omega)∈l:=aM _
  have hidk:=hid _ hmem
  have hx:∀P:Prop,(kidOk k (psTo l k) (l[k]'(by omega))=true->P)->¬P->(decide (1<n) && (decide (n<=4) && ZA n rt ltK l n))=false:=λ P h1 h2=>by
   have:kidOk k (psTo l k) (l[k]'(by omega))=false:=by
    cases e:kidOk k (psTo l k) (l[k]'(by omega))
    ·rfl
    ·exact absurd (h1 e) h2
   rw[this,Bool.false_and] at hs
   rw[hfin hs];simp
  have hkx:kidOk k (psTo l k) (l[k]'(by omega))=true->(l[k]'(by omega)).page ∉ psTo l k/\0<(l[k]'(by omega)).page/\(l[k]'(by omega)).page<64/\(0<=(l[k]'(by omega)).t/\(l[k]'(by omega)).t<3)/\(0<k\/((l[k]'(by omega)).t=0/\(l[k]'(by omega)).id=0)):=λ e=>of_decide_eq_true e
  generalize hX:l[k]'(by omega)=x at *
  by_cases p0:0<x.page
  ·by_cases p6:x.page<64
   ·by_cases ht:0<=x.t/\x.t<3
    ·have hd:decide (0<=x.t/\x.t<3)=true:=decide_eq_true ht
     by_cases hk0:k=0
     ·by_cases hz:x.t=0/\x.id=0
      ·have hkk:((x.t == 0) && (((x.id:Int) == 0) && true))=true:=by simp[hz.1,hz.2]
       repeat' (first|refine zW ?_|intro _)
       rename_i b4
       refine tpZ [0,1,2,3,4,5,6,7,8,9,10,11] (.e 12 [13,14,15,16,17,18,19,20,21,22,23,24,25,26,27,28,29,30,31,32,33,34,36,37] (.e 35 [] (.e 38 [] (.f [39,40,41] .o)))) ?_
       repeat' (refine iT ?_;first|refine rA ?_|(refine rE ?_<;>((try refine ZX ?_);(first|(refine Zb (.func 253) ?_;refine qC rfl rfl (Wk _ _) ?_;rintro v ρ' L' hle ⟨rfl,rfl,rfl⟩<;>(try simp only[kA,hd])))<;>(try simp only[kA])<;>refine zN ?_)))
       repeat' (first|refine zW ?_|intro _)
       simp only[Int.toNat_natCast]
       refine lpG Nat [0,2,4,7,8,9,58,59] (λ z=>[(60,.int .i64 z)]) (λ z=>ρ') (λ z=>[[(b4,.cells ⟨XD x⟩ 227 (0,0))]]) (λ z=>z<=k/\∀y∈l.take z,y.page≠x.page) (λ z=>k-z) 0 ⟨aZ _,by simp⟩ ?_
       rintro j hI
       try simp only[kB] at hI ⊢
       try dsimp only at hI ⊢
       obtain⟨hj,hjo⟩:=hI
       by_cases hjk:j<k
       ·exact absurd hjk (by omega)
       ·have hj2:j=k:=by omega
        subst hj2
        have hke:kidOk j (psTo l j) x=true:=decide_eq_true ⟨λ e=>by obtain⟨y,hy,he⟩:=psTo_mem.1 e;exact hjo y hy he,p0,p6,ht,.inr hz⟩
        rw[hke,Bool.true_and] at hs
        have hs':ZA n rt ltK l (j+1)=true:=by rw[hs];simp[hk0]
        repeat' (first|refine zW ?_|intro _)
        refine rnG (j+1) (⟨hlt,hs'⟩)
      ·have hkk:((x.t == 0) && (((x.id:Int) == 0) && true))=false:=by
        simp;intro h;exact λ h'=>hz ⟨h,by omega⟩
       rw[hx (0<k\/(x.t=0/\x.id=0)) (λ e=>(hkx e).2.2.2.2) (λ e=>e.elim (by omega) hz)]
       repeat' (first|refine zW ?_|intro _)
       refine tpZ [0,1,2,3,4,5,6,7,8,9,10,11] (.e 12 [13,14,15,16,17,18,19,20,21,22,23,24,25,26,27,28,29,30,31,32,33,34,36,37] (.e 35 [] (.e 38 [] (.f [39,40,41] .o)))) ?_
       repeat' (refine iT ?_;first|refine rA ?_|(refine rE ?_<;>((try refine ZX ?_);(first|(refine Zb (.func 253) ?_;refine qC rfl rfl (Wk _ _) ?_;rintro v ρ' L' hle ⟨rfl,rfl,rfl⟩<;>(try simp only[kA,hd])))<;>(try simp only[kA])<;>refine zN ?_)))
       repeat' (first|refine zW ?_|intro _)
       exact qE ⟨rfl,rfl,rfl⟩
     ·have hdk:decide (k=0)=false:=decide_eq_false hk0
      rw[hdk,Bool.false_or] at hs
      obtain⟨b2,off2,C2,T2,fr2,f1,hb2,hfit2,hc2⟩:=h.get (show k-1<l.length by omega)
      cases f1
      rw[hb] at hb2
      cases hb2
      have ek:((k:Int)-1).toNat=k-1:=by omega
      have hkey:List.take 2 (List.drop (off+((k:Int)-1).toNat*3) C)=Vp (l[k-1]'(by omega)).t (l[k-1]'(by omega)).id:=by
       rw[ek]
       have:=congrArg (List.take 2) hc2
       rw[List.take_take] at this
       exact this
      have hfit3:off+((k:Int)-1).toNat*3+2<=C.length:=by rw[ek];omega
      obtain⟨g1,g2⟩:=Vj hok (by omega)
      have hrp:=(g2 (k-1) (by omega) (by omega)).1
      have hrk1:rt (k-1) (l[k-1]'(by omega))=kidOk (k-1) (psTo l (k-1)) (l[k-1]'(by omega)):=by rw[<-hrt]
      rw[hrk1] at hrp
      have hrt2:=(of_decide_eq_true hrp).2.2.2.1
      have hidp:=hid _ (aM (show k-1<l.length by omega))
      clear hc2 hfit2 hrk hrk1 hrp
      generalize l[k-1]'(by omega)=y at *
      have hor:=order_lt (t1:=y.t) (t2:=x.t) hidp hidk
      unfold ltK at hs
      by_cases hcm:Vv y.t y.id x.t x.id<0
      ·rw[decide_eq_true hcm] at hs
       have hcm2:=hor.1 hcm
       repeat' (first|refine zW ?_|intro _)
       rename_i b4
       refine tpZ [0,1,2,3,4,5,6,7,8,9,10,11] (.e 12 [13,14,15,16,17,18,19,20,21,22,23,24,25,26,27,28,29,30,31,32,33,34,36,37] (.e 35 [] (.e 38 [] (.f [39,40,41] .o)))) ?_
       repeat' (refine iT ?_;first|refine rA ?_|(refine rE ?_<;>((try refine ZX ?_);(first|(refine Zb (.func 253) ?_;refine qC rfl rfl (Wk _ _) ?_;rintro v ρ' L' hle ⟨rfl,rfl,rfl⟩<;>(try simp only[kA,hd]))|(refine Zb (.func 252) ?_;refine qC rfl rfl (WD _ y.t y.id hrt2.1 hrt2.2 hidp) ?_;rintro v ρ' L' hle ⟨rfl,rfl,rfl⟩<;>(try simp only[kA]))|(refine Zb (.func 252) ?_;refine qC rfl rfl (WD _ x.t x.id ht.1 ht.2 hidk) ?_;rintro v ρ' L' hle ⟨rfl,rfl,rfl⟩<;>(try simp only[kA])))<;>(try simp only[kA])<;>refine zN ?_)))
       repeat' (first|refine zW ?_|intro _)
       simp only[Int.toNat_natCast]
       refine lpG Nat [0,2,4,7,8,9,58,59] (λ z=>[(60,.int .i64 z)]) (λ z=>ρ') (λ z=>[[(b4,.cells ⟨XD x⟩ 227 (0,0))]]) (λ z=>z<=k/\∀y∈l.take z,y.page≠x.page) (λ z=>k-z) 0 ⟨aZ _,by simp⟩ ?_
       rintro j hI
       try simp only[kB] at hI ⊢
       try dsimp only at hI ⊢
       obtain⟨hj,hjo⟩:=hI
       by_cases hjk:j<k
       ·obtain⟨b3,off3,C3,T3,fr3,f3,hb3,hfit3,hc3⟩:=h.get (show j<l.length by omega)
        cases f3
        rw[hb] at hb3
        cases hb3
        have htj:=aG (show j<l.length by omega)
        have hjm:l[j]'(by omega)∈l.take k:=by
         rw[List.mem_take_iff_getElem]
         exact⟨j,by omega,rfl⟩
        generalize hZ:l[j]'(by omega)=z at *
        by_cases hp:z.page=x.page
        ·rw[hx (x.page ∉ psTo l k) (λ e=>(hkx e).1) (λ e=>e (psTo_mem.2 ⟨z,hjm,hp⟩))]
         repeat' (first|refine zW ?_|intro _)
         exact qE ⟨rfl,rfl,rfl⟩
        ·have hjn:∀y∈l.take (j+1),y.page≠x.page:=by
           intro y hy
           rw[htj] at hy
           rcases List.mem_append.1 hy with hy|hy
           ·exact hjo y hy
           ·rw[List.mem_singleton.1 hy];exact hp
         repeat' (first|refine zW ?_|intro _)
         refine rnG (j+1) (⟨hjk,hjn⟩)
       ·have hj2:j=k:=by omega
        subst hj2
        have hke:kidOk j (psTo l j) x=true:=decide_eq_true ⟨λ e=>by obtain⟨y,hy,he⟩:=psTo_mem.1 e;exact hjo y hy he,p0,p6,ht,.inl (by omega)⟩
        rw[hke,Bool.true_and] at hs
        have hs':ZA n rt ltK l (j+1)=true:=hs
        repeat' (first|refine zW ?_|intro _)
        refine rnG (j+1) (⟨hlt,hs'⟩)
      ·rw[decide_eq_false hcm,Bool.and_false] at hs
       have hcm2:¬(y.t*65536+y.id<x.t*65536+x.id):=λ h=>hcm (hor.2 h)
       rw[hfin hs]
       simp only[Bool.and_false]
       repeat' (first|refine zW ?_|intro _)
       refine tpZ [0,1,2,3,4,5,6,7,8,9,10,11] (.e 12 [13,14,15,16,17,18,19,20,21,22,23,24,25,26,27,28,29,30,31,32,33,34,36,37] (.e 35 [] (.e 38 [] (.f [39,40,41] .o)))) ?_
       repeat' (refine iT ?_;first|refine rA ?_|(refine rE ?_<;>((try refine ZX ?_);(first|(refine Zb (.func 253) ?_;refine qC rfl rfl (Wk _ _) ?_;rintro v ρ' L' hle ⟨rfl,rfl,rfl⟩<;>(try simp only[kA,hd]))|(refine Zb (.func 252) ?_;refine qC rfl rfl (WD _ y.t y.id hrt2.1 hrt2.2 hidp) ?_;rintro v ρ' L' hle ⟨rfl,rfl,rfl⟩<;>(try simp only[kA]))|(refine Zb (.func 252) ?_;refine qC rfl rfl (WD _ x.t x.id ht.1 ht.2 hidk) ?_;rintro v ρ' L' hle ⟨rfl,rfl,rfl⟩<;>(try simp only[kA])))<;>(try simp only[kA])<;>refine zN ?_)))
       repeat' (first|refine zW ?_|intro _)
       exact qE ⟨rfl,rfl,rfl⟩
    ·have hd:decide (0<=x.t/\x.t<3)=false:=decide_eq_false ht
     rw[hx (0<=x.t/\x.t<3) (λ e=>(hkx e).2.2.2.1) ht]
     repeat' (first|refine zW ?_|intro _)
     refine tpZ [0,1,2,3,4,5,6,7,8,9,10,11] (.e 12 [13,14,15,16,17,18,19,20,21,22,23,24,25,26,27,28,29,30,31,32,33,34,36,37] (.e 35 [] (.e 38 [] (.f [39,40,41] .o)))) ?_
     repeat' (refine iT ?_;first|refine rA ?_|(refine rE ?_<;>((try refine ZX ?_);(first|(refine Zb (.func 253) ?_;refine qC rfl rfl (Wk _ _) ?_;rintro v ρ' L' hle ⟨rfl,rfl,rfl⟩<;>(try simp only[kA,hd])))<;>(try simp only[kA])<;>refine zN ?_)))
     repeat' (first|refine zW ?_|intro _)
     exact qE ⟨rfl,rfl,rfl⟩
   ·rw[hx (x.page<64) (λ e=>(hkx e).2.2.1) p6]
    repeat' (first|refine zW ?_|intro _)
    refine tpZ [0,1,2,3,4,5,6,7,8,9,10,11] (.e 12 [13,14,15,16,17,18,19,20,21,22,23,24,25,26,27,28,29,30,31,32,33,34,36,37] (.e 35 [] (.e 38 [] (.f [39,40,41] .o)))) ?_
    repeat' (refine iT ?_;first|refine rA ?_|(refine rE ?_<;>((try refine ZX ?_);(first|refine qEf ?_)<;>(try simp only[kA])<;>refine zN ?_)))
    repeat' (first|refine zW ?_|intro _)
    exact qE ⟨rfl,rfl,rfl⟩
  ·rw[hx (0<x.page) (λ e=>(hkx e).2.1) p0]
   repeat' (first|refine zW ?_|intro _)
   refine tpZ [0,1,2,3,4,5,6,7,8,9,10,11] (.e 12 [13,14,15,16,17,18,19,20,21,22,23,24,25,26,27,28,29,30,31,32,33,34,36,37] (.e 35 [] (.e 38 [] (.f [39,40,41] .o)))) ?_
   repeat' (refine iT ?_;first|refine rA ?_|(refine rE ?_<;>((try refine ZX ?_);(first|refine qEf ?_)<;>(try simp only[kA])<;>refine zN ?_)))
   repeat' (first|refine zW ?_|intro _)
   exact qE ⟨rfl,rfl,rfl⟩
 ·have hk2:k=n:=by omega
  subst hk2
  rw[hok,Bool.and_true]
  by_cases h2:1<k
  ·by_cases h4:k<=4
   ·rw[decide_eq_true h4,decide_eq_true h2]
    repeat' (first|refine zW ?_|intro _)
    exact qE ⟨rfl,rfl,rfl⟩
   ·rw[decide_eq_false h4,Bool.and_false]
    repeat' (first|refine zW ?_|intro _)
    exact qE ⟨rfl,rfl,rfl⟩
  ·rw[decide_eq_false h2,Bool.false_and]
   repeat' (first|refine zW ?_|intro _)
   exact qE ⟨rfl,rfl,rfl⟩
theorem right_spec (ρ:Hp)(v:CV)(c:ZO)(h:CIn ρ v c.rows c.kids)(hir:∀r∈c.rows,r.id<65536)(hik:∀k∈c.kids,k.id<65536):Spec prog 147 [.agg ⟨Yv c.kind v⟩] ρ [] (λ r ρ' L'=>r=.bool (Zp c)/\ρ'=ρ/\L'=[]):=by
 obtain⟨kind,rows,kids⟩:=c
 obtain⟨ra,rn,rc,ka,kn,kc⟩:=v
 obtain⟨hr,hk,hrb,hkb,hrc,hkc⟩:=h
 dsimp only at hr hk hrb hkb hrc hkc hir hik
 have hrl:=hr.len
 have hkl:=hk.len
 have hrs:=rowsR_spec ρ ra rn rc rows hr hrb hir
 have hks:=kidsR_spec ρ ka kn kc kids hk hkb hkc hik
 generalize hq:Zp ⟨kind,rows,kids⟩=q
 unfold Zp at hq
 simp only[hrl,hkl] at hq
 refine Za func147 rfl rfl rfl λ u R=>?_
 simp only[Zc,kA]
 by_cases k0:kind=0
 ·rw[if_pos k0] at hq
  by_cases hz:rn=0
  ·by_cases hz2:kn=0
   ·rw[decide_eq_true (show rn+kn=0 by omega)] at hq
    subst hq
    repeat' (first|refine zW ?_|intro _)
    exact qE ⟨rfl,rfl,rfl⟩
   ·rw[decide_eq_false (show ¬rn+kn=0 by omega)] at hq
    subst hq
    repeat' (first|refine zW ?_|intro _)
    exact qE ⟨rfl,rfl,rfl⟩
  ·rw[decide_eq_false (show ¬rn+kn=0 by omega)] at hq
   subst hq
   repeat' (first|refine zW ?_|intro _)
   exact qE ⟨rfl,rfl,rfl⟩
 ·rw[if_neg k0] at hq
  by_cases k1:kind=1
  ·rw[if_pos k1] at hq
   by_cases hz:kn=0
   ·rw[decide_eq_true hz,Bool.true_and] at hq
    rw[hq] at hrs
    repeat' (first|(refine Zb (.func 211) ?_;refine qR rfl rfl (hrs) ?_;try simp only[kA])|refine zW ?_|intro _)
    exact qE ⟨rfl,rfl,rfl⟩
   ·rw[decide_eq_false hz,Bool.false_and] at hq
    subst hq
    repeat' (first|refine zW ?_|intro _)
    exact qE ⟨rfl,rfl,rfl⟩
  ·rw[if_neg k1] at hq
   by_cases k2:kind=2
   ·rw[if_pos k2] at hq
    by_cases hz:rn=0
    ·rw[decide_eq_true hz,Bool.true_and] at hq
     rw[hq] at hks
     repeat' (first|(refine Zb (.func 212) ?_;refine qR rfl rfl (hks) ?_;try simp only[kA])|refine zW ?_|intro _)
     exact qE ⟨rfl,rfl,rfl⟩
    ·rw[decide_eq_false hz,Bool.false_and] at hq
     subst hq
     repeat' (first|refine zW ?_|intro _)
     exact qE ⟨rfl,rfl,rfl⟩
   ·rw[if_neg k2] at hq
    subst hq
    repeat' (first|refine zW ?_|intro _)
    exact qE ⟨rfl,rfl,rfl⟩
theorem sameR_spec (ρ:Hp)(w w':CV)(c d:ZO)(h:CIn ρ w c.rows c.kids)(h':CIn ρ w' d.rows d.kids) :
  Spec prog 81 [.agg ⟨Yv c.kind w⟩,.agg ⟨Yv d.kind w'⟩] ρ [] (λ v ρ' L'=>v=.bool (decide (c=d))/\ρ'=ρ/\L'=[]):=by
 obtain⟨kind,rows,kids⟩:=c
 obtain⟨kind',rows',kids'⟩:=d
 obtain⟨ra,rn,rc,ka,kn,kc⟩:=w
 obtain⟨ra',rn',rc',ka',kn',kc'⟩:=w'
 obtain⟨hr,hk,hrb,hkb,hrc,hkc⟩:=h
 obtain⟨hr',hk',hrb',hkb',hrc',hkc'⟩:=h'
 dsimp only at hrc hkc hr hk hrb hkb hrc' hkc' hr' hk' hrb' hkb' ⊢
 have hrn:=hr.len
 have hkn:=hk.len
 have hrn':=hr'.len
 have hkn':=hk'.len
 simp only[ZO.mk.injEq]
 refine Za func81 rfl rfl rfl λ u R=>?_
 simp only[Zc,kA,Yv]
 by_cases h1:kind=kind'
 ·by_cases h2:rn=rn'
  ·by_cases h3:kn=kn'
   ·subst h1;subst h2;subst h3
    repeat' (first|refine zW ?_|intro _)
    rename_i b1 b2
    refine lpG Nat [2,3,4,32] (λ z=>[(33,.int .i64 z)]) (λ z=>ρ) (λ z=>[[(b2,.cells ⟨[.int .i64 kind,.slice ra' rn rc',.slice ka' kn kc']⟩ 88 (0,0))],[(b1,.cells ⟨[.int .i64 kind,.slice ra rn rc,.slice ka kn kc]⟩ 88 (0,0))]]) (λ z=>z<=rn/\rows.take z=rows'.take z) (λ z=>rn-z) 0 ⟨aZ _,rfl⟩ ?_
    rintro k hI
    try simp only[kB] at hI ⊢
    try dsimp only at hI ⊢
    obtain⟨hk0,hpre⟩:=hI
    by_cases hlt:k<rn
    ·obtain⟨b,off,C,T,fr,rfl,hb,hfit,hc⟩:=hr.get (show k<rows.length by omega)
     obtain⟨b',off',C',T',fr',rfl,hb',hfit',hc'⟩:=hr'.get (show k<rows'.length by omega)
     have ht1:=aG (show k<rows.length by omega)
     have ht2:=aG (show k<rows'.length by omega)
     have hf:rows=rows'->rows[k]'(by omega)=rows'[k]'(by omega):=λ e=>by subst e;rfl
     generalize rows[k]'(by omega)=x at *
     generalize rows'[k]'(by omega)=y at *
     by_cases he:x=y
     ·have hd:decide (x=y)=true:=decide_eq_true he
      repeat' (first|refine zW ?_|intro _)
      refine Yt [0] (.f [1,2,3,4,5,6,7,8,9,10] .o) ([[(b2,.cells ⟨[.int .i64 kind,.slice (some ⟨b',off',none⟩) rn rc',.slice ka' kn kc']⟩ 88 (0,0))],[(b1,.cells ⟨[.int .i64 kind,.slice (some ⟨b,off,none⟩) rn rc,.slice ka kn kc]⟩ 88 (0,0))]]) ?_
      repeat' (refine iT ?_;first|refine rA ?_)
      repeat' (first|refine zW ?_|intro _)
      refine rnG (k+1) (⟨hlt,by rw[ht1,ht2,hpre,he]⟩)
     ·have hd:decide (x=y)=false:=decide_eq_false he
      rw[decide_eq_false (λ e=>he (hf e.2.1))]
      repeat' (first|refine zW ?_|intro _)
      refine Yt [0] (.f [1,2,3,4,5,6,7,8,9,10] .o) ([[(b2,.cells ⟨[.int .i64 kind,.slice (some ⟨b',off',none⟩) rn rc',.slice ka' kn kc']⟩ 88 (0,0))],[(b1,.cells ⟨[.int .i64 kind,.slice (some ⟨b,off,none⟩) rn rc,.slice ka kn kc]⟩ 88 (0,0))]]) ?_
      repeat' (refine iT ?_;first|refine rA ?_)
      repeat' (first|refine zW ?_|intro _)
      exact qE ⟨rfl,rfl,rfl⟩
    ·have hk2:k=rn:=by omega
     subst hk2
     rw[aT (by omega),aT (by omega)] at hpre
     subst hpre
     repeat' (first|refine zW ?_|intro _)
     refine lpG Nat [2,3,4,50] (λ z=>[(51,.int .i64 z)]) (λ z=>ρ) (λ z=>[[(b2,.cells ⟨[.int .i64 kind,.slice ra' k rc',.slice ka' kn kc']⟩ 88 (0,0))],[(b1,.cells ⟨[.int .i64 kind,.slice ra k rc,.slice ka kn kc]⟩ 88 (0,0))]]) (λ z=>z<=kn/\kids.take z=kids'.take z) (λ z=>kn-z) 0 ⟨aZ _,rfl⟩ ?_
     rintro j hI
     try simp only[kB] at hI ⊢
     try dsimp only at hI ⊢
     obtain⟨hj0,hpre⟩:=hI
     by_cases hlj:j<kn
     ·obtain⟨b,off,C,T,fr,rfl,hb,hfit,hc⟩:=hk.get (show j<kids.length by omega)
      obtain⟨b',off',C',T',fr',rfl,hb',hfit',hc'⟩:=hk'.get (show j<kids'.length by omega)
      have ht1:=aG (show j<kids.length by omega)
      have ht2:=aG (show j<kids'.length by omega)
      have hf:kids=kids'->kids[j]'(by omega)=kids'[j]'(by omega):=λ e=>by subst e;rfl
      generalize kids[j]'(by omega)=x at *
      generalize kids'[j]'(by omega)=y at *
      by_cases he:x=y
      ·have hd:decide (x=y)=true:=decide_eq_true he
       repeat' (first|refine zW ?_|intro _)
       refine Yt [0] (.f [1,2,3,4,5,6,7,8,9,10] .o) ([[(b2,.cells ⟨[.int .i64 kind,.slice ra' k rc',.slice (some ⟨b',off',none⟩) kn kc']⟩ 88 (0,0))],[(b1,.cells ⟨[.int .i64 kind,.slice ra k rc,.slice (some ⟨b,off,none⟩) kn kc]⟩ 88 (0,0))]]) ?_
       repeat' (refine iT ?_;first|refine rA ?_)
       repeat' (first|refine zW ?_|intro _)
       refine rnG (j+1) (⟨hlj,by rw[ht1,ht2,hpre,he]⟩)
      ·have hd:decide (x=y)=false:=decide_eq_false he
       rw[decide_eq_false (λ e=>he (hf e.2.2))]
       repeat' (first|refine zW ?_|intro _)
       refine Yt [0] (.f [1,2,3,4,5,6,7,8,9,10] .o) ([[(b2,.cells ⟨[.int .i64 kind,.slice ra' k rc',.slice (some ⟨b',off',none⟩) kn kc']⟩ 88 (0,0))],[(b1,.cells ⟨[.int .i64 kind,.slice ra k rc,.slice (some ⟨b,off,none⟩) kn kc]⟩ 88 (0,0))]]) ?_
       repeat' (refine iT ?_;first|refine rA ?_)
       repeat' (first|refine zW ?_|intro _)
       exact qE ⟨rfl,rfl,rfl⟩
     ·have hj2:j=kn:=by omega
      subst hj2
      rw[aT (by omega),aT (by omega)] at hpre
      subst hpre
      rw[decide_eq_true ⟨trivial,trivial,rfl⟩]
      repeat' (first|refine zW ?_|intro _)
      exact qE ⟨rfl,rfl,rfl⟩
   ·rw[decide_eq_false (λ e=>h3 (by rw[<-hkn,<-hkn',e.2.2]))]
    repeat' (first|refine zW ?_|intro _)
    exact qE ⟨rfl,rfl,rfl⟩
  ·rw[decide_eq_false (λ e=>h2 (by rw[<-hrn,<-hrn',e.2.1]))]
   repeat' (first|refine zW ?_|intro _)
   exact qE ⟨rfl,rfl,rfl⟩
 ·rw[decide_eq_false (λ e=>h1 e.1)]
  repeat' (first|refine zW ?_|intro _)
  exact qE ⟨rfl,rfl,rfl⟩
instance (priority:=1200) eqKey {t1 t2:Int}{i1 i2:Nat}:EqC prog 8 169 (.agg ⟨Vp t1 i1⟩) (.agg ⟨Vp t2 i2⟩) (decide (t1=t2/\i1=i2)):=by
 have h:EqC prog 8 169 (.agg ⟨[.int .i64 t1,.int .u16 i1]⟩) (.agg ⟨[.int .i64 t2,.int .u16 i2]⟩) _:=inferInstance
 refine⟨λ d w hd=>?_⟩
 rw[h.out d w hd]
 congr 1
 have e:((i1:Int) == (i2:Int))=decide (i1=i2):=by
  by_cases h:i1=i2
  ·subst h;simp
  ·rw[decide_eq_false h];simp only[beq_eq_false_iff_ne,ne_eq];omega
 simp only[e]
 by_cases h1:t1=t2<;>by_cases h2:i1=i2<;>simp[h1,h2]
theorem WN (ρ:Hp)(t1:Int)(i1:Nat)(t2:Int)(i2:Nat):Spec prog 286 [.agg ⟨Vp t1 i1⟩,.agg ⟨Vp t2 i2⟩] ρ [] (λ v ρ' L'=>v=.int .i64 (Vv t1 i1 t2 i2)/\ρ'=ρ/\L'=[]):=by
 refine Za func286 rfl rfl rfl λ u R=>?_
 simp only[Zc,kA]
 by_cases he:t1=t2/\i1=i2
 ·have hd:decide (t1=t2/\i1=i2)=true:=decide_eq_true he
  rw[show Vv t1 i1 t2 i2=0 by unfold Vv cmpI;rw[he.1,he.2];simp]
  repeat' (first|refine zV ?_|intro _)
  exact qE ⟨rfl,rfl,rfl⟩
 ·have hd:decide (t1=t2/\i1=i2)=false:=decide_eq_false he
  by_cases h1:t1<t2
  ·rw[show Vv t1 i1 t2 i2=-1 by unfold Vv cmpI;(repeat' split)<;>omega]
   repeat' (first|refine zV ?_|intro _)
   exact qE ⟨rfl,rfl,rfl⟩
  ·by_cases h2:t1=t2
   ·by_cases h3:i1<i2
    ·rw[show Vv t1 i1 t2 i2=-1 by unfold Vv cmpI;(repeat' split)<;>omega]
     repeat' (first|refine zV ?_|intro _)
     exact qE ⟨rfl,rfl,rfl⟩
    ·rw[show Vv t1 i1 t2 i2=1 by unfold Vv cmpI;(repeat' split)<;>omega]
     repeat' (first|refine zV ?_|intro _)
     exact qE ⟨rfl,rfl,rfl⟩
   ·rw[show Vv t1 i1 t2 i2=1 by unfold Vv cmpI;(repeat' split)<;>omega]
    repeat' (first|refine zV ?_|intro _)
    exact qE ⟨rfl,rfl,rfl⟩
def nxK (b:Bd):Key:=b.nx.getD (0,0)
abbrev bdV (b:Bd):List Value:=[.int .i64 b.l.1,.int .u16 b.l.2,.int .i64 (nxK b).1,.int .u16 (nxK b).2,.bool b.nx.isSome]
theorem holds13_spec (ρ:Hp)(b:Bd)(k:Key):Spec prog 258 [.agg ⟨bdV b⟩,.agg ⟨Vp k.1 k.2⟩] ρ [] (λ v ρ' L'=>v=.bool (inB b k)/\ρ'=ρ/\L'=[]):=by
 obtain⟨l,nx⟩:=b
 have hv:inB ⟨l,nx⟩ k=(decide (0<=Vv k.1 k.2 l.1 l.2) && (match nx with|none=>true|some e=>decide (Vv k.1 k.2 e.1 e.2<0))):=rfl
 rw[hv]
 cases nx with
 | none=>
  show Spec prog 258 [.agg ⟨[.int .i64 l.1,.int .u16 l.2,.int .i64 0,.int .u16 0,.bool false]⟩,.agg ⟨Vp k.1 k.2⟩] ρ [] _
  refine Za func258 rfl rfl rfl λ u R=>?_
  simp only[Zc,kA]
  by_cases h1:0<=Vv k.1 k.2 l.1 l.2
  ·rw[decide_eq_true h1,Bool.true_and]
   repeat' (first|(refine Zb (.func 286) ?_;refine qR rfl rfl (WN _ _ _ _ _) ?_;try simp only[kA])|refine zV ?_|intro _)
   exact qE ⟨rfl,rfl,rfl⟩
  ·rw[decide_eq_false h1,Bool.false_and]
   repeat' (first|(refine Zb (.func 286) ?_;refine qR rfl rfl (WN _ _ _ _ _) ?_;try simp only[kA])|refine zV ?_|intro _)
   exact qE ⟨rfl,rfl,rfl⟩
 | some e=>
  show Spec prog 258 [.agg ⟨[.int .i64 l.1,.int .u16 l.2,.int .i64 e.1,.int .u16 e.2,.bool true]⟩,.agg ⟨Vp k.1 k.2⟩] ρ [] _
  refine Za func258 rfl rfl rfl λ u R=>?_
  simp only[Zc,kA]
  by_cases h1:0<=Vv k.1 k.2 l.1 l.2
  ·rw[decide_eq_true h1,Bool.true_and]
   by_cases h2:Vv k.1 k.2 e.1 e.2<0
   ·rw[decide_eq_true h2]
    repeat' (first|(refine Zb (.func 286) ?_;refine qR rfl rfl (WN _ _ _ _ _) ?_;try simp only[kA])|refine zV ?_|intro _)
    exact qE ⟨rfl,rfl,rfl⟩
   ·rw[decide_eq_false h2]
    repeat' (first|(refine Zb (.func 286) ?_;refine qR rfl rfl (WN _ _ _ _ _) ?_;try simp only[kA])|refine zV ?_|intro _)
    exact qE ⟨rfl,rfl,rfl⟩
  ·rw[decide_eq_false h1,Bool.false_and]
   repeat' (first|(refine Zb (.func 286) ?_;refine qR rfl rfl (WN _ _ _ _ _) ?_;try simp only[kA])|refine zV ?_|intro _)
   exact qE ⟨rfl,rfl,rfl⟩
theorem size11_spec (ρ:Hp)(w:CV)(c:ZO)(h:CIn ρ w c.rows c.kids):Spec prog 257 [.agg ⟨Yv c.kind w⟩] ρ [] (λ v ρ' L'=>v=.int .i64 (szC c:Nat)/\ρ'=ρ/\L'=[]):=by
 have hr:=h.rb
 have hk:=h.kb
 have e:szC c=w.rn+w.kn:=by unfold szC;rw[h.r.len,h.k.len]
 rw[e]
 refine Za func257 rfl rfl rfl λ u R=>?_
 simp only[Zc,kA]
 repeat' (first|refine zV ?_|intro _)
 exact qE ⟨by rw[Int.natCast_add],rfl,rfl⟩
theorem getD_kid {ks:List Kid}{i:Nat}(h:i<ks.length):ks.getD i zKid=ks[i]:=by rw[List.getD_eq_getElem?_getD,List.getElem?_eq_getElem h];rfl
theorem kid_key {C:List Value}{o:Nat}{x:Kid}(h:(C.drop o).take 3=XD x):(C.drop (o+0)).take 2=Vp x.t x.id:=by
 have:=congrArg (List.take 2) h
 rw[List.take_take] at this
 exact this
theorem below13_spec (ρ:Hp)(b:Bd)(w:CV)(c:ZO)(h:CIn ρ w c.rows c.kids)(i:Nat)(hi:i<c.kids.length):Spec prog 259 [.agg ⟨bdV b⟩,.agg ⟨Yv c.kind w⟩,.int .i64 i] ρ [] (λ v ρ' L'=>v=.agg ⟨bdV (belowB b c.kids i)⟩/\ρ'=ρ/\L'=[]):=by
 obtain⟨kind,rows,kids⟩:=c
 obtain⟨ra,rn,rc,ka,kn,kc⟩:=w
 have hk:=h.k
 have hkb:=h.kb
 dsimp only at hk hi hkb
 have hkl:=hk.len
 obtain⟨kb,ko,kC,kT,kf,rfl,hkb0,hkfit,hkc⟩:=hk.get hi
 have hg:=getD_kid hi
 have hkk:=kid_key hkc
 show Spec prog 259 [.agg ⟨bdV b⟩,.agg ⟨[.int .i64 kind,.slice ra rn rc,.slice (some ⟨kb,ko,none⟩) kn kc]⟩,.int .i64 i] ρ [] _
 refine Za func259 rfl rfl rfl λ u R=>?_
 simp only[Zc,kA]
 unfold belowB
 rw[hg]
 by_cases h2:i+1<kids.length
 ·obtain⟨kb2,ko2,kC2,kT2,kf2,ek2,hkb2,hkfit2,hkc2⟩:=hk.get h2
  cases ek2
  cases hkb0.symm.trans hkb2
  have hkk2:=kid_key hkc2
  rw[if_pos h2,getD_kid h2]
  generalize kids[i+1]=y at *
  generalize kids[i]=x at *
  by_cases h0:0<i
  ·rw[if_pos h0]
   repeat' (first|refine zV ?_|intro _)
   (refine qF (L':=[]) ?_;exact⟨rfl,rfl,rfl⟩)
  ·rw[if_neg h0]
   repeat' (first|refine zV ?_|intro _)
   (refine qF (L':=[]) ?_;exact⟨rfl,rfl,rfl⟩)
 ·rw[if_neg h2]
  generalize kids[i]=x at *
  by_cases h0:0<i
  ·rw[if_pos h0]
   repeat' (first|refine zV ?_|intro _)
   (refine qF (L':=[]) ?_;exact⟨rfl,rfl,rfl⟩)
  ·rw[if_neg h0]
   repeat' (first|refine zV ?_|intro _)
   (refine qF (L':=[]) ?_;exact⟨rfl,rfl,rfl⟩)
theorem idx13_spec (ρ:Hp)(a:Option Addr)(n c:Nat)(l:List CC)(h:FoIn ρ a n l)(hn:n<=1000)(hok:∀x∈l,Zp x.2=true) :
  Spec prog 283 [.slice a n c,.func (.func 254) ⟨[]⟩ ⟨[]⟩] ρ [] (λ z ρ' L'=>z=.int .i64 (-1)/\ρ'=ρ/\L'=[]):=by
 have hl:=h.at'.len
 refine Za func283 rfl rfl rfl λ u R=>?_
 simp only[Zc,kA]
 repeat' (first|refine zV ?_|intro _)
 refine lpG Nat [0,1,7] (λ z=>[(8,.int .i64 z),(4,.int .i64 0)]) (λ z=>ρ) (λ z=>[]) (λ z=>z<=n) (λ z=>n-z) 0 (aZ _) ?_
 rintro k hI
 try simp only[kB] at hI ⊢
 try dsimp only at hI ⊢
 by_cases hlt:k<n
 ·obtain⟨b,off,C,T,fr,rfl,hb,hfit,hc⟩:=h.at'.get (show k<l.length by omega)
  have hp0:=look1_spec ρ _ _ (h.cin _ (aM (show k<l.length by omega)))
  rw[hok _ (aM (show k<l.length by omega))] at hp0
  generalize l[k]=x at *
  repeat' (first|(refine Zb (.tmp 11) ?_;refine qR rfl rfl (hp0) ?_;try simp only[kA])|refine zV ?_|intro _)
  refine rnG (k+1) (hlt)
 ·repeat' (first|refine zV ?_|intro _)
  exact qE (L':=_) ⟨rfl,rfl,rfl⟩
abbrev nV (n:Nat):Value:=.int .i64 n
theorem nV_one (l:List Nat):(l.map nV).all (·.oneCell')=true:=by rw[List.all_eq_true];intro x hx;obtain⟨y,_,rfl⟩:=List.mem_map.1 hx;rfl
theorem kidsR_len {f:Nat->Bd->List Nat}{m:Nat}(hf:∀n b,(f n b).length<=m):∀(l:List (Nat×Bd×Bool)) (out:List Nat),(WO f l out).length<=out.length+l.length*m
 | [],out=>by simp[WO]
 | x::l,out=>by
  unfold WO
  split
  ·split
   ·simp
   ·have h1:=kidsR_len hf l (out++f x.1 x.2.1)
    have h2:=hf x.1 x.2.1
    rw[aL] at h1
    rw[aC,Nat.add_mul,Nat.one_mul];omega
  ·simp
theorem pagesR_len {F:Fo}(hF:FoOk F):∀(h n:Nat) (b:Bd),(XI F h n b).length<=5 ^ h
 | 0,_,_=>by simp[XI]
 | h+1,n,b=>by
  unfold XI
  split
  ·simp
  ·have h1:=kidsR_len (λ n b=>pagesR_len hF h n b) (if (F n).kind=2 then Xm b (F n).kids else []) [n]
   have h2:(if (F n).kind=2 then Xm b (F n).kids else []).length<=4:=by
    split
    ·rw[zC_len];exact (YF (hF n)).kl
    ·simp
   have h3:=Nat.mul_le_mul_right (5 ^ h) h2
   have h4:1<=5 ^ h:=Nat.pow_pos (by omega)
   rw[Nat.pow_succ]
   simp only[aC,List.length_nil] at h1
   omega
theorem kidsR_app {f:Nat->Bd->List Nat}:∀(l m:List (Nat×Bd×Bool)) (out:List Nat),out≠[]->WO f (l++m) out=if WO f l out=[] then [] else WO f m (WO f l out)
 | [],m,out,h=>by simp[WO,h]
 | x::l,m,out,h=>by
  rw[List.cons_append]
  simp only[WO]
  split
  ·split
   ·simp
   ·exact kidsR_app l m _ (by simp[h])
  ·simp
theorem kidsR_next {f:Nat->Bd->List Nat}{b:Bd}{ks:List Kid}{i n:Nat}{O:List Nat}(h:i<ks.length)(e:WO f ((Xm b ks).take i) [n]=O)(hO:O≠[]) :
  WO f ((Xm b ks).take (i+1)) [n]=if (subB b ks i).2.2=true then (if f (subB b ks i).1 (subB b ks i).2.1=[] then [] else O++f (subB b ks i).1 (subB b ks i).2.1) else []:=by
 rw[subsB_take h,kidsR_app _ _ _ (by simp),e,if_neg hO]
 simp only[WO]
theorem kidsR_none {f:Nat->Bd->List Nat}{l:List (Nat×Bd×Bool)}{i n:Nat}(e:WO f (l.take i) [n]=[]):WO f l [n]=[]:=by
 rw[<-List.take_append_drop i l,kidsR_app _ _ _ (by simp),e,if_pos rfl]
theorem subs_kind {F:Fo}(hF:FoOk F)(n:Nat)(b:Bd)(h:(F n).kind≠0):(if (F n).kind=2 then Xm b (F n).kids else [])=Xm b (F n).kids:=by
 rcases hF.kinds n with h0|h1|h2
 ·exact absurd h0 h
 ·rw[if_neg (by omega),h1.2];rfl
 ·rw[if_pos h2.1]
theorem row_key {C:List Value}{o:Nat}{x:Row}(h:(C.drop o).take 4=Yz x):(C.drop (o+0)).take 2=Vp x.t x.id:=by
 have:=congrArg (List.take 2) h
 rw[List.take_take] at this
 exact this
theorem kid_page {C:List Value}{o:Nat}{x:Kid}(h:(C.drop o).take 3=XD x):C[o+2]?=some (.int .i64 x.page):=by
 have:=congrArg (λ l=>l[2]?) h
 simp only[List.getElem?_take,List.getElem?_drop,show (2:Nat)<3 by omega,if_true] at this
 exact this
theorem pages13_spec (l:List CC)(hl:l.length=64)(hok:∀x∈l,Zp x.2=true)(c:Nat)(a:Option Addr) :
  ∀(h:Nat) (ρ:Hp) (n:Nat) (b:Bd),h<=8->n<64->FoIn ρ a 64 l ->
  Spec prog 214 [.agg ⟨[.slice a 64 c]⟩,.int .i64 n,.agg ⟨bdV b⟩,.int .i64 h] ρ []
   (λ v ρ' L'=>ρ.le ρ'/\L'=[]/\∃a' c',v=.slice a' (XI (Yw l) h n b).length c'/\SIn ρ' nV a' (XI (Yw l) h n b).length (XI (Yw l) h n b)):=by
 have hF:=foOf_ok hok
 intro h
 induction h with
 | zero=>
  intro ρ n b hh hn hFo
  obtain⟨bb,off,C,T,fr,rfl,hb0,hfit,hc⟩:=hFo.at'.get (show n<l.length by omega)
  generalize l[n]'(show n<l.length by omega)=x at *
  obtain⟨⟨ra,rn,rc,ka,kn,kc⟩,⟨kind,rows,kids⟩⟩:=x
  refine Za func214 rfl rfl rfl λ u R=>?_
  simp only[Zc,kA]
  by_cases k0:kind=0
  ·repeat' (first|refine zV ?_|intro _)
   exact qE (L':=[]) ⟨Hp.le_refl _,rfl,none,0,rfl,SIn.nil⟩
  ·repeat' (first|refine zV ?_|intro _)
   exact qE (L':=[]) ⟨Hp.le_refl _,rfl,none,0,rfl,SIn.nil⟩
 | succ h ih=>
  intro ρ n b hh hn hFo
  have hF0:=hFo
  obtain⟨bb,off,C,T,fr,rfl,hb0,hfit,hc⟩:=hFo.at'.get (show n<l.length by omega)
  have hcin:=hFo.cin _ (aM (show n<l.length by omega))
  have hco:=hok _ (aM (show n<l.length by omega))
  have hsk:=subs_kind hF n b
  have hr:XI (Yw l) (h+1) n b=if pgBad (Yw l) n b=true then [] else WO (XI (Yw l) h) (if (Yw l n).kind=2 then Xm b (Yw l n).kids else []) [n]:=rfl
  rw[hr]
  unfold pgBad
  rw[foOf_at (show n<l.length by omega)] at hsk ⊢
  have hsz:=size11_spec ρ l[n].1 l[n].2 hcin
  have hlen:=λ n b=>pagesR_len hF h n b
  have h58:5 ^ h<=5 ^ 8:=Nat.pow_le_pow_right (by omega) (by omega)
  rw[show (5:Nat) ^ 8=390625 by decide] at h58
  generalize l[n]'(show n<l.length by omega)=x at *
  obtain⟨⟨ra,rn,rc,ka,kn,kc⟩,cc⟩:=x
  dsimp only at hcin hco hsz hsk ⊢
  refine Za func214 rfl rfl rfl λ u R=>?_
  simp only[Zc,kA]
  by_cases k0:cc.kind=0
  ·rw[if_pos (by rw[decide_eq_true k0];rfl)]
   repeat' (first|refine zV ?_|intro _)
   exact qE (L':=[]) ⟨Hp.le_refl _,rfl,none,0,rfl,SIn.nil⟩
  ·rw[decide_eq_false k0,Bool.false_or,hsk k0]
   clear hsk hr
   by_cases hz:n≠0/\szC cc<2
   ·rw[if_pos (by rw[decide_eq_true hz.1,decide_eq_true hz.2];rfl)]
    obtain⟨hz1,hz2⟩:=hz
    repeat' (first|(refine Zb (.func 257) ?_;refine qR rfl rfl (hsz) ?_;try simp only[kA])|refine zV ?_|intro _)
    exact qE (L':=[]) ⟨Hp.le_refl _,rfl,none,0,rfl,SIn.nil⟩
   ·rw[show (decide (n≠0) && decide (szC cc<2))=false by rw[<-Bool.decide_and];exact decide_eq_false hz,Bool.false_or]
    have hz':n=0\/(n≠0/\¬szC cc<2):=by omega
    clear hz
    have hrow:=hcin.r
    have hkid:=hcin.k
    have hrl:=hrow.len
    have hkl:=hkid.len
    have hrb:=hcin.rb
    have hkb:=hcin.kb
    have hkf:=(YF hco).kid
    have hk4:=(YF hco).kl
    dsimp only at hrow hkid hrl hkl hrb hkb
    rcases hz' with hz1|⟨hz1,hz2⟩
    case' inl=>
     repeat' (first|(refine Zl rfl rfl rfl rfl (by simp) rfl rfl (λ b10=>?_))|refine zV ?_|intro _)
    case' inr=>
     repeat' (first|(refine Zl rfl rfl rfl rfl (by simp) rfl rfl (λ b10=>?_))|(refine Zb (.func 257) ?_;refine qR rfl rfl (hsz) ?_;try simp only[kA])|refine zV ?_|intro _)
    all_goals
     rename_i b4 b6 b9
     refine lpG Nat [3,4,6,9,10] (λ z=>[(11,.int .i64 z),(8,.slice none 0 0)]) (λ z=>ρ) (λ z=>[(b10,.cells ⟨[nV n]⟩ 3 (0,0))]::[(b9,.cells ⟨[.int .i64 cc.kind,.slice ra rn rc,.slice ka kn kc]⟩ 88 (0,0))]::[(b6,.cells ⟨bdV b⟩ 296 (0,0))]::[[(b4,.cells ⟨[.slice (some ⟨bb,off,none⟩) 64 c]⟩ 161 (0,0))]]) (λ z=>z<=rn/\(cc.rows.take z).all (λ r=>inB b (r.t,r.id))=true) (λ z=>rn-z) 0 ⟨aZ _,by simp⟩ ?_
     rintro i hI
     try simp only[kB] at hI ⊢
     try dsimp only at hI ⊢
     obtain⟨hi,hall⟩:=hI
     by_cases hlt:i<rn
     ·obtain⟨rb,ro,rC,rT,rf,er,hrb0,hrfit,hrc⟩:=hrow.get (show i<cc.rows.length by omega)
      have hnext:=rows_take (show i<cc.rows.length by omega) hall
      have hbad:=all_false (p:=λ r=>inB b (r.t,r.id)) (show i<cc.rows.length by omega)
      subst er
      generalize cc.rows[i]'(by omega)=r at *
      have hkey:=row_key hrc
      have hw:=holds13_spec ρ b (r.t,r.id)
      dsimp only at hw hbad hnext
      repeat' (first|refine zV ?_|intro _)
      cases hv:inB b (r.t,r.id)
      ·rw[hv] at hw
       have hbad:=hbad hv
       refine tpZ [0,1,2,3,4,5,6] (.e 7 [] (.f [8] .o)) ?_
       repeat' (refine iT ?_;first|refine rA ?_|(refine rE ?_<;>(refine Zb (.func 258) ?_;refine qR rfl rfl (hw) ?_;try simp only[kA])<;>(try simp only[kA])<;>refine zN ?_))
       repeat' (first|refine zV ?_|intro _)
       rw[hbad]
       exact qE (L':=[]) ⟨Hp.le_refl _,rfl,none,0,rfl,SIn.nil⟩
      ·rw[hv] at hw hnext
       refine tpZ [0,1,2,3,4,5,6] (.e 7 [] (.f [8] .o)) ?_
       repeat' (refine iT ?_;first|refine rA ?_|(refine rE ?_<;>(refine Zb (.func 258) ?_;refine qR rfl rfl (hw) ?_;try simp only[kA])<;>(try simp only[kA])<;>refine zN ?_))
       repeat' (first|refine zV ?_|intro _)
       refine rnG (i+1) (⟨hlt,hnext⟩)
     ·have hi2:i=cc.rows.length:=by omega
      rw[hi2,List.take_length] at hall
      rw[hall,if_neg (by simp)]
      clear hall hlt hi hrow
      repeat' (first|refine zV ?_|intro _)
      have hown0:OwnS (.slice (some ⟨b10,0,none⟩) 1 1) ([n].length) ([n].map nV) [] 1:=OwnS.full b10 _ rfl
      rw[show [(b10,Obj.cells ⟨[nV n]⟩ 3 (0,0))]=ZG (.slice (some ⟨b10,0,none⟩) 1 1) ([n].map nV) [] 3 from own_chunk b10 1 1]
      refine lpG (Nat×Hp×(List Nat)×Value×(List Value)) [3,4,6,9] (λ z=>[(12,.int .i64 z.1),(10,z.2.2.2.1),(8,.slice none 0 0)]) (λ z=>z.2.1) (λ z=>ZG z.2.2.2.1 (z.2.2.1.map nV) z.2.2.2.2 3::[(b9,.cells ⟨[.int .i64 cc.kind,.slice ra rn rc,.slice ka kn kc]⟩ 88 (0,0))]::[(b6,.cells ⟨bdV b⟩ 296 (0,0))]::[[(b4,.cells ⟨[.slice (some ⟨bb,off,none⟩) 64 c]⟩ 161 (0,0))]]) (λ z=>z.1<=kn/\ρ.le z.2.1/\OwnS z.2.2.2.1 z.2.2.1.length (z.2.2.1.map nV) z.2.2.2.2 1/\z.2.2.1≠[]/\WO (XI (Yw l) h) ((Xm b cc.kids).take z.1) [n]=z.2.2.1) (λ z=>kn-z.1) ((0,ρ,[n],.slice (some ⟨b10,0,none⟩) 1 1,[])) ⟨aZ _,Hp.le_refl _,hown0,by simp,rfl⟩ ?_
      rintro⟨i,ρ1,O,v,sp⟩ hI
      try simp only[kB] at hI ⊢
      try dsimp only at hI ⊢
      obtain⟨hi,hl1,hown,hO,hk1⟩:=hI
      by_cases hlt:i<kn
      ·obtain⟨kb,ko,kC,kT,kf,ek,hkb0,hkfit,hkc⟩:=(hkid.mono hl1).get (show i<cc.kids.length by omega)
       have hnx1:=kidsR_next (f:=XI (Yw l) h) (b:=b) (show i<cc.kids.length by omega) hk1 hO
       have hnone:=λ e=>kidsR_none (i:=i+1) (n:=n) (l:=Xm b cc.kids) (f:=XI (Yw l) h) e
       have hpb:=(hkf _ (aM (show i<cc.kids.length by omega))).2
       have hsub:subB b cc.kids i=((cc.kids[i]'(by omega)).page.toNat,belowB b cc.kids i,decide (i=0) || inB b (kkey (cc.kids[i]'(by omega)))):=by
        unfold subB;rw[getD_kid (show i<cc.kids.length by omega)]
       have hOl:=kidsR_len (λ n b=>hlen n b) ((Xm b cc.kids).take i) [n]
       rw[hk1,List.length_take,zC_len] at hOl
       have hOl2:O.length<=1600000:=by
        have:min i cc.kids.length*5 ^ h<=4*390625:=Nat.mul_le_mul (by omega) h58
        simp only[aC,List.length_nil] at hOl
        omega
       clear hOl
       have hbel:=λ ρ2 (hq:ρ1.le ρ2)=>below13_spec ρ2 b ⟨ra,rn,rc,ka,kn,kc⟩ cc ((hcin.mono hl1).mono hq) i (by omega)
       rw[hsub] at hnx1
       clear hsub
       subst ek
       generalize cc.kids[i]'(by omega)=x at *
       have hkey:=kid_key hkc
       have hpg:=kid_page hkc
       obtain⟨kt,ki,kp⟩:=x
       obtain⟨pn,hpn⟩:∃pn:Nat,kp=pn:=⟨kp.toNat,by dsimp only at hpb;omega⟩
       subst hpn
       dsimp only[kkey] at hpb hnx1 hkey hpg
       rw[Int.toNat_natCast] at hnx1
       have hih:=λ ρ2 (hq:ρ1.le ρ2)=>ih ρ2 pn (belowB b cc.kids i) (by omega) (by omega) ((hF0.mono hl1).mono hq)
       rw[show ((h:Nat):Int)=((h+1:Nat):Int)-1 by omega] at hih
       have hpl:=hlen pn (belowB b cc.kids i)
       generalize belowB b cc.kids i=b2 at *
       generalize XI (Yw l) h pn b2=P at *
       have hw:=holds13_spec ρ1 b (kt,ki)
       dsimp only at hw
       have hcase:i=0\/(0<i/\inB b (kt,ki)=true)\/(0<i/\inB b (kt,ki)=false):=by
        by_cases h0:i=0
        ·exact .inl h0
        ·cases hv:inB b (kt,ki)
         ·exact .inr (.inr ⟨by omega,rfl⟩)
         ·exact .inr (.inl ⟨by omega,rfl⟩)
       repeat' (first|refine zV ?_|intro _)
       rcases hcase with hi0|⟨hi0,hv⟩|⟨hi0,hv⟩
       case' inr.inr=>
        rw[hv] at hw
        simp only[hv,decide_eq_false (show ¬i=0 by omega),Bool.false_or,aB,if_false] at hnx1
        refine tpZ [0,1,2,3,4,5,6,7,8,9] (.e 10 [] (.f [11,12] .o)) ?_
        repeat' (refine iT ?_;first|refine rA ?_|(refine rE ?_<;>((try refine ZX ?_);(first|(refine Zb (.func 258) ?_;refine qR rfl rfl (hw) ?_;try simp only[kA]))<;>(try simp only[kA])<;>refine zN ?_)))
        repeat' (first|refine zV ?_|intro _)
        rw[hnone hnx1]
        exact qE (L':=[]) ⟨hl1,rfl,none,0,rfl,SIn.nil⟩
       case' inl=>
        simp only[decide_eq_true hi0,Bool.true_or,if_true] at hnx1
        refine tpZ [0,1,2,3,4,5,6,7,8,9] (.e 10 [] (.f [11,12] .o)) ?_
        repeat' (refine iT ?_;first|refine rA ?_|(refine rE ?_<;>((try refine ZX ?_);(first|(refine Zb (.func 258) ?_;refine qR rfl rfl (hw) ?_;try simp only[kA]))<;>(try simp only[kA])<;>refine zN ?_)))
       case' inr.inl=>
        rw[hv] at hw
        simp only[hv,Bool.or_true,if_true] at hnx1
        refine tpZ [0,1,2,3,4,5,6,7,8,9] (.e 10 [] (.f [11,12] .o)) ?_
        repeat' (refine iT ?_;first|refine rA ?_|(refine rE ?_<;>((try refine ZX ?_);(first|(refine Zb (.func 258) ?_;refine qR rfl rfl (hw) ?_;try simp only[kA]))<;>(try simp only[kA])<;>refine zN ?_)))
       all_goals
        repeat' (first|refine zV ?_|intro _)
        refine tpZ [0,1,2,3,4,5,6,7,8,9,11,12] (.e 10 [] (.e 13 [] (.f [14] .o))) ?_
        repeat' (refine iT ?_;first|refine rA ?_|(refine rE ?_<;>((first|(refine Zb (.func 259) ?_;refine qR rfl rfl (hbel _ (Hp.le_refl _)) ?_;try simp only[kA])|(refine Zb (.func 214) ?_;refine qC rfl rfl (hih _ (Hp.le_refl _)) ?_;rintro v3 ρ3 L3 hq3 ⟨hl3,rfl,pa,pc,rfl,hPs⟩;try simp only[kA]))<;>(try simp only[kA])<;>refine zN ?_)))
        by_cases hP:P=[]
        ·rw[if_pos hP] at hnx1
         have hP0:P.length=0:=by rw[hP];rfl
         repeat' (first|refine zV ?_|intro _)
         rw[hnone hnx1]
         exact qE (L':=[]) ⟨Hp.le_trans hl1 hl3,rfl,none,0,rfl,SIn.nil⟩
        ·rw[if_neg hP] at hnx1
         have hP0:¬P.length=0:=λ e=>hP (List.eq_nil_of_length_eq_zero e)
         repeat' (first|(refine YA (ys:=P.map nV) (m:=P.length) (sz:=1) rfl rfl hown (hR:=by repeat (first|exact ZJ|apply Ya)) hPs.srcV (by simp) (nV_one _) (by decide) rfl (by omega) (by omega) rfl (λ v4 sp4 hown4=>?_))|refine zV ?_|intro _)
         rw[<-List.map_append] at hown4 ⊢
         rw[<-aL] at hown4
         refine rnG (i+1,ρ3,O++P,v4,sp4) (⟨hlt,Hp.le_trans hl1 hl3,hown4,by simp[hO],hnx1⟩)
      ·have hi2:i=(Xm b cc.kids).length:=by rw[zC_len];omega
       rw[hi2,List.take_length] at hk1
       rw[hk1]
       repeat' (first|refine zV ?_|intro _)
       refine ZB (ZG v (O.map nV) sp 3) (λ ρ7 hl7 hz7=>?_)
       obtain⟨ra',rc',rfl,hrc',hRA⟩:=hown.sIn hz7
       exact qE (L':=[]) ⟨Hp.le_trans hl1 hl7,rfl,ra',rc',rfl,hRA⟩
theorem depthsR_len {F:Fo}(hF:FoOk F):∀(h n d:Nat),(YZ F h n d).length<=5 ^ h
 | 0,_,_=>by simp[YZ]
 | h+1,n,d=>by
  have h4:1<=5 ^ h:=Nat.pow_pos (by omega)
  unfold YZ
  rw[Nat.pow_succ]
  split
  ·have hg:∀(ks:List Kid),((ks.map (λ k=>YZ F h k.page.toNat (d+1))).flatten).length<=ks.length*5 ^ h:=λ ks=>by
    induction ks with
    | nil=>simp
    | cons k ks ih=>
     rw[List.map_cons,aF,aL,aC,Nat.add_mul,Nat.one_mul]
     have:=depthsR_len hF h k.page.toNat (d+1)
     omega
   have h1:=hg (F n).kids
   have h3:=Nat.mul_le_mul_right (5 ^ h) (YF (hF n)).kl
   omega
  ·simp only[aC,List.length_nil];omega
theorem depths13_spec (l:List CC)(hl:l.length=64)(hok:∀x∈l,Zp x.2=true)(c:Nat)(a:Option Addr) :
  ∀(h:Nat) (ρ:Hp) (n d:Nat),h+d=9->n<64->FoIn ρ a 64 l ->
  Spec prog 215 [.agg ⟨[.slice a 64 c]⟩,.int .i64 n,.int .i64 d] ρ []
   (λ v ρ' L'=>ρ.le ρ'/\L'=[]/\∃a' c',v=.slice a' (YZ (Yw l) h n d).length c'/\SIn ρ' nV a' (YZ (Yw l) h n d).length (YZ (Yw l) h n d)):=by
 have hF:=foOf_ok hok
 intro h
 induction h with
 | zero=>
  intro ρ n d hh hn hFo
  obtain⟨bb,off,C,T,fr,rfl,hb0,hfit,hc⟩:=hFo.at'.get (show n<l.length by omega)
  generalize l[n]'(show n<l.length by omega)=x at *
  obtain⟨⟨ra,rn,rc,ka,kn,kc⟩,⟨kind,rows,kids⟩⟩:=x
  refine Za func215 rfl rfl rfl λ u R=>?_
  simp only[Zc,kA]
  have hd9:(8:Int)<(d:Int):=by omega
  by_cases k2:kind=2
  case' pos=>
   repeat' (first|(refine Zl rfl rfl rfl rfl (by simp) rfl rfl (λ b10=>?_))|refine zV ?_|intro _)
  case' neg=>
   repeat' (first|(refine Zl rfl rfl rfl rfl (by simp) rfl rfl (λ b10=>?_))|refine zV ?_|intro _)
  all_goals
   refine ZB [(b10,.cells ⟨[nV d]⟩ 3 (0,0))] (λ ρ7 hl7 hz7=>?_)
   have hb:=hz7 _ (List.mem_singleton.2 rfl)
   exact qE (L':=[]) ⟨hl7,rfl,some ⟨b10,0,none⟩,1,rfl,⟨rfl,.inr ⟨b10,0,_,_,_,rfl,hb,rfl⟩⟩⟩
 | succ h ih=>
  intro ρ n d hh hn hFo
  have hF0:=hFo
  obtain⟨bb,off,C,T,fr,rfl,hb0,hfit,hc⟩:=hFo.at'.get (show n<l.length by omega)
  have hcin:=hFo.cin _ (aM (show n<l.length by omega))
  have hco:=hok _ (aM (show n<l.length by omega))
  have hr:YZ (Yw l) (h+1) n d=if (Yw l n).kind=2 then ((Yw l n).kids.map (λ k=>YZ (Yw l) h k.page.toNat (d+1))).flatten else [d]:=rfl
  rw[hr]
  rw[foOf_at (show n<l.length by omega)]
  have hlen:=λ n d=>depthsR_len hF h n d
  have h58:5 ^ h<=5 ^ 8:=Nat.pow_le_pow_right (by omega) (by omega)
  rw[show (5:Nat) ^ 8=390625 by decide] at h58
  generalize l[n]'(show n<l.length by omega)=x at *
  obtain⟨⟨ra,rn,rc,ka,kn,kc⟩,cc⟩:=x
  dsimp only at hcin hco ⊢
  refine Za func215 rfl rfl rfl λ u R=>?_
  simp only[Zc,kA]
  by_cases k2:cc.kind=2
  ·rw[if_pos k2]
   have hd9:¬(8:Int)<(d:Int):=by omega
   have hkid:=hcin.k
   have hkl:=hkid.len
   have hkb:=hcin.kb
   have hkf:=(YF hco).kid
   have hk4:=(YF hco).kl
   dsimp only at hkid hkl hkb
   repeat' (first|refine zV ?_|intro _)
   rename_i b3 b7
   refine lpG (Nat×Hp×(List Nat)×Value×(List Value)) [2,3,6,7] (λ z=>[(9,.int .i64 z.1),(8,z.2.2.2.1)]) (λ z=>z.2.1) (λ z=>ZG z.2.2.2.1 (z.2.2.1.map nV) z.2.2.2.2 3::[(b7,.cells ⟨[.int .i64 cc.kind,.slice ra rn rc,.slice ka kn kc]⟩ 88 (0,0))]::[[(b3,.cells ⟨[.slice (some ⟨bb,off,none⟩) 64 c]⟩ 161 (0,0))]]) (λ z=>z.1<=kn/\ρ.le z.2.1/\OwnS z.2.2.2.1 z.2.2.1.length (z.2.2.1.map nV) z.2.2.2.2 1/\z.2.2.1.length<=z.1*390625/\z.2.2.1=((cc.kids.take z.1).map (λ k=>YZ (Yw l) h k.page.toNat (d+1))).flatten) (λ z=>kn-z.1) (0,ρ,[],.slice none 0 0,[]) ⟨aZ _,Hp.le_refl _,OwnS.nil 1,by simp,rfl⟩ ?_
   rintro⟨i,ρ1,O,v,sp⟩ hI
   try simp only[kB] at hI ⊢
   try dsimp only at hI ⊢
   obtain⟨hi,hl1,hown,hOl,hk1⟩:=hI
   by_cases hlt:i<kn
   ·obtain⟨kb,ko,kC,kT,kf,ek,hkb0,hkfit,hkc⟩:=(hkid.mono hl1).get (show i<cc.kids.length by omega)
    have hpb:=(hkf _ (aM (show i<cc.kids.length by omega))).2
    have hnx:((cc.kids.take (i+1)).map (λ k=>YZ (Yw l) h k.page.toNat (d+1))).flatten=O++YZ (Yw l) h (cc.kids[i]'(by omega)).page.toNat (d+1):=by
     rw[aG (show i<cc.kids.length by omega),List.map_append,List.flatten_append,hk1];simp
    subst ek
    generalize cc.kids[i]'(by omega)=x at *
    have hpg:=kid_page hkc
    obtain⟨kt,ki,kp⟩:=x
    obtain⟨pn,hpn⟩:∃pn:Nat,kp=pn:=⟨kp.toNat,by dsimp only at hpb;omega⟩
    subst hpn
    dsimp only at hpb hnx hpg
    rw[Int.toNat_natCast] at hnx
    have hih:=λ ρ2 (hq:ρ1.le ρ2)=>ih ρ2 pn (d+1) (by omega) (by omega) ((hF0.mono hl1).mono hq)
    rw[show ((d+1:Nat):Int)=(d:Int)+1 from rfl] at hih
    have hpl:=hlen pn (d+1)
    generalize YZ (Yw l) h pn (d+1)=P at *
    have hPb:P.length<=390625:=by omega
    have hib:i*390625<=4*390625:=Nat.mul_le_mul_right _ (by omega)
    repeat' (first|refine zV ?_|intro _)
    refine Yt [0,1,2,3,4,5,6,7,8,9] (.e 10 [] (.e 11 [] (.f [12] .o))) ([[(b7,.cells ⟨[.int .i64 cc.kind,.slice ra rn rc,.slice (some ⟨kb,ko,none⟩) kn kc]⟩ 88 (0,0))],[(b3,.cells ⟨[.slice (some ⟨bb,off,none⟩) 64 c]⟩ 161 (0,0))]]) ?_
    repeat' (refine iT ?_;first|refine rA ?_|(refine rE ?_<;>((first|(refine Zb (.func 215) ?_;refine qC rfl rfl (hih _ (Hp.le_refl _)) ?_;rintro v3 ρ3 L3 hq3 ⟨hl3,rfl,pa,pc,rfl,hPs⟩;try simp only[kA])|(refine YA (ys:=P.map nV) (m:=P.length) (sz:=1) rfl rfl hown (hR:=by repeat (first|exact ZJ|apply Ya)) hPs.srcV (by simp) (nV_one _) (by decide) rfl (by omega) (by omega) rfl (λ v4 sp4 hown4=>?_))|(refine qEf ?_;try intro _))<;>(try simp only[kA])<;>refine zN ?_)))
    repeat' (first|refine zV ?_|intro _)
    rw[<-List.map_append] at hown4 ⊢
    rw[<-aL] at hown4
    refine rnG (i+1,ρ3,O++P,v4,sp4) (⟨hlt,Hp.le_trans hl1 hl3,hown4,by rw[aL,Nat.add_mul,Nat.one_mul];omega,hnx.symm⟩)
   ·have hi2:i=cc.kids.length:=by omega
    rw[hi2,List.take_length] at hk1
    rw[<-hk1]
    repeat' (first|refine zV ?_|intro _)
    refine ZB (ZG v (O.map nV) sp 3) (λ ρ7 hl7 hz7=>?_)
    obtain⟨ra',rc',rfl,hrc',hRA⟩:=hown.sIn hz7
    exact qE (L':=[]) ⟨Hp.le_trans hl1 hl7,rfl,ra',rc',rfl,hRA⟩
  ·rw[if_neg k2]
   repeat' (first|(refine Zl rfl rfl rfl rfl (by simp) rfl rfl (λ b10=>?_))|refine zV ?_|intro _)
   refine ZB [(b10,.cells ⟨[nV d]⟩ 3 (0,0))] (λ ρ7 hl7 hz7=>?_)
   have hb:=hz7 _ (List.mem_singleton.2 rfl)
   exact qE (L':=[]) ⟨hl7,rfl,some ⟨b10,0,none⟩,1,rfl,⟨rfl,.inr ⟨b10,0,_,_,_,rfl,hb,rfl⟩⟩⟩
abbrev walkPost (wb:Nat)(l:List CC)(v:Value):Prop:=v=.tuple ⟨[.pointer (some ⟨wb,0,none⟩),.bool (codeF (Yw l))]⟩
theorem root13_spec (l:List CC)(hl:l.length=64)(hok:∀x∈l,Zp x.2=true)(wb mb c:Nat)(a:Option Addr)(ρ:Hp)(hFo:FoIn ρ a 64 l)(ck:Nat) :
  Spec prog 256 [.pointer (some ⟨wb,0,none⟩),.int .i64 0,.int .i64 1,.agg ⟨Vp 0 0⟩,.pointer none] ρ [wkC wb a c mb 0,mtC mb [] ck]
   (λ v ρ' L'=>v=.bool (Wx (Yw l) 64 0 1 bd0 ([],0)).isSome/\ρ'=ρ/\∃dp' es' ck',(∀s',Wx (Yw l) 64 0 1 bd0 ([],0)=some s'->dp'=s'.2/\MetOk es' (metI s'.1))/\L'=[wkC wb a c mb dp',mtC mb es' ck']):=
 page13_spec l hl hok wb mb c a ρ hFo 64 0 1 bd0 ([],0) (.pointer none) [] ck (by omega) (by omega) (by omega) ⟨List.nodup_nil,by simp,by simp⟩ MetOk.nil rfl
theorem contains13_spec (ρ:Hp)(a:Option Addr)(n c:Nat)(l:List CC)(h:FoIn ρ a n l)(hn:n<=1000)(hok:∀x∈l,Zp x.2=true) :
  Spec prog 255 [.slice a n c,.func (.func 254) ⟨[]⟩ ⟨[]⟩] ρ [] (λ z ρ' L'=>z=.bool false/\ρ'=ρ/\L'=[]):=by
 refine Za func255 rfl rfl rfl λ u R=>?_
 simp only[Zc,kA]
 repeat' (first|(refine Zb (.func 283) ?_;refine qR rfl rfl (idx13_spec _ _ _ _ l h hn hok) ?_;try simp only[kA])|refine zV ?_|intro _)
 exact qE ⟨rfl,rfl,rfl⟩
theorem look13_spec (l:List CC)(hl:l.length=64)(hok:∀x∈l,Zp x.2=true)(c:Nat)(a:Option Addr)(ρ:Hp)(hFo:FoIn ρ a 64 l) :
  Spec prog 213 [.agg ⟨[.slice a 64 c]⟩] ρ [] (λ v ρ' L'=>(∃wb,walkPost wb l v)/\ρ'=ρ/\L'=[]):=by
 have hct:=contains13_spec ρ a 64 c l hFo (by omega) hok
 have hcf:codeF (Yw l)=match Wx (Yw l) 64 0 1 bd0 ([],0) with|none=>false|some s=>(List.range 64).all (λ n=>decide (n∈s.1) || decide ((Yw l n).kind=0)):=rfl
 unfold walkPost
 rw[hcf]
 have hrt:=λ wb mb ck=>root13_spec l hl hok wb mb c a ρ hFo ck
 generalize Wx (Yw l) 64 0 1 bd0 ([],0)=r at *
 refine Za func213 rfl rfl rfl λ u R=>?_
 simp only[Zc,kA]
 cases r with
 | none=>
  repeat' (first|(refine Zb (.func 255) ?_;refine qR rfl rfl (hct) ?_;try simp only[kA])|(refine Zb (.func 256) ?_;refine qC rfl rfl (hrt _ _ _) ?_;rintro v3 ρ3 L3 hq3 ⟨rfl,rfl,dp3,es3,ck3,hs3,rfl⟩;try simp only[kA])|refine zV ?_|intro _)
  exact qE (L':=[]) ⟨⟨_,rfl⟩,rfl,rfl⟩
 | some s=>
  repeat' (first|(refine Zb (.func 255) ?_;refine qR rfl rfl (hct) ?_;try simp only[kA])|(refine Zb (.func 256) ?_;refine qC rfl rfl (hrt _ _ _) ?_;rintro v3 ρ3 L3 hq3 ⟨rfl,rfl,dp3,es3,ck3,hs3,rfl⟩;try simp only[kA])|refine zV ?_|intro _)
  obtain⟨rfl,hm⟩:=hs3 s rfl
  clear hs3 hrt hct
  rename_i b1 mb wb
  refine lpG Nat [4,30,31] (λ z=>[(32,.int .i64 z),(2,.pointer none),(3,.bool false)]) (λ z=>ρ3) (λ z=>[wkC wb a c mb s.2,mtC mb es3 ck3]) (λ z=>z<=64/\∀n,n<z->(decide (n∈s.1) || decide ((Yw l n).kind=0))=true) (λ z=>64-z) 0 ⟨aZ _,λ n h=>absurd h (Nat.not_lt_zero _)⟩ ?_
  rintro i hI
  try simp only[kB] at hI ⊢
  try dsimp only at hI ⊢
  obtain⟨hi,hall⟩:=hI
  by_cases hlt:i<64
  ·obtain⟨bb,off,C,T,fr,ea,hb0,hfit,hc⟩:=hFo.at'.get (show i<l.length by omega)
   have hfo:=foOf_at (show i<l.length by omega)
   have hes:=hm.keys
   have hg:=hm.get (i:Int)
   subst ea
   generalize l[i]'(show i<l.length by omega)=x at *
   obtain⟨⟨ra,rn,rc,ka,kn,kc⟩,cc⟩:=x
   dsimp only at hfo
   by_cases hin:i∈s.1
   ·rw[if_pos (metI_mem.2 hin)] at hg
    have hnext:∀n,n<i+1->(decide (n∈s.1) || decide ((Yw l n).kind=0))=true:=λ n hn=>by
     by_cases e:n=i
     ·subst e;rw[decide_eq_true hin];rfl
     ·exact hall n (by omega)
    repeat' (first|refine zV ?_|intro _)
    refine rnG (i+1) (⟨hlt,hnext⟩)
   ·rw[if_neg (λ h=>hin (metI_mem.1 h))] at hg
    by_cases hk:cc.kind=0
    ·have hnext:∀n,n<i+1->(decide (n∈s.1) || decide ((Yw l n).kind=0))=true:=λ n hn=>by
      by_cases e:n=i
      ·subst e;rw[hfo,decide_eq_true hk,Bool.or_true]
      ·exact hall n (by omega)
     repeat' (first|refine zV ?_|intro _)
     refine rnG (i+1) (⟨hlt,hnext⟩)
    ·have hbad:(List.range 64).all (λ n=>decide (n∈s.1) || decide ((Yw l n).kind=0))=false:=by
      rw[List.all_eq_false]
      exact⟨i,List.mem_range.2 hlt,by rw[hfo,decide_eq_false hin,decide_eq_false hk];simp⟩
     rw[hbad]
     repeat' (first|refine zV ?_|intro _)
     exact qE (L':=[]) ⟨⟨_,rfl⟩,rfl,rfl⟩
  ·have hgood:(List.range 64).all (λ n=>decide (n∈s.1) || decide ((Yw l n).kind=0))=true:=by
    rw[List.all_eq_true]
    exact λ n hn=>hall n (by have:=List.mem_range.1 hn;omega)
   rw[hgood]
   repeat' (first|refine zV ?_|intro _)
   exact qE (L':=[]) ⟨⟨_,rfl⟩,rfl,rfl⟩
theorem check13_spec (l:List CC)(hl:l.length=64)(hok:∀x∈l,Zp x.2=true)(c:Nat)(a:Option Addr)(ρ:Hp)(hFo:FoIn ρ a 64 l) :
  Spec prog 150 [.agg ⟨[.slice a 64 c]⟩] ρ [] (λ v ρ' L'=>v=.int .i64 (if codeF (Yw l) then 0 else 230)/\ρ'=ρ/\L'=[]):=by
 have hlk:=look13_spec l hl hok c a ρ hFo
 unfold walkPost at hlk
 refine Za func150 rfl rfl rfl λ u R=>?_
 simp only[Zc,kA]
 cases hq:codeF (Yw l)
 all_goals rw[hq] at hlk
 all_goals (repeat' (first|(refine Zb (.func 213) ?_;refine qC rfl rfl hlk ?_;rintro v3 ρ3 L3 hq3 ⟨⟨wb,rfl⟩,rfl,rfl⟩;try simp only[kA])|refine zV ?_|intro _))
 all_goals exact qE (L':=[]) ⟨rfl,rfl,rfl⟩
theorem same13_spec (ρ:Hp)(a a':Option Addr)(n n' c c':Nat)(l m:List CC)(h:FoIn ρ a n l)(h':FoIn ρ a' n' m)(hn:n<=1000) :
  Spec prog 91 [.agg ⟨[.slice a n c]⟩,.agg ⟨[.slice a' n' c']⟩] ρ [] (λ v ρ' L'=>v=.bool (decide (l.map (·.2)=m.map (·.2)))/\ρ'=ρ/\L'=[]):=by
 have hl:=h.at'.len
 have hm:=h'.at'.len
 refine Za func91 rfl rfl rfl λ u R=>?_
 simp only[Zc,kA]
 by_cases hne:n=n'
 ·subst hne
  repeat' (first|refine zV ?_|intro _)
  rename_i b2 b3
  refine lpG Nat [2,3] (λ z=>[(5,.int .i64 z),(4,.bool false)]) (λ z=>ρ) (λ z=>[[(b3,.cells ⟨[.slice a' n c']⟩ 161 (0,0))],[(b2,.cells ⟨[.slice a n c]⟩ 161 (0,0))]]) (λ z=>z<=n/\(l.take z).map (·.2)=(m.take z).map (·.2)) (λ z=>n-z) 0 ⟨aZ _,rfl⟩ ?_
  rintro k hI
  try simp only[kB] at hI ⊢
  try dsimp only at hI ⊢
  obtain⟨hk,hpre⟩:=hI
  by_cases hlt:k<n
  ·obtain⟨b,off,C,T,fr,ea,hb,hfit,hc⟩:=h.at'.get (show k<l.length by omega)
   obtain⟨b',off',C',T',fr',ea',hb',hfit',hc'⟩:=h'.at'.get (show k<m.length by omega)
   have hcx:=h.cin _ (aM (show k<l.length by omega))
   have hcy:=h'.cin _ (aM (show k<m.length by omega))
   have ht1:=aG (show k<l.length by omega)
   have ht2:=aG (show k<m.length by omega)
   have hf:l.map (·.2)=m.map (·.2)->(l[k]'(by omega)).2=(m[k]'(by omega)).2:=λ e=>by
    have:=congrArg (λ z=>z[k]?) e
    simp only[List.getElem?_map,List.getElem?_eq_getElem (show k<l.length by omega),List.getElem?_eq_getElem (show k<m.length by omega),Option.map_some,Option.some.injEq] at this
    exact this
   subst ea
   subst ea'
   generalize l[k]'(by omega)=x at *
   generalize m[k]'(by omega)=y at *
   have hs:=sameR_spec ρ x.1 y.1 x.2 y.2 hcx hcy
   by_cases he:x.2=y.2
   ·rw[decide_eq_true he] at hs
    have hnx:(l.take (k+1)).map (·.2)=(m.take (k+1)).map (·.2):=by rw[ht1,ht2,List.map_append,List.map_append,hpre];simp[he]
    repeat' (first|refine zV ?_|intro _)
    refine tpZ [0,1,2,3,4,5,6,7,8,9] (.e 10 [] (.f [11] .o)) ?_
    repeat' (refine iT ?_;first|refine rA ?_|(refine rE ?_<;>(refine Zb (.func 81) ?_;refine qR rfl rfl (hs) ?_;try simp only[kA])<;>(try simp only[kA])<;>refine zN ?_))
    repeat' (first|refine zV ?_|intro _)
    refine rnG (k+1) (⟨hlt,hnx⟩)
   ·rw[decide_eq_false he] at hs
    rw[decide_eq_false (λ e=>he (hf e))]
    repeat' (first|refine zV ?_|intro _)
    refine tpZ [0,1,2,3,4,5,6,7,8,9] (.e 10 [] (.f [11] .o)) ?_
    repeat' (refine iT ?_;first|refine rA ?_|(refine rE ?_<;>(refine Zb (.func 81) ?_;refine qR rfl rfl (hs) ?_;try simp only[kA])<;>(try simp only[kA])<;>refine zN ?_))
    repeat' (first|refine zV ?_|intro _)
    exact qE (L':=[]) ⟨rfl,rfl,rfl⟩
  ·have hk2:k=n:=by omega
   rw[hk2,aT (by omega),aT (by omega)] at hpre
   rw[decide_eq_true hpre]
   repeat' (first|refine zV ?_|intro _)
   exact qE (L':=[]) ⟨rfl,rfl,rfl⟩
 ·rw[decide_eq_false (λ e=>hne (by have:=congrArg List.length e;simp only[List.length_map] at this;omega))]
  repeat' (first|refine zV ?_|intro _)
  exact qE (L':=[]) ⟨rfl,rfl,rfl⟩
theorem madeN (m:Nat):madeCells (Value.int .i64 0).cells m=⟨(List.replicate m 0).map nV⟩:=by
 have hz:(Value.int IntKind.i64 0).cells=⟨[nV 0]⟩:=rfl
 rw[hz]
 apply Array.ext'
 apply List.ext_getElem?
 intro i
 by_cases hi:i<m
 ·simp[madeCells,hi,Nat.mod_one]
 ·rw[List.getElem?_eq_none (by simp[madeCells];omega),List.getElem?_eq_none (by simp;omega)]
def cntL (P:List Nat):List Nat:=(List.range 64).map (λ n=>P.count n)
theorem cntL_get {P:List Nat}{n:Nat}(h:n<64):(cntL P)[n]?=some (P.count n):=by simp[cntL,h]
theorem cntL_put {P:List Nat}{n:Nat}(h:n<64):stc ((cntL P).map nV) n [nV (P.count n+1)]=(cntL (P++[n])).map nV:=by
 apply List.ext_getElem?
 intro i
 unfold stc
 have hl:(cntL P).length=64:=by simp[cntL]
 rw[List.getElem?_append,List.getElem?_append]
 simp only[aL,List.length_take,List.length_map,hl,aC,List.length_nil,List.getElem?_take,List.getElem?_drop,List.getElem?_map]
 by_cases hi:i<64
 ·rcases Nat.lt_trichotomy i n with h1|h1|h1
  ·rw[if_pos (by omega),if_pos (by omega),if_pos h1,cntL_get hi,cntL_get hi]
   simp[List.count_append,List.count_singleton,show ¬n=i by omega]
  ·subst h1
   rw[if_pos (by omega),if_neg (by omega),show i-min i 64=0 by omega,cntL_get hi]
   simp[List.count_append]
  ·rw[if_neg (by omega),show n+(0+1)+(i-(min n 64+(0+1)))=i by omega,cntL_get hi,cntL_get hi]
   simp[List.count_append,List.count_singleton,show ¬n=i by omega]
 ·rw[if_neg (by omega),show n+(0+1)+(i-(min n 64+(0+1)))=i by omega,List.getElem?_eq_none (by rw[hl];omega),List.getElem?_eq_none (by simp[cntL];omega)]
theorem right13_spec (l:List CC)(hl:l.length=64)(hok:∀x∈l,Zp x.2=true)(hid:∀x∈l,(∀r∈x.2.rows,r.id<65536)/\∀k∈x.2.kids,k.id<65536)(c:Nat)(a:Option Addr)(ρ:Hp)(hFo:FoIn ρ a 64 l) :
  Spec prog 151 [.agg ⟨[.slice a 64 c]⟩] ρ [] (λ v ρ' L'=>v=.bool (docF (Yw l))/\ρ.le ρ'/\L'=[]):=by
 have hF:=foOf_ok hok
 refine Za func151 rfl rfl rfl λ u R=>?_
 simp only[Zc,kA]
 repeat' (first|refine zV ?_|intro _)
 rename_i b1
 refine lpG Nat [1] (λ z=>[(3,.int .i64 z),(2,.bool false)]) (λ z=>ρ) (λ z=>[[(b1,.cells ⟨[.slice a 64 c]⟩ 161 (0,0))]]) (λ z=>z<=64) (λ z=>64-z) 0 (aZ _) ?_
 rintro i hI
 try simp only[kB] at hI ⊢
 try dsimp only at hI ⊢
 by_cases hlt:i<64
 ·obtain⟨bb,off,C,T,fr,ea,hb0,hfit,hc⟩:=hFo.at'.get (show i<l.length by omega)
  have hr:=right_spec ρ _ _ (hFo.cin _ (aM (show i<l.length by omega))) (hid _ (aM (show i<l.length by omega))).1 (hid _ (aM (show i<l.length by omega))).2
  rw[hok _ (aM (show i<l.length by omega))] at hr
  rw[ea]
  generalize l[i]'(show i<l.length by omega)=x at *
  repeat' (first|(refine Zb (.func 147) ?_;refine qR rfl rfl (hr) ?_;try simp only[kA])|refine zV ?_|intro _)
  rw[<-ea]
  refine rnG (i+1) (hlt)
 ·have hi64:i=64:=by omega
  subst hi64
  have hpg:=pages13_spec l hl hok c a 8 ρ 0 bd0 (aR _) (by omega) hFo
  have hplen:=pagesR_len hF 8 0 bd0
  rw[show (5:Nat) ^ 8=390625 by decide] at hplen
  have hlt64:∀q∈XI (Yw l) 8 0 bd0,q<64:=λ q hq=>by
   rw[pagesR_eq hF] at hq
   cases hk:Wh (Yw l) 8 0 bd0 with
   | none=>rw[hk] at hq;simp at hq
   | some y=>rw[hk] at hq;exact lookH_lt hF.kid _ _ _ _ (by omega) hk q hq
  have hdoc:docF (Yw l)=(decide (XI (Yw l) 8 0 bd0≠[]) && ((List.range 64).all (λ n=>decide ((XI (Yw l) 8 0 bd0).count n<=1) && (decide ((XI (Yw l) 8 0 bd0).count n≠0) || decide ((Yw l n).kind=0))) && (YZ (Yw l) 8 0 1).all (λ x=>decide (x=(YZ (Yw l) 8 0 1).headD 0)))):=rfl
  rw[hdoc]
  clear hdoc
  generalize XI (Yw l) 8 0 bd0=P at *
  by_cases hP:P=[]
  ·have hP0:P.length=0:=by rw[hP];rfl
   rw[show decide (P≠[])=false from decide_eq_false (λ h=>h hP),Bool.false_and]
   repeat' (first|(refine Zb (.func 214) ?_;refine qC rfl rfl hpg ?_;rintro v3 ρ3 L3 hq3 ⟨hl3,rfl,pa,pc,rfl,hPs⟩;try simp only[kA])|refine zV ?_|intro _)
   exact qE (L':=[]) ⟨rfl,hl3,rfl⟩
  ·have hP0:¬P.length=0:=λ e=>hP (List.eq_nil_of_length_eq_zero e)
   rw[show decide (P≠[])=true from decide_eq_true hP,Bool.true_and]
   repeat' (first|(refine Zb (.func 214) ?_;refine qC rfl rfl hpg ?_;rintro v3 ρ3 L3 hq3 ⟨hl3,rfl,pa,pc,rfl,hPs⟩;try simp only[kA])|(refine WK rfl rfl (by omega) (by omega) (by omega) (by omega) rfl (λ bm=>?_))|refine zV ?_|intro _)
   simp only[show (64:Int).toNat=64 from rfl,Nat.mul_one,madeN]
   refine lpG Nat [1,2,4,5] (λ z=>[(6,.int .i64 z)]) (λ z=>ρ3) (λ z=>[(bm,.cells ⟨(cntL (P.take z)).map nV⟩ 3 (0,0))]::[[(b1,.cells ⟨[.slice a 64 c]⟩ 161 (0,0))]]) (λ z=>z<=P.length) (λ z=>P.length-z) 0 (aZ _) ?_
   rintro i hI
   try simp only[kB] at hI ⊢
   try dsimp only at hI ⊢
   by_cases hlt:i<P.length
   ·obtain⟨qb,qo,qC',qT,qf,eq,hqb,hqc⟩:=hPs.get hlt
    have hq64:=hlt64 _ (aM hlt)
    have ht:=aG hlt
    rw[eq]
    generalize P[i]=q at *
    have hput:=cntL_put (P:=P.take i) hq64
    have hget:=cntL_get (P:=P.take i) hq64
    rw[<-ht] at hput
    have hget2:((cntL (P.take i)).map nV)[0+q*1]?=some (nV ((P.take i).count q)):=by rw[Nat.zero_add,Nat.mul_one,List.getElem?_map,hget];rfl
    have hct:(P.take i).count q<=390625:=Nat.le_trans (List.count_le_length) (by rw[List.length_take];omega)
    generalize hcn:(P.take i).count q=cn at *
    have hlenC:((cntL (P.take i)).map nV).length=64:=by simp[cntL]
    repeat' (first|refine zV ?_|intro _)
    refine Yt [0,1,2,3,4,5,6,7,8,9,10] (.e 11 [12,13] (.e 14 [] .o)) ([]) ?_
    repeat' (refine iT ?_;first|refine rA ?_|(refine rE ?_<;>((first|(refine i_qq ?_;refine qQ ?_)|refine qEf ?_)<;>(try simp only[kA])<;>refine zN ?_)))
    repeat' (first|refine zV ?_|intro _)
    rw[show stc ((cntL (P.take i)).map nV) (0+q*1) [Value.int .i64 ((cn:Int)+1)]=(cntL (P.take (i+1))).map nV by rw[Nat.zero_add,Nat.mul_one];exact hput]
    rw[<-eq]
    refine rnG (i+1) (hlt)
   ·have hi2:i=P.length:=by omega
    subst hi2
    rw[List.take_length]
    repeat' (first|refine zV ?_|intro _)
    have hlenC:((cntL P).map nV).length=64:=by simp[cntL]
    refine lpG Nat [1,5] (λ z=>[(7,.int .i64 z),(2,.bool false)]) (λ z=>ρ3) (λ z=>[(bm,.cells ⟨(cntL P).map nV⟩ 3 (0,0))]::[[(b1,.cells ⟨[.slice a 64 c]⟩ 161 (0,0))]]) (λ z=>z<=64/\∀n,n<z->(decide (P.count n<=1) && (decide (P.count n≠0) || decide ((Yw l n).kind=0)))=true) (λ z=>64-z) 0 ⟨aZ _,λ n h=>absurd h (Nat.not_lt_zero _)⟩ ?_
    rintro i hI
    try simp only[kB] at hI ⊢
    try dsimp only at hI ⊢
    obtain⟨hi,hall⟩:=hI
    by_cases hlt:i<64
    ·obtain⟨bb,off,C,T,fr,ea,hb0,hfit,hc⟩:=(hFo.mono hl3).at'.get (show i<l.length by omega)
     have hfo:=foOf_at (show i<l.length by omega)
     generalize l[i]'(show i<l.length by omega)=x at *
     obtain⟨⟨ra,rn,rc,ka,kn,kc⟩,cc⟩:=x
     dsimp only at hfo
     have hkd:C[off+i*3+0]?=some (.int .i64 cc.kind):=by
      have:=congrArg (λ z=>z[0]?) hc
      simp only[List.getElem?_take,List.getElem?_drop,show (0:Nat)<3 by omega,if_true] at this
      exact this
     have hget2:((cntL P).map nV)[0+i*1]?=some (nV (P.count i)):=by rw[Nat.zero_add,Nat.mul_one,List.getElem?_map,cntL_get hlt];rfl
     have hnext:(decide (P.count i<=1) && (decide (P.count i≠0) || decide (cc.kind=0)))=true->∀n,n<i+1->(decide (P.count n<=1) && (decide (P.count n≠0) || decide ((Yw l n).kind=0)))=true:=λ h n hn=>by
      by_cases e:n=i
      ·subst e;rw[hfo];exact h
      ·exact hall n (by omega)
     have hbad:(decide (P.count i<=1) && (decide (P.count i≠0) || decide (cc.kind=0)))=false->(List.range 64).all (λ n=>decide (P.count n<=1) && (decide (P.count n≠0) || decide ((Yw l n).kind=0)))=false:=λ h=>by
      rw[List.all_eq_false]
      exact⟨i,List.mem_range.2 hlt,by rw[hfo,h];simp⟩
     generalize P.count i=cn at *
     rw[ea]
     by_cases h1:cn<=1
     ·by_cases h0:cn=0
      ·subst h0
       by_cases hk:cc.kind=0
       ·have hnx:=hnext (by simp[hk])
        repeat' (first|refine zV ?_|intro _)
        rw[<-ea]
        refine rnG (i+1) (⟨hlt,hnx⟩)
       ·rw[hbad (by simp[hk]),Bool.false_and]
        repeat' (first|refine zV ?_|intro _)
        exact qE (L':=[]) ⟨rfl,hl3,rfl⟩
      ·have hnx:=hnext (by simp[h0,h1])
       repeat' (first|refine zV ?_|intro _)
       rw[<-ea]
       refine rnG (i+1) (⟨hlt,hnx⟩)
     ·rw[hbad (by simp[h1]),Bool.false_and]
      repeat' (first|refine zV ?_|intro _)
      exact qE (L':=[]) ⟨rfl,hl3,rfl⟩
    ·have hgood:(List.range 64).all (λ n=>decide (P.count n<=1) && (decide (P.count n≠0) || decide ((Yw l n).kind=0)))=true:=by
      rw[List.all_eq_true]
      exact λ n hn=>hall n (by have:=List.mem_range.1 hn;omega)
     rw[hgood,Bool.true_and]
     clear hgood hall
     have hdp:=depths13_spec l hl hok c a 8 ρ3 0 1 (by omega) (by omega) (hFo.mono hl3)
     have hdlen:=depthsR_len hF 8 0 1
     rw[show (5:Nat) ^ 8=390625 by decide] at hdlen
     generalize YZ (Yw l) 8 0 1=D at *
     repeat' (first|(refine Zb (.func 215) ?_;refine qC rfl rfl hdp ?_;rintro v4 ρ4 L4 hq4 ⟨hl4,rfl,da,dc,rfl,hDs⟩;try simp only[kA])|refine zV ?_|intro _)
     refine lpG Nat [8] (λ z=>[(9,.int .i64 z),(2,.bool false)]) (λ z=>ρ4) (λ z=>[]) (λ z=>1<=z/\z<=D.length+1/\∀x∈D.take z,x=D.headD 0) (λ z=>D.length+1-z) 1 ⟨aR _,by omega,λ x hx=>by cases D with|nil=>simp at hx|cons d D=>simpa using hx⟩ ?_
     rintro i hI
     try simp only[kB] at hI ⊢
     try dsimp only at hI ⊢
     obtain⟨hi1,hi2,hall⟩:=hI
     by_cases hlt:i<D.length
     ·obtain⟨qb,qo,qC',qT,qf,eq,hqb,hqc⟩:=hDs.get hlt
      obtain⟨qb2,qo2,qC2,qT2,qf2,eq2,hqb2,hqc2⟩:=hDs.get (show 0<D.length by omega)
      have ht:=aG hlt
      have hhd:D.headD 0=D[0]'(by omega):=by cases D with|nil=>simp at hlt|cons d D=>rfl
      have hbad:D[i]≠D[0]'(by omega)->D.all (λ x=>decide (x=D.headD 0))=false:=λ h=>by
       rw[List.all_eq_false]
       exact⟨D[i],aM hlt,by rw[hhd];simpa using h⟩
      rw[eq] at eq2
      cases eq2
      cases hqb.symm.trans hqb2
      rw[hhd] at hall
      have hnext:D[i]=D[0]'(by omega)->∀x∈D.take (i+1),x=D.headD 0:=λ h x hx=>by
       rw[ht] at hx
       rw[hhd]
       rcases List.mem_append.1 hx with hx|hx
       ·exact hall x hx
       ·rw[List.mem_singleton.1 hx];exact h
      rw[eq]
      clear ht hall hhd
      generalize D[i]=q at *
      generalize D[0]'(by omega)=q0 at *
      by_cases he:q=q0
      ·have hnx:=hnext he
       subst he
       repeat' (first|refine zV ?_|intro _)
       refine tpZ [0] (.f [1,2,3,4,5,6,7] .o) ?_
       repeat' (refine iT ?_;first|refine rA ?_)
       repeat' (first|refine zV ?_|intro _)
       rw[<-eq]
       refine rnG (i+1) (⟨by omega,by omega,hnx⟩)
      ·rw[hbad he]
       have he2:¬(q:Int)=(q0:Int):=by omega
       repeat' (first|refine zV ?_|intro _)
       refine tpZ [0] (.f [1,2,3,4,5,6,7] .o) ?_
       repeat' (refine iT ?_;first|refine rA ?_)
       repeat' (first|refine zV ?_|intro _)
       exact qE (L':=[]) ⟨rfl,Hp.le_trans hl3 hl4,rfl⟩
     ·have hall2:D.all (λ x=>decide (x=D.headD 0))=true:=by
       rw[List.all_eq_true]
       intro x hx
       rw[aT (by omega)] at hall
       exact decide_eq_true (hall x hx)
      rw[hall2]
      repeat' (first|refine zV ?_|intro _)
      exact qE (L':=[]) ⟨rfl,Hp.le_trans hl3 hl4,rfl⟩
structure MH where
 is:Bool
 w:CV
 c:ZO
 lsn:Nat
 rc:Nat
abbrev mhV (x:MH):List Value:=[.bool x.is,.int .i64 x.c.kind,.slice x.w.ra x.w.rn x.w.rc,.slice x.w.ka x.w.kn x.w.kc,.int .u64 x.lsn,.int .u64 x.rc]
def zMH:MH:=⟨false,⟨none,0,0,none,0,0⟩,⟨0,[],[]⟩,0,0⟩
structure MAIn (ρ:Hp)(a:Option Addr)(l:List MH):Prop where
 at':AIn ρ 6 mhV a 64 l
 cin:∀x∈l,CIn ρ x.w x.c.rows x.c.kids
theorem MAIn.mono {ρ ρ' a l}(h:MAIn ρ a l)(hle:ρ.le ρ'):MAIn ρ' a l:=⟨h.at'.mono hle,λ x hx=>(h.cin x hx).mono hle⟩
theorem MAIn.len {ρ a l}(h:MAIn ρ a l):l.length=64:=h.at'.len
abbrev mdVv (va vb:Value)(next fl:Nat):List Value:=[va,vb,.int .u64 1,.int .u64 next,.int .u64 fl]
abbrev mdV (pa:Option Addr)(pc:Nat)(qa:Option Addr)(qc:Nat)(next fl:Nat):List Value:=mdVv (.slice pa 64 pc) (.slice qa 64 qc) next fl
theorem mhV_len (x:MH):(mhV x).length=6:=rfl
theorem mhV_one:∀(l:List MH),((l.map mhV).flatten).all (·.oneCell')=true
 | []=>rfl
 | x::l=>by rw[List.map_cons,aF,List.all_append,mhV_one l];rfl
theorem XO (l:List MH):((l.map mhV).flatten).length=l.length*6:=by
 induction l with
 | nil=>rfl
 | cons x l ih=>rw[List.map_cons,aF,aL,ih,mhV_len,aC];omega
theorem stc_in (A M B vs:List Value)(o:Nat)(h:o+vs.length<=M.length):stc (A++(M++B)) (A.length+o) vs=A++(stc M o vs++B):=by
 unfold stc
 have e1:(A++(M++B)).take (A.length+o)=A++M.take o:=by
  rw[List.take_append,aT (by omega),Nat.add_sub_cancel_left,List.take_append_of_le_length (by omega)]
 have e2:(A++(M++B)).drop (A.length+o+vs.length)=M.drop (o+vs.length)++B:=by
  rw[Nat.add_assoc,<-List.drop_drop,List.drop_left,List.drop_append_of_le_length (by omega)]
 rw[e1,e2]
 simp only[aA]
theorem set_flat {l:List MH}{n o:Nat}{y:MH}{vs sp:List Value}(h:n<l.length)(hy:stc (mhV l[n]) o vs=mhV y)(ho:o+vs.length<=6):stc ((l.map mhV).flatten++sp) (n*6+o) vs=((l.set n y).map mhV).flatten++sp:=by
 have e:l=l.take n++l[n]::l.drop (n+1):=by rw[List.getElem_cons_drop,List.take_append_drop]
 have e3:(l.map mhV).flatten=((l.take n).map mhV).flatten++(mhV l[n]++((l.drop (n+1)).map mhV).flatten):=by
  conv=>lhs;rw[e]
  rw[List.map_append,List.flatten_append,List.map_cons,aF]
 have e4:((l.set n y).map mhV).flatten=((l.take n).map mhV).flatten++(mhV y++((l.drop (n+1)).map mhV).flatten):=by
  rw[List.set_eq_take_append_cons_drop,if_pos h,List.map_append,List.flatten_append,List.map_cons,aF]
 have hl:((l.take n).map mhV).flatten.length=n*6:=by rw[XO,List.length_take,Nat.min_eq_left (by omega)]
 rw[e3,e4,aA,aA,<-hl,stc_in _ _ _ _ _ (by rw[mhV_len];exact ho),hy]
 simp only[aA]
theorem get_flat {l:List MH}{n:Nat}(h:n<l.length)(sp:List Value):(((l.map mhV).flatten++sp).drop (n*6)).take 6=mhV l[n]:=by
 have e:l=l.take n++l[n]::l.drop (n+1):=by rw[List.getElem_cons_drop,List.take_append_drop]
 have e3:(l.map mhV).flatten=((l.take n).map mhV).flatten++(mhV l[n]++((l.drop (n+1)).map mhV).flatten):=by
  conv=>lhs;rw[e]
  rw[List.map_append,List.flatten_append,List.map_cons,aF]
 have hl:((l.take n).map mhV).flatten.length=n*6:=by rw[XO,List.length_take,Nat.min_eq_left (by omega)]
 rw[e3,aA,<-hl,List.drop_left,aA]
 exact List.take_left' (mhV_len _)
theorem cell_of {C:List Value}{o k:Nat}{m:List Value}{v:Value}(h:(C.drop o).take 6=m)(hv:m[k]?=some v)(hk:k<6):C[o+k]?=some v:=by
 have:=congrArg (λ l=>l[k]?) h
 simp only[List.getElem?_take,List.getElem?_drop,hk,if_true] at this
 rw[this];exact hv
theorem part_of {C:List Value}{o:Nat}{x:MH}(h:(C.drop o).take 6=mhV x):(C.drop (o+1)).take 3=Yv x.c.kind x.w:=by
 have:=congrArg (λ l=>(l.drop 1).take 3) h
 simp only[List.drop_take,List.drop_drop,List.take_take] at this
 exact this
theorem XS (ρ:Hp)(n:Int):Spec prog 146 [.int .i64 n] ρ [] (λ v ρ' L'=>v=.bool (decide (0<=n/\n<64))/\ρ'=ρ/\L'=[]):=by
 refine Za func146 rfl rfl rfl λ u R=>?_
 simp only[Zc,kA]
 by_cases h:0<=n
 ·repeat' (first|refine zV ?_|intro _)
  exact qE ⟨by rw[show (decide (0<=n/\n<64))=decide (n<64) by simp[h]],rfl,rfl⟩
 ·repeat' (first|refine zV ?_|intro _)
  exact qE ⟨by rw[show (decide (0<=n/\n<64))=false by simp[h]],rfl,rfl⟩
abbrev mownC (b:Nat)(l:List MH)(sp:List Value):List (Nat×Obj):=[(b,.cells ⟨(l.map mhV).flatten++sp⟩ 158 (0,0))]
theorem ownC_m (b n c:Nat)(l:List MH)(sp:List Value):ZG (.slice (some ⟨b,0,none⟩) n c) ((l.map mhV).flatten) sp 158=mownC b l sp:=by simp[ZG]
theorem copied17_spec (ρ:Hp)(pa:Option Addr)(pc:Nat)(qa:Option Addr)(qc:Nat)(next fl:Nat)(P Q:List MH)(hP:MAIn ρ pa P)(hQ:MAIn ρ qa Q) :
  Spec prog 149 [.agg ⟨mdV pa pc qa qc next fl⟩] ρ [] (λ v ρ' L'=>ρ'=ρ/\∃b1 c1 s1 b2 c2 s2,v=.agg ⟨mdV (some ⟨b1,0,none⟩) c1 (some ⟨b2,0,none⟩) c2 next fl⟩/\64<=c1/\64<=c2/\OwnS (.slice (some ⟨b1,0,none⟩) 64 c1) 64 ((P.map mhV).flatten) s1 6/\OwnS (.slice (some ⟨b2,0,none⟩) 64 c2) 64 ((Q.map mhV).flatten) s2 6/\L'=[mownC b2 Q s2,mownC b1 P s1]):=by
 have hl:=hP.len
 have hm:=hQ.len
 refine Za func149 rfl rfl rfl λ u R=>?_
 simp only[Zc,kA]
 repeat' (first|(refine YA (n:=0) (xs:=[]) (sp:=[]) (ys:=(P.map mhV).flatten) (m:=64) (sz:=6) rfl rfl (OwnS.zero _ 6) (hR:=ZJ) hP.at'.srcV (by rw[XO,hl]) (mhV_one _) (by decide) rfl (by omega) (by omega) rfl (λ va s1 hva=>?_);simp only[List.nil_append,Nat.zero_add] at hva ⊢;obtain⟨b1,c1,rfl⟩:=hva.pos (by omega);rw[ownC_m])|(refine YA (n:=0) (xs:=[]) (sp:=[]) (ys:=(Q.map mhV).flatten) (m:=64) (sz:=6) rfl rfl (OwnS.zero _ 6) (hR:=ZJ) hQ.at'.srcV (by rw[XO,hm]) (mhV_one _) (by decide) rfl (by omega) (by omega) rfl (λ vb s2 hvb=>?_);simp only[List.nil_append,Nat.zero_add] at hvb ⊢;obtain⟨b2,c2,rfl⟩:=hvb.pos (by omega);rw[ownC_m])|refine zV ?_|intro _)
 obtain⟨_,_,e1,k1⟩:=hva.slice
 obtain⟨_,_,e2,k2⟩:=hvb.slice
 cases e1
 cases e2
 exact qE (L':=[mownC b2 Q s2,mownC b1 P s1]) ⟨rfl,b1,c1,s1,b2,c2,s2,rfl,k1,k2,hva,hvb,rfl⟩
theorem MAIn.of {ρ:Hp}{b:Nat}{P:List MH}{sp:List Value}{T:TypeId}(hl:P.length=64)(hf:ρ b=some (.cells ⟨(P.map mhV).flatten++sp⟩ T (0,0)))(hc:∀x∈P,CIn ρ x.w x.c.rows x.c.kids):MAIn ρ (some ⟨b,0,none⟩) P:=
 ⟨⟨hl,.inr ⟨b,0,_,_,_,rfl,hf,by rw[aL,XO,hl];omega,by rw[List.drop_zero];exact List.take_left' (by rw[XO,hl])⟩,λ x _=>rfl⟩,hc⟩
theorem cin_set {ρ:Hp}{P:List MH}(hc:∀x∈P,CIn ρ x.w x.c.rows x.c.kids){n:Nat}{y:MH}(hy:CIn ρ y.w y.c.rows y.c.kids):∀x∈P.set n y,CIn ρ x.w x.c.rows x.c.kids:=λ x hx=>by
 rcases List.mem_or_eq_of_mem_set hx with h|rfl
 ·exact hc x h
 ·exact hy
def holdM (P Q:List MH)(n:Nat):List MH:=if (P.getD n zMH).is then P else P.set n ⟨true,(Q.getD n zMH).w,(Q.getD n zMH).c,(Q.getD n zMH).lsn,0⟩
theorem getD_mh {P:List MH}{n:Nat}(h:n<P.length):P.getD n zMH=P[n]:=by rw[List.getD_eq_getElem?_getD,List.getElem?_eq_getElem h];rfl
theorem hold17_spec (ρ:Hp)(pa:Option Addr)(pc:Nat)(qa:Option Addr)(qc:Nat)(next fl:Nat)(P Q:List MH)(hP:MAIn ρ pa P)(hQ:MAIn ρ qa Q)(n:Nat)(hn:n<64) :
  Spec prog 148 [.agg ⟨mdV pa pc qa qc next fl⟩,.int .i64 n] ρ [] (λ v ρ' L'=>ρ.le ρ'/\L'=[]/\∃pa' pc' qa' qc',v=.agg ⟨mdV pa' pc' qa' qc' next fl⟩/\MAIn ρ' pa' (holdM P Q n)/\MAIn ρ' qa' Q):=by
 have hl:=hP.len
 have hm:=hQ.len
 have hcp:=copied17_spec ρ pa pc qa qc next fl P Q hP hQ
 have hP0:=hP
 have hQ0:=hQ
 obtain⟨bb,off,C,T,fr,rfl,hb0,hfit,hc⟩:=hP.at'.get (show n<P.length by omega)
 have his:=cell_of (k:=0) hc rfl (by omega)
 refine Za func148 rfl rfl rfl λ u R=>?_
 simp only[Zc,kA]
 unfold holdM
 rw[getD_mh (show n<P.length by omega),getD_mh (show n<Q.length by omega)]
 cases hi:P[n].is
 ·rw[hi] at his
  rw[if_neg (by simp)]
  repeat' (first|(refine Zb (.func 149) ?_;refine qC rfl rfl hcp ?_;rintro v3 ρ3 L3 hq3 ⟨rfl,b1,c1,s1,b2,c2,s2,rfl,hc1,hc2,ho1,ho2,rfl⟩;try simp only[kA];refine Zt (mownC b2 Q s2) (h:=by repeat (first|exact ZJ|apply Ya)) (λ ρ4 hl4 hz4=>?_))|refine zV ?_|intro _)
  rename_i bx bz
  have hb2:=hz4 _ (List.mem_singleton.2 rfl)
  have hq6:=get_flat (show n<Q.length by omega) s2
  have hcQ:=hQ0.cin _ (aM (show n<Q.length by omega))
  generalize Q[n]=y at *
  rw[show n*6=0+n*6 by omega] at hq6
  have hqp:=part_of hq6
  have hql:=cell_of (k:=4) hq6 rfl (by omega)
  have hlP:((P.map mhV).flatten++s1).length=384+s1.length:=by rw[aL,XO,hl]
  have hlQ:((Q.map mhV).flatten++s2).length=384+s2.length:=by rw[aL,XO,hm]
  have hset:=set_flat (o:=0) (vs:=mhV ⟨true,y.w,y.c,y.lsn,0⟩) (sp:=s1) (show n<P.length by omega) (y:=⟨true,y.w,y.c,y.lsn,0⟩) rfl (aR _)
  refine Yt [0,1,2,3,4,5,6,7,8,9,10,11,12,13,14,15,16] (.e 17 [] .o) ([[(bx,.cells ⟨mdV (some ⟨b1,0,none⟩) c1 (some ⟨b2,0,none⟩) c2 next fl⟩ 73 (0,0))]]) ?_
  repeat' (refine iT ?_;first|refine rAb ?_|(refine rE ?_<;>(refine qEf ?_)<;>(try simp only[kA])<;>refine zN ?_))
  repeat' (first|refine zV ?_|intro _)
  rw[show stc ((P.map mhV).flatten++s1) (0+n*6) [.bool true,.int .i64 y.c.kind,.slice y.w.ra y.w.rn y.w.rc,.slice y.w.ka y.w.kn y.w.kc,.int .u64 y.lsn,.int .u64 0]=((P.set n ⟨true,y.w,y.c,y.lsn,0⟩).map mhV).flatten++s1 by rw[Nat.zero_add];exact hset]
  refine ZB (mownC b1 (P.set n ⟨true,y.w,y.c,y.lsn,0⟩) s1) (λ ρ5 hl5 hz5=>?_)
  have hb1:=hz5 _ (List.mem_singleton.2 rfl)
  have hl45:=Hp.le_trans hl4 hl5
  exact qE (L':=[]) ⟨hl45,rfl,_,c1,_,c2,rfl,MAIn.of (by rw[List.length_set];exact hl) hb1 (cin_set (λ x hx=>(hP0.cin x hx).mono hl45) (hcQ.mono hl45)),MAIn.of hm (Hp.at' hl5 hb2) (λ x hx=>(hQ0.cin x hx).mono hl45)⟩
 ·rw[hi] at his
  rw[if_pos rfl]
  repeat' (first|refine zV ?_|intro _)
  exact qE (L':=[]) ⟨Hp.le_refl _,rfl,_,_,_,_,rfl,hP0,hQ0⟩
theorem page17r_spec (ρ:Hp)(pa:Option Addr)(pc:Nat)(qa:Option Addr)(qc:Nat)(next fl:Nat)(P Q:List MH)(hP:MAIn ρ pa P)(hQ:MAIn ρ qa Q)(n:Nat)(hn:n<64) :
  Spec prog 88 [.agg ⟨mdV pa pc qa qc next fl⟩,.int .i64 n] ρ [] (λ v ρ' L'=>ρ.le ρ'/\L'=[]/\∃pa' pc' qa' qc',v=.tuple ⟨[.agg ⟨mdV pa' pc' qa' qc' next fl⟩,.int .i64 0]⟩/\MAIn ρ' pa' (holdM P Q n)/\MAIn ρ' qa' Q):=by
 have hh:=hold17_spec ρ pa pc qa qc next fl P Q hP hQ n hn
 have hth:=XS ρ (n:Int)
 rw[decide_eq_true (show 0<=(n:Int)/\(n:Int)<64 by omega)] at hth
 refine Za func88 rfl rfl rfl λ u R=>?_
 simp only[Zc,kA]
 repeat' (first|(refine Zb (.func 146) ?_;refine qR rfl rfl (hth) ?_;try simp only[kA])|(refine Zb (.func 148) ?_;refine qC rfl rfl hh ?_;rintro v3 ρ3 L3 hq3 ⟨hl3,rfl,pa',pc',qa',qc',rfl,hP3,hQ3⟩;try simp only[kA])|refine zV ?_|intro _)
 exact qE (L':=[]) ⟨hl3,rfl,pa',pc',qa',qc',rfl,hP3,hQ3⟩
theorem page17r_arg (ρ:Hp)(pa:Option Addr)(pc:Nat)(qa:Option Addr)(qc:Nat)(next fl:Nat)(n:Int)(hn:¬(0<=n/\n<64)) :
  Spec prog 88 [.agg ⟨mdV pa pc qa qc next fl⟩,.int .i64 n] ρ [] (λ v ρ' L'=>v=.tuple ⟨[.agg ⟨mdV pa pc qa qc next fl⟩,.int .i64 2]⟩/\ρ'=ρ/\L'=[]):=by
 have hth:=XS ρ n
 rw[decide_eq_false hn] at hth
 refine Za func88 rfl rfl rfl λ u R=>?_
 simp only[Zc,kA]
 repeat' (first|(refine Zb (.func 146) ?_;refine qR rfl rfl (hth) ?_;try simp only[kA])|refine zV ?_|intro _)
 exact qE (L':=[]) ⟨rfl,rfl,rfl⟩
theorem evict17r_arg (ρ:Hp)(pa:Option Addr)(pc:Nat)(qa:Option Addr)(qc:Nat)(next fl:Nat)(n:Int)(hn:¬(0<=n/\n<64)) :
  Spec prog 87 [.agg ⟨mdV pa pc qa qc next fl⟩,.int .i64 n] ρ [] (λ v ρ' L'=>v=.tuple ⟨[.agg ⟨mdV pa pc qa qc next fl⟩,.int .i64 2]⟩/\ρ'=ρ/\L'=[]):=by
 have hth:=XS ρ n
 rw[decide_eq_false hn] at hth
 refine Za func87 rfl rfl rfl λ u R=>?_
 simp only[Zc,kA]
 repeat' (first|(refine Zb (.func 146) ?_;refine qR rfl rfl (hth) ?_;try simp only[kA])|refine zV ?_|intro _)
 exact qE (L':=[]) ⟨rfl,rfl,rfl⟩
def evictX (x:MH):Int:=if x.is then (if x.rc=0 then 0 else 270) else 4
def evictM (P:List MH)(n:Nat):List MH:=if evictX (P.getD n zMH)=0 then P.set n zMH else P
theorem evict17r_spec (ρ:Hp)(pa:Option Addr)(pc:Nat)(qa:Option Addr)(qc:Nat)(next fl:Nat)(P Q:List MH)(hP:MAIn ρ pa P)(hQ:MAIn ρ qa Q)(n:Nat)(hn:n<64) :
  Spec prog 87 [.agg ⟨mdV pa pc qa qc next fl⟩,.int .i64 n] ρ [] (λ v ρ' L'=>ρ.le ρ'/\L'=[]/\∃pa' pc' qa' qc',v=.tuple ⟨[.agg ⟨mdV pa' pc' qa' qc' next fl⟩,.int .i64 (evictX (P.getD n zMH))]⟩/\MAIn ρ' pa' (evictM P n)/\MAIn ρ' qa' Q):=by
 have hl:=hP.len
 have hm:=hQ.len
 have hcp:=copied17_spec ρ pa pc qa qc next fl P Q hP hQ
 have hP0:=hP
 have hQ0:=hQ
 have hth:=XS ρ (n:Int)
 rw[decide_eq_true (show 0<=(n:Int)/\(n:Int)<64 by omega)] at hth
 obtain⟨bb,off,C,T,fr,rfl,hb0,hfit,hc⟩:=hP.at'.get (show n<P.length by omega)
 have his:=cell_of (k:=0) hc rfl (by omega)
 have hrc:=cell_of (k:=5) hc rfl (by omega)
 refine Za func87 rfl rfl rfl λ u R=>?_
 simp only[Zc,kA]
 unfold evictM evictX
 rw[getD_mh (show n<P.length by omega)]
 have hset:=λ s1=>set_flat (o:=0) (vs:=mhV zMH) (sp:=s1) (show n<P.length by omega) (y:=zMH) rfl (aR _)
 generalize P[n]=x at *
 cases hi:x.is
 ·rw[hi] at his
  rw[if_neg (by simp),if_neg (by simp)]
  repeat' (first|(refine Zb (.func 146) ?_;refine qR rfl rfl (hth) ?_;try simp only[kA])|refine zV ?_|intro _)
  exact qE (L':=[]) ⟨Hp.le_refl _,rfl,_,_,_,_,rfl,hP0,hQ0⟩
 ·rw[hi] at his
  by_cases h0:x.rc=0
  ·rw[h0] at hrc
   rw[if_pos rfl,if_pos h0,if_pos rfl]
   repeat' (first|(refine Zb (.func 146) ?_;refine qR rfl rfl (hth) ?_;try simp only[kA])|(refine Zb (.func 149) ?_;refine qC rfl rfl hcp ?_;rintro v3 ρ3 L3 hq3 ⟨rfl,b1,c1,s1,b2,c2,s2,rfl,hc1,hc2,ho1,ho2,rfl⟩;have hlP:((P.map mhV).flatten++s1).length=384+s1.length:=(by rw[aL,XO,hl]);try simp only[kA];refine Zt (mownC b2 Q s2) (h:=by repeat (first|exact ZJ|apply Ya)) (λ ρ4 hl4 hz4=>?_))|refine zV ?_|intro _)
   have hb2:=hz4 _ (List.mem_singleton.2 rfl)
   rw[show stc ((P.map mhV).flatten++s1) (0+n*6) [.bool false,.int .i64 0,.slice none 0 0,.slice none 0 0,.int .u64 0,.int .u64 0]=((P.set n zMH).map mhV).flatten++s1 by rw[Nat.zero_add];exact hset s1]
   refine ZB (mownC b1 (P.set n zMH) s1) (λ ρ5 hl5 hz5=>?_)
   have hb1:=hz5 _ (List.mem_singleton.2 rfl)
   have hl45:=Hp.le_trans hl4 hl5
   exact qE (L':=[]) ⟨hl45,rfl,_,c1,_,c2,rfl,MAIn.of (by rw[List.length_set];exact hl) hb1 (cin_set (λ x hx=>(hP0.cin x hx).mono hl45) CIn.nil),MAIn.of hm (Hp.at' hl5 hb2) (λ x hx=>(hQ0.cin x hx).mono hl45)⟩
  ·have h0':¬((x.rc:Nat):Int)=0:=by omega
   rw[if_pos rfl,if_neg h0,if_neg (by omega)]
   repeat' (first|(refine Zb (.func 146) ?_;refine qR rfl rfl (hth) ?_;try simp only[kA])|refine zV ?_|intro _)
   exact qE (L':=[]) ⟨Hp.le_refl _,rfl,_,_,_,_,rfl,hP0,hQ0⟩
theorem steal17r_arg (ρ:Hp)(pa:Option Addr)(pc:Nat)(qa:Option Addr)(qc:Nat)(next fl:Nat)(n:Int)(hn:¬(0<=n/\n<64)) :
  Spec prog 86 [.agg ⟨mdV pa pc qa qc next fl⟩,.int .i64 n] ρ [] (λ v ρ' L'=>v=.tuple ⟨[.agg ⟨mdV pa pc qa qc next fl⟩,.int .i64 2]⟩/\ρ'=ρ/\L'=[]):=by
 have hth:=XS ρ n
 rw[decide_eq_false hn] at hth
 refine Za func86 rfl rfl rfl λ u R=>?_
 simp only[Zc,kA]
 repeat' (first|(refine Zb (.func 146) ?_;refine qR rfl rfl (hth) ?_;try simp only[kA])|refine zV ?_|intro _)
 exact qE (L':=[]) ⟨rfl,rfl,rfl⟩
theorem steal17r_not (ρ:Hp)(pa:Option Addr)(pc:Nat)(qa:Option Addr)(qc:Nat)(next fl:Nat)(P:List MH)(hP:MAIn ρ pa P)(n:Nat)(hn:n<64)(hno:(P.getD n zMH).is=true->(P.getD n zMH).rc=0) :
  Spec prog 86 [.agg ⟨mdV pa pc qa qc next fl⟩,.int .i64 n] ρ [] (λ v ρ' L'=>v=.tuple ⟨[.agg ⟨mdV pa pc qa qc next fl⟩,.int .i64 (if (P.getD n zMH).is then 0 else 4)]⟩/\ρ'=ρ/\L'=[]):=by
 have hl:=hP.len
 have hth:=XS ρ (n:Int)
 rw[decide_eq_true (show 0<=(n:Int)/\(n:Int)<64 by omega)] at hth
 obtain⟨bb,off,C,T,fr,rfl,hb0,hfit,hc⟩:=hP.at'.get (show n<P.length by omega)
 rw[getD_mh (show n<P.length by omega)] at hno ⊢
 generalize P[n]=x at *
 obtain⟨xi,xw,xc,xl,xr⟩:=x
 dsimp only at hno ⊢
 refine Za func86 rfl rfl rfl λ u R=>?_
 simp only[Zc,kA]
 cases xi
 ·rw[if_neg (by simp)]
  repeat' (first|(refine Zb (.func 146) ?_;refine qR rfl rfl (hth) ?_;try simp only[kA])|refine zV ?_|intro _)
  exact qE (L':=[]) ⟨rfl,rfl,rfl⟩
 ·have h0:=hno rfl
  subst h0
  rw[if_pos rfl]
  repeat' (first|(refine Zb (.func 146) ?_;refine qR rfl rfl (hth) ?_;try simp only[kA])|refine zV ?_|intro _)
  exact qE (L':=[]) ⟨rfl,rfl,rfl⟩
theorem steal17r_spec (ρ:Hp)(pa:Option Addr)(pc:Nat)(qa:Option Addr)(qc:Nat)(next fl:Nat)(P Q:List MH)(hP:MAIn ρ pa P)(hQ:MAIn ρ qa Q)(n:Nat)(hn:n<64)(x:MH)(hx:P.getD n zMH=x)(hi:x.is=true)(hr:x.rc≠0) :
  Spec prog 86 [.agg ⟨mdV pa pc qa qc next fl⟩,.int .i64 n] ρ [] (λ v ρ' L'=>ρ.le ρ'/\L'=[]/\∃pa' pc' qa' qc',v=.tuple ⟨[.agg ⟨mdV pa' pc' qa' qc' next (max fl x.lsn)⟩,.int .i64 0]⟩/\MAIn ρ' pa' (P.set n ⟨true,x.w,x.c,x.lsn,0⟩)/\MAIn ρ' qa' (Q.set n ⟨false,x.w,x.c,x.lsn,0⟩)):=by
 have hl:=hP.len
 have hm:=hQ.len
 have hcp:=copied17_spec ρ pa pc qa qc next fl P Q hP hQ
 have hP0:=hP
 have hQ0:=hQ
 have hth:=XS ρ (n:Int)
 rw[decide_eq_true (show 0<=(n:Int)/\(n:Int)<64 by omega)] at hth
 obtain⟨bb,off,C,T,fr,rfl,hb0,hfit,hc⟩:=hP.at'.get (show n<P.length by omega)
 have hcx:=hP.cin _ (aM (show n<P.length by omega))
 rw[getD_mh (show n<P.length by omega)] at hx
 have hset1:=λ s1=>set_flat (o:=5) (vs:=[.int .u64 0]) (sp:=s1) (show n<P.length by omega) (y:=⟨true,x.w,x.c,x.lsn,0⟩) (by rw[hx,<-hi];rfl) (aR _)
 have hset2:=λ s2=>set_flat (o:=0) (vs:=mhV ⟨false,x.w,x.c,x.lsn,0⟩) (sp:=s2) (show n<Q.length by omega) (y:=⟨false,x.w,x.c,x.lsn,0⟩) rfl (aR _)
 rw[hx] at hc hcx
 clear hx
 obtain⟨xi,xw,xc,xl,xr⟩:=x
 dsimp only at hi hr hcx hset1 hset2 ⊢
 subst hi
 have hr':¬((xr:Nat):Int)=0:=by omega
 refine Za func86 rfl rfl rfl λ u R=>?_
 simp only[Zc,kA]
 have hcase:fl<xl/\max fl xl=xl\/¬fl<xl/\max fl xl=fl:=by omega
 rcases hcase with⟨hf,hmx⟩|⟨hf,hmx⟩
 all_goals
  rw[hmx]
  repeat' (first|(refine Zb (.func 146) ?_;refine qR rfl rfl (hth) ?_;try simp only[kA])|(refine Zb (.func 149) ?_;refine qC rfl rfl hcp ?_;rintro v3 ρ3 L3 hq3 ⟨rfl,b1,c1,s1,b2,c2,s2,rfl,hc1,hc2,ho1,ho2,rfl⟩;have hlP:((P.map mhV).flatten++s1).length=384+s1.length:=(by rw[aL,XO,hl]);have hlQ:((Q.map mhV).flatten++s2).length=384+s2.length:=(by rw[aL,XO,hm]);try simp only[kA])|refine zV ?_|intro _)
  rw[show stc ((P.map mhV).flatten++s1) (0+n*6+5) [.int .u64 0]=((P.set n ⟨true,xw,xc,xl,0⟩).map mhV).flatten++s1 by rw[Nat.zero_add];exact hset1 s1]
  rw[show stc ((Q.map mhV).flatten++s2) (0+n*6) [.bool false,.int .i64 xc.kind,.slice xw.ra xw.rn xw.rc,.slice xw.ka xw.kn xw.kc,.int .u64 xl,.int .u64 0]=((Q.set n ⟨false,xw,xc,xl,0⟩).map mhV).flatten++s2 by rw[Nat.zero_add];exact hset2 s2]
  refine ZB (mownC b1 (P.set n ⟨true,xw,xc,xl,0⟩) s1) (h:=by repeat (first|exact ZJ|apply Ya)) (λ ρ4 hl4 hz4=>?_)
  refine ZB (mownC b2 (Q.set n ⟨false,xw,xc,xl,0⟩) s2) (h:=by repeat (first|exact ZJ|apply Ya)) (λ ρ5 hl5 hz5=>?_)
  have hb1:=hz4 _ (List.mem_singleton.2 rfl)
  have hb2:=hz5 _ (List.mem_singleton.2 rfl)
  have hl45:=Hp.le_trans hl4 hl5
  exact qE (L':=[]) ⟨hl45,rfl,_,c1,_,c2,rfl,MAIn.of (by rw[List.length_set];exact hl) (Hp.at' hl5 hb1) (cin_set (λ x hx=>(hP0.cin x hx).mono hl45) (hcx.mono hl45)),MAIn.of (by rw[List.length_set];exact hm) hb2 (cin_set (λ x hx=>(hQ0.cin x hx).mono hl45) (hcx.mono hl45))⟩
end Go.Proofs.E
