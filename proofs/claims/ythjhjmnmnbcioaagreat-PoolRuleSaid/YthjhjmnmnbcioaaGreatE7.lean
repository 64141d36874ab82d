/- Laws of PoolRule. Part 7 of 26. -/
import Derived.Test.YthjhjmnmnbcioaaGreatE6
set_option linter.unusedVariables false
set_option linter.unusedSimpArgs false
set_option linter.unusedSectionVars false
namespace Go.Proofs.E
open Go Tryz
set_option maxRecDepth 4000
set_option maxHeartbeats 1000000
attribute [local irreducible] Yl TL TC TE Spec YW R1 Hp.le EnvLe TS TR YS Zv TP QP
theorem Wv {k:Nat}{l:List UInt8}{st:Int}(h:(Yc k l st).2.2=0):st=0/\k<=l.length/\Yc k l st=(ZM (l.take k),l.drop k,0):=by
 unfold Yc at h ⊢
 by_cases hs:st≠0
 ·rw[if_pos hs] at h;exact absurd h hs
 ·have h0:st=0:=by simpa using hs
  rw[if_neg hs] at h ⊢
  by_cases hl:l.length<k
  ·rw[if_pos hl] at h;simp at h
  ·rw[if_neg hl];exact⟨h0,by omega,rfl⟩
theorem rawR_zero {k:Nat}{l:List UInt8}{st:Int}(h:(VA k l st).2.2=0):st=0/\k<=l.length/\VA k l st=(l.take k,l.drop k,0):=by
 unfold VA at h ⊢
 by_cases hs:st≠0
 ·rw[if_pos hs] at h;exact absurd h hs
 ·have h0:st=0:=by simpa using hs
  rw[if_neg hs] at h ⊢
  by_cases hl:l.length<k
  ·rw[if_pos hl] at h;simp at h
  ·rw[if_neg hl];exact⟨h0,by omega,rfl⟩
theorem be_take {k:Nat}{l:List UInt8}(h:k<=l.length):be k (ZM (l.take k))=l.take k:=by
 have:=be_unbe (l.take k)
 rwa [List.length_take,Nat.min_eq_left h] at this
theorem Wl (x:Nat):be 1 x=[UInt8.ofNat x]:=by simp[be]
theorem tB_nat (x:Nat):tB (x:Int)=UInt8.ofNat x:=rfl
theorem vN_i64N {x:Nat}(h:x<18446744073709551616):vN (i64N x)=x:=by
 have h1:IntKind.u64.wrap (i64N x)=x:=by
  unfold i64N
  simp only[IntKind.wrap,IntKind.bits,IntKind.signed,Bool.true_and,Bool.false_and,aB,if_false]
  split<;>simp_all<;>omega
 simp[vN,h1]
theorem i64N_vN {v:Int}(h:-9223372036854775808<=v/\v<=9223372036854775807):i64N (vN v)=v:=by
 unfold i64N
 rw[<-vN_eq]
 simp only[IntKind.wrap,IntKind.bits,IntKind.signed,Bool.true_and,Bool.false_and,aB,if_false]
 split<;>simp_all<;>omega
theorem needB_false {bad:Bool}{st:Int}{is:Bool}(h:XK bad st is=false)(hs:st=0):bad=false/\is=true:=by
 subst hs
 cases bad<;>cases is<;>simp_all[XK]
structure XU (r:Row):Prop where
 id:r.id<65536
 val:-9223372036854775808<=r.val/\r.val<=9223372036854775807
theorem i64N_fit (x:Nat):-9223372036854775808<=i64N x/\i64N x<=9223372036854775807:=by
 unfold i64N
 simp only[IntKind.wrap,IntKind.bits,IntKind.signed,Bool.true_and]
 split<;>simp_all<;>omega
theorem rowR_ok {l l':List UInt8}{st:Int}{bad:Bool}{r:Row}(h:WA l st bad=(r,l',0,false)):st=0/\bad=false/\Xi r=true/\l=ZY r++l'/\XU r:=by
 unfold WA at h
 dsimp only at h
 split at h
 ·rename_i hok
  rw[aE,Bool.not_eq_true'] at hok
  obtain⟨hb1,hs1⟩:=hok
  have hs1:=of_decide_eq_true hs1
  obtain⟨rfl,hl1,e1⟩:=Wv hs1
  obtain⟨rfl,ht⟩:=needB_false hb1 hs1
  split at h
  ·rename_i hok2
   rw[aE,Bool.not_eq_true'] at hok2
   obtain⟨hb2,hs4⟩:=hok2
   have hs4:=of_decide_eq_true hs4
   obtain⟨hs3,hl4,e4⟩:=Wv hs4
   obtain⟨hs2,hl3,e3⟩:=Wv hs3
   obtain⟨hs1',hl2,e2⟩:=Wv hs2
   obtain⟨_,hn⟩:=needB_false hb2 hs4
   have ht:=of_decide_eq_true ht
   have hn:=of_decide_eq_true hn
   simp only[Prod.mk.injEq] at h
   obtain⟨h1,h2,h3,h4⟩:=h
   obtain⟨_,hl5,e5⟩:=rawR_zero h3
   subst h1;subst h2
   rw[e5]
   simp only[e4] at hl5 hn e5 ⊢
   simp only[e3] at hl4 hl5 hn e5 ⊢
   simp only[e2] at hl3 hl4 hl5 hn e5 ⊢
   simp only[e1] at hl2 hl3 hl4 hl5 hn ht e5 ⊢
   have b1:=be_take hl1
   have b2:=be_take hl2
   have b3:=be_take hl3
   have b4:=be_take hl4
   rw[Wl] at b1 b4
   have u2:=XT ((l.drop 1).take 2)
   have u3:=XT (((l.drop 1).drop 2).take 8)
   rw[List.length_take,Nat.min_eq_left hl2] at u2
   rw[List.length_take,Nat.min_eq_left hl3] at u3
   have hlen:(List.take (ZM (List.take 1 (List.drop 8 (List.drop 2 (List.drop 1 l))))) (List.drop 1 (List.drop 8 (List.drop 2 (List.drop 1 l))))).length=ZM (List.take 1 (List.drop 8 (List.drop 2 (List.drop 1 l)))):=by rw[List.length_take,Nat.min_eq_left hl5]
   refine⟨by trivial,by trivial, ?_, ?_,⟨by dsimp only;omega,i64N_fit _⟩⟩
   ·unfold Xi
    dsimp only
    rw[hlen]
    exact decide_eq_true ⟨⟨by omega,by omega⟩,by omega⟩
   ·unfold ZY keyB
    dsimp only
    rw[hlen,vN_i64N (by omega),b3,b2,tB_nat]
    have c1:UInt8.ofNat (ZM (List.take 1 l))::(List.take 2 (List.drop 1 l))=List.take 1 l++List.take 2 (List.drop 1 l):=by
     show [UInt8.ofNat (ZM (List.take 1 l))]++_=_
     rw[b1]
    rw[c1]
    have c4:∀X:List UInt8,UInt8.ofNat (ZM (List.take 1 (List.drop 8 (List.drop 2 (List.drop 1 l)))))::X=List.take 1 (List.drop 8 (List.drop 2 (List.drop 1 l)))++X:=λ X=>by
     show [UInt8.ofNat (ZM (List.take 1 (List.drop 8 (List.drop 2 (List.drop 1 l)))))]++X=_
     rw[b4]
    rw[c4]
    simp only[aA,List.take_append_drop]
  ·rename_i hok2
   simp only[Prod.mk.injEq] at h
   obtain⟨_,_,h3,h4⟩:=h
   exact absurd (by rw[h4,h3];rfl) hok2
 ·rename_i hok
  simp only[Prod.mk.injEq] at h
  obtain⟨_,_,h3,h4⟩:=h
  exact absurd (by rw[h4,h3];rfl) hok
structure KidFit (k:Kid):Prop where
 id:k.id<65536
 t:0<=k.t/\k.t<256
 page:0<=k.page/\k.page<256
theorem kidRB_ok {l l':List UInt8}{st:Int}{bad:Bool}{r:Kid}(h:XY l st bad=(r,l',0,false)):st=0/\bad=false/\l=XJ r++l'/\KidFit r:=by
 unfold XY kidR at h
 dsimp only at h
 simp only[Prod.mk.injEq] at h
 obtain⟨h1,h2,h3,h4⟩:=h
 obtain⟨hs2,hl3,e3⟩:=Wv h3
 obtain⟨hs1,hl2,e2⟩:=Wv hs2
 obtain⟨rfl,hl1,e1⟩:=Wv hs1
 subst h1;subst h2
 simp only[e3]
 simp only[e2] at hl3 ⊢
 simp only[e1] at hl2 hl3 ⊢
 have b1:=be_take hl1
 have b2:=be_take hl2
 have b3:=be_take hl3
 rw[Wl] at b1 b3
 have u1:=XT (l.take 1)
 have u2:=XT ((l.drop 1).take 2)
 have u3:=XT (((l.drop 1).drop 2).take 1)
 rw[List.length_take,Nat.min_eq_left hl1] at u1
 rw[List.length_take,Nat.min_eq_left hl2] at u2
 rw[List.length_take,Nat.min_eq_left hl3] at u3
 refine⟨by trivial,h4, ?_,⟨by dsimp only;omega,by dsimp only;omega,by dsimp only;omega⟩⟩
 unfold XJ keyB
 dsimp only
 rw[b2,tB_nat,tB_nat]
 have c1:∀X:List UInt8,UInt8.ofNat (ZM (List.take 1 l))::X=List.take 1 l++X:=λ X=>by
  show [UInt8.ofNat (ZM (List.take 1 l))]++X=_
  rw[b1]
 rw[c1,b3]
 simp only[aA,List.take_append_drop]
theorem manyTo_ok {α:Type}{f:List UInt8->Int->Bool->α×Yu}{enc:α->List UInt8}{fit:α->Prop}(hf:∀{l l':List UInt8} {st:Int} {bad:Bool} {x:α},f l st bad=(x,l',0,false)->st=0/\bad=false/\l=enc x++l'/\fit x) :
  ∀{n:Nat} {l l':List UInt8} {st:Int} {bad:Bool} {xs:List α},XM f n l st bad=(xs,l',0,false)->st=0/\bad=false/\xs.length=n/\l=xs.flatMap enc++l'/\∀x∈xs,fit x
 | 0,l,l',st,bad,xs,h=>by
  rw[XM] at h
  simp only[Prod.mk.injEq] at h
  obtain⟨rfl,rfl,rfl,rfl⟩:=h
  exact⟨rfl,rfl,rfl,by simp,by simp⟩
 | n+1,l,l',st,bad,xs,h=>by
  rw[XM] at h
  split at h
  ·simp only[Prod.mk.injEq] at h
   obtain⟨h1,h2⟩:=h
   have key:XM f n (f l st bad).2.1 (f l st bad).2.2.1 (f l st bad).2.2.2=((XM f n (f l st bad).2.1 (f l st bad).2.2.1 (f l st bad).2.2.2).1,l',0,false):=by rw[<-h2]
   obtain⟨g1,g2,g3,g4,g5⟩:=manyTo_ok hf key
   obtain⟨k1,k2,k3,k4⟩:=hf (show f l st bad=((f l st bad).1,(f l st bad).2.1,0,false) by rw[<-g1,<-g2])
   subst h1
   refine⟨k1,k2,by simp[g3], ?_, ?_⟩
   ·rw[List.flatMap_cons,aA,<-g4];exact k3
   ·intro x hx
    rcases List.mem_cons.1 hx with rfl|hx
    ·exact k4
    ·exact g5 x hx
  ·rename_i hok
   simp only[Prod.mk.injEq] at h
   obtain⟨_,_,h3,h4⟩:=h
   exact absurd (by rw[h4,h3];rfl) hok
theorem manyR_ok {α:Type}{f:List UInt8->Int->Bool->α×Yu}{enc:α->List UInt8}{fit:α->Prop}(hf:∀{l l':List UInt8} {st:Int} {bad:Bool} {x:α},f l st bad=(x,l',0,false)->st=0/\bad=false/\l=enc x++l'/\fit x)
  {l l':List UInt8} {st:Int} {bad:Bool} {xs:List α} (h:Xl f l st bad=(xs,l',0,false)):st=0/\bad=false/\l=UInt8.ofNat xs.length::xs.flatMap enc++l'/\∀x∈xs,fit x:=by
 unfold Xl at h
 obtain⟨g1,g2,g3,g4,g5⟩:=manyTo_ok hf h
 obtain⟨rfl,hl,e⟩:=Wv g1
 obtain⟨k1,_⟩:=needB_false g2 g1
 rw[e] at g3 g4
 dsimp only at g3 g4
 refine⟨rfl,k1, ?_,g5⟩
 have b1:=be_take hl
 rw[Wl,<-g3] at b1
 rw[show UInt8.ofNat xs.length::xs.flatMap enc++l'=[UInt8.ofNat xs.length]++(xs.flatMap enc++l') from rfl,b1,<-g4,List.take_append_drop]
structure ContFit (c:ZO):Prop where
 row:∀r∈c.rows,XU r
 kid:∀k∈c.kids,KidFit k
theorem contentR_ok {l l':List UInt8}{c:ZO}(h:YM l=(c,l',0,false)):Zp c=true/\l=Yf c++l'/\ContFit c:=by
 unfold YM contE at h
 simp only[Prod.mk.injEq] at h
 obtain⟨h1,h2,h3,h4⟩:=h
 generalize hm:Vw (Yc 1 l 0).1 (Yc 1 l 0).2.1 (Yc 1 l 0).2.2 (XK false (Yc 1 l 0).2.2 (decide (((Yc 1 l 0).1:Int)<=2)))=m at *
 obtain⟨⟨rows,kids⟩,l2,st2,b2⟩:=m
 dsimp only at h1 h2 h3 h4
 subst h2;subst h3;subst h1
 obtain⟨rfl,hok⟩:=needB_false h4 rfl
 refine⟨hok, ?_⟩
 unfold Vw at hm
 have hF:=YF hok
 have hkind:=hF.kind
 dsimp only at hkind
 split at hm
 ·rename_i hokk
  rw[aE,Bool.not_eq_true'] at hokk
  obtain⟨_,hs1⟩:=hokk
  have hs1:=of_decide_eq_true hs1
  obtain⟨_,hl1,e1⟩:=Wv hs1
  have b1:=be_take hl1
  rw[Wl] at b1
  rw[e1] at hm hkind hok ⊢
  dsimp only at hm hkind hok ⊢
  generalize hx:ZM (List.take 1 l)=x at *
  have hl:l=UInt8.ofNat x::l.drop 1:=by
   have:l=l.take 1++l.drop 1:=(List.take_append_drop 1 l).symm
   rw[<-b1] at this
   exact this
  split at hm
  ·rename_i hx1
   simp only[Prod.mk.injEq] at hm
   obtain⟨⟨h1,h2⟩,h3⟩:=hm
   subst h2
   have key:Xl WA (l.drop 1) 0 (XK false 0 (decide ((x:Int)<=2)))=(rows,l2,0,false):=by rw[<-h1,<-h3]
   obtain⟨_,_,g3,g4⟩:=manyR_ok (enc:=ZY) (fit:=XU) (λ h=>⟨(rowR_ok h).1,(rowR_ok h).2.1,(rowR_ok h).2.2.2.1,(rowR_ok h).2.2.2.2⟩) key
   refine⟨?_,⟨g4,by simp⟩⟩
   have hc:Yf ⟨x,rows,[]⟩=UInt8.ofNat x::(UInt8.ofNat rows.length::rows.flatMap ZY):=by
    unfold Yf cntB
    rw[if_neg (by dsimp only;omega),tB_nat];simp
   rw[hc,hl,g3];rfl
  ·split at hm
   ·rename_i hx1 hx2
    simp only[Prod.mk.injEq] at hm
    obtain⟨⟨h1,h2⟩,h3⟩:=hm
    subst h1
    have key:Xl XY (l.drop 1) 0 (XK false 0 (decide ((x:Int)<=2)))=(kids,l2,0,false):=by rw[<-h2,<-h3]
    obtain⟨_,_,g3,g4⟩:=manyR_ok (enc:=XJ) (fit:=KidFit) (λ h=>kidRB_ok h) key
    refine⟨?_,⟨by simp,g4⟩⟩
    have hc:Yf ⟨x,[],kids⟩=UInt8.ofNat x::(UInt8.ofNat kids.length::kids.flatMap XJ):=by
     unfold Yf cntB
     rw[if_neg (by dsimp only;omega),tB_nat];simp
    rw[hc,hl,g3];rfl
   ·rename_i hx1 hx2
    simp only[Prod.mk.injEq] at hm
    obtain⟨⟨h1,h2⟩,h3,_⟩:=hm
    subst h1;subst h2;subst h3
    have hx0:(x:Int)=0:=by
     rcases hkind with h|h|h
     ·exact h.1
     ·exact absurd (by omega) hx1
     ·exact absurd (by omega) hx2
    refine⟨?_,⟨by simp,by simp⟩⟩
    have hc:Yf ⟨x,[],[]⟩=[UInt8.ofNat x]:=by
     unfold Yf cntB
     rw[if_pos hx0,tB_nat];simp
    rw[hc];exact hl
 ·rename_i hokk
  simp only[Prod.mk.injEq] at hm
  obtain⟨⟨h1,h2⟩,h3,h4,h5⟩:=hm
  exact absurd (by rw[h5,h4];rfl) hokk
theorem takenE_zero {bad:Bool}{st:Int}(h:takenE bad st=0):bad=false/\st=0:=by
 cases bad
 ·exact⟨rfl,h⟩
 ·simp[takenE] at h
theorem takeRow_ok {l:List UInt8}(h:(Yd l).2.2=0):∃n:Nat,(Yd l).2.1=n/\n<=l.length/\Xi (Yd l).1=true/\ZY (Yd l).1=l.take n/\XU (Yd l).1:=by
 unfold Yd at h ⊢
 dsimp only at h ⊢
 obtain⟨hb,hs⟩:=takenE_zero h
 generalize hr:WA l 0 false=r at *
 obtain⟨x,l',st,bad⟩:=r
 dsimp only at hb hs
 subst hb;subst hs
 obtain⟨_,_,g1,g2,g3⟩:=rowR_ok hr
 have hl:=congrArg List.length g2
 simp only[aL] at hl
 refine⟨(ZY x).length, ?_,by omega, ?_⟩
 ·simp[takenN];omega
 ·simp only[Bool.false_or,ne_eq,not_true_eq_false,decide_false,aB,if_false]
  exact⟨g1,by rw[g2];simp,g3⟩
theorem takeCont_ok {l:List UInt8}(h:(Zq l).2.2=0):∃n:Nat,(Zq l).2.1=n/\n<=l.length/\Zp (Zq l).1=true/\Yf (Zq l).1=l.take n/\ContFit (Zq l).1:=by
 unfold Zq at h ⊢
 dsimp only at h ⊢
 obtain⟨hb,hs⟩:=takenE_zero h
 generalize hr:YM l=r at *
 obtain⟨x,l',st,bad⟩:=r
 dsimp only at hb hs
 subst hb;subst hs
 obtain⟨g1,g2,g3⟩:=contentR_ok hr
 have hl:=congrArg List.length g2
 simp only[aL] at hl
 refine⟨(Yf x).length, ?_,by omega, ?_⟩
 ·simp[takenN];omega
 ·simp only[Bool.false_or,ne_eq,not_true_eq_false,decide_false,aB,if_false]
  exact⟨g1,by rw[g2];simp,g3⟩
theorem takeCont_bad {l:List UInt8}(h:(Zq l).2.2≠0):(Zq l).1=⟨0,[],[]⟩/\(Zq l).2.1=0:=by
 unfold Zq at h ⊢
 dsimp only at h ⊢
 generalize YM l=r at *
 obtain⟨x,l',st,bad⟩:=r
 dsimp only at h ⊢
 cases bad
 ·have hs:st≠0:=h
  simp[takenN,hs]
 ·simp[takenN]
theorem Vc {c:ZO}(h:Zp c=true):(Yf c).length<=82:=by
 have hF:=YF h
 have h1:=YH ZY 20 c.rows (λ x hx=>rowB_le (hF.row x hx))
 have h2:=YH XJ 4 c.kids (λ x hx=>Nat.le_of_eq (kidB_len x))
 have h3:(cntB c).length<=1:=by unfold cntB;split<;>simp
 have hk:=hF.kind
 have hrl:=hF.rl
 have hkl:=hF.kl
 simp only[Yf,aC,aL]
 have er:c.rows=[]->(c.rows.flatMap ZY).length=0:=λ e=>by rw[e];rfl
 have ek:c.kids=[]->(c.kids.flatMap XJ).length=0:=λ e=>by rw[e];rfl
 rcases hk with⟨_,hr,hk⟩|⟨_,hk⟩|⟨_,hr,_⟩
 ·have:=er hr;have:=ek hk;omega
 ·have:=ek hk;omega
 ·have:=er hr;omega
structure CI (ρ:Hp)(v:CV)(c:ZO):Prop where
 cin:CIn ρ v c.rows c.kids
 row:∀r∈c.rows,XU r
 kid:∀k∈c.kids,k.id<65536
theorem CI.mono {ρ ρ' v c}(h:CI ρ v c)(hle:ρ.le ρ'):CI ρ' v c:=⟨h.cin.mono hle,h.row,h.kid⟩
theorem CI.nil {ρ:Hp}:CI ρ ⟨none,0,0,none,0,0⟩ ⟨0,[],[]⟩:=⟨CIn.nil,by simp,by simp⟩
structure Im where
 page:Int
 bv:CV
 b:ZO
 av:CV
 a:ZO
abbrev imV (x:Im):List Value:=[.int .i64 x.page,.int .i64 x.b.kind,.slice x.bv.ra x.bv.rn x.bv.rc,.slice x.bv.ka x.bv.kn x.bv.kc,.int .i64 x.a.kind,.slice x.av.ra x.av.rn x.av.rc,.slice x.av.ka x.av.kn x.av.kc]
structure Im.In (ρ:Hp)(x:Im):Prop where
 b:CI ρ x.bv x.b
 a:CI ρ x.av x.a
theorem Im.In.mono {ρ ρ' x}(h:Im.In ρ x)(hle:ρ.le ρ'):Im.In ρ' x:=⟨h.b.mono hle,h.a.mono hle⟩
abbrev Im.says (x:Im):Int×ZO×ZO:=(x.page,x.b,x.a)
structure Stp where
 kind:Int
 row:Row
 by':Int
deriving DecidableEq
abbrev stpV (s:Stp):List Value:=[.int .i64 s.kind,.int .i64 s.row.t,.int .u16 s.row.id,.int .i64 s.row.val,strV s.row.note,.int .i64 s.by']
structure CkT where
 txn:Int
 first:Nat
 last:Nat
 undo:Nat
 state:Int
deriving DecidableEq
abbrev ckTV (t:CkT):List Value:=[.int .i64 t.txn,.int .u64 t.first,.int .u64 t.last,.int .u64 t.undo,.int .i64 t.state]
structure CkP where
 page:Int
 since:Nat
deriving DecidableEq
abbrev ckPV (p:CkP):List Value:=[.int .i64 p.page,.int .u64 p.since]
structure Rc where
 kind:Int
 lsn:Nat
 txn:Int
 prev:Nat
 next:Nat
 ims:List Im
 steps:List Stp
 nextTxn:Int
 txns:List CkT
 dirty:List CkP
structure SV where
 a:Option Addr
 n:Nat
 c:Nat
abbrev SV.v (s:SV):Value:=.slice s.a s.n s.c
structure RV where
 i:SV
 s:SV
 t:SV
 d:SV
abbrev recV (v:RV)(r:Rc):List Value:=[.int .i64 r.kind,.int .u64 r.lsn,.int .i64 r.txn,.int .u64 r.prev,.int .u64 r.next,.slice v.i.a v.i.n v.i.c,.slice v.s.a v.s.n v.s.c,.int .i64 r.nextTxn,.slice v.t.a v.t.n v.t.c,.slice v.d.a v.d.n v.d.c]
abbrev i64in (x:Int):Prop:=-9223372036854775808<=x/\x<=9223372036854775807
structure AS (ρ:Hp)(sz:Nat){α:Type}(g:α->List Value)(s:SV)(l:List α):Prop where
 at':AIn ρ sz g s.a s.n l
 big:s.n<=1000000
 cap:s.n<=s.c
theorem AS.mono {ρ ρ':Hp}{sz:Nat}{α:Type}{g:α->List Value}{s:SV}{l:List α}(h:AS ρ sz g s l)(hle:ρ.le ρ'):AS ρ' sz g s l:=⟨h.at'.mono hle,h.big,h.cap⟩
theorem AS.nil {ρ:Hp}{sz:Nat}{α:Type}{g:α->List Value}:AS ρ sz g ⟨none,0,0⟩ []:=⟨AIn.nil,aZ _,aR _⟩
structure RcIn (ρ:Hp)(v:RV)(r:Rc):Prop where
 i:AS ρ 7 imV v.i r.ims
 im:∀x∈r.ims,Im.In ρ x
 s:AS ρ 6 stpV v.s r.steps
 t:AS ρ 5 ckTV v.t r.txns
 d:AS ρ 2 ckPV v.d r.dirty
 sf:∀s∈r.steps,XU s.row
theorem RcIn.mono {ρ ρ' v r}(h:RcIn ρ v r)(hle:ρ.le ρ'):RcIn ρ' v r:=⟨h.i.mono hle,λ x hx=>(h.im x hx).mono hle,h.s.mono hle,h.t.mono hle,h.d.mono hle,h.sf⟩
def upB {α:Type}(right:α->Bool)(by':α->Int)(l:List α)(k:Nat):Bool:=ZA l.length (λ _ x=>right x) (λ y x=>decide (by' y<by' x)) l k
def pageOk (n:Int):Bool:=decide (0<=n/\n<64)
def imOk (before:Bool)(x:Im):Bool:=pageOk x.page && (Zp x.a && (Zp x.b && (before || decide (x.b.kind=0))))
def imsOk (before:Bool)(l:List Im):Bool:=decide (l.length<=16) && upB (imOk before) Im.page l l.length
def onlyOk (s:Stp):Bool:=decide (s.row.val=0/\s.row.note=[]) && decide (0<=s.row.t/\s.row.t<3)
def Xr (s:Stp):Bool:=
 if s.kind=1 then onlyOk s
 else if s.kind=4 then onlyOk s && decide (s.by'=0)
 else if s.kind=2\/s.kind=3 then decide (s.by'=0) && Xi s.row
 else false
def ckTOk (lsn:Nat)(next:Int)(t:CkT):Bool:=decide (1<=t.txn/\t.txn<next/\1<=t.first/\t.first<=t.last/\t.last<lsn/\t.undo<=t.last/\1<=t.state/\t.state<=3)
def ckPOk (lsn:Nat)(p:CkP):Bool:=pageOk p.page && decide (1<=p.since/\p.since<lsn)
def headOk (r:Rc):Bool:=decide (1<=r.lsn/\r.lsn<=1099511627776/\r.prev<r.lsn/\0<=r.txn/\r.txn<=1073741824/\(r.kind=9↔r.txn=0)/\((r.kind=9\/r.kind=1)↔r.prev=0))
def askOk (r:Rc):Bool:=
 if r.kind=2 then decide (0<r.ims.length) && imsOk true r.ims
 else if r.kind=3 then decide (r.next<r.prev)
 else if r.kind=4 then decide (r.next<r.prev) && (decide (0<r.steps.length/\r.steps.length<=2) && r.steps.all Xr)
 else if r.kind=5 then decide (r.next<r.lsn) && imsOk false r.ims
 else if r.kind=9 then decide (1<=r.nextTxn/\r.nextTxn<=1073741824/\r.txns.length<=8) && (upB (ckTOk r.lsn r.nextTxn) CkT.txn r.txns r.txns.length && upB (ckPOk r.lsn) CkP.page r.dirty r.dirty.length)
 else true
def bareOk (r:Rc):Bool:=decide (
 (r.next=0\/r.kind=3\/r.kind=4\/r.kind=5)/\(r.ims=[]\/r.kind=2\/r.kind=5)/\(r.steps=[]\/r.kind=4) /\
 ((r.txns=[]/\r.dirty=[]/\r.nextTxn=0)\/r.kind=9))
def Xh (r:Rc):Bool:=decide (1<=r.kind/\r.kind<=9) && (headOk r && (askOk r && bareOk r))
def imB (two:Bool)(x:Im):List UInt8:=tB x.page::((if two then Yf x.b else [])++Yf x.a)
def Vs (s:Stp):List UInt8:=tB s.kind::(if s.kind=2\/s.kind=3 then ZY s.row else tB s.row.t::(be 2 s.row.id++(if s.kind=1 then be 8 (vN s.by') else [])))
def Vu (t:CkT):List UInt8:=be 4 t.txn.toNat++(be 8 t.first++(be 8 t.last++(be 8 t.undo++[tB t.state])))
def ckPB (p:CkP):List UInt8:=tB p.page::be 8 p.since
def Xt {α:Type}(f:α->List UInt8)(l:List α):List UInt8:=UInt8.ofNat l.length::l.flatMap f
def recHB (r:Rc):List UInt8:=tB r.kind::(be 8 r.lsn++(be 4 r.txn.toNat++be 8 r.prev))
def imsB (r:Rc):List UInt8:=Xt (imB (decide (r.kind=2))) r.ims
def recTB (r:Rc):List UInt8:=
 if r.kind=2 then imsB r else if r.kind=3 then be 8 r.next else if r.kind=4 then be 8 r.next++Xt Vs r.steps else if r.kind=5 then be 8 r.next++imsB r
 else if r.kind=9 then be 4 r.nextTxn.toNat++(Xt Vu r.txns++Xt ckPB r.dirty) else []
def YG (r:Rc):List UInt8:=recHB r++recTB r
structure LayOk (r:Rc):Prop where
 kind:0<=r.kind/\r.kind<256
 lsn:r.lsn<18446744073709551616
 prev:r.prev<18446744073709551616
 next:r.next<18446744073709551616
 txn:0<=r.txn/\r.txn<4294967296
 nextTxn:0<=r.nextTxn/\r.nextTxn<4294967296
 il:r.ims.length<=16
 im:∀x∈r.ims,(0<=x.page/\x.page<64)/\Zp x.a=true/\Zp x.b=true
 sl:r.steps.length<=2
 st:∀s∈r.steps,Xr s=true
 tl:r.txns.length<=8
 tx:∀t∈r.txns,(0<=t.txn/\t.txn<4294967296)/\t.first<18446744073709551616/\t.last<18446744073709551616/\t.undo<18446744073709551616/\0<=t.state/\t.state<256
 dl:r.dirty.length<=64
 di:∀p∈r.dirty,(0<=p.page/\p.page<64)/\p.since<18446744073709551616
abbrev wrC (wb:Nat)(v:RV)(r:Rc)(w:Value):List (Nat×Obj):=[(wb,.cells ⟨[.int .i64 r.kind,.int .u64 r.lsn,.int .i64 r.txn,.int .u64 r.prev,.int .u64 r.next,.slice v.i.a v.i.n v.i.c,.slice v.s.a v.s.n v.s.c,.int .i64 r.nextTxn,.slice v.t.a v.t.n v.t.c,.slice v.d.a v.d.n v.d.c,w]⟩ 249 (0,0))]
abbrev OwnB (w:Value)(l:List UInt8)(sp:List Value):Prop:=OwnS w l.length (l.map Zk) sp 1
abbrev Wz (w:Value)(l:List UInt8)(sp:List Value):List (Nat×Obj):=ZG w (l.map Zk) sp 5
abbrev WrP (ρ:Hp)(wb:Nat)(v:RV)(r:Rc)(l:List UInt8)(z:Value)(ρ':Hp)(L':List (List (Nat×Obj))):Prop:=
 z=.tuple ⟨[]⟩/\ρ.le ρ'/\∃w' sp',OwnB w' l sp'/\L'=[Wz w' l sp',wrC wb v r w']
theorem put32_spec (ρ:Hp)(a:Option Addr)(n c:Nat)(l:List UInt8)(h:SIn ρ Zk a n l)(x:Nat)(hx:x<4294967296)(hn:n<=1000000) :
  Spec prog 232 [.slice a n c,.int .u32 x] ρ [] (λ v ρ' L'=>ρ'=ρ/\∃sp,OwnS v (n+4) ((l++be 4 x).map Zk) sp 1/\L'=[ZG v ((l++be 4 x).map Zk) sp 5]):=by
 have hw:IntKind.u64.wrap (x:Int)=x:=WL (by simp only[lo,hi];omega)
 have hs:=stand_spec ρ a n c l h x 4 (by omega) (by omega) (by omega) hn
 refine Za func232 rfl rfl rfl λ u R=>?_
 simp only[Zc,kA]
 repeat' (first|(refine iCv ?_;refine tl_y (y_conv rfl) rfl rfl ?_;rw[hw])|(refine Zb (.func 265) ?_;refine qC rfl rfl (hs) ?_;rintro v ρ' L' hle ⟨rfl,sp,hown,rfl⟩<;>(try simp only[kA]))|refine zW ?_|intro _)
 exact qE ⟨rfl,sp,hown,rfl⟩
theorem flatMap_app {α:Type}(f:α->List UInt8)(l:List α):∀k (h:k<l.length),(l.take (k+1)).flatMap f=(l.take k).flatMap f++f (l[k]'h):=λ k h=>XQ f l k h
theorem wbytes_spec (ρ:Hp)(wb:Nat)(v:RV)(r:Rc)(w:Value)(l:List UInt8)(sp:List Value)(hown:OwnB w l sp)(hn:l.length<=100000)(a:Option Addr)(m c:Nat)(ns:List Int)(h:SIn ρ (λ x:Int=>Value.int .i64 x) a m ns)(hb:∀x∈ns,0<=x/\x<256)(hm:m<=10) :
  Spec prog 167 [.pointer (some ⟨wb,0,none⟩),.slice a m c] ρ [Wz w l sp,wrC wb v r w] (WrP ρ wb v r (l++ns.map tB)):=by
 have hl:=h.len
 refine Za func167 rfl rfl rfl λ u R=>?_
 simp only[Zc,kA]
 repeat' (first|refine zW ?_|intro _)
 rw[show Wz w l sp=Wz w (l++(ns.take 0).map tB) sp by simp]
 refine lpG (Nat×Value×(List Value)) [0,6,7] (λ z=>[(8,.int .i64 z.1)]) (λ z=>ρ) (λ z=>[Wz z.2.1 (l++(ns.take z.1).map tB) z.2.2,wrC wb v r z.2.1]) (λ z=>z.1<=m/\OwnB z.2.1 (l++(ns.take z.1).map tB) z.2.2) (λ z=>m-z.1) (0,w,sp) ⟨aZ _,by simpa using hown⟩ ?_
 rintro⟨k,w1,sp1⟩ hI
 try simp only[kB] at hI ⊢
 try dsimp only at hI ⊢
 obtain⟨hk,hown1⟩:=hI
 by_cases hlt:k<m
 ·obtain⟨b,off,C,T,fr,e1,hbb,hcc⟩:=h.get (show k<ns.length by omega)
  have hts:=aG (show k<ns.length by omega)
  have hx:=hb _ (aM (show k<ns.length by omega))
  generalize ns[k]'(by omega)=x at *
  have hxl:(l++(ns.take k).map tB).length<=100010:=by simp;omega
  have hmm:(l++(ns.take k).map tB).map Zk++[Zk (tB x)]=(l++(ns.take (k+1)).map tB).map Zk:=by rw[hts];simp
  have hll:(l++(ns.take k).map tB).length+1=(l++(ns.take (k+1)).map tB).length:=by rw[hts];simp;omega
  have hxB:=tB_eq hx.1 hx.2
  generalize hX:l++(ns.take k).map tB=X at *
  obtain⟨va,vc,rfl,_⟩:=hown1.slice
  rw[e1]
  repeat' (first|(refine Zl rfl rfl rfl rfl (by simp) rfl rfl (λ _=>?_);simp only[hxB])|(refine YA (ys:=[Zk (tB x)]) (m:=1) rfl rfl hown1 (hR:=by infer_instance) SrcV.lit rfl rfl (by decide) rfl (by omega) (by omega) rfl (λ v' sp' hown'=>?_);rw[hmm] at hown' ⊢;rw[hll] at hown';obtain⟨va',vc',rfl,_⟩:=hown'.slice)|refine zW ?_|intro _)
  rw[<-e1]
  refine rnG (k+1,_,sp') (⟨hlt,hown'⟩)
 ·have hk2:k=m:=by omega
  rw[show ns.take k=ns by rw[hk2,<-hl,List.take_length]] at hown1 ⊢
  repeat' (first|refine zW ?_|intro _)
  exact qE ⟨rfl,Hp.le_refl _,w1,sp1,hown1,rfl⟩
theorem wlongs_spec (ρ:Hp)(wb:Nat)(v:RV)(r:Rc)(w:Value)(l:List UInt8)(sp:List Value)(hown:OwnB w l sp)(hn:l.length<=100000)(a:Option Addr)(m c:Nat)(ns:List Nat)(h:SIn ρ (λ x:Nat=>Value.int .u64 (x:Int)) a m ns)(hb:∀x∈ns,x<18446744073709551616)(hm:m<=10) :
  Spec prog 168 [.pointer (some ⟨wb,0,none⟩),.slice a m c] ρ [Wz w l sp,wrC wb v r w] (WrP ρ wb v r (l++ns.flatMap (be 8))):=by
 have hl:=h.len
 refine Za func168 rfl rfl rfl λ u R=>?_
 simp only[Zc,kA]
 repeat' (first|refine zW ?_|intro _)
 rw[show Wz w l sp=Wz w (l++(ns.take 0).flatMap (be 8)) sp by simp]
 refine lpG (Nat×Hp×Value×(List Value)) [0,6,7] (λ z=>[(8,.int .i64 z.1)]) (λ z=>z.2.1) (λ z=>[Wz z.2.2.1 (l++(ns.take z.1).flatMap (be 8)) z.2.2.2,wrC wb v r z.2.2.1]) (λ z=>z.1<=m/\ρ.le z.2.1/\OwnB z.2.2.1 (l++(ns.take z.1).flatMap (be 8)) z.2.2.2) (λ z=>m-z.1) (0,ρ,w,sp) ⟨aZ _,Hp.le_refl _,by simpa using hown⟩ ?_
 rintro⟨k,ρ1,w1,sp1⟩ hI
 try simp only[kB] at hI ⊢
 try dsimp only at hI ⊢
 obtain⟨hk,hle1,hown1⟩:=hI
 by_cases hlt:k<m
 ·obtain⟨b,off,C,T,fr,e1,hbb,hcc⟩:=(h.mono hle1).get (show k<ns.length by omega)
  have hts:=flatMap_app (be 8) ns k (by omega)
  have hx:=hb _ (aM (show k<ns.length by omega))
  have hfl:=YH (be 8) 8 (ns.take k) (λ x _=>Nat.le_of_eq (Zh 8 x))
  have htl:(ns.take k).length<=10:=by simp;omega
  generalize ns[k]'(by omega)=x at *
  have hxl:(l++(ns.take k).flatMap (be 8)).length<=100080:=by simp only[aL];omega
  have hmm:l++(ns.take k).flatMap (be 8)++be 8 x=l++(ns.take (k+1)).flatMap (be 8):=by rw[hts];simp
  have hll:(l++(ns.take k).flatMap (be 8)).length+8=(l++(ns.take (k+1)).flatMap (be 8)).length:=by rw[hts];simp[Zh];omega
  generalize hX:l++(ns.take k).flatMap (be 8)=X at *
  obtain⟨va,vc,rfl,_⟩:=hown1.slice
  rw[e1]
  repeat' (first|(refine Zb (.func 231) ?_;refine Zt (ZG (.slice va X.length vc) (X.map Zk) sp1 5) (h:=by repeat (first|exact ZJ|apply Ya)) (λ ρ2 hle2 hfz=>?_);obtain⟨a1,c1,f1,hc1,hs1⟩:=hown1.sIn hfz;cases f1;refine qC rfl rfl (put64_spec _ va _ vc _ hs1 x hx (by omega)) ?_;rintro v' ρ3 L3 hle3 ⟨rfl,sp3,hown3,rfl⟩;simp only[kA];rw[hmm,hll] at hown3;rw[hmm];obtain⟨va',vc',rfl,_⟩:=hown3.slice)|refine zW ?_|intro _)
  rw[<-e1]
  refine rnG (k+1,ρ3,_,sp3) (⟨hlt,Hp.le_trans hle1 hle2,hown3⟩)
 ·have hk2:k=m:=by omega
  rw[show ns.take k=ns by rw[hk2,<-hl,List.take_length]] at hown1 ⊢
  repeat' (first|refine zW ?_|intro _)
  exact qE ⟨rfl,hle1,w1,sp1,hown1,rfl⟩
theorem wtxn_spec (ρ:Hp)(wb:Nat)(v:RV)(r:Rc)(w:Value)(l:List UInt8)(sp:List Value)(hown:OwnB w l sp)(hn:l.length<=100000)(x:Int)(h0:0<=x/\x<4294967296) :
  Spec prog 169 [.pointer (some ⟨wb,0,none⟩),.int .i64 x] ρ [Wz w l sp,wrC wb v r w] (WrP ρ wb v r (l++be 4 x.toNat)):=by
 have hll:l.length+4=(l++be 4 x.toNat).length:=by simp[Zh]
 obtain⟨va,vc,rfl,_⟩:=hown.slice
 obtain⟨y,rfl⟩:∃y:Nat,x=y:=⟨x.toNat,by omega⟩
 simp only[Int.toNat_natCast] at hll ⊢
 refine Za func169 rfl rfl rfl λ u R=>?_
 simp only[Zc,kA]
 repeat' (first|(refine Zb (.func 232) ?_;refine Zt (ZG (.slice va l.length vc) (l.map Zk) sp 5) (h:=by repeat (first|exact ZJ|apply Ya)) (λ ρ2 hle2 hfz=>?_);obtain⟨a1,c1,f1,hc1,hs1⟩:=hown.sIn hfz;cases f1;refine qC rfl rfl (put32_spec _ va _ vc _ hs1 y (by omega) (by omega)) ?_;rintro v' ρ3 L3 hle3 ⟨rfl,sp3,hown3,rfl⟩;simp only[kA];rw[hll] at hown3;obtain⟨va',vc',rfl,_⟩:=hown3.slice)|refine zW ?_|intro _)
 exact qE ⟨rfl,hle2,_,sp3,hown3,rfl⟩
theorem wcontent_spec (ρ:Hp)(wb:Nat)(v:RV)(r:Rc)(w:Value)(l:List UInt8)(sp:List Value)(hown:OwnB w l sp)(hn:l.length<=100000)(cv:CV)(c:ZO)(h:CI ρ cv c)(hok:Zp c=true) :
  Spec prog 233 [.pointer (some ⟨wb,0,none⟩),.agg ⟨Yv c.kind cv⟩] ρ [Wz w l sp,wrC wb v r w] (WrP ρ wb v r (l++Yf c)):=by
 have hce:=contE_spec ρ cv c h.cin (λ r hr=>(h.row r hr).id) h.kid
 rw[if_pos hok,if_pos hok] at hce
 have h82:=Vc hok
 obtain⟨va,vc,rfl,_⟩:=hown.slice
 refine Za func233 rfl rfl rfl λ u R=>?_
 simp only[Zc,kA]
 repeat' (first|(refine Zb (.func 250) ?_;refine qC rfl rfl (hce) ?_;rintro v ρ' L' hle ⟨hle1,a1,n1,c1,rfl,hc1,hs1,rfl⟩<;>(try simp only[kA]))|(have hn1:=hs1.len;refine YA (ys:=(Yf c).map Zk) (m:=n1) (sz:=1) rfl rfl hown (hR:=by infer_instance) (SIn.srcV hs1) (by simpa using hs1.len) (ZH _) (by decide) rfl (by omega) (by omega) rfl (λ v' sp' hown'=>?_);rw[<-List.map_append] at hown' ⊢;rw[<-hs1.len,<-aL] at hown';obtain⟨va',vc',rfl,_⟩:=hown'.slice)|refine zW ?_|intro _)
 exact qE ⟨rfl,hle1,_,sp',hown',rfl⟩
theorem sIn_lit {α:Type}{g:α->Value}{ρ:Hp}{b:Nat}{l:List α}{T:TypeId}{fr:Nat×Nat}(h:ρ b=some (.cells ⟨l.map g⟩ T fr)):SIn ρ g (some ⟨b,0,none⟩) l.length l:=
 ⟨rfl,.inr ⟨b,0,_,T,fr,rfl,h,by rw[List.drop_zero,aT (by simp)]⟩⟩
abbrev iV (x:Int):Value:=.int .i64 x
abbrev lV (x:Nat):Value:=.int .u64 (x:Int)
theorem Xd (ρ:Hp)(wb:Nat)(v:RV)(r:Rc)(w:Value)(l:List UInt8)(sp:List Value)(hown:OwnB w l sp)(hn:l.length<=100000)(b:Nat)(x:Int){T:TypeId}{fr:Nat×Nat}(h:ρ b=some (.cells ⟨[.int .i64 x]⟩ T fr))(hb:0<=x/\x<256) :
  Spec prog 167 [.pointer (some ⟨wb,0,none⟩),.slice (some ⟨b,0,none⟩) 1 1] ρ [Wz w l sp,wrC wb v r w] (WrP ρ wb v r (l++[tB x])):=
 wbytes_spec ρ wb v r w l sp hown hn _ 1 1 [x] (sIn_lit (l:=[x]) (g:=iV) h) (λ y hy=>by rw[List.mem_singleton.1 hy];exact hb) (by decide)
theorem wlong_spec (ρ:Hp)(wb:Nat)(v:RV)(r:Rc)(w:Value)(l:List UInt8)(sp:List Value)(hown:OwnB w l sp)(hn:l.length<=100000)(b:Nat)(x:Nat){T:TypeId}{fr:Nat×Nat}(h:ρ b=some (.cells ⟨[.int .u64 (x:Int)]⟩ T fr))(hb:x<18446744073709551616) :
  Spec prog 168 [.pointer (some ⟨wb,0,none⟩),.slice (some ⟨b,0,none⟩) 1 1] ρ [Wz w l sp,wrC wb v r w] (WrP ρ wb v r (l++be 8 x)):=by
 have:=wlongs_spec ρ wb v r w l sp hown hn _ 1 1 [x] (sIn_lit (l:=[x]) (g:=lV) h) (λ y hy=>by rw[List.mem_singleton.1 hy];exact hb) (by decide)
 simpa only [List.flatMap_cons,List.flatMap_nil,aN] using this
theorem wlong3_spec (ρ:Hp)(wb:Nat)(v:RV)(r:Rc)(w:Value)(l:List UInt8)(sp:List Value)(hown:OwnB w l sp)(hn:l.length<=100000)(b:Nat)(x y z:Nat){T:TypeId}{fr:Nat×Nat}(h:ρ b=some (.cells ⟨[.int .u64 (x:Int),.int .u64 (y:Int),.int .u64 (z:Int)]⟩ T fr))(hx:x<18446744073709551616)(hy:y<18446744073709551616)(hz:z<18446744073709551616) :
  Spec prog 168 [.pointer (some ⟨wb,0,none⟩),.slice (some ⟨b,0,none⟩) 3 3] ρ [Wz w l sp,wrC wb v r w] (WrP ρ wb v r (l++(be 8 x++(be 8 y++be 8 z)))):=by
 have:=wlongs_spec ρ wb v r w l sp hown hn _ 3 3 [x,y,z] (sIn_lit (l:=[x,y,z]) (g:=lV) h) (λ q hq=>by simp at hq;rcases hq with rfl|rfl|rfl<;>assumption) (by decide)
 simpa only [List.flatMap_cons,List.flatMap_nil,aN] using this
theorem wnested_spec (ρ:Hp)(wb:Nat)(v:RV)(r:Rc)(w:Value)(l:List UInt8)(sp:List Value)(hown:OwnB w l sp)(hn:l.length<=90000)(h0:r.next<18446744073709551616) :
  Spec prog 171 [.pointer (some ⟨wb,0,none⟩)] ρ [Wz w l sp,wrC wb v r w] (WrP ρ wb v r (l++be 8 r.next)):=by
 have hρ:=Hp.le_refl ρ
 refine Za func171 rfl rfl rfl λ u R=>?_
 simp only[Zc,kA]
 repeat' (first|(refine Zl rfl rfl rfl rfl (by simp) rfl rfl (λ bs=>?_);refine Zt _ (h:=Rem.here) (λ ρz hlz hfz=>?_);have hbs:=hfz _ (List.mem_singleton.2 rfl);clear hfz;have hρ:=Hp.le_trans hρ hlz;clear hlz;(try simp only[List.nil_append]))|(refine Zb (.func 168) ?_;refine qC rfl rfl (wlong_spec _ wb v r w l sp hown (by omega) _ r.next hbs h0) ?_;rintro v ρ' L' hle ⟨rfl,hl1,w1,sp1,hown,rfl⟩<;>(try simp only[kA]))|refine zW ?_|intro _)
 exact qE ⟨rfl,Hp.le_trans hρ hl1,w1,sp1,hown,rfl⟩
theorem imB_len {two:Bool}{x:Im}(ha:Zp x.a=true)(hb:Zp x.b=true):(imB two x).length<=165:=by
 have h1:=Vc ha
 have h2:=Vc hb
 cases two<;>simp[imB]<;>omega
theorem wimages_spec (ρ:Hp)(wb:Nat)(v:RV)(r:Rc)(w:Value)(l:List UInt8)(sp:List Value)(hown:OwnB w l sp)(hn:l.length<=80000)(h:RcIn ρ v r)(hL:LayOk r) :
  Spec prog 170 [.pointer (some ⟨wb,0,none⟩)] ρ [Wz w l sp,wrC wb v r w] (WrP ρ wb v r (l++imsB r)):=by
 have hρ:=Hp.le_refl ρ
 have hA:=h.i.at'
 have hl:=hA.len
 have hil:=hL.il
 refine Za func170 rfl rfl rfl λ u R=>?_
 simp only[Zc,kA]
 repeat' (first|(refine Zl rfl rfl rfl rfl (by simp) rfl rfl (λ bs=>?_);refine Zt _ (h:=Rem.here) (λ ρz hlz hfz=>?_);have hbs:=hfz _ (List.mem_singleton.2 rfl);clear hfz;have hρ:=Hp.le_trans hρ hlz;clear hlz;(try simp only[List.nil_append]))|(refine Zb (.func 167) ?_;refine qC rfl rfl (Xd _ wb v r w l sp hown (by omega) _ (v.i.n:Int) hbs (by omega)) ?_;rintro v ρ' L' hle ⟨rfl,hl1,w1,sp1,hown,rfl⟩<;>(try simp only[kA]);have hρ:=Hp.le_trans hρ hl1;clear hl1)|refine zW ?_|intro _)
 obtain⟨B,hB⟩:∃B,l++[tB (v.i.n:Int)]=B:=⟨_,rfl⟩
 rw[hB] at hown ⊢
 have hBl:B.length<=80001:=by rw[<-hB];simp;omega
 have hfin:B++r.ims.flatMap (imB (decide (r.kind=2)))=l++imsB r:=by rw[<-hB];simp[imsB,Xt,hl,tB]
 generalize hf:imB (decide (r.kind=2))=f at *
 rw[show Wz w1 B sp1=Wz w1 (B++(r.ims.take 0).flatMap f) sp1 by simp]
 refine lpG (Nat×Hp×Value×(List Value)) [0,17,18] (λ z=>[(19,.int .i64 z.1)]) (λ z=>z.2.1) (λ z=>[Wz z.2.2.1 (B++(r.ims.take z.1).flatMap f) z.2.2.2,wrC wb v r z.2.2.1]) (λ z=>z.1<=v.i.n/\ρ.le z.2.1/\OwnB z.2.2.1 (B++(r.ims.take z.1).flatMap f) z.2.2.2) (λ z=>v.i.n-z.1) (0,ρ',w1,sp1) ⟨aZ _,hρ,by simpa using hown⟩ ?_
 rintro⟨k,ρ1,w2,sp2⟩ hI
 try simp only[kB] at hI ⊢
 try dsimp only at hI ⊢
 obtain⟨hk,hle1,hown⟩:=hI
 clear hρ
 by_cases hlt:k<v.i.n
 ·obtain⟨b,off,C,T,fr,e1,hbb,hfit,hcc⟩:=(hA.mono hle1).get (show k<r.ims.length by omega)
  have hts:=flatMap_app f r.ims k (by omega)
  have hmem:=aM (show k<r.ims.length by omega)
  have hin:=(h.im _ hmem).mono hle1
  obtain⟨hp,ha,hb⟩:=hL.im _ hmem
  have hfl:=YH f 165 (r.ims.take k) (λ x hx=>by
   rw[<-hf];exact imB_len (hL.im x (List.mem_of_mem_take hx)).2.1 (hL.im x (List.mem_of_mem_take hx)).2.2)
  have htl:(r.ims.take k).length<=16:=by simp;omega
  generalize r.ims[k]'(by omega)=x at *
  have hxl:(B++(r.ims.take k).flatMap f).length<=83000:=by simp only[aL];omega
  have hmm:B++(r.ims.take k).flatMap f++f x=B++(r.ims.take (k+1)).flatMap f:=by rw[hts];simp
  generalize hX:B++(r.ims.take k).flatMap f=X at *
  have hρ:=Hp.le_refl ρ1
  have h82:=Vc hb
  have h83:=Vc ha
  rw[e1]
  by_cases h2:r.kind=2
  ·have hfx:f x=tB x.page::(Yf x.b++Yf x.a):=by rw[<-hf,h2];rfl
   repeat' (first|(refine Zl rfl rfl rfl rfl (by simp) rfl rfl (λ bs=>?_);refine Zt _ (h:=Rem.here) (λ ρz hlz hfz=>?_);have hbs:=hfz _ (List.mem_singleton.2 rfl);clear hfz;have hρ:=Hp.le_trans hρ hlz;clear hlz;(try simp only[List.nil_append]))|(refine Zb (.func 167) ?_;refine qC rfl rfl (Xd _ wb v r w2 X sp2 hown (by omega) _ x.page hbs (by omega)) ?_;rintro v ρ' L' hle ⟨rfl,hl1,w3,sp3,hown,rfl⟩<;>(try simp only[kA]);have hρ:=Hp.le_trans hρ hl1;clear hl1)|(refine Zb (.func 233) ?_;refine qC rfl rfl ((wcontent_spec _ wb v r w3 _ sp3 hown (by (try simp only[aL,aC,List.length_nil,List.length_map,Zh])<;>omega) x.bv x.b (hin.b.mono hρ) hb)) ?_;rintro v ρ' L' hle ⟨rfl,hl1,w4,sp4,hown,rfl⟩<;>(try simp only[kA]);have hρ:=Hp.le_trans hρ hl1;clear hl1)|(refine Zb (.func 233) ?_;refine qC rfl rfl ((wcontent_spec _ wb v r w4 _ sp4 hown (by (try simp only[aL,aC,List.length_nil,List.length_map,Zh])<;>omega) x.av x.a (hin.a.mono hρ) ha)) ?_;rintro v ρ' L' hle ⟨rfl,hl1,w5,sp5,hown,rfl⟩<;>(try simp only[kA]);have hρ:=Hp.le_trans hρ hl1;clear hl1)|refine zW ?_|intro _)
   rw[<-e1]
   have e2:X++[tB x.page]++Yf x.b++Yf x.a=B++(r.ims.take (k+1)).flatMap f:=by rw[<-hmm,hfx];simp
   rw[e2] at hown ⊢
   refine rnG (k+1,_,w5,sp5) (⟨hlt,Hp.le_trans hle1 hρ,hown⟩)
  ·have hfx:f x=tB x.page::Yf x.a:=by rw[<-hf,decide_eq_false h2];rfl
   repeat' (first|(refine Zl rfl rfl rfl rfl (by simp) rfl rfl (λ bs=>?_);refine Zt _ (h:=Rem.here) (λ ρz hlz hfz=>?_);have hbs:=hfz _ (List.mem_singleton.2 rfl);clear hfz;have hρ:=Hp.le_trans hρ hlz;clear hlz;(try simp only[List.nil_append]))|(refine Zb (.func 167) ?_;refine qC rfl rfl (Xd _ wb v r w2 X sp2 hown (by omega) _ x.page hbs (by omega)) ?_;rintro v ρ' L' hle ⟨rfl,hl1,w3,sp3,hown,rfl⟩<;>(try simp only[kA]);have hρ:=Hp.le_trans hρ hl1;clear hl1)|(refine Zb (.func 233) ?_;refine qC rfl rfl ((wcontent_spec _ wb v r w3 _ sp3 hown (by (try simp only[aL,aC,List.length_nil,List.length_map,Zh])<;>omega) x.av x.a (hin.a.mono hρ) ha)) ?_;rintro v ρ' L' hle ⟨rfl,hl1,w5,sp5,hown,rfl⟩<;>(try simp only[kA]);have hρ:=Hp.le_trans hρ hl1;clear hl1)|refine zW ?_|intro _)
   rw[<-e1]
   have e2:X++[tB x.page]++Yf x.a=B++(r.ims.take (k+1)).flatMap f:=by rw[<-hmm,hfx];simp
   rw[e2] at hown ⊢
   refine rnG (k+1,_,w5,sp5) (⟨hlt,Hp.le_trans hle1 hρ,hown⟩)
 ·rw[show r.ims.take k=r.ims by rw[show k=r.ims.length by omega,List.take_length],hfin] at hown ⊢
  repeat' (first|refine zW ?_|intro _)
  exact qE ⟨rfl,hle1,w2,sp2,hown,rfl⟩
theorem wundone_spec (ρ:Hp)(wb:Nat)(v:RV)(r:Rc)(w:Value)(l:List UInt8)(sp:List Value)(hown:OwnB w l sp)(hn:l.length<=70000)(h:RcIn ρ v r)(hL:LayOk r) :
  Spec prog 173 [.pointer (some ⟨wb,0,none⟩)] ρ [Wz w l sp,wrC wb v r w] (WrP ρ wb v r (l++(be 8 r.next++imsB r))):=by
 refine Za func173 rfl rfl rfl λ u R=>?_
 simp only[Zc,kA]
 repeat' (first|(refine Zb (.func 171) ?_;refine qC rfl rfl (wnested_spec _ wb v r w l sp hown (by omega) hL.next) ?_;rintro v ρ' L' hle ⟨rfl,hl1,w1,sp1,hown,rfl⟩<;>(try simp only[kA]))|(refine Zb (.func 170) ?_;refine qC rfl rfl (wimages_spec _ wb v r w1 _ sp1 hown (by (try simp only[aL,aC,List.length_nil,List.length_map,Zh])<;>omega) (h.mono hl1) hL) ?_;rintro v ρ' L' hle ⟨rfl,hl2,w2,sp2,hown,rfl⟩<;>(try simp only[kA]))|refine zW ?_|intro _)
 rw[aA] at hown ⊢
 exact qE ⟨rfl,Hp.le_trans hl1 hl2,w2,sp2,hown,rfl⟩
theorem stpB_len {s:Stp}(h:Xr s=true):(Vs s).length<=21:=by
 unfold Vs
 by_cases h23:s.kind=2\/s.kind=3
 ·rw[if_pos h23]
  have hr:Xi s.row=true:=by
   unfold Xr at h
   rw[if_neg (by omega),if_neg (by omega),if_pos h23,aE] at h
   exact h.2
  have:=rowB_le hr
  simp;omega
 ·rw[if_neg h23]
  split<;>simp[Zh]
theorem ckTB_len (t:CkT):(Vu t).length=29:=by simp[Vu,Zh]
theorem ckPB_len (p:CkP):(ckPB p).length=9:=by simp[ckPB,Zh]
theorem step_kinds {s:Stp}(h:Xr s=true):(s.kind=1\/s.kind=2\/s.kind=3\/s.kind=4)/\((s.kind=2\/s.kind=3)->Xi s.row=true)/\(¬(s.kind=2\/s.kind=3)->0<=s.row.t/\s.row.t<3):=by
 unfold Xr at h
 by_cases h1:s.kind=1
 ·rw[if_pos h1] at h
  unfold onlyOk at h
  rw[aE,decide_eq_true_eq,decide_eq_true_eq] at h
  exact⟨.inl h1,λ e=>by omega,λ _=>h.2⟩
 ·rw[if_neg h1] at h
  by_cases h4:s.kind=4
  ·rw[if_pos h4] at h
   unfold onlyOk at h
   rw[aE,aE,decide_eq_true_eq,decide_eq_true_eq] at h
   exact⟨by omega,λ e=>by omega,λ _=>h.1.2⟩
  ·rw[if_neg h4] at h
   by_cases h23:s.kind=2\/s.kind=3
   ·rw[if_pos h23,aE] at h
    exact⟨by omega,λ _=>h.2,λ e=>absurd h23 e⟩
   ·rw[if_neg h23] at h;cases h
theorem wdone_spec (ρ:Hp)(wb:Nat)(v:RV)(r:Rc)(w:Value)(l:List UInt8)(sp:List Value)(hown:OwnB w l sp)(hn:l.length<=70000)(h:RcIn ρ v r)(hL:LayOk r) :
  Spec prog 172 [.pointer (some ⟨wb,0,none⟩)] ρ [Wz w l sp,wrC wb v r w] (WrP ρ wb v r (l++(be 8 r.next++Xt Vs r.steps))):=by
 have hρ:=Hp.le_refl ρ
 have hA:=h.s.at'
 have hl:=hA.len
 have hil:=hL.sl
 refine Za func172 rfl rfl rfl λ u R=>?_
 simp only[Zc,kA]
 repeat' (first|(refine Zl rfl rfl rfl rfl (by simp) rfl rfl (λ bs=>?_);refine Zt _ (h:=Rem.here) (λ ρz hlz hfz=>?_);have hbs:=hfz _ (List.mem_singleton.2 rfl);clear hfz;have hρ:=Hp.le_trans hρ hlz;clear hlz;(try simp only[List.nil_append]))|(refine Zb (.func 171) ?_;refine qC rfl rfl (wnested_spec _ wb v r w l sp hown (by omega) hL.next) ?_;rintro v ρ' L' hle ⟨rfl,hl1,w0,sp0,hown,rfl⟩<;>(try simp only[kA]);have hρ:=Hp.le_trans hρ hl1;clear hl1)|(refine Zb (.func 167) ?_;refine qC rfl rfl (Xd _ wb v r w0 _ sp0 hown (by (try simp only[aL,aC,List.length_nil,List.length_map,Zh])<;>omega) _ (v.s.n:Int) hbs (by omega)) ?_;rintro v ρ' L' hle ⟨rfl,hl1,w1,sp1,hown,rfl⟩<;>(try simp only[kA]);have hρ:=Hp.le_trans hρ hl1;clear hl1)|refine zW ?_|intro _)
 obtain⟨B,hB⟩:∃B,l++be 8 r.next++[tB (v.s.n:Int)]=B:=⟨_,rfl⟩
 rw[hB] at hown ⊢
 have hBl:B.length<=80001:=by rw[<-hB];simp[Zh];omega
 have hfin:B++r.steps.flatMap Vs=l++(be 8 r.next++Xt Vs r.steps):=by rw[<-hB];simp[Xt,hl,tB]
 rw[show Wz w1 B sp1=Wz w1 (B++(r.steps.take 0).flatMap Vs) sp1 by simp]
 refine lpG (Nat×Hp×Value×(List Value)) [0,21,22] (λ z=>[(23,.int .i64 z.1)]) (λ z=>z.2.1) (λ z=>[Wz z.2.2.1 (B++(r.steps.take z.1).flatMap Vs) z.2.2.2,wrC wb v r z.2.2.1]) (λ z=>z.1<=v.s.n/\ρ.le z.2.1/\OwnB z.2.2.1 (B++(r.steps.take z.1).flatMap Vs) z.2.2.2) (λ z=>v.s.n-z.1) (0,ρ',w1,sp1) ⟨aZ _,hρ,by simpa using hown⟩ ?_
 rintro⟨k,ρ1,w2,sp2⟩ hI
 try simp only[kB] at hI ⊢
 try dsimp only at hI ⊢
 obtain⟨hk,hle1,hown⟩:=hI
 clear hρ
 by_cases hlt:k<v.s.n
 ·obtain⟨b,off,C,T,fr,e1,hbb,hfit,hcc⟩:=(hA.mono hle1).get (show k<r.steps.length by omega)
  have hts:=flatMap_app Vs r.steps k (by omega)
  have hmem:=aM (show k<r.steps.length by omega)
  have hsf:=h.sf _ hmem
  obtain⟨hk4,hr23,hkt⟩:=step_kinds (hL.st _ hmem)
  have hfl:=YH Vs 21 (r.steps.take k) (λ x hx=>stpB_len (hL.st x (List.mem_of_mem_take hx)))
  have htl:(r.steps.take k).length<=2:=by simp;omega
  generalize r.steps[k]'(by omega)=x at *
  have hxl:(B++(r.steps.take k).flatMap Vs).length<=83000:=by simp only[aL];omega
  have hmm:B++(r.steps.take k).flatMap Vs++Vs x=B++(r.steps.take (k+1)).flatMap Vs:=by rw[hts];simp
  generalize hX:B++(r.steps.take k).flatMap Vs=X at *
  have hρ:=Hp.le_refl ρ1
  rw[e1]
  by_cases h23:x.kind=2\/x.kind=3
  ·have hst:Vs x=tB x.kind::ZY x.row:=by unfold Vs;rw[if_pos h23]
   have hre:=λ ρ=>rowE_spec ρ x.row hsf.id
   have hrl:=rowB_le (hr23 h23)
   rw[if_pos (hr23 h23),if_pos (hr23 h23)] at hre
   have hmm2:(X++[tB x.kind]).map Zk++(ZY x.row).map Zk=(B++(r.steps.take (k+1)).flatMap Vs).map Zk:=by rw[<-hmm,hst];simp
   have hll2:(X++[tB x.kind]).length+(ZY x.row).length=(B++(r.steps.take (k+1)).flatMap Vs).length:=by rw[<-hmm,hst];simp;omega
   have hx1:(X++[tB x.kind]).length<=84000:=by simp;omega
   rcases h23 with h2|h2
   all_goals (repeat' (first|(refine Zl rfl rfl rfl rfl (by simp) rfl rfl (λ bs=>?_);refine Zt _ (h:=Rem.here) (λ ρz hlz hfz=>?_);have hbs:=hfz _ (List.mem_singleton.2 rfl);clear hfz;have hρ:=Hp.le_trans hρ hlz;clear hlz;(try simp only[List.nil_append]))|(refine Zb (.func 167) ?_;refine qC rfl rfl (Xd _ wb v r w2 X sp2 hown (by omega) _ x.kind hbs (by omega)) ?_;rintro v ρ' L' hle ⟨rfl,hl1,w3,sp3,hown,rfl⟩<;>(try simp only[kA]);have hρ:=Hp.le_trans hρ hl1;clear hl1;obtain⟨va,vc,rfl,_⟩:=hown.slice)|(refine Zb (.func 234) ?_;refine qC rfl rfl (hre _) ?_;rintro v ρ' L' hle ⟨hl1,a1,n1,c1,rfl,hc1,hs1,rfl⟩<;>(try simp only[kA]);have hρ:=Hp.le_trans hρ hl1;clear hl1)|(have hn1:=hs1.len;refine YA (ys:=(ZY x.row).map Zk) (m:=n1) (sz:=1) rfl rfl hown (hR:=by infer_instance) (SIn.srcV hs1) (by simpa using hs1.len) (ZH _) (by decide) rfl (by omega) (by omega) rfl (λ v' sp' hown'=>?_);rw[hmm2] at hown' ⊢;rw[<-hs1.len,hll2] at hown';obtain⟨va',vc',rfl,_⟩:=hown'.slice)|refine zW ?_|intro _))
   all_goals rw[<-e1]
   all_goals refine rnG (k+1,_,_,sp') (⟨hlt,Hp.le_trans hle1 hρ,hown'⟩)
  ·have hkt:=hkt h23
   have hst:Vs x=tB x.kind::(tB x.row.t::(be 2 x.row.id++(if x.kind=1 then be 8 (vN x.by') else []))):=by unfold Vs;rw[if_neg h23]
   have hll2:(X++[tB x.kind]++[tB x.row.t]).length+2=(X++[tB x.kind]++[tB x.row.t]++be 2 x.row.id).length:=by simp[Zh]
   rcases (show x.kind=1\/x.kind=4 by omega) with h1|h1
   ·rw[if_pos h1] at hst
    have hvl:=vN_lt x.by'
    repeat' (first|(refine Zl rfl rfl rfl rfl (by simp) rfl rfl (λ bs=>?_);refine Zt _ (h:=Rem.here) (λ ρz hlz hfz=>?_);have hbs:=hfz _ (List.mem_singleton.2 rfl);clear hfz;have hρ:=Hp.le_trans hρ hlz;clear hlz;(try simp only[List.nil_append]))|(refine Zb (.func 167) ?_;refine qC rfl rfl (Xd _ wb v r w2 X sp2 hown (by omega) _ x.kind hbs (by omega)) ?_;rintro v ρ' L' hle ⟨rfl,hl1,w3,sp3,hown,rfl⟩<;>(try simp only[kA]);have hρ:=Hp.le_trans hρ hl1;clear hl1;obtain⟨va,vc,rfl,_⟩:=hown.slice)|(refine Zb (.func 167) ?_;refine qC rfl rfl (Xd _ wb v r _ _ sp3 hown (by (try simp only[aL,aC,List.length_nil,List.length_map,Zh])<;>omega) _ x.row.t hbs (by omega)) ?_;rintro v ρ' L' hle ⟨rfl,hl1,w4,sp4,hown,rfl⟩<;>(try simp only[kA]);have hρ:=Hp.le_trans hρ hl1;clear hl1;obtain⟨va,vc,rfl,_⟩:=hown.slice)|refine zW ?_|intro _)
    refine Yt [0,1,2,3,5,6,7,8] (.e 4 [] (.e 9 [10,11] (.e 12 [] .o))) ([[(_,.cells ⟨stpV x⟩ 183 (0,0))]]) ?_
    repeat' (refine iT ?_;first|refine rA ?_|(refine rE ?_<;>((first|(refine Zb (.func 235) ?_;refine Zt (Wz (.slice va (X++[tB x.kind]++[tB x.row.t]).length vc) (X++[tB x.kind]++[tB x.row.t]) sp4) (h:=by repeat (first|exact ZJ|apply Ya)) (λ ρ2 hle2 hfz=>?_);obtain⟨a1,c1,f1,hc1,hs1⟩:=hown.sIn hfz;cases f1;refine qC rfl rfl (put16_spec _ va _ vc _ hs1 x.row.id hsf.id (by (try simp only[aL,aC,List.length_nil,List.length_map,Zh])<;>omega)) ?_;rintro v' ρ3 L3 hle3 ⟨rfl,sp5,hown,rfl⟩;simp only[kA];rw[hll2] at hown;obtain⟨va,vc,rfl,_⟩:=hown.slice;have hρ:=Hp.le_trans hρ hle2)|(refine i_qq ?_;refine qQ ?_)|refine qEf ?_)<;>(try simp only[kA])<;>refine zN ?_)))
    all_goals (repeat' (first|(simp only[vN_eq];refine Zl rfl rfl rfl rfl (by simp) rfl rfl (λ bs=>?_);refine Zt _ (h:=Rem.here) (λ ρz hlz hfz=>?_);have hbs:=hfz _ (List.mem_singleton.2 rfl);clear hfz;have hρ:=Hp.le_trans hρ hlz;clear hlz;(try simp only[List.nil_append]))|(refine Zb (.func 168) ?_;refine qC rfl rfl (wlong_spec _ wb v r _ _ sp5 hown (by (try simp only[aL,aC,List.length_nil,List.length_map,Zh])<;>omega) _ (vN x.by') hbs hvl) ?_;rintro v ρ' L' hle ⟨rfl,hl1,w6,sp6,hown,rfl⟩<;>(try simp only[kA]);have hρ:=Hp.le_trans hρ hl1;clear hl1;obtain⟨va,vc,rfl,_⟩:=hown.slice)|refine zW ?_|intro _))
    all_goals rw[<-e1]
    all_goals have e2:X++[tB x.kind]++[tB x.row.t]++be 2 x.row.id++be 8 (vN x.by')=B++(r.steps.take (k+1)).flatMap Vs:=by rw[<-hmm,hst];simp
    all_goals rw[e2] at hown ⊢
    all_goals refine rnG (k+1,_,_,sp6) (⟨hlt,Hp.le_trans hle1 hρ,hown⟩)
   ·rw[if_neg (by omega)] at hst
    repeat' (first|(refine Zl rfl rfl rfl rfl (by simp) rfl rfl (λ bs=>?_);refine Zt _ (h:=Rem.here) (λ ρz hlz hfz=>?_);have hbs:=hfz _ (List.mem_singleton.2 rfl);clear hfz;have hρ:=Hp.le_trans hρ hlz;clear hlz;(try simp only[List.nil_append]))|(refine Zb (.func 167) ?_;refine qC rfl rfl (Xd _ wb v r w2 X sp2 hown (by omega) _ x.kind hbs (by omega)) ?_;rintro v ρ' L' hle ⟨rfl,hl1,w3,sp3,hown,rfl⟩<;>(try simp only[kA]);have hρ:=Hp.le_trans hρ hl1;clear hl1;obtain⟨va,vc,rfl,_⟩:=hown.slice)|(refine Zb (.func 167) ?_;refine qC rfl rfl (Xd _ wb v r _ _ sp3 hown (by (try simp only[aL,aC,List.length_nil,List.length_map,Zh])<;>omega) _ x.row.t hbs (by omega)) ?_;rintro v ρ' L' hle ⟨rfl,hl1,w4,sp4,hown,rfl⟩<;>(try simp only[kA]);have hρ:=Hp.le_trans hρ hl1;clear hl1;obtain⟨va,vc,rfl,_⟩:=hown.slice)|refine zW ?_|intro _)
    refine Yt [0,1,2,3,5,6,7,8] (.e 4 [] (.e 9 [10,11] (.e 12 [] .o))) ([[(_,.cells ⟨stpV x⟩ 183 (0,0))]]) ?_
    repeat' (refine iT ?_;first|refine rA ?_|(refine rE ?_<;>((first|(refine Zb (.func 235) ?_;refine Zt (Wz (.slice va (X++[tB x.kind]++[tB x.row.t]).length vc) (X++[tB x.kind]++[tB x.row.t]) sp4) (h:=by repeat (first|exact ZJ|apply Ya)) (λ ρ2 hle2 hfz=>?_);obtain⟨a1,c1,f1,hc1,hs1⟩:=hown.sIn hfz;cases f1;refine qC rfl rfl (put16_spec _ va _ vc _ hs1 x.row.id hsf.id (by (try simp only[aL,aC,List.length_nil,List.length_map,Zh])<;>omega)) ?_;rintro v' ρ3 L3 hle3 ⟨rfl,sp5,hown,rfl⟩;simp only[kA];rw[hll2] at hown;obtain⟨va,vc,rfl,_⟩:=hown.slice;have hρ:=Hp.le_trans hρ hle2)|(refine i_qq ?_;refine qQ ?_)|refine qEf ?_)<;>(try simp only[kA])<;>refine zN ?_)))
    all_goals (repeat' (first|refine zW ?_|intro _))
    all_goals rw[<-e1]
    all_goals have e2:X++[tB x.kind]++[tB x.row.t]++be 2 x.row.id=B++(r.steps.take (k+1)).flatMap Vs:=by rw[<-hmm,hst];simp
    all_goals rw[e2] at hown ⊢
    all_goals refine rnG (k+1,_,_,sp5) (⟨hlt,Hp.le_trans hle1 hρ,hown⟩)
 ·rw[show r.steps.take k=r.steps by rw[show k=r.steps.length by omega,List.take_length],hfin] at hown ⊢
  repeat' (first|refine zW ?_|intro _)
  exact qE ⟨rfl,hle1,w2,sp2,hown,rfl⟩
theorem wckpt_spec (ρ:Hp)(wb:Nat)(v:RV)(r:Rc)(w:Value)(l:List UInt8)(sp:List Value)(hown:OwnB w l sp)(hn:l.length<=70000)(h:RcIn ρ v r)(hL:LayOk r) :
  Spec prog 174 [.pointer (some ⟨wb,0,none⟩)] ρ [Wz w l sp,wrC wb v r w] (WrP ρ wb v r (l++(be 4 r.nextTxn.toNat++(Xt Vu r.txns++Xt ckPB r.dirty)))):=by
 have hρ:=Hp.le_refl ρ
 have hA:=h.t.at'
 have hl:=hA.len
 have hA2:=h.d.at'
 have hl2:=hA2.len
 have hil:=hL.tl
 have hil2:=hL.dl
 refine Za func174 rfl rfl rfl λ u R=>?_
 simp only[Zc,kA]
 repeat' (first|(refine Zl rfl rfl rfl rfl (by simp) rfl rfl (λ bs=>?_);refine Zt _ (h:=Rem.here) (λ ρz hlz hfz=>?_);have hbs:=hfz _ (List.mem_singleton.2 rfl);clear hfz;have hρ:=Hp.le_trans hρ hlz;clear hlz;(try simp only[List.nil_append]))|(refine Zb (.func 169) ?_;refine qC rfl rfl (wtxn_spec _ wb v r w l sp hown (by omega) r.nextTxn hL.nextTxn) ?_;rintro v ρ' L' hle ⟨rfl,hl1,w0,sp0,hown,rfl⟩<;>(try simp only[kA]);have hρ:=Hp.le_trans hρ hl1;clear hl1)|(refine Zb (.func 167) ?_;refine qC rfl rfl (Xd _ wb v r w0 _ sp0 hown (by (try simp only[aL,aC,List.length_nil,List.length_map,Zh])<;>omega) _ (v.t.n:Int) hbs (by omega)) ?_;rintro v ρ' L' hle ⟨rfl,hl1,w1,sp1,hown,rfl⟩<;>(try simp only[kA]);have hρ:=Hp.le_trans hρ hl1;clear hl1)|refine zV ?_|intro _)
 obtain⟨B,hB⟩:∃B,l++be 4 r.nextTxn.toNat++[tB (v.t.n:Int)]=B:=⟨_,rfl⟩
 rw[hB] at hown ⊢
 have hBl:B.length<=80001:=by rw[<-hB];simp[Zh];omega
 have hfin:B++r.txns.flatMap Vu=l++(be 4 r.nextTxn.toNat++Xt Vu r.txns):=by rw[<-hB];simp[Xt,hl,tB]
 rw[show Wz w1 B sp1=Wz w1 (B++(r.txns.take 0).flatMap Vu) sp1 by simp]
 refine lpG (Nat×Hp×Value×(List Value)) [0,26,27] (λ z=>[(28,.int .i64 z.1)]) (λ z=>z.2.1) (λ z=>[Wz z.2.2.1 (B++(r.txns.take z.1).flatMap Vu) z.2.2.2,wrC wb v r z.2.2.1]) (λ z=>z.1<=v.t.n/\ρ.le z.2.1/\OwnB z.2.2.1 (B++(r.txns.take z.1).flatMap Vu) z.2.2.2) (λ z=>v.t.n-z.1) (0,ρ',w1,sp1) ⟨aZ _,hρ,by simpa using hown⟩ ?_
 rintro⟨k,ρ1,w2,sp2⟩ hI
 try simp only[kB] at hI ⊢
 try dsimp only at hI ⊢
 obtain⟨hk,hle1,hown⟩:=hI
 clear hρ
 by_cases hlt:k<v.t.n
 ·obtain⟨b,off,C,T,fr,e1,hbb,hfit,hcc⟩:=(hA.mono hle1).get (show k<r.txns.length by omega)
  have hts:=flatMap_app Vu r.txns k (by omega)
  have hmem:=aM (show k<r.txns.length by omega)
  obtain⟨g1,g2,g3,g4,g5⟩:=hL.tx _ hmem
  have hfl:=YH Vu 29 (r.txns.take k) (λ x _=>Nat.le_of_eq (ckTB_len x))
  have htl:(r.txns.take k).length<=8:=by simp;omega
  generalize r.txns[k]'(by omega)=x at *
  have hxl:(B++(r.txns.take k).flatMap Vu).length<=83000:=by simp only[aL];omega
  have hmm:B++(r.txns.take k).flatMap Vu++Vu x=B++(r.txns.take (k+1)).flatMap Vu:=by rw[hts];simp
  generalize hX:B++(r.txns.take k).flatMap Vu=X at *
  have hρ:=Hp.le_refl ρ1
  rw[e1]
  repeat' (first|(refine Zl rfl rfl rfl rfl (by simp) rfl rfl (λ bs=>?_);refine Zt _ (h:=Rem.here) (λ ρz hlz hfz=>?_);have hbs:=hfz _ (List.mem_singleton.2 rfl);clear hfz;have hρ:=Hp.le_trans hρ hlz;clear hlz;(try simp only[List.nil_append]))|(refine Zb (.func 169) ?_;refine qC rfl rfl (wtxn_spec _ wb v r w2 X sp2 hown (by omega) x.txn g1) ?_;rintro v ρ' L' hle ⟨rfl,hl1,w3,sp3,hown,rfl⟩<;>(try simp only[kA]);have hρ:=Hp.le_trans hρ hl1;clear hl1)|(refine Zb (.func 168) ?_;refine qC rfl rfl (wlong3_spec _ wb v r w3 _ sp3 hown (by (try simp only[aL,aC,List.length_nil,List.length_map,Zh])<;>omega) _ x.first x.last x.undo hbs g2 g3 g4) ?_;rintro v ρ' L' hle ⟨rfl,hl1,w4,sp4,hown,rfl⟩<;>(try simp only[kA]);have hρ:=Hp.le_trans hρ hl1;clear hl1)|(refine Zb (.func 167) ?_;refine qC rfl rfl (Xd _ wb v r w4 _ sp4 hown (by (try simp only[aL,aC,List.length_nil,List.length_map,Zh])<;>omega) _ x.state hbs g5) ?_;rintro v ρ' L' hle ⟨rfl,hl1,w5,sp5,hown,rfl⟩<;>(try simp only[kA]);have hρ:=Hp.le_trans hρ hl1;clear hl1)|refine zV ?_|intro _)
  rw[<-e1]
  have e2:X++be 4 x.txn.toNat++(be 8 x.first++(be 8 x.last++be 8 x.undo))++[tB x.state]=B++(r.txns.take (k+1)).flatMap Vu:=by rw[<-hmm];simp[Vu]
  rw[e2] at hown ⊢
  refine rnG (k+1,_,w5,sp5) (⟨hlt,Hp.le_trans hle1 hρ,hown⟩)
 ·rw[show r.txns.take k=r.txns by rw[show k=r.txns.length by omega,List.take_length],hfin] at hown ⊢
  have hρ:=hle1
  obtain⟨B2,hB2⟩:∃B2,l++(be 4 r.nextTxn.toNat++Xt Vu r.txns)=B2:=⟨_,rfl⟩
  have hlT:(Xt Vu r.txns).length<=300:=by
   have:=YH Vu 29 r.txns (λ x _=>Nat.le_of_eq (ckTB_len x))
   unfold Xt;rw[aC];omega
  have hB2l:B2.length<=71000:=by rw[<-hB2];simp[Zh];omega
  rw[hB2] at hown ⊢
  repeat' (first|(refine Zl rfl rfl rfl rfl (by simp) rfl rfl (λ bs=>?_);refine Zt _ (h:=Rem.here) (λ ρz hlz hfz=>?_);have hbs:=hfz _ (List.mem_singleton.2 rfl);clear hfz;have hρ:=Hp.le_trans hρ hlz;clear hlz;(try simp only[List.nil_append]))|(refine Zb (.func 167) ?_;refine qC rfl rfl (Xd _ wb v r w2 B2 sp2 hown (by omega) _ (v.d.n:Int) hbs (by omega)) ?_;rintro v ρ' L' hle ⟨rfl,hl1,w1,sp1,hown,rfl⟩<;>(try simp only[kA]);have hρ:=Hp.le_trans hρ hl1;clear hl1)|refine zV ?_|intro _)
  obtain⟨B3,hB3⟩:∃B3,B2++[tB (v.d.n:Int)]=B3:=⟨_,rfl⟩
  rw[hB3] at hown ⊢
  have hBl3:B3.length<=80001:=by rw[<-hB3];simp;omega
  have hfin3:B3++r.dirty.flatMap ckPB=l++(be 4 r.nextTxn.toNat++(Xt Vu r.txns++Xt ckPB r.dirty)):=by rw[<-hB3,<-hB2];simp[Xt,hl2,tB]
  rw[show Wz w1 B3 sp1=Wz w1 (B3++(r.dirty.take 0).flatMap ckPB) sp1 by simp]
  refine lpG (Nat×Hp×Value×(List Value)) [0,64,65] (λ z=>[(66,.int .i64 z.1)]) (λ z=>z.2.1) (λ z=>[Wz z.2.2.1 (B3++(r.dirty.take z.1).flatMap ckPB) z.2.2.2,wrC wb v r z.2.2.1]) (λ z=>z.1<=v.d.n/\ρ.le z.2.1/\OwnB z.2.2.1 (B3++(r.dirty.take z.1).flatMap ckPB) z.2.2.2) (λ z=>v.d.n-z.1) (0,ρ',w1,sp1) ⟨aZ _,hρ,by simpa using hown⟩ ?_
  rintro⟨j,ρ2,w3,sp3⟩ hI
  try simp only[kB] at hI ⊢
  try dsimp only at hI ⊢
  obtain⟨hj,hle2,hown⟩:=hI
  clear hρ
  by_cases hlj:j<v.d.n
  ·obtain⟨b,off,C,T,fr,e1,hbb,hfit,hcc⟩:=(hA2.mono hle2).get (show j<r.dirty.length by omega)
   have hts:=flatMap_app ckPB r.dirty j (by omega)
   have hmem:=aM (show j<r.dirty.length by omega)
   obtain⟨g1,g2⟩:=hL.di _ hmem
   have hfl:=YH ckPB 9 (r.dirty.take j) (λ x _=>Nat.le_of_eq (ckPB_len x))
   have htl:(r.dirty.take j).length<=64:=by simp;omega
   generalize r.dirty[j]'(by omega)=x at *
   have hxl:(B3++(r.dirty.take j).flatMap ckPB).length<=83000:=by simp only[aL];omega
   have hmm:B3++(r.dirty.take j).flatMap ckPB++ckPB x=B3++(r.dirty.take (j+1)).flatMap ckPB:=by rw[hts];simp
   generalize hX:B3++(r.dirty.take j).flatMap ckPB=X at *
   have hρ:=Hp.le_refl ρ2
   rw[e1]
   repeat' (first|(refine Zl rfl rfl rfl rfl (by simp) rfl rfl (λ bs=>?_);refine Zt _ (h:=Rem.here) (λ ρz hlz hfz=>?_);have hbs:=hfz _ (List.mem_singleton.2 rfl);clear hfz;have hρ:=Hp.le_trans hρ hlz;clear hlz;(try simp only[List.nil_append]))|(refine Zb (.func 167) ?_;refine qC rfl rfl (Xd _ wb v r w3 X sp3 hown (by omega) _ x.page hbs (by omega)) ?_;rintro v ρ' L' hle ⟨rfl,hl1,w4,sp4,hown,rfl⟩<;>(try simp only[kA]);have hρ:=Hp.le_trans hρ hl1;clear hl1)|(refine Zb (.func 168) ?_;refine qC rfl rfl (wlong_spec _ wb v r w4 _ sp4 hown (by (try simp only[aL,aC,List.length_nil,List.length_map,Zh])<;>omega) _ x.since hbs g2) ?_;rintro v ρ' L' hle ⟨rfl,hl1,w5,sp5,hown,rfl⟩<;>(try simp only[kA]);have hρ:=Hp.le_trans hρ hl1;clear hl1)|refine zV ?_|intro _)
   rw[<-e1]
   have e2:X++[tB x.page]++be 8 x.since=B3++(r.dirty.take (j+1)).flatMap ckPB:=by rw[<-hmm];simp[ckPB]
   rw[e2] at hown ⊢
   refine rnG (j+1,_,w5,sp5) (⟨hlj,Hp.le_trans hle2 hρ,hown⟩)
  ·rw[show r.dirty.take j=r.dirty by rw[show j=r.dirty.length by omega,List.take_length],hfin3] at hown ⊢
   repeat' (first|refine zV ?_|intro _)
   exact qE ⟨rfl,hle2,w3,sp3,hown,rfl⟩
end Go.Proofs.E
