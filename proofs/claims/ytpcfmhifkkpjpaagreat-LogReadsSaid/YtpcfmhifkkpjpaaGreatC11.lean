/- Laws of LogReads. Part 11 of 28. -/
import Derived.Test.YtpcfmhifkkpjpaaGreatC10
namespace Go.Proofs.E
open Go
set_option linter.unusedVariables false
set_option linter.unusedSimpArgs false
set_option linter.unusedSectionVars false
set_option maxRecDepth 4000
set_option maxHeartbeats 1000000
attribute [local irreducible] Yl TL TC TE Spec ZI R1 Hp.le EnvLe TS TR YS Zp
theorem filt_pre16 {α:Type}(q:α→Bool)(l:List α){k:Nat}(hk:k<l.length)(hq:q l[k]=true):((l.take k).filter q++[l[k]]) <+: l.filter q∧(l.take (k+1)).filter q=(l.take k).filter q++[l[k]]:=by
 have e:(l.take (k+1)).filter q=(l.take k).filter q++[l[k]]:=by
  rw[List.take_succ_eq_append_getElem hk,List.filter_append]
  congr 1
  simp[hq]
 refine⟨?_,e⟩
 rw[←e]
 exact⟨(l.drop (k+1)).filter q,by rw[←List.filter_append,List.take_append_drop]⟩
theorem filt_no16 {α:Type}(q:α→Bool)(l:List α){k:Nat}(hk:k<l.length)(hq:q l[k]=false):(l.take (k+1)).filter q=(l.take k).filter q:=by
 rw[List.take_succ_eq_append_getElem hk,List.filter_append]
 simp[hq]
theorem flatL_at {l:List RR}{sp:List Value}{k:Nat}(h:k<l.length):((Xr l++sp).drop (0+k*10)).take 10=rrV l[k]:=by
 have h1:=flatL_len l
 rw[Nat.zero_add,List.drop_append_of_le_length (by omega),List.take_append_of_le_length (by rw[List.length_drop];omega)]
 exact flat_at rrV 10 l k h (fun x _=>rfl)
abbrev XJ (S:LgS)(lsn:Nat):List RR:=S.recs.filter (fun x=>decide (lsn≤x.2.lsn))
abbrev fb1 (b lb:Nat):List (Nat×Obj):=[(b,.cells ⟨[.pointer (some ⟨lb,0,none⟩)]⟩ 52 (0,0))]
abbrev fb2 (b lsn:Nat):List (Nat×Obj):=[(b,.cells ⟨[.int .u64 (lsn:Nat)]⟩ 33 (0,0))]
theorem from16_spec (ρ:Hp)(lb lsn:Nat):Spec Tryz.prog 108 [.pointer (some ⟨lb,0,none⟩),.int .u64 (lsn:Nat)] ρ [] (fun v ρ' L'=>∃b1 b2,v=.func (.func 191) ⟨[]⟩ ⟨[.pointer (some ⟨b1,0,none⟩),.pointer (some ⟨b2,0,none⟩)]⟩∧ρ'=ρ∧L'=[fb1 b1 lb,fb2 b2 lsn]):=by
 refine Zb Tryz.func108 rfl rfl rfl fun u R=>?_
 simp only[Zd,kA]
 repeat' (first|refine zW ?_|intro _)
 rename_i b1 b2
 exact qE (L':=[fb1 b1 lb,fb2 b2 lsn]) ⟨b1,b2,rfl,rfl,rfl⟩
theorem from16_iter (ρ0:Hp)(lb rb b1 b2 lsn:Nat)(S:LgS)(v:Value)(sp:List Value)(h:LgIn ρ0 S v sp) :
  IterP Tryz.prog 191 [] [.pointer (some ⟨b1,0,none⟩),.pointer (some ⟨b2,0,none⟩)] (fun x:RR=>[.agg ⟨rrV x⟩]) ρ0 [fb1 b1 lb,fb2 b2 lsn,XQ S v sp] (Ym lb rb S v) (XJ S lsn):=by
 intro l J Jx hC hY ρ Lj hl0 hJ
 have h1:=h.len
 obtain⟨A,B,rfl⟩:=hC _ _ hJ
 rcases h.own.out with⟨rfl,g0,g1,g2⟩|⟨bx,cap,rfl,g1,g2,g3⟩
 ·have hnil:S.recs=[]:=List.eq_nil_of_length_eq_zero g0
  subst g2
  simp only[XQ,Zz,XJ,hnil,List.filter_nil]
  refine Zb Tryz.func191 rfl rfl rfl fun u R=>?_
  simp only[Zd,kA,List.append_assoc]
  repeat' (first|refine zW ?_|intro _)
  refine Zi [(0,_),(2,_),(9,_),(10,_)] (fun (ζ:(Nat))=>[(11,.int .i64 ζ)]) (fun (ζ:(Nat))=>ρ) (fun (ζ:(Nat))=>fb1 b1 lb::fb2 b2 lsn::(A++Ym lb rb S (.slice none 0 0)::B)) (fun (ζ:(Nat))=>ζ=0) (fun (ζ:(Nat))=>0) (0) (rfl) Zc Zc rfl tk ?_
  rintro k hI
  try simp only[kA,List.append_assoc] at hI ⊢
  try dsimp only at hI ⊢
  subst hI
  repeat' (first|refine zW ?_|intro _)
  exact qE (L':=fb1 b1 lb::fb2 b2 lsn::[]::(A++Ym lb rb S (.slice none 0 0)::B)) ⟨_,rfl,.inl hJ⟩
 ·simp only[XQ,Zz]
  have hfl:=flatL_len S.recs
  have hlen:(Xr S.recs++sp).length=cap*10:=by rw[List.length_append];exact g2
  refine Zb Tryz.func191 rfl rfl rfl fun u R=>?_
  simp only[Zd,kA,List.append_assoc]
  repeat' (first|refine zW ?_|intro _)
  refine Zi [(0,_),(2,_),(9,_),(10,_)] (fun (ζ:(Nat)×(Hp)×(SH))=>[(11,.int .i64 ζ.1)]) (fun (ζ:(Nat)×(Hp)×(SH))=>ζ.2.1) (fun (ζ:(Nat)×(Hp)×(SH))=>fb1 b1 lb::fb2 b2 lsn::[(bx,.cells ⟨Xr S.recs++sp⟩ 39 (0,0))]::ζ.2.2) (fun (ζ:(Nat)×(Hp)×(SH))=>ζ.1≤S.recs.length∧ρ.le ζ.2.1∧J ((S.recs.take ζ.1).filter (fun x=>decide (lsn≤x.2.lsn))) ζ.2.1 ζ.2.2) (fun (ζ:(Nat)×(Hp)×(SH))=>S.recs.length-ζ.1) ((0,ρ,A++Ym lb rb S (.slice (some ⟨bx,0,none⟩) S.recs.length cap)::B)) (⟨Nat.zero_le _,Hp.le_refl _,hJ⟩) Zc Zc rfl tk ?_
  rintro⟨k,ρ1,L1⟩ hI
  try simp only[kA,List.append_assoc] at hI ⊢
  try dsimp only at hI ⊢
  obtain⟨hk,hle1,hj⟩:=hI
  by_cases hlt:k<S.recs.length
  ·have hl1:=Hp.le_trans hl0 hle1
   have hc:=flatL_at (sp:=sp) hlt
   have hyes:=filt_pre16 (fun x:RR=>decide (lsn≤x.2.lsn)) S.recs hlt
   have hno:=filt_no16 (fun x:RR=>decide (lsn≤x.2.lsn)) S.recs hlt
   generalize S.recs[k]=x at *
   obtain⟨xv,xr⟩:=x
   dsimp only[rrV] at hc hyes hno
   by_cases hq:lsn≤xr.lsn
   ·obtain⟨hpre,hts⟩:=hyes (decide_eq_true hq)
    clear hyes hno
    have hy:=hY _ _ ρ1 L1 hpre hl1 hj
    repeat' (first|(refine Za (.tmp 20) ?_;refine qY rfl rfl (hy) ?_;rintro v ρ' L' hle ⟨Lj',rfl,⟨rfl,hj'⟩|⟨rfl,hj'⟩⟩<;>(try simp only[kA]))|refine zW ?_|intro _)
    ·repeat' (first|refine zW ?_|intro _)
     refine Ze (k+1,ρ',Lj') (⟨hlt,Hp.le_trans hle1 hle,by dsimp only;rw[hts];exact hj'⟩) Zc Zc rfl tk inferInstance (by first|omega|(dsimp only;omega))
    ·repeat' (first|refine zW ?_|intro _)
     exact qE (L':=fb1 b1 lb::fb2 b2 lsn::[(bx,.cells ⟨Xr S.recs++sp⟩ 39 (0,0))]::Lj') ⟨Lj',rfl,.inr hj'⟩
   ·have hts:=hno (decide_eq_false hq)
    clear hyes hno
    repeat' (first|refine zW ?_|intro _)
    refine Ze (k+1,ρ1,L1) (⟨hlt,hle1,by dsimp only;rw[hts];exact hj⟩) Zc Zc rfl tk inferInstance (by first|omega|(dsimp only;omega))
  ·have hk2:k=S.recs.length:=by omega
   rw[hk2,List.take_length] at hj
   repeat' (first|refine zW ?_|intro _)
   exact qE (L':=fb1 b1 lb::fb2 b2 lsn::[(bx,.cells ⟨Xr S.recs++sp⟩ 39 (0,0))]::L1) ⟨L1,rfl,.inl hj⟩
end Go.Proofs.E
namespace Go.Proofs.E
open Go
set_option linter.unusedVariables false
set_option linter.unusedSimpArgs false
set_option linter.unusedSectionVars false
set_option maxRecDepth 4000
set_option maxHeartbeats 1000000
attribute [local irreducible] Yl TL TC TE Spec ZI R1 Hp.le EnvLe TS TR YS Zp TP QP
def Vr (to:Nat):List RR→RgS→DS→Nat→RgS×DS×Nat×Int
 | [],R,D,f=>(R,D,f,0)
 | x::l,R,D,f=>if to<x.2.lsn then (R,D,f,0)
  else if (R.append (YF x.2) D).2.2=0 then Vr to l (R.append (YF x.2) D).1 (R.append (YF x.2) D).2.1 x.2.lsn
  else ((R.append (YF x.2) D).1,(R.append (YF x.2) D).2.1,f,(R.append (YF x.2) D).2.2)
def LgS.at (S:LgS)(R:RgS)(f:Nat):LgS:={ S with R:=R,fl:=f }
def LgS.flush (S:LgS)(to:Nat)(D:DS):LgS×DS×Int:=
 if S.next≤to then (S,D,2) else
 (S.at (Vr to (XJ S (S.fl+1)) S.R D S.fl).1 (Vr to (XJ S (S.fl+1)) S.R D S.fl).2.2.1,(Vr to (XJ S (S.fl+1)) S.R D S.fl).2.1,(Vr to (XJ S (S.fl+1)) S.R D S.fl).2.2.2)
theorem fromL_mem {S:LgS}{lsn:Nat}{x:RR}(h:x∈XJ S lsn):x∈S.recs:=(List.mem_filter.1 h).1
abbrev b2C (b lb:Nat):List (Nat×Obj):=[(b,.cells ⟨[.pointer (some ⟨lb,0,none⟩)]⟩ 52 (0,0))]
abbrev b3C (b to:Nat):List (Nat×Obj):=[(b,.cells ⟨[.int .u64 (to:Nat)]⟩ 33 (0,0))]
abbrev b4C (b:Nat)(e:Int):List (Nat×Obj):=[(b,.cells ⟨[.int .i64 e]⟩ 27 (0,0))]
theorem flush16_spec (ρ:Hp)(lb rb db:Nat)(S:LgS)(v:Value)(sp:List Value)(h:LgIn ρ S v sp)(w:RW)(hR:RIn ρ S.R w)(k:DK)(D:DS)(hD:DOk k D)(to:Nat)(hf:S.fl<1000000000000000) :
  Spec Tryz.prog 29 [.pointer (some ⟨lb,0,none⟩),.int .u64 (to:Nat)] ρ (Ym lb rb S v::XQ S v sp::(ZT rb db S.R w++Zt db k D))
   (fun z ρ' L'=>z=.int .i64 (S.flush to D).2.2∧ρ.le ρ'∧∃w' k',RIn ρ' (S.flush to D).1.R w'∧DOk k' (S.flush to D).2.1∧L'=Ym lb rb (S.flush to D).1 v::XQ S v sp::(ZT rb db (S.flush to D).1.R w'++Zt db k' (S.flush to D).2.1)):=by
 have hn:=fun ρ=>Wi ρ lb rb S v sp
 by_cases hto:S.next≤to
 ·have e:S.flush to D=(S,D,2):=by unfold LgS.flush;rw[if_pos hto]
  rw[e]
  refine Zb Tryz.func29 rfl rfl rfl fun u R=>?_
  simp only[Zd,kA]
  repeat' (first|refine zW ?_|intro _)
  rename_i c2 c3 c4
  refine tpA [0,1] (.e 2 [] (.f [3] .o)) ([b2C c2 lb,b3C c3 to]) ?_
  repeat' (refine iT ?_;first|refine rA ?_|((refine iE ?_;refine rE ?_)<;>((try refine Zn ?_);(first|(refine Za (.func 26) ?_;refine qR rfl rfl (hn _ h) ?_;try simp only[kA])|(refine Yj ?_;try intro _))<;>((try simp only[kA]);refine Zj ?_;refine rN ?_))))
  all_goals (repeat' (first|refine zW ?_|intro _))
  all_goals exact qE (L':=Ym lb rb S v::XQ S v sp::(ZT rb db S.R w++Zt db k D)) ⟨rfl,Hp.le_refl _,w,k,hR,hD,rfl⟩
 ·generalize hq:Vr to (XJ S (S.fl+1)) S.R D S.fl=q
  have e:S.flush to D=(S.at q.1 q.2.2.1,q.2.1,q.2.2.2):=by unfold LgS.flush;rw[if_neg hto,hq]
  rw[e]
  dsimp only
  obtain⟨Rq,Dq,fq,eq⟩:=q
  refine Zb Tryz.func29 rfl rfl rfl fun u R=>?_
  simp only[Zd,kA]
  have e1:((S.fl:Nat):Int)+1=((S.fl+1:Nat):Int):=by omega
  repeat' (first|refine zW ?_|intro _)
  rename_i c2 c3 c4
  refine tpA [0,1] (.e 2 [] (.f [3] .o)) ([b2C c2 lb,b3C c3 to]) ?_
  repeat' (refine iT ?_;first|refine rA ?_|((refine iE ?_;refine rE ?_)<;>((try refine Zn ?_);(first|(refine Za (.func 26) ?_;refine qR rfl rfl (hn _ h) ?_;try simp only[kA])|(refine Yj ?_;try intro _))<;>((try simp only[kA]);refine Zj ?_;refine rN ?_))))
  all_goals (repeat' (first|refine zW ?_|intro _))
  all_goals
   refine tpZ [0,1,2,3,4,5] (.e 6 [] .o) ?_
   repeat' (refine iT ?_;first|refine rA ?_|((refine iE ?_;refine rE ?_)<;>((try refine Zn ?_);(first|(simp only[e1];refine Za (.func 108) ?_;refine qC rfl rfl (from16_spec _ lb (S.fl+1)) ?_;rintro v1 ρ1 L1 hle1 ⟨d1,d2,rfl,rfl,rfl⟩;simp only[kA])|(refine Yj ?_;try intro _))<;>((try simp only[kA]);refine Zj ?_;refine rN ?_))))
  all_goals (repeat' (first|refine zW ?_|intro _))
  refine tc_rangeFuncP (S:=[fb1 d1 lb,fb2 d2 (S.fl+1),XQ S v sp]) (L0:=[b2C c2 lb,b3C c3 to,b4C c4 0,Ym lb rb S v]++(ZT rb db S.R w++Zt db k D)) (R:=R) (R0:=?r0) rfl rfl (from16_iter ρ1 lb rb d1 d2 (S.fl+1) S v sp h) (Hp.le_refl _) (fun _=>rfl) rfl
   (fun pre ρ2 Lu=>∃R1 D1 f1 w1 k1,(∀rest,Vr to (pre++rest) S.R D S.fl=Vr to rest R1 D1 f1)∧ρ1.le ρ2∧RIn ρ2 R1 w1∧DOk k1 D1∧Lu=[b2C c2 lb,b3C c3 to,b4C c4 0,Ym lb rb (S.at R1 f1) v]++(ZT rb db R1 w1++Zt db k1 D1))
   (fun c ρ2 Lu=>((c=.exit 0∧eq=0)∨(c=.ret∧eq≠0))∧∃w1 k1,ρ1.le ρ2∧RIn ρ2 Rq w1∧DOk k1 Dq∧Lu=[b2C c2 lb,b3C c3 to,b4C c4 eq,Ym lb rb (S.at Rq fq) v]++(ZT rb db Rq w1++Zt db k1 Dq)) ?k1 ?k2 ⟨S.R,D,S.fl,w,k,fun _=>rfl,Hp.le_refl _,hR,hD,rfl⟩ ?hC ?round ?done ?stop
  case k1=>exact tk
  case k2=>exact tk
  case hC=>
   rintro ρ2 Lu ⟨R1,D1,f1,w1,k1,h1,_,_,_,rfl⟩
   have:=h1 []
   simp only[List.append_nil,Vr,Prod.mk.injEq] at this
   obtain⟨rfl,rfl,rfl,_⟩:=this
   exact⟨[b2C c2 lb,b3C c3 to,b4C c4 0],ZT rb db S.R w1++Zt db k1 D,rfl⟩
  case round=>
   rintro l tm r pre y ρ2 Lu u R' hpre hl1 ⟨R1,D1,f1,w1,k1,hgo,hl2,hR1,hD1,rfl⟩ hr hrec
   simp only[envP,kA]
   obtain⟨t,ht⟩:=hpre
   have hmem:y∈S.recs:=fromL_mem (lsn:=S.fl+1) (by rw[←ht];simp)
   have hin:=(h.rin y hmem).mono hl2
   have hok:=h.ok y hmem
   have hgo1:=hgo (y::t)
   have ht':pre++y::t=XJ S (S.fl+1):=by rw[←ht];simp
   have hgo2:=fun rest=>hgo (y::rest)
   rw[ht',hq] at hgo1
   obtain⟨yv,yr⟩:=y
   dsimp only at hin hok hgo1 hgo2
   rw[Vr] at hgo1
   simp only[Vr] at hgo2
   repeat' (first|refine zW ?_|intro _)
   refine YD [(l,.loop r)] ?_
   refine te_begin rfl hr (fun r' hbz hrec'=>?_)
   by_cases hgt:to<yr.lsn
   ·rw[if_pos hgt] at hgo1
    simp only[Prod.mk.injEq] at hgo1
    obtain⟨rfl,rfl,rfl,rfl⟩:=hgo1
    repeat' (first|refine zW ?_|intro _)
    refine YD [(l,.loop r')] ?_
    refine te_leave (Lu:=[b2C c2 lb,b3C c3 to,b4C c4 0,Ym lb rb (S.at Rq fq) v]++(ZT rb db Rq w1++Zt db k1 Dq)) rfl rfl (Hp.le_refl _) ⟨hrec'.tmps.trans hrec.tmps,hrec'.params.trans hrec.params,hrec'.assign.trans hrec.assign,hrec'.body.trans hrec.body⟩ tk tk inferInstance ?_
    exact⟨.inl ⟨rfl,rfl⟩,w1,k1,hl2,hR1,hD1,rfl⟩
   ·rw[if_neg hgt] at hgo1
    simp only[if_neg hgt] at hgo2
    have henc:=rencode_spec ρ2 yv yr hin
    rw[hok] at henc
    simp only[if_true] at henc
    have hlen:=recB_le (Wv hok)
    have happ:=fun {ρ3:Hp} {a:Option Addr} {n c:Nat} (hl:ρ2.le ρ3) (hs:SIn ρ3 Zo a n (YF yr)) (hc:n≤c)=>append_spec ρ3 rb db R1 w1 (hR1.mono hl) k1 D1 hD1 [] a n c (YF yr) hs.rd hc (by have:=hs.len;omega)
    repeat' (first|(refine Za (.func 109) ?_;refine qC rfl rfl (henc) ?_;rintro v ρ' L' hle ⟨hl3,ea,en,ec,rfl,hec,hes,rfl⟩<;>(try simp only[kA]))|(refine Za (.func 16) ?_;refine qC rfl rfl (happ (by assumption) hes hec) ?_;rintro v4 ρ4 L4 hle4 ⟨rfl,hl4,k4,w4,hD4,hR4,rfl⟩;try simp only[kA,List.append_nil,List.append_assoc])|refine zW ?_|intro _)
    generalize R1.append (YF yr) D1=ap at *
    obtain⟨Ra,Da,ea⟩:=ap
    dsimp only at *
    by_cases hz:ea=0
    ·subst hz
     rw[if_pos rfl] at hgo1
     simp only[if_true] at hgo2
     rw[show ((0:Int) != 0)=false from rfl]
     repeat' (first|refine zW ?_|intro _)
     refine YD [(l,.loop r')] ?_
     refine te_next (Lu:=[b2C c2 lb,b3C c3 to,b4C c4 0,Ym lb rb (S.at Ra yr.lsn) v]++(ZT rb db Ra w4++Zt db k4 Da)) rfl (Hp.le_trans hl3 hl4) ⟨hrec'.tmps.trans hrec.tmps,hrec'.params.trans hrec.params,hrec'.assign.trans hrec.assign,hrec'.body.trans hrec.body⟩ tk tk inferInstance ?_
     exact⟨Ra,Da,yr.lsn,w4,k4,hgo2,Hp.le_trans hl2 (Hp.le_trans hl3 hl4),hR4,hD4,rfl⟩
    ·rw[if_neg hz] at hgo1
     simp only[Prod.mk.injEq] at hgo1
     obtain⟨rfl,rfl,rfl,rfl⟩:=hgo1
     have hcb:(eq != 0)=true:=by simpa using hz
     rw[hcb]
     repeat' (first|refine zW ?_|intro _)
     refine YD [(l,.loop r')] ?_
     refine te_leave (Lu:=[b2C c2 lb,b3C c3 to,b4C c4 eq,Ym lb rb (S.at Rq fq) v]++(ZT rb db Rq w4++Zt db k4 Dq)) rfl rfl (Hp.le_trans hl3 hl4) ⟨hrec'.tmps.trans hrec.tmps,hrec'.params.trans hrec.params,hrec'.assign.trans hrec.assign,hrec'.body.trans hrec.body⟩ tk tk inferInstance ?_
     exact⟨.inr ⟨rfl,hz⟩,w4,k4,Hp.le_trans hl2 (Hp.le_trans hl3 hl4),hR4,hD4,rfl⟩
  case done=>
   rintro D0 ρ2 Lu hl1 ⟨R1,D1,f1,w1,k1,hgo,hl2,hR1,hD1,rfl⟩
   have:=hgo []
   rw[List.append_nil,hq] at this
   simp only[Vr,Prod.mk.injEq] at this
   obtain⟨rfl,rfl,rfl,rfl⟩:=this
   simp only[kA]
   repeat' (first|refine zW ?_|intro _)
   refine YD [(D0,.deferred (some []))] ?_
   exact WU rfl rfl rfl inferInstance (res1 rfl (ZA rfl rfl)) hl2 tk (by infer_instance) (L':=Ym lb rb (S.at Rq fq) v::XQ S v sp::(ZT rb db Rq w1++Zt db k1 Dq)) ⟨rfl,hl2,w1,k1,hR1,hD1,rfl⟩
  case stop=>
   rintro D0 c ρ2 Lu hl1 ⟨hc,w1,k1,hl2,hR1,hD1,rfl⟩
   simp only[kA]
   rcases hc with⟨rfl,rfl⟩|⟨rfl,hne⟩
   ·repeat' (first|refine zW ?_|intro _)
    refine YD [(D0,.deferred (some []))] ?_
    exact WU rfl rfl rfl inferInstance (res1 rfl (ZA rfl rfl)) hl2 tk (by infer_instance) (L':=Ym lb rb (S.at Rq fq) v::XQ S v sp::(ZT rb db Rq w1++Zt db k1 Dq)) ⟨rfl,hl2,w1,k1,hR1,hD1,rfl⟩
   ·repeat' (first|refine zW ?_|intro _)
    refine YD [(D0,.deferred (some []))] ?_
    exact WU rfl rfl rfl inferInstance (res1 rfl (ZA rfl rfl)) hl2 tk (by infer_instance) (L':=Ym lb rb (S.at Rq fq) v::XQ S v sp::(ZT rb db Rq w1++Zt db k1 Dq)) ⟨rfl,hl2,w1,k1,hR1,hD1,rfl⟩
end Go.Proofs.E
namespace Go.Proofs.E
open Go
set_option linter.unusedVariables false
set_option linter.unusedSimpArgs false
set_option linter.unusedSectionVars false
set_option maxRecDepth 4000
set_option maxHeartbeats 1000000
attribute [local irreducible] Yl TL TC TE Spec ZI R1 Hp.le EnvLe TS TR YS Zp
def zRR:RR:=(⟨⟨none,0,0⟩,⟨none,0,0⟩,⟨none,0,0⟩,⟨none,0,0⟩⟩,⟨0,0,0,0,0,[],[],0,[],[]⟩)
def firstIs (lsn:Nat):List RR→Option RR
 | []=>none
 | x::_=>if x.2.lsn=lsn then some x else none
def recF (S:LgS)(lsn:Nat):Option RR:=firstIs lsn (XJ S lsn)
abbrev recAns (o:Option RR):Value:=.tuple ⟨[.agg ⟨rrV (o.getD zRR)⟩,.int .i64 (if o.isSome then 0 else 4)]⟩
abbrev rc4 (b:Nat)(x:RR):List (Nat×Obj):=[(b,.cells ⟨rrV x⟩ 39 (0,0))]
theorem rec16_spec (ρ:Hp)(lb rb:Nat)(S:LgS)(v:Value)(sp:List Value)(h:LgIn ρ S v sp)(lsn:Nat) :
  Spec Tryz.prog 44 [.pointer (some ⟨lb,0,none⟩),.int .u64 (lsn:Nat)] ρ [Ym lb rb S v,XQ S v sp] (fun z ρ' L'=>z=recAns (recF S lsn)∧ρ.le ρ'∧L'=[Ym lb rb S v,XQ S v sp]):=by
 generalize ho:recF S lsn=o
 refine Zb Tryz.func44 rfl rfl rfl fun u R=>?_
 simp only[Zd,kA]
 repeat' (first|(refine Za (.func 108) ?_;refine qC rfl rfl (from16_spec _ lb lsn) ?_;rintro v1 ρ1 L1 hle1 ⟨d1,d2,rfl,rfl,rfl⟩;simp only[kA])|refine zW ?_|intro _)
 rename_i c3 c4 c5
 refine tc_rangeFuncP (S:=[fb1 d1 lb,fb2 d2 lsn,XQ S v sp]) (L0:=[b3C c3 lsn,rc4 c4 zRR,b4C c5 0,Ym lb rb S v]) (R:=R) (R0:=?r0) rfl rfl (from16_iter ρ1 lb rb d1 d2 lsn S v sp h) (Hp.le_refl _) (fun _=>rfl) rfl
   (fun pre ρ2 Lu=>pre=[]∧ρ1.le ρ2∧Lu=[b3C c3 lsn,rc4 c4 zRR,b4C c5 0,Ym lb rb S v])
   (fun c ρ2 Lu=>ρ1.le ρ2∧((c=.exit 0∧o=none∧Lu=[b3C c3 lsn,rc4 c4 zRR,b4C c5 0,Ym lb rb S v])∨∃x,c=.ret∧o=some x∧Lu=[b3C c3 lsn,rc4 c4 x,b4C c5 0,Ym lb rb S v])) ?k1 ?k2 ⟨rfl,Hp.le_refl _,rfl⟩ ?hC ?round ?done ?stop
 case k1=>exact tk
 case k2=>exact tk
 case hC=>
  rintro ρ2 Lu ⟨_,_,rfl⟩
  exact⟨[b3C c3 lsn,rc4 c4 zRR,b4C c5 0],[],rfl⟩
 case round=>
  rintro l tm r pre y ρ2 Lu u R' hpre hl1 ⟨rfl,hl2,rfl⟩ hr hrec
  simp only[envP,kA]
  obtain⟨t,ht⟩:=hpre
  have ho1:o=if y.2.lsn=lsn then some y else none:=by
   rw[←ho];unfold recF;rw[←ht];rfl
  obtain⟨yv,yr⟩:=y
  dsimp only at ho1
  repeat' (first|refine zW ?_|intro _)
  refine YD [(l,.loop r)] ?_
  refine te_begin rfl hr (fun r' hbz hrec'=>?_)
  by_cases he:yr.lsn=lsn
  ·rw[if_pos he] at ho1
   subst he
   repeat' (first|refine zW ?_|intro _)
   refine YD [(l,.loop r')] ?_
   refine te_leave (Lu:=[b3C c3 yr.lsn,rc4 c4 (yv,yr),b4C c5 0,Ym lb rb S v]) rfl rfl (Hp.le_refl _) ⟨hrec'.tmps.trans hrec.tmps,hrec'.params.trans hrec.params,hrec'.assign.trans hrec.assign,hrec'.body.trans hrec.body⟩ tk tk inferInstance ?_
   exact⟨hl2,.inr ⟨_,rfl,ho1,rfl⟩⟩
  ·rw[if_neg he] at ho1
   have he2:¬((yr.lsn:Nat):Int)=((lsn:Nat):Int):=by omega
   repeat' (first|refine zW ?_|intro _)
   refine YD [(l,.loop r')] ?_
   refine te_leave (Lu:=[b3C c3 lsn,rc4 c4 zRR,b4C c5 0,Ym lb rb S v]) rfl rfl (Hp.le_refl _) ⟨hrec'.tmps.trans hrec.tmps,hrec'.params.trans hrec.params,hrec'.assign.trans hrec.assign,hrec'.body.trans hrec.body⟩ tk tk inferInstance ?_
   exact⟨hl2,.inl ⟨rfl,ho1,rfl⟩⟩
 case done=>
  rintro D0 ρ2 Lu hl1 ⟨he,hl2,rfl⟩
  have ho1:o=none:=by rw[←ho];unfold recF;rw[he];rfl
  subst ho1
  simp only[kA]
  repeat' (first|refine zW ?_|intro _)
  refine YD [(D0,.deferred (some []))] ?_
  exact WU rfl rfl rfl inferInstance (res2 rfl (ZX rfl rfl) (ZA rfl rfl)) hl2 tk (by infer_instance) (L':=[Ym lb rb S v,XQ S v sp]) ⟨rfl,hl2,rfl⟩
 case stop=>
  rintro D0 c ρ2 Lu hl1 ⟨hl2,⟨rfl,rfl,rfl⟩|⟨x,rfl,rfl,rfl⟩⟩
  ·simp only[kA]
   repeat' (first|refine zW ?_|intro _)
   refine YD [(D0,.deferred (some []))] ?_
   exact WU rfl rfl rfl inferInstance (res2 rfl (ZX rfl rfl) (ZA rfl rfl)) hl2 tk (by infer_instance) (L':=[Ym lb rb S v,XQ S v sp]) ⟨rfl,hl2,rfl⟩
  ·simp only[kA]
   repeat' (first|refine zW ?_|intro _)
   refine YD [(D0,.deferred (some []))] ?_
   exact WU rfl rfl rfl inferInstance (res2 rfl (ZX rfl rfl) (ZA rfl rfl)) hl2 tk (by infer_instance) (L':=[Ym lb rb S v,XQ S v sp]) ⟨rfl,hl2,rfl⟩
theorem fromL_len (S:LgS)(lsn:Nat):(XJ S lsn).length≤S.recs.length:=List.length_filter_le _ _
theorem recs16_spec (ρ:Hp)(lb rb:Nat)(S:LgS)(v:Value)(sp:List Value)(h:LgIn ρ S v sp)(lsn:Nat) :
  Spec Tryz.prog 34 [.pointer (some ⟨lb,0,none⟩),.int .u64 (lsn:Nat)] ρ [Ym lb rb S v,XQ S v sp] (fun z ρ' L'=>ρ.le ρ'∧∃sp',OwnS z (XJ S lsn).length (Xr (XJ S lsn)) sp' 10∧L'=[Ym lb rb S v,XQ S v sp,Zz z (Xr (XJ S lsn)) sp' 39]):=by
 have h1:=h.len
 have h2:=fromL_len S lsn
 refine Zb Tryz.func34 rfl rfl rfl fun u R=>?_
 simp only[Zd,kA]
 repeat' (first|(refine Za (.func 108) ?_;refine qC rfl rfl (from16_spec _ lb lsn) ?_;rintro v1 ρ1 L1 hle1 ⟨d1,d2,rfl,rfl,rfl⟩;simp only[kA])|refine zW ?_|intro _)
 rename_i c5
 refine tc_rangeFuncP (S:=[fb1 d1 lb,fb2 d2 lsn,XQ S v sp]) (L0:=[[(c5,.cells ⟨[.slice none 0 0]⟩ 23 (0,0))],Ym lb rb S v,Zz (.slice none 0 0) (Xr []) [] 39]) (R:=R) (R0:=[(c5,.cells ⟨[.slice none 0 0]⟩ 23 (0,0))]::Ym lb rb S v::R) rfl rfl (from16_iter ρ1 lb rb d1 d2 lsn S v sp h) (Hp.le_refl _) (fun _=>rfl) rfl
   (fun pre ρ2 Lu=>ρ1.le ρ2∧∃z sp',OwnS z pre.length (Xr pre) sp' 10∧Lu=[[(c5,.cells ⟨[z]⟩ 23 (0,0))],Ym lb rb S v,Zz z (Xr pre) sp' 39])
   (fun c ρ2 Lu=>False) ?k1 ?k2 ⟨Hp.le_refl _,_,[],OwnS.nil 10,rfl⟩ ?hC ?round ?done ?stop
 case k1=>exact tk
 case k2=>exact Vf Zq (Vf Zq (Vf rem_nil' take_nil'))
 case stop=>rintro D0 c ρ2 Lu _ hf;exact hf.elim
 case hC=>
  rintro ρ2 Lu ⟨_,z,sp',_,rfl⟩
  exact⟨[[(c5,.cells ⟨[z]⟩ 23 (0,0))]],_,rfl⟩
 case round=>
  rintro l tm r pre y ρ2 Lu u R' hpre hl1 ⟨hl2,z,sp1,hown,rfl⟩ hr hrec
  simp only[envP,kA]
  have hlen:=hpre.length_le
  simp only[List.length_append,List.length_singleton] at hlen
  obtain⟨za,zc,rfl,_⟩:=hown.slice
  repeat' (first|refine zW ?_|intro _)
  refine YD [(l,.loop r)] ?_
  refine te_begin rfl hr (fun r' hbz hrec'=>?_)
  repeat' (first|(refine Zv (css:=[rrV y]) (sz:=10) rfl rfl rfl rfl (by simp) (by simp) rfl (fun bs=>?_);simp only[List.flatten_cons,List.flatten_nil,List.append_nil])|(refine ZK (ys:=rrV y) (m:=1) (sz:=10) rfl rfl hown (hR:=by repeat (first|exact Zq|apply Zs)) SrcV.lit rfl rfl (by decide) rfl (by omega) (by omega) rfl (fun v' sp' hown'=>?_);obtain⟨a',cap',rfl,hvl⟩:=hown'.slice)|refine zW ?_|intro _)
  rw[show Xr pre++rrV y=Xr (pre++[y]) by rw[flatL_add];simp[Xr]] at hown' ⊢
  refine YD [(l,.loop r')] ?_
  refine te_next (Lu:=[[(c5,.cells ⟨[.slice a' (pre.length+1) cap']⟩ 23 (0,0))],Ym lb rb S v,Zz (.slice a' (pre.length+1) cap') (Xr (pre++[y])) sp' 39]) rfl (Hp.le_refl _) ⟨hrec'.tmps.trans hrec.tmps,hrec'.params.trans hrec.params,hrec'.assign.trans hrec.assign,hrec'.body.trans hrec.body⟩ tk tk inferInstance ?_
  exact⟨hl2,_,sp',by simpa using hown',rfl⟩
 case done=>
  rintro D0 ρ2 Lu hl1 ⟨hl2,z,sp1,hown,rfl⟩
  simp only[kA]
  obtain⟨za,zc,rfl,_⟩:=hown.slice
  repeat' (first|refine zW ?_|intro _)
  refine YD [(D0,.deferred (some []))] ?_
  exact WU rfl rfl rfl inferInstance (res1 rfl (Ys rfl)) hl2 tk (by infer_instance) (L':=[Ym lb rb S v,XQ S v sp,Zz (.slice za (XJ S lsn).length zc) (Xr (XJ S lsn)) sp1 39]) ⟨hl2,sp1,hown,rfl⟩
theorem kformat (ρ:Hp)(n:Nat)(hn0:4≤n)(hn1:n≤1000)(db:Nat)(k:DK)(hk:DOk k (DS.new (n+2))) :
  Spec Tryz.prog 13 [.pointer (some ⟨db,0,none⟩),.int .i64 n] ρ (Zt db k (DS.new (n+2))) (fun v ρ' L'=>ρ.le ρ'∧∃rb w k' D',v=.tuple ⟨[.pointer (some ⟨rb,0,none⟩),.int .i64 0]⟩∧DOk k' D'∧RIn ρ' ⟨ZF n,[],0,false⟩ w∧Good ⟨ZF n,[],0,false⟩ D'∧L'=ZT rb db ⟨ZF n,[],0,false⟩ w++Zt db k' D'):=by
 obtain⟨D',e,g⟩:=new_good hn0 hn1
 refine (format_spec ρ db k (DS.new (n+2)) hk n (by omega)).mono ?_
 rintro v ρ' L' _ ⟨hle,h⟩
 unfold ringAns at h
 rw[e] at h
 obtain⟨k',hk',rb,w,hv,hin,hL⟩:=h
 exact⟨hle,rb,w,k',D',hv,hk',hin,g,hL⟩
theorem gappend (ρ:Hp)(rb db:Nat)(R:RgS)(w:RW)(h:RIn ρ R w)(k:DK)(D:DS)(hD:DOk k D)(g:Good R D)(X:SH)(a:Option Addr)(n c:Nat)(b:Bs)(hb:Rd ρ X a n b)(hc:n≤c)(hn:n≤8000)(hfit:ZD n≤R.h.size-R.used)(hnx:R.next<1099511627776) :
  Spec Tryz.prog 16 [.pointer (some ⟨rb,0,none⟩),.slice a n c] ρ (ZT rb db R w++(Zt db k D++X))
   (fun v ρ' L'=>v=.int .i64 0∧ρ.le ρ'∧∃k' D' w',DOk k' D'∧RIn ρ' (R.plus b) w'∧Good (R.plus b) D'∧L'=ZT rb db (R.plus b) w'++(Zt db k' D'++X)):=by
 have hl:=hb.len
 obtain⟨D',e,g'⟩:=g.append (b:=b) (by omega) hnx (by rw[hl];exact hfit)
 refine (append_spec ρ rb db R w h k D hD X a n c b hb hc (by omega)).mono ?_
 rintro v ρ' L' _ ⟨hv,hle,k',w',h1,h2,h3⟩
 rw[e] at hv h1 h2 h3
 exact⟨hv,hle,k',D',w',h1,h2,g',h3⟩
theorem gfull (ρ:Hp)(rb db:Nat)(R:RgS)(w:RW)(h:RIn ρ R w)(k:DK)(D:DS)(hD:DOk k D)(g:Good R D)(X:SH)(a:Option Addr)(n c:Nat)(b:Bs)(hb:Rd ρ X a n b)(hc:n≤c)(hn:n≤8000)(hfit:¬ZD n≤R.h.size-R.used) :
  Spec Tryz.prog 16 [.pointer (some ⟨rb,0,none⟩),.slice a n c] ρ (ZT rb db R w++(Zt db k D++X))
   (fun v ρ' L'=>v=.int .i64 6∧ρ.le ρ'∧∃k' w',DOk k' D∧RIn ρ' R w'∧L'=ZT rb db R w'++(Zt db k' D++X)):=by
 have hl:=hb.len
 have e:=g.full (b:=b) (by omega) (by rw[hl];exact hfit)
 refine (append_spec ρ rb db R w h k D hD X a n c b hb hc (by omega)).mono ?_
 rintro v ρ' L' _ ⟨hv,hle,k',w',h1,h2,h3⟩
 rw[e] at hv h1 h2 h3
 exact⟨hv,hle,k',w',h1,h2,h3⟩
theorem gcut (ρ:Hp)(rb db:Nat)(R:RgS)(w:RW)(h:RIn ρ R w)(k:DK)(D:DS)(hD:DOk k D)(g:Good R D)(X:SH)(a:Option Addr)(nn c:Nat)(note:Bs)(hb:Rd ρ X a nn note)(m:Nat)(hm:m≤R.ents.length)(ht:R.h.turn<1073741824)(hnl:nn≤32)(hnx:R.next<1099511627776) :
  Spec Tryz.prog 18 [.pointer (some ⟨rb,0,none⟩),.int .i64 m,.slice a nn c] ρ (ZT rb db R w++(Zt db k D++X))
   (fun v ρ' L'=>v=.int .i64 0∧ρ.le ρ'∧∃k' D' w',DOk k' D'∧RIn ρ' (R.minus m note) w'∧Good (R.minus m note) D'∧L'=ZT rb db (R.minus m note) w'++(Zt db k' D'++X)):=by
 have hl:=hb.len
 obtain⟨D',e,g'⟩:=g.cut (note:=note) hm ht (by omega) hnx
 refine (cut_spec_main ρ rb db R w h k D hD X a nn c note hb m g.ro.live hm ht (by omega)).mono ?_
 rintro v ρ' L' _ ⟨hv,hle,k',w',h1,h2,h3⟩
 rw[e] at hv h1 h2 h3
 exact⟨hv,hle,k',D',w',h1,h2,g',h3⟩
structure EvV where
 kind:Int
 n:Int
 b:BSl
 note:BSl
 ka:Option Addr
 kn:Nat
 kp:Nat
 ks:List Bool
structure EvIn (ρ:Hp)(e:EvV):Prop where
 n:-9223372036854775808≤e.n∧e.n≤9223372036854775807
 kind:-9223372036854775808≤e.kind∧e.kind≤9223372036854775807
 b:BIn ρ e.b
 bbg:e.b.n≤9223372036854775807
 note:BIn ρ e.note
 nb:e.note.n≤9223372036854775807
 ks:SIn ρ bb e.ka e.kn e.ks
 kc:e.kn≤e.kp
 kb:e.kn≤9223372036854775807
theorem EvIn.mono {ρ ρ':Hp}{e:EvV}(h:EvIn ρ e)(hle:ρ.le ρ'):EvIn ρ' e:=⟨h.n,h.kind,h.b.mono hle,h.bbg,h.note.mono hle,h.nb,h.ks.mono hle,h.kc,h.kb⟩
theorem Good.append2 {R:RgS}{D:DS}{b:Bs}(h:Good R D)(hb:b.length≤8000)(hn:R.next<1099511627776)(hfit:ZD b.length≤R.h.size-R.used) :
  ∃D',R.append b D=(R.plus b,D',0)∧Good (R.plus b) D'∧D'.secs.length=D.secs.length∧∀i,R.h.size+2≤i→img D' i=img D i:=by
 have hsz:=h.ro.ok.size
 have hlen:=h.ro.len
 have hidx:∀p∈Yu R.h R.next b (R.h.place+R.used),p.1<R.h.size+2:=fun p hp=>by
  obtain⟨k,hk,rfl⟩:=partsL_mem.1 hp
  have:=Nat.mod_lt (R.h.place+R.used+k) (show 0<R.h.size by omega)
  dsimp only;omega
 obtain⟨l0,l1,l2⟩:=Calm_lays (Yu R.h R.next b (R.h.place+R.used)) D h.calm (fun p hp=>by have:=hidx p hp;omega)
 have ha:=(h.ro.append h.frs hb hfit hn).1 l0
 refine⟨(DS.lays (Yu R.h R.next b (R.h.place+R.used)) D).1, ?_,⟨ha.1,ha.2,l1⟩,Wh _ _,fun i hi=>?_⟩
 ·unfold RgS.append
  rw[h.ro.live,if_neg (by simp),if_neg (by omega),if_neg (by omega),if_pos l0,calm_pair l0]
  rfl
 ·rcases WE h.ro.empty l2 D rfl i with e|⟨p,hp,h1,_⟩
  ·exact e
  ·have:=hidx p hp;omega
def lastF (f:Nat):List RR→Nat
 | []=>f
 | x::l=>lastF x.2.lsn l
abbrev upTo (to:Nat)(l:List RR):List RR:=l.takeWhile (fun x=>decide (x.2.lsn≤to))
theorem costN_ok {r:Rc}(h:Yt r=true):Wb r=ZD (YF r).length:=by unfold Wb;rw[if_pos h];rfl
theorem flushL_good (to:Nat):∀(l:List RR) (R:RgS) (D:DS) (f:Nat),Good R D→(∀x∈l,Yt x.2=true)→Yh l≤R.h.size-R.used→R.next+l.length≤1099511627776 →
  ∃R' D',Vr to l R D f=(R',D',lastF f (upTo to l),0)∧Good R' D'∧R'.h=R.h∧R'.ents=R.ents++(upTo to l).map (fun x=>YF x.2)∧R'.used=R.used+Yh (upTo to l)∧D'.secs.length=D.secs.length∧∀i,R.h.size+2≤i→img D' i=img D i
 | [],R,D,f,g,_,_,_=>⟨R,D,rfl,g,rfl,by simp,by simp[Yh],rfl,fun _ _=>rfl⟩
 | x::l,R,D,f,g,hok,hu,hn=>by
  have hx:=hok x (by simp)
  have hc:=costN_ok hx
  have hlen:=recB_le (Wv hx)
  simp only[Yh,List.map_cons,List.sum_cons] at hu
  simp only[List.length_cons] at hn
  unfold upTo
  rw[Vr,List.takeWhile_cons]
  by_cases hto:to<x.2.lsn
  ·rw[if_pos hto,decide_eq_false (by omega)]
   exact⟨R,D,rfl,g,rfl,by simp,by simp[Yh],rfl,fun _ _=>rfl⟩
  ·rw[if_neg hto,decide_eq_true (by omega)]
   obtain⟨D',e,g',hl',hi'⟩:=g.append2 (b:=YF x.2) (by omega) (by omega) (by omega)
   have hnx:(R.plus (YF x.2)).next=R.next+1:=by simp[RgS.plus,RgS.next];omega
   have hus:(R.plus (YF x.2)).used=R.used+ZD (YF x.2).length:=rfl
   obtain⟨R2,D2,e2,g2,h2,he2,hu2,hl2,hi2⟩:=flushL_good to l (R.plus (YF x.2)) D' x.2.lsn g' (fun y hy=>hok y (by simp[hy])) (by rw[hus];show _≤R.h.size-_;unfold Yh;omega) (by rw[hnx];omega)
   rw[e]
   dsimp only
   rw[if_pos rfl,e2]
   refine⟨R2,D2,rfl,g2,h2, ?_, ?_,hl2.trans hl',fun i hi=>(hi2 i hi).trans (hi' i hi)⟩
   ·rw[he2];simp[RgS.plus,upTo]
   ·rw[hu2,hus,←hc];simp[Yh,upTo];omega
def newLg (R:RgS):LgS:=⟨R,1,0,0,1,[]⟩
theorem newLg_in {ρ:Hp}{R:RgS}:LgIn ρ (newLg R) (.slice none 0 0) []:=⟨OwnS.nil 10,by simp[newLg],by simp[newLg],by simp[newLg,Yh],by simp[newLg]⟩
theorem kformat16 (ρ:Hp)(n m:Nat)(hn0:4≤n)(hn1:n≤1000)(hm:n+2≤m)(hm1:m≤2048)(db:Nat)(k:DK)(hk:DOk k (DS.new m)) :
  Spec Tryz.prog 24 [.pointer (some ⟨db,0,none⟩),.int .i64 n] ρ (Zt db k (DS.new m)) (fun v ρ' L'=>ρ.le ρ'∧∃lb rb w k' D',v=.tuple ⟨[.pointer (some ⟨lb,0,none⟩),.int .i64 0]⟩∧DOk k' D'∧RIn ρ' ⟨ZF n,[],0,false⟩ w∧Good ⟨ZF n,[],0,false⟩ D'∧D'.secs.length=m∧L'=Ym lb rb (newLg ⟨ZF n,[],0,false⟩) (.slice none 0 0)::(ZT rb db ⟨ZF n,[],0,false⟩ w++Zt db k' D')):=by
 obtain⟨D',e,g⟩:=Good.format (D:=DS.new m) (n:=n) (new_okD (by omega) hm1) new_calm hn0 hn1 (by simp[DS.new,fresh];omega) fresh_empty
 have hlen:D'.secs.length=m:=by
  unfold WK at e
  split at e
  ·simp at e
  ·split at e
   ·split at e
    ·have:=congrArg (fun x=>x.2.1.secs.length) e
     dsimp only at this
     rw[←this,Wh,Wh];simp[DS.new,fresh]
    ·simp at e
   ·simp at e
 have hf:=format_spec ρ db k (DS.new m) hk n (by omega)
 rw[e] at hf
 refine Zb Tryz.func24 rfl rfl rfl fun u R=>?_
 simp only[Zd,kA]
 repeat' (first|(refine Za (.func 13) ?_;refine qC rfl rfl hf ?_;rintro v1 ρ1 L1 hle1 ⟨hl1,k1,hk1,rb,w,rfl,hr,rfl⟩;try simp only[kA,List.append_assoc])|refine zW ?_|intro _)
 rename_i lb
 exact qE (L':=Ym lb rb (newLg ⟨ZF n,[],0,false⟩) (.slice none 0 0)::(ZT rb db ⟨ZF n,[],0,false⟩ w++Zt db k1 D')) ⟨hl1,lb,rb,w,k1,D',rfl,hk1,hr,g,hlen,rfl⟩
end Go.Proofs.E
namespace Go.Proofs.E
open Go
set_option linter.unusedVariables false
set_option linter.unusedSimpArgs false
set_option linter.unusedSectionVars false
set_option maxRecDepth 4000
set_option maxHeartbeats 1000000
attribute [local irreducible] Yl TL TC TE Spec ZI R1 Hp.le EnvLe TS TR YS Zp TP QP
def begR (lsn:Nat)(txn:Nat):Rc:=⟨1,lsn,txn,0,0,[],[],0,[],[]⟩
abbrev begX (lsn txn:Nat):RR:=(zRR.1,begR lsn txn)
theorem begR_in {ρ:Hp}(lsn txn:Nat):RcIn ρ zRR.1 (begR lsn txn):=⟨AS.nil,by simp[begR],AS.nil,AS.nil,AS.nil,by simp[begR]⟩
theorem begR_ok {lsn txn:Nat}(h1:1≤lsn)(h2:lsn≤1099511627776)(h3:1≤txn)(h4:txn≤1073741824):Yt (begR lsn txn)=true:=by
 unfold Yt begR headOk askOk bareOk
 simp only[Bool.and_eq_true,decide_eq_true_eq]
 refine⟨by omega,⟨by omega,by omega,by omega,by omega,by omega,by simp;omega,by simp⟩,by simp,by simp⟩
theorem begR_len (lsn txn:Nat):(YF (begR lsn txn)).length=21:=by simp[YF,recHB,recTB,begR,Zf]
theorem begR_cost {lsn txn:Nat}(h:Yt (begR lsn txn)=true):Wb (begR lsn txn)=1:=by
 rw[costN_ok h,begR_len];rfl
abbrev wS0:LgS:=newLg ⟨ZF 450,[],0,false⟩
abbrev wS1:LgS:=wS0.more (begX 1 7)
theorem wk_b:Yt (begR 1 7)=true:=begR_ok (by omega) (by omega) (by omega) (by omega)
theorem wk_a:appE wS0 (begR 1 7) 2=0:=by
 unfold appE
 rw[wk_b,begR_cost wk_b];rfl
theorem wk_c:appE wS1 (begR 1 7) 2=2:=by
 unfold appE
 rw[wk_b];rfl
theorem wk_u:Yh wS1.recs=1:=by
 show Yh [begX 1 7]=1
 simp[Yh,begR_cost wk_b]
theorem wk_f {D:DS}(g:Good ⟨ZF 450,[],0,false⟩ D):∃R' D',wS1.flush 1 D=(wS1.at R' 1,D',0):=by
 obtain⟨R',D',e,_⟩:=flushL_good 1 [begX 1 7] ⟨ZF 450,[],0,false⟩ D 0 g (fun x hx=>by rw[List.mem_singleton.1 hx];exact wk_b) (by simp[Yh,begR_cost wk_b,ZF]) (by simp[RgS.next,ZF])
 refine⟨R',D', ?_⟩
 unfold LgS.flush
 rw[if_neg (by decide)]
 rw[show XJ wS1 (wS1.fl+1)=[begX 1 7] from rfl,show wS1.R=⟨ZF 450,[],0,false⟩ from rfl,show wS1.fl=0 from rfl,e]
 rfl
theorem LgIn.at {ρ S v sp}(h:LgIn ρ S v sp)(R:RgS)(f:Nat):LgIn ρ (S.at R f) v sp:=⟨h.own,h.rin,h.ok,h.used,h.base⟩
theorem wakes16_spec (ρ:Hp):Spec Tryz.prog 11 [] ρ [] (fun v ρ' L'=>v=.bool true∧ρ.le ρ'∧L'=[]):=by
 refine Zb Tryz.func11 rfl rfl rfl fun u R=>?_
 simp only[Zd,kA]
 repeat' (first|(refine Za (.func 12) ?_;refine qC rfl rfl (knew _ 452 (by omega) (by omega)) ?_;rintro v ρ' L' hle ⟨rfl,db,k0,rfl,hk0,rfl⟩<;>(try simp only[kA]))|(refine Za (.func 24) ?_;refine qC rfl rfl (kformat16 _ 450 452 (by omega) (by omega) (by omega) (by omega) db k0 hk0) ?_;rintro v1 ρ1 L1 hle1 ⟨hl1,lb,rb,w1,k1,D1,rfl,hk1,hr1,g1,_,rfl⟩;try simp only[kA,List.append_assoc])|refine zW ?_|intro _)
 rename_i xb
 have hA:=append16_yes ρ1 lb rb wS0 (.slice none 0 0) [] newLg_in (begX 1 7) (begR_in _ _) 2 wk_a
 obtain⟨R',D',hfl⟩:=wk_f g1
 refine tpA [0,1,3,4,6] (.e 2 [] (.e 5 [] (.e 7 [] (.f [8,9,10] .o)))) ([[(xb,.cells ⟨rrV (begX 1 7)⟩ 39 (0,0))]]) ?_
 repeat' (refine iT ?_;first|refine rA ?_|((refine iE ?_;refine rE ?_)<;>((try refine Zn ?_);(first|(refine Za (.func 27) ?_;refine qC rfl rfl hA ?_;rintro v2 ρ2 L2 hle2 ⟨rfl,hl2,va2,sp2,hin2,rfl⟩;have hB:=append16_no ρ2 lb rb wS1 va2 sp2 hin2 (begX 1 7) (begR_in _ _) 2 (by rw[wk_c];omega);try simp only[kA,List.append_assoc])|(refine Za (.func 27) ?_;refine qC rfl rfl hB ?_;rintro v3 ρ3 L3 hle3 ⟨rfl,hl3,rfl⟩;have hC:=flush16_spec ρ3 lb rb db wS1 va2 sp2 (hin2.mono hl3) w1 ((hr1.mono hl2).mono hl3) k1 D1 hk1 1 (by decide);rw[hfl] at hC;try simp only[kA,List.append_assoc])|(refine Za (.func 29) ?_;refine qC rfl rfl hC ?_;rintro v4 ρ4 L4 hle4 ⟨rfl,hl4,w4,k4,hr4,hk4,rfl⟩;have hin4:=(hin2.mono hl3).mono hl4;try simp only[kA,List.append_assoc])|(refine Yj ?_;try intro _))<;>((try simp only[kA]);refine Zj ?_;refine rN ?_))))
 all_goals
  have hat:=hin4.at R' 1
  have hN:=Wi ρ4 lb rb (wS1.at R' 1) va2 sp2 hat
  have hF:=flushed16_spec ρ4 lb rb (wS1.at R' 1) va2
  have hU:=used16_spec ρ4 lb rb (wS1.at R' 1) va2
  have hQ:=recs16_spec ρ4 lb rb (wS1.at R' 1) va2 sp2 hat 1
  rw[show Yh (wS1.at R' 1).recs=1 from wk_u] at hU
  rw[show (wS1.at R' 1).next=2 from rfl] at hN
  rw[show (wS1.at R' 1).fl=1 from rfl] at hF
  rw[show XJ (wS1.at R' 1) 1=[begX 1 7] from rfl] at hQ
  simp only[show (appE wS1 (begR 1 7) 2)=2 from wk_c]
  repeat' (first|(refine Za (.func 31) ?_;refine qR rfl rfl (hF) ?_;try simp only[kA])|(refine Za (.func 26) ?_;refine qR rfl rfl (hN) ?_;try simp only[kA])|(refine Za (.func 28) ?_;refine qR rfl rfl (hU) ?_;try simp only[kA])|(refine Za (.func 34) ?_;refine qC rfl rfl hQ ?_;rintro v5 ρ5 L5 hle5 ⟨hl5,sp5,ho5,rfl⟩;obtain⟨va5,vc5,rfl,_⟩:=ho5.slice;try simp only[kA,List.append_assoc])|refine zW ?_|intro _)
  have hfin:=Hp.le_trans hl1 (Hp.le_trans hl2 (Hp.le_trans hl3 (Hp.le_trans hl4 hl5)))
  exact qE (L':=[]) ⟨rfl,hfin,rfl⟩
end Go.Proofs.E
namespace Go.Proofs.E
open Go
set_option linter.unusedVariables false
set_option linter.unusedSimpArgs false
set_option linter.unusedSectionVars false
set_option maxRecDepth 4000
set_option maxHeartbeats 1000000
attribute [local irreducible] Yl TL TC TE Spec ZI R1 Hp.le EnvLe TS TR YS Zp
def noteL (l:List Nat):Nat→Bs
 | 0=>[]
 | i+1=>noteL l i++be (8-4*i) (l.getD i 0)
theorem lnumber_spec (ρ:Hp)(a:Option Addr)(n c:Nat)(l:Bs)(h:SIn ρ Zo a n l)(hn:n≤8) :
  Spec Tryz.prog 176 [.slice a n c] ρ [] (fun v ρ' L'=>v=.int .u64 (ZY l:Nat)∧ρ'=ρ∧L'=[]):=by
 have hl:=h.len
 refine Zb Tryz.func176 rfl rfl rfl fun u R=>?_
 simp only[Zd,kA]
 repeat' (first|refine zW ?_|intro _)
 refine Zi [(5,_),(6,_)] (fun (ζ:(Nat)×(Nat))=>[(7,.int .i64 ζ.1),(2,.int .u64 (ζ.2:Nat))]) (fun (ζ:(Nat)×(Nat))=>ρ) (fun (ζ:(Nat)×(Nat))=>[]) (fun (ζ:(Nat)×(Nat))=>ζ.1≤n∧ζ.2=ZY (l.take ζ.1)) (fun (ζ:(Nat)×(Nat))=>n-ζ.1) ((0,0)) (⟨Nat.zero_le _,rfl⟩) Zc Zc rfl tk ?_
 rintro⟨k,z⟩ hI
 try simp only[kA,List.append_assoc] at hI ⊢
 try dsimp only at hI ⊢
 obtain⟨hk,hz⟩:=hI
 by_cases hlt:k<n
 ·obtain⟨b,off,C,T,fr,rfl,hb,hc⟩:=h.get (show k<l.length by omega)
  have hzl:=unbe_take_lt l k (by omega) (by omega)
  rw[←hz] at hzl
  have hs:=Vy l k (by omega)
  have hbt:l[k].toNat<256:=l[k].toNat_lt
  generalize l[k]=b8 at *
  simp only[Zo] at hc
  repeat' (first|refine zW ?_|intro _)
  have e:(z:Int)*256+(b8.toNat:Int)=((z*256+b8.toNat:Nat):Int):=by omega
  rw[e]
  refine Ze (k+1,z*256+b8.toNat) (⟨hlt,by dsimp only;rw[hs,hz]⟩) Zc Zc rfl tk inferInstance (by first|omega|(dsimp only;omega))
 ·have hk2:k=n:=by omega
  subst hk2
  rw[List.take_of_length_le (by omega)] at hz
  subst hz
  repeat' (first|refine zW ?_|intro _)
  exact qE ⟨rfl,rfl,rfl⟩
def notedS (S:LgS)(b:Bs):LgS×Bool:=
 if b.length=0 then (S,true) else if b.length=12 then ({ S with ma:=ZY (b.take 8),nx:=(ZY (b.drop 8):Nat) },decide (1≤ZY (b.drop 8)∧ZY (b.drop 8)≤1073741824)) else (S,false)
theorem noted_spec (ρ:Hp)(lb rb:Nat)(S:LgS)(v:Value)(a:Option Addr)(n c:Nat)(b:Bs)(h:SIn ρ Zo a n b)(hc:n≤c) :
  Spec Tryz.prog 96 [.pointer (some ⟨lb,0,none⟩),.slice a n c] ρ [Ym lb rb S v] (fun z ρ' L'=>z=.bool (notedS S b).2∧ρ'=ρ∧L'=[Ym lb rb (notedS S b).1 v]):=by
 have hl:=h.len
 refine Zb Tryz.func96 rfl rfl rfl fun u R=>?_
 simp only[Zd,kA,Ym]
 by_cases h0:n=0
 ·have e:notedS S b=(S,true):=if_pos (by omega)
  rw[e]
  have hd:((n:Int) == 0)=true:=by rw[h0];rfl
  repeat' (first|refine zW ?_|intro _)
  exact qE ⟨rfl,rfl,rfl⟩
 have hd:((n:Int) == 0)=false:=by simp;omega
 by_cases h12:n=12
 ·have hd2:((n:Int) == 12)=true:=by rw[h12];rfl
  have e:notedS S b=({ S with ma:=ZY (b.take 8),nx:=(ZY (b.drop 8):Nat) },decide (1≤ZY (b.drop 8)∧ZY (b.drop 8)≤1073741824)):=by
   unfold notedS;rw[if_neg (by omega),if_pos (by omega)]
  rw[e]
  have h8:=h.take (show 8≤n by omega)
  have h4:=h.sub (show 8≤n by omega) (Nat.le_refl n) hc
  rw[List.take_of_length_le (by simp;omega)] at h4
  have hub:ZY (b.drop 8)<4294967296:=by
   have:=Xw (b.drop 8);simpa [show b.length=12 by omega] using this
  subst h12
  repeat' (first|(refine Za (.func 176) ?_;refine qR rfl rfl (lnumber_spec _ _ _ _ _ h8 (by decide)) ?_;try simp only[kA])|(refine Za (.func 176) ?_;refine qR rfl rfl (lnumber_spec _ _ _ _ _ h4 (by decide)) ?_;try simp only[kA])|refine zW ?_|(refine WA ?_;refine ZV rfl rfl (fun hb=>?_) (fun hb=>?_)<;>(try simp only[decide_eq_true_eq,decide_eq_false_iff_not,Bool.not_eq_true,Bool.not_eq_false,beq_iff_eq,bne_iff_ne,ne_eq,decide_eq_decide,Bool.not_eq_eq_eq_not,Bool.not_true,Bool.not_false,beq_eq_false_iff_ne,bne_eq_false_iff_eq,Bool.and_eq_true,Bool.or_eq_true,Bool.and_eq_false_imp,Bool.or_eq_false_iff] at hb))|(refine YC ?_;refine Yk rfl (fun hb=>?_) (fun hb=>?_)<;>(try simp only[decide_eq_true_eq,decide_eq_false_iff_not,Bool.not_eq_true,Bool.not_eq_false,beq_iff_eq,bne_iff_ne,ne_eq,decide_eq_decide,Bool.not_eq_eq_eq_not,Bool.not_true,Bool.not_false,beq_eq_false_iff_ne,bne_eq_false_iff_eq,Bool.and_eq_true,Bool.or_eq_true,Bool.and_eq_false_imp,Bool.or_eq_false_iff] at hb))|intro _)
  all_goals (refine qF (L':=[Ym lb rb { S with ma:=ZY (b.take 8),nx:=(ZY (b.drop 8):Nat) } v]) ?_;exact⟨YL (by (try simp[*]);first|done|omega|(intros;omega)|(constructor<;>intros<;>(try simp_all)<;>omega)),rfl,rfl⟩)
 ·have hd2:((n:Int) == 12)=false:=by simp;omega
  have e:notedS S b=(S,false):=by unfold notedS;rw[if_neg (by omega),if_neg (by omega)]
  rw[e]
  repeat' (first|refine zW ?_|intro _)
  exact qE ⟨rfl,rfl,rfl⟩
end Go.Proofs.E
namespace Go.Proofs.E
open Go
set_option linter.unusedVariables false
set_option linter.unusedSimpArgs false
set_option linter.unusedSectionVars false
set_option maxRecDepth 4000
set_option maxHeartbeats 1000000
attribute [local irreducible] Yl TL TC TE Spec ZI R1 Hp.le EnvLe TS TR YS Zp TP QP
theorem usedR_take_succ (l:List RR)(i:Nat)(h:i<l.length):Yh (l.take i)+Wb (l[i]).2=Yh (l.take (i+1)):=by
 rw[List.take_succ_eq_append_getElem h,usedR_add];simp[Yh]
def LgS.cutTo (S:LgS)(R:RgS)(fr ma nx:Nat)(l:List RR):LgS:=⟨R,fr,S.fl,ma,(nx:Int),l⟩
def LgS.trunc (S:LgS)(fr ma nx:Nat)(D:DS):LgS×DS×Int:=
 let c:=S.R.cut ((fr-S.base:Nat):Int) (noteL [ma,nx] 2) D
 if c.2.2=0 then (S.cutTo c.1 fr ma nx (XJ S fr),c.2.1,0) else ({ S with R:=c.1 },c.2.1,c.2.2)
end Go.Proofs.E
namespace Go.Proofs.E
open Go
set_option linter.unusedVariables false
set_option linter.unusedSimpArgs false
set_option linter.unusedSectionVars false
set_option maxRecDepth 4000
set_option maxHeartbeats 1000000
attribute [local irreducible] Yl TL TC TE Spec ZI R1 Hp.le EnvLe TS TR YS Zp
theorem u32_spec (ρ:Hp)(br:Nat)(a:Option Addr)(n c:Nat)(l:List UInt8)(h:SIn ρ Zo a n l)(hc:n≤c)(st:Int) :
  Spec Tryz.prog 180 [.pointer (some ⟨br,0,none⟩)] ρ [rdC br a n c st]
   (fun v ρ' L'=>v=.int .u32 ((Yg 4 l st).1:Nat)∧ρ'=ρ∧∃a' n' c',SIn ρ Zo a' n' (Yg 4 l st).2.1∧n'≤c'∧L'=[rdC br a' n' c' (Yg 4 l st).2.2]):=by
 have hb:=Wm 4 l st
 have hn:=number_spec ρ br a n c l h hc st 4 (by omega)
 generalize Yg 4 l st=r at *
 refine Zb Tryz.func180 rfl rfl rfl fun u R=>?_
 simp only[Zd,kA]
 repeat' (first|(refine Za (.func 243) ?_;refine qC rfl rfl (hn) ?_;rintro v ρ' L' hle ⟨rfl,rfl,a',n',c',hs',hc',rfl⟩<;>(try simp only[kA]))|refine zV ?_|intro _)
 exact qE ⟨rfl,rfl,a',n',c',hs',hc',rfl⟩
abbrev reC (tb br:Nat)(ra:Option Addr)(rn rc:Nat)(v:RV)(r:Rc)(bad:Bool):List (Nat×Obj):=[(tb,.cells ⟨[.pointer (some ⟨br,0,none⟩),.slice ra rn rc,.int .i64 r.kind,.int .u64 r.lsn,.int .i64 r.txn,.int .u64 r.prev,.int .u64 r.next,.slice v.i.a v.i.n v.i.c,.slice v.s.a v.s.n v.s.c,.int .i64 r.nextTxn,.slice v.t.a v.t.n v.t.c,.slice v.d.a v.d.n v.d.c,.bool bad]⟩ 288 (0,0))]
structure RdAt (ρ:Hp)(a:Option Addr)(n c:Nat)(ra:Option Addr)(rn rc:Nat)(R:List UInt8)(s:Yc):Prop where
 at':SIn ρ Zo a n s.1
 cap:n≤c
 rest:SIn ρ Zo ra rn R
 rcap:rn≤rc
 big:rn≤1000000
 suf:∃X,R=X++s.1
theorem RdAt.mono {ρ ρ' a n c ra rn rc R s}(h:RdAt ρ a n c ra rn rc R s)(hle:ρ.le ρ'):RdAt ρ' a n c ra rn rc R s:=⟨h.at'.mono hle,h.cap,h.rest.mono hle,h.rcap,h.big,h.suf⟩
theorem numR_suf (k:Nat)(l:List UInt8)(st:Int):∃X,l=X++(Yg k l st).2.1:=by
 unfold Yg
 split
 ·exact⟨[],rfl⟩
 ·split
  ·exact⟨[],rfl⟩
  ·exact⟨l.take k,(List.take_append_drop k l).symm⟩
theorem rawR_suf (k:Nat)(l:List UInt8)(st:Int):∃X,l=X++(Vc k l st).2.1:=by
 unfold Vc
 split
 ·exact⟨[],rfl⟩
 ·split
  ·exact⟨[],rfl⟩
  ·exact⟨l.take k,(List.take_append_drop k l).symm⟩
theorem RdAt.num {ρ a n c ra rn rc R s}(h:RdAt ρ a n c ra rn rc R s)(k:Nat){a' n' c'}(h1:SIn ρ Zo a' n' (Yg k s.1 s.2.1).2.1)(h2:n'≤c'):RdAt ρ a' n' c' ra rn rc R (ZC k s).2:=by
 obtain⟨X,hX⟩:=h.suf
 obtain⟨Y,hY⟩:=numR_suf k s.1 s.2.1
 exact⟨h1,h2,h.rest,h.rcap,h.big,X++Y,by rw[List.append_assoc,hX];exact congrArg (X++·) hY⟩
theorem RdAt.skip {ρ a n c ra rn rc R s}(h:RdAt ρ a n c ra rn rc R s)(k:Int){a' n' c'}(h1:SIn ρ Zo a' n' (Vc k.toNat s.1 s.2.1).2.1)(h2:n'≤c'):RdAt ρ a' n' c' ra rn rc R (skipS k s):=by
 obtain⟨X,hX⟩:=h.suf
 obtain⟨Y,hY⟩:=rawR_suf k.toNat s.1 s.2.1
 exact⟨h1,h2,h.rest,h.rcap,h.big,X++Y,by rw[List.append_assoc,hX];exact congrArg (X++·) hY⟩
abbrev rdL (tb br:Nat)(a:Option Addr)(n c:Nat)(ra:Option Addr)(rn rc:Nat)(v:RV)(r:Rc)(s:Yc):SH:=[reC tb br ra rn rc v r s.2.2,rdC br a n c s.2.1]
theorem n8_spec (ρ:Hp)(br:Nat){a n c ra rn rc R}{s:Yc}(h:RdAt ρ a n c ra rn rc R s):Spec Tryz.prog 178 [.pointer (some ⟨br,0,none⟩)] ρ [rdC br a n c s.2.1]
  (fun v ρ' L'=>v=.int .u8 ((ZC 1 s).1:Nat)∧ρ'=ρ∧∃a' n' c',RdAt ρ a' n' c' ra rn rc R (ZC 1 s).2∧L'=[rdC br a' n' c' (ZC 1 s).2.2.1]):=by
 refine (u8_spec ρ br a n c s.1 h.at' h.cap s.2.1).mono ?_
 rintro v ρ' L' _ ⟨h1,h2,a',n',c',h3,h4,h5⟩
 exact⟨h1,h2,a',n',c',h.num 1 h3 h4,h5⟩
theorem n16_spec (ρ:Hp)(br:Nat){a n c ra rn rc R}{s:Yc}(h:RdAt ρ a n c ra rn rc R s):Spec Tryz.prog 252 [.pointer (some ⟨br,0,none⟩)] ρ [rdC br a n c s.2.1]
  (fun v ρ' L'=>v=.int .u16 ((ZC 2 s).1:Nat)∧ρ'=ρ∧∃a' n' c',RdAt ρ a' n' c' ra rn rc R (ZC 2 s).2∧L'=[rdC br a' n' c' (ZC 2 s).2.2.1]):=by
 refine (u16_spec ρ br a n c s.1 h.at' h.cap s.2.1).mono ?_
 rintro v ρ' L' _ ⟨h1,h2,a',n',c',h3,h4,h5⟩
 exact⟨h1,h2,a',n',c',h.num 2 h3 h4,h5⟩
theorem n32_spec (ρ:Hp)(br:Nat){a n c ra rn rc R}{s:Yc}(h:RdAt ρ a n c ra rn rc R s):Spec Tryz.prog 180 [.pointer (some ⟨br,0,none⟩)] ρ [rdC br a n c s.2.1]
  (fun v ρ' L'=>v=.int .u32 ((ZC 4 s).1:Nat)∧ρ'=ρ∧∃a' n' c',RdAt ρ a' n' c' ra rn rc R (ZC 4 s).2∧L'=[rdC br a' n' c' (ZC 4 s).2.2.1]):=by
 refine (u32_spec ρ br a n c s.1 h.at' h.cap s.2.1).mono ?_
 rintro v ρ' L' _ ⟨h1,h2,a',n',c',h3,h4,h5⟩
 exact⟨h1,h2,a',n',c',h.num 4 h3 h4,h5⟩
theorem n64_spec (ρ:Hp)(br:Nat){a n c ra rn rc R}{s:Yc}(h:RdAt ρ a n c ra rn rc R s):Spec Tryz.prog 179 [.pointer (some ⟨br,0,none⟩)] ρ [rdC br a n c s.2.1]
  (fun v ρ' L'=>v=.int .u64 ((ZC 8 s).1:Nat)∧ρ'=ρ∧∃a' n' c',RdAt ρ a' n' c' ra rn rc R (ZC 8 s).2∧L'=[rdC br a' n' c' (ZC 8 s).2.2.1]):=by
 refine (u64_spec ρ br a n c s.1 h.at' h.cap s.2.1).mono ?_
 rintro v ρ' L' _ ⟨h1,h2,a',n',c',h3,h4,h5⟩
 exact⟨h1,h2,a',n',c',h.num 8 h3 h4,h5⟩
theorem Wn (k:Nat)(s:Yc):(ZC k s).1<256 ^ k:=Wm k s.1 s.2.1
theorem rdN_bad (k:Nat)(s:Yc):(ZC k s).2.2.2=s.2.2:=rfl
theorem rok_spec (ρ:Hp)(tb br:Nat)(a:Option Addr)(n c:Nat)(ra:Option Addr)(rn rc:Nat)(v:RV)(r:Rc)(s:Yc):Spec Tryz.prog 186 [.pointer (some ⟨tb,0,none⟩)] ρ (rdL tb br a n c ra rn rc v r s)
  (fun z ρ' L'=>z=.bool (okS s)∧ρ'=ρ∧L'=rdL tb br a n c ra rn rc v r s):=by
 obtain⟨l,st,bad⟩:=s
 unfold okS rdL
 refine Zb Tryz.func186 rfl rfl rfl fun u R=>?_
 simp only[Zd,kA]
 cases bad
 ·repeat' (first|(refine Za (.func 257) ?_;refine qR rfl rfl (XE _ br a n c st) ?_;try simp only[kA])|refine zV ?_|intro _)
  refine qF (L':=[reC tb br ra rn rc v r false,rdC br a n c st]) ?_
  exact⟨YL (by (try simp[*]);first|done|omega|(intros;omega)|(constructor<;>intros<;>(try simp_all)<;>omega)),rfl,rfl⟩
 ·repeat' (first|refine zV ?_|intro _)
  exact qE ⟨rfl,rfl,rfl⟩
end Go.Proofs.E
namespace Go.Proofs.E
open Go
set_option linter.unusedVariables false
set_option linter.unusedSimpArgs false
set_option linter.unusedSectionVars false
set_option maxRecDepth 4000
set_option maxHeartbeats 1000000
attribute [local irreducible] Yl TL TC TE Spec ZI R1 Hp.le EnvLe TS TR YS Zp TP QP
theorem tkT_fst_bad {α:Type}{t:List UInt8→α×Int×Int}{z:α}{s:Yc}(h:okS s=false):tkT t z s=(z,s):=by unfold tkT;rw[h];rfl
theorem tkT_err {α:Type}{t:List UInt8→α×Int×Int}{z:α}{s:Yc}(h:okS s=true)(he:(t s.1).2.2≠0):tkT t z s=(z,s.1,s.2.1,true):=by unfold tkT;rw[h,if_pos rfl,if_neg he]
theorem tkT_ok {α:Type}{t:List UInt8→α×Int×Int}{z:α}{s:Yc}(h:okS s=true)(he:(t s.1).2.2=0):tkT t z s=((t s.1).1,skipS (t s.1).2.1 s):=by unfold tkT;rw[h,if_pos rfl,if_pos he]
theorem RdAt.flag {ρ a n c ra rn rc R l st b}(h:RdAt ρ a n c ra rn rc R (l,st,b))(b':Bool):RdAt ρ a n c ra rn rc R (l,st,b'):=⟨h.at',h.cap,h.rest,h.rcap,h.big,h.suf⟩
theorem rtakenC_spec (ρ:Hp)(tb br:Nat)(v:RV)(r:Rc)(s:Yc){a n c ra rn rc Rs}(h:RdAt ρ a n c ra rn rc Rs s) :
  Spec Tryz.prog 246 [.pointer (some ⟨tb,0,none⟩),.func (.func 247) ⟨[]⟩ ⟨[]⟩] ρ (rdL tb br a n c ra rn rc v r s)
   (fun z ρ' L'=>ρ.le ρ'∧∃cv a' n' c',z=.agg ⟨XI (tkT Zr ztC s).1.kind cv⟩∧CI ρ' cv (tkT Zr ztC s).1∧RdAt ρ' a' n' c' ra rn rc Rs (tkT Zr ztC s).2∧L'=rdL tb br a' n' c' ra rn rc v r (tkT Zr ztC s).2):=by
 have hok:=rok_spec ρ tb br a n c ra rn rc v r s
 have hsl:=h.at'.len
 have hrl:=h.rest.len
 have hrb:=h.big
 have hrc:=h.rcap
 have hcap:=h.cap
 obtain⟨X,hX⟩:=h.suf
 have hXl:=congrArg List.length hX
 rw[List.length_append] at hXl
 refine Zb Tryz.func246 rfl rfl rfl fun u R=>?_
 simp only[Zd,kA]
 cases ho:okS s
 ·rw[ho] at hok
  rw[tkT_fst_bad ho]
  repeat' (first|(refine Za (.func 186) ?_;refine qR rfl rfl (hok) ?_;try simp only[kA])|refine zV ?_|intro _)
  exact qE ⟨Hp.le_refl _,Xn,a,n,c,rfl,CI.nil,h,rfl⟩
 ·rw[ho] at hok
  obtain⟨l,st,bad⟩:=s
  have h2:=okS_iff ho
  simp only[Prod.mk.injEq] at h2
  obtain⟨rfl,rfl⟩:=h2
  dsimp only at hsl hX hXl
  have hlo:((rn:Int)-(n:Int)).toNat=rn-n:=by omega
  have hsub:=h.rest.sub (lo':=((rn:Int)-(n:Int)).toNat) (hi':=rn) (by omega) (Nat.le_refl _) (cap:=rc) hrc
  have hdl:(List.drop ((rn:Int)-(n:Int)).toNat Rs).take (rn-((rn:Int)-(n:Int)).toNat)=l:=by
   rw[hlo,hX,show rn-n=X.length by omega,List.drop_left' rfl,List.take_of_length_le (by omega)]
  rw[hdl] at hsub
  have htc:=takeCont_spec ρ _ _ (rc-((rn:Int)-(n:Int)).toNat) l hsub (by omega)
  by_cases he:(Zr l).2.2=0
  ·obtain⟨m,e1,hm,g1,g2,g3⟩:=Vm he
   have hraw:=fun ρ (h:SIn ρ Zo a n l)=>raw_spec ρ br a n c l h hcap 0 m (by omega)
   have hskip:=fun {ρ a' n' c'} (h:RdAt ρ a n c ra rn rc Rs (l,0,false)) (h1:SIn ρ Zo a' n' (Vc m l 0).2.1) (h2:n'≤c')=>h.skip (m:Int) (by simpa using h1) h2
   rw[tkT_ok ho he]
   dsimp only
   rw[e1] at htc ⊢
   rw[he] at htc
   unfold skipS at hskip ⊢
   simp only[Int.toNat_natCast] at hskip ⊢
   generalize (Zr l).1=x at *
   generalize Vc m l 0=q at *
   repeat' (first|(refine Za (.func 186) ?_;refine qR rfl rfl (hok) ?_;try simp only[kA])|refine zV ?_|intro _)
   refine tpZ [0,1,2,3,4,5,6,7,8,9,10,11,12,13] (.b 14 22 [15,16] [] (.b 17 22 [18,19,20,21] [] (.e 22 [] (.e 23 [] (.f [24,25] .o))) (.e 17 [18,19,20,21] (.e 23 [] (.f [24,25] .o)))) (.e 14 [15,16] (.e 17 [18,19,20,21] (.e 23 [] (.f [24,25] .o))))) ?_
   repeat' (refine iT ?_;first|refine rA ?_|((first|(refine iE ?_;refine rE ?_)|(refine iB ?_;refine rB ?_ ?_))<;>((try refine Zn ?_);(first|(refine Za (.func 187) ?_;refine qR rfl rfl (Vi _ br a n c 0) ?_;try simp only[kA])|(refine Za (.tmp 14) ?_;refine qC rfl rfl (htc) ?_;rintro v ρ' L' hle ⟨hle1,w,rfl,hC,rfl⟩<;>(try simp only[kA]))|(refine Yj ?_;try intro _))<;>((try simp only[kA]);refine Zj ?_;refine rN ?_))))
   all_goals (repeat' (first|(refine Za (.func 304) ?_;refine qC rfl rfl (hraw _ (h.at'.mono (by assumption))) ?_;rintro v ρ' L' hle ⟨hle2,va,vn,vc,a',n',c',rfl,hvc,hs1,hs2,hc',rfl⟩<;>(try simp only[kA]))|refine zV ?_|intro _))
   all_goals exact qE ⟨Hp.le_trans hle1 hle2,w,a',n',c',rfl,⟨hC.mono hle2,g3.row,fun k hk=>(g3.kid k hk).id⟩,hskip (h.mono (Hp.le_trans hle1 hle2)) hs2 hc',rfl⟩
  ·rw[tkT_err ho he]
   obtain⟨f1,f2⟩:=takeCont_bad he
   rw[f1,f2] at htc
   dsimp only
   generalize (Zr l).2.2=e at *
   repeat' (first|(refine Za (.func 186) ?_;refine qR rfl rfl (hok) ?_;try simp only[kA])|refine zV ?_|intro _)
   refine tpZ [0,1,2,3,4,5,6,7,8,9,10,11,12,13] (.b 14 22 [15,16] [] (.b 17 22 [18,19,20,21] [] (.e 22 [] (.e 23 [] (.f [24,25] .o))) (.e 17 [18,19,20,21] (.e 23 [] (.f [24,25] .o)))) (.e 14 [15,16] (.e 17 [18,19,20,21] (.e 23 [] (.f [24,25] .o))))) ?_
   repeat' (refine iT ?_;first|refine rA ?_|((first|(refine iE ?_;refine rE ?_)|(refine iB ?_;refine rB ?_ ?_))<;>((try refine Zn ?_);(first|(refine Za (.func 187) ?_;refine qR rfl rfl (Vi _ br a n c 0) ?_;try simp only[kA])|(refine Za (.tmp 14) ?_;refine qC rfl rfl (htc) ?_;rintro v ρ' L' hle ⟨hle1,w,rfl,hC,rfl⟩<;>(try simp only[kA]))|(refine Yj ?_;try intro _))<;>((try simp only[kA]);refine Zj ?_;refine rN ?_))))
   all_goals (repeat' (first|refine zV ?_|intro _))
   all_goals exact qE ⟨hle1,Xn,a,n,c,rfl,CI.nil,(h.mono hle1).flag true,rfl⟩
theorem rowFit_z:Yx ztR:=⟨by decide,by decide⟩
theorem takeRow_bad {l:List UInt8}(h:(Ya l).2.2≠0):(Ya l).1=ztR∧(Ya l).2.1=0:=by
 unfold Ya at h ⊢
 dsimp only at h ⊢
 generalize Ww l 0 false=r at *
 obtain⟨x,l2,st2,b2⟩:=r
 dsimp only at h ⊢
 unfold Wp at h
 unfold Vz
 cases b2
 ·simp only[Bool.false_eq_true,if_false] at h ⊢
  simp[h]
 ·simp
theorem rtakenR_spec (ρ:Hp)(tb br:Nat)(v:RV)(r:Rc)(s:Yc){a n c ra rn rc Rs}(h:RdAt ρ a n c ra rn rc Rs s) :
  Spec Tryz.prog 250 [.pointer (some ⟨tb,0,none⟩),.func (.func 251) ⟨[]⟩ ⟨[]⟩] ρ (rdL tb br a n c ra rn rc v r s)
   (fun z ρ' L'=>ρ.le ρ'∧Yx (tkT Ya ztR s).1∧∃a' n' c',z=.agg ⟨Yq (tkT Ya ztR s).1⟩∧RdAt ρ' a' n' c' ra rn rc Rs (tkT Ya ztR s).2∧L'=rdL tb br a' n' c' ra rn rc v r (tkT Ya ztR s).2):=by
 have hok:=rok_spec ρ tb br a n c ra rn rc v r s
 have hsl:=h.at'.len
 have hrl:=h.rest.len
 have hrb:=h.big
 have hrc:=h.rcap
 have hcap:=h.cap
 obtain⟨X,hX⟩:=h.suf
 have hXl:=congrArg List.length hX
 rw[List.length_append] at hXl
 refine Zb Tryz.func250 rfl rfl rfl fun u R=>?_
 simp only[Zd,kA]
 cases ho:okS s
 ·rw[ho] at hok
  rw[tkT_fst_bad ho]
  repeat' (first|(refine Za (.func 186) ?_;refine qR rfl rfl (hok) ?_;try simp only[kA])|refine zV ?_|intro _)
  exact qE ⟨Hp.le_refl _,rowFit_z,a,n,c,rfl,h,rfl⟩
 ·rw[ho] at hok
  obtain⟨l,st,bad⟩:=s
  have h2:=okS_iff ho
  simp only[Prod.mk.injEq] at h2
  obtain⟨rfl,rfl⟩:=h2
  dsimp only at hsl hX hXl
  have hlo:((rn:Int)-(n:Int)).toNat=rn-n:=by omega
  have hsub:=h.rest.sub (lo':=((rn:Int)-(n:Int)).toNat) (hi':=rn) (by omega) (Nat.le_refl _) (cap:=rc) hrc
  have hdl:(List.drop ((rn:Int)-(n:Int)).toNat Rs).take (rn-((rn:Int)-(n:Int)).toNat)=l:=by
   rw[hlo,hX,show rn-n=X.length by omega,List.drop_left' rfl,List.take_of_length_le (by omega)]
  rw[hdl] at hsub
  have htc:=takeRow_spec ρ _ _ (rc-((rn:Int)-(n:Int)).toNat) l hsub (by omega)
  by_cases he:(Ya l).2.2=0
  ·obtain⟨m,e1,hm,g1,g2,g3⟩:=takeRow_ok he
   have hraw:=fun ρ (h:SIn ρ Zo a n l)=>raw_spec ρ br a n c l h hcap 0 m (by omega)
   have hskip:=fun {ρ a' n' c'} (h:RdAt ρ a n c ra rn rc Rs (l,0,false)) (h1:SIn ρ Zo a' n' (Vc m l 0).2.1) (h2:n'≤c')=>h.skip (m:Int) (by simpa using h1) h2
   rw[tkT_ok ho he]
   dsimp only
   rw[e1] at htc ⊢
   rw[he] at htc
   unfold skipS at hskip ⊢
   simp only[Int.toNat_natCast] at hskip ⊢
   generalize (Ya l).1=x at *
   generalize Vc m l 0=q at *
   repeat' (first|(refine Za (.func 186) ?_;refine qR rfl rfl (hok) ?_;try simp only[kA])|refine zV ?_|intro _)
   refine tpZ [0,1,2,3,4,5,6,7,8,9,10,11,12,13] (.b 14 22 [15,16] [] (.b 17 22 [18,19,20,21] [] (.e 22 [] (.e 23 [] (.f [24,25] .o))) (.e 17 [18,19,20,21] (.e 23 [] (.f [24,25] .o)))) (.e 14 [15,16] (.e 17 [18,19,20,21] (.e 23 [] (.f [24,25] .o))))) ?_
   repeat' (refine iT ?_;first|refine rA ?_|((first|(refine iE ?_;refine rE ?_)|(refine iB ?_;refine rB ?_ ?_))<;>((try refine Zn ?_);(first|(refine Za (.func 187) ?_;refine qR rfl rfl (Vi _ br a n c 0) ?_;try simp only[kA])|(refine Za (.tmp 14) ?_;refine qC rfl rfl (htc) ?_;rintro v ρ' L' hle ⟨rfl,hle1,rfl⟩<;>(try simp only[kA]))|(refine Yj ?_;try intro _))<;>((try simp only[kA]);refine Zj ?_;refine rN ?_))))
   all_goals (repeat' (first|(refine Za (.func 304) ?_;refine qC rfl rfl (hraw _ (h.at'.mono (by assumption))) ?_;rintro v ρ' L' hle ⟨hle2,va,vn,vc,a',n',c',rfl,hvc,hs1,hs2,hc',rfl⟩<;>(try simp only[kA]))|refine zV ?_|intro _))
   all_goals exact qE ⟨Hp.le_trans hle1 hle2,g3,a',n',c',rfl,hskip (h.mono (Hp.le_trans hle1 hle2)) hs2 hc',rfl⟩
  ·rw[tkT_err ho he]
   obtain⟨f1,f2⟩:=takeRow_bad he
   rw[f1,f2] at htc
   dsimp only
   generalize (Ya l).2.2=e at *
   repeat' (first|(refine Za (.func 186) ?_;refine qR rfl rfl (hok) ?_;try simp only[kA])|refine zV ?_|intro _)
   refine tpZ [0,1,2,3,4,5,6,7,8,9,10,11,12,13] (.b 14 22 [15,16] [] (.b 17 22 [18,19,20,21] [] (.e 22 [] (.e 23 [] (.f [24,25] .o))) (.e 17 [18,19,20,21] (.e 23 [] (.f [24,25] .o)))) (.e 14 [15,16] (.e 17 [18,19,20,21] (.e 23 [] (.f [24,25] .o))))) ?_
   repeat' (refine iT ?_;first|refine rA ?_|((first|(refine iE ?_;refine rE ?_)|(refine iB ?_;refine rB ?_ ?_))<;>((try refine Zn ?_);(first|(refine Za (.func 187) ?_;refine qR rfl rfl (Vi _ br a n c 0) ?_;try simp only[kA])|(refine Za (.tmp 14) ?_;refine qC rfl rfl (htc) ?_;rintro v ρ' L' hle ⟨rfl,hle1,rfl⟩<;>(try simp only[kA]))|(refine Yj ?_;try intro _))<;>((try simp only[kA]);refine Zj ?_;refine rN ?_))))
   all_goals (repeat' (first|refine zV ?_|intro _))
   all_goals exact qE ⟨hle1,rowFit_z,a,n,c,rfl,(h.mono hle1).flag true,rfl⟩
abbrev cbC (cb tb:Nat):List (Nat×Obj):=[(cb,.cells ⟨[.pointer (some ⟨tb,0,none⟩)]⟩ 284 (0,0))]
theorem rchange1_spec (ρ:Hp)(tb br cb:Nat)(v:RV)(r:Rc)(s:Yc){a n c ra rn rc Rs}(h:RdAt ρ a n c ra rn rc Rs s) :
  Spec Tryz.prog 245 [.pointer (some ⟨cb,0,none⟩)] ρ (cbC cb tb::rdL tb br a n c ra rn rc v r s)
   (fun z ρ' L'=>ρ.le ρ'∧∃x a' n' c',z=.agg ⟨imV x⟩∧Im.In ρ' x∧x.plain=(imD (decide (r.kind=2)) s).1∧RdAt ρ' a' n' c' ra rn rc Rs (imD (decide (r.kind=2)) s).2∧L'=cbC cb tb::rdL tb br a' n' c' ra rn rc v r (imD (decide (r.kind=2)) s).2):=by
 have h8:=n8_spec ρ br h
 have hlt:=Wn 1 s
 unfold imD
 rw[show rdL tb br a n c ra rn rc v r s=[reC tb br ra rn rc v r (ZC 1 s).2.2.2,rdC br a n c s.2.1] from rfl]
 generalize ZC 1 s=p at *
 obtain⟨x1,s1⟩:=p
 dsimp only at h8 hlt ⊢
 unfold imDa imDb
 have hC:=fun ρ a n c (h:RdAt ρ a n c ra rn rc Rs s1)=>rtakenC_spec ρ tb br v r s1 h
 refine Zb Tryz.func245 rfl rfl rfl fun u R=>?_
 simp only[Zd,kA]
 by_cases h2:r.kind=2
 ·simp only[decide_eq_true h2,if_true]
  generalize tkT Zr ztC s1=q1 at *
  obtain⟨b,s2⟩:=q1
  dsimp only at hC ⊢
  have hC2:=fun ρ a n c (h:RdAt ρ a n c ra rn rc Rs s2)=>rtakenC_spec ρ tb br v r s2 h
  generalize tkT Zr ztC s2=q2 at *
  obtain⟨ca,s3⟩:=q2
  dsimp only at hC2 ⊢
  repeat' (first|(refine Za (.func 178) ?_;refine qC rfl rfl (h8) ?_;rintro v ρ' L' hle ⟨rfl,rfl,a1,n1,c1,h1,rfl⟩<;>(try simp only[kA]))|(refine Za (.func 246) ?_;refine qC rfl rfl (hC _ _ _ _ h1) ?_;rintro v ρ' L' hle ⟨hl2,w2,a2,n2,c2,rfl,hw2,g2,rfl⟩<;>(try simp only[kA]))|(refine Za (.func 246) ?_;refine qC rfl rfl (hC2 _ _ _ _ g2) ?_;rintro v ρ' L' hle ⟨hl3,w3,a3,n3,c3,rfl,hw3,g3,rfl⟩<;>(try simp only[kA]))|refine zV ?_|intro _)
  exact qE ⟨Hp.le_trans hl2 hl3,⟨x1,w2,b,w3,ca⟩,a3,n3,c3,rfl,⟨hw2.mono hl3,hw3⟩,rfl,g3,rfl⟩
 ·simp only[decide_eq_false h2,Bool.false_eq_true,if_false]
  generalize tkT Zr ztC s1=q1 at *
  obtain⟨ca,s2⟩:=q1
  dsimp only at hC ⊢
  repeat' (first|(refine Za (.func 178) ?_;refine qC rfl rfl (h8) ?_;rintro v ρ' L' hle ⟨rfl,rfl,a1,n1,c1,h1,rfl⟩<;>(try simp only[kA]))|(refine Za (.func 246) ?_;refine qC rfl rfl (hC _ _ _ _ h1) ?_;rintro v ρ' L' hle ⟨hl2,w2,a2,n2,c2,rfl,hw2,g2,rfl⟩<;>(try simp only[kA]))|refine zV ?_|intro _)
  exact qE ⟨hl2,⟨x1,Xn,ztC,w2,ca⟩,a2,n2,c2,rfl,⟨CI.nil,hw2⟩,rfl,g2,rfl⟩
theorem rdone1_spec (ρ:Hp)(tb br cb:Nat)(v:RV)(r:Rc)(s:Yc){a n c ra rn rc Rs}(h:RdAt ρ a n c ra rn rc Rs s) :
  Spec Tryz.prog 249 [.pointer (some ⟨cb,0,none⟩)] ρ (cbC cb tb::rdL tb br a n c ra rn rc v r s)
   (fun z ρ' L'=>ρ.le ρ'∧z=.agg ⟨YK (WB s).1⟩∧Yx (WB s).1.row∧∃a' n' c',RdAt ρ' a' n' c' ra rn rc Rs (WB s).2∧L'=cbC cb tb::rdL tb br a' n' c' ra rn rc v r (WB s).2):=by
 have h8:=n8_spec ρ br h
 have hlt:=Wn 1 s
 unfold WB
 rw[show rdL tb br a n c ra rn rc v r s=[reC tb br ra rn rc v r (ZC 1 s).2.2.2,rdC br a n c s.2.1] from rfl]
 generalize ZC 1 s=p at *
 obtain⟨x1,s1⟩:=p
 dsimp only at h8 hlt ⊢
 refine Zb Tryz.func249 rfl rfl rfl fun u R=>?_
 simp only[Zd,kA]
 by_cases h23:x1=2∨x1=3
 ·unfold stpDt stpDr
  rw[if_pos h23]
  have hC:=fun ρ a n c (h:RdAt ρ a n c ra rn rc Rs s1)=>rtakenR_spec ρ tb br v r s1 h
  generalize tkT Ya ztR s1=q1 at *
  obtain⟨b,s2⟩:=q1
  dsimp only at hC ⊢
  rcases h23 with e|e
  all_goals (repeat' (first|(refine Za (.func 178) ?_;refine qC rfl rfl (h8) ?_;rintro v ρ' L' hle ⟨rfl,rfl,a1,n1,c1,h1,rfl⟩<;>(try simp only[kA]))|(refine Za (.func 250) ?_;refine qC rfl rfl (hC _ _ _ _ h1) ?_;rintro v ρ' L' hle ⟨hl2,hf,a2,n2,c2,rfl,g2,rfl⟩<;>(try simp only[kA]))|refine zV ?_|intro _))
  all_goals exact qE ⟨hl2,rfl,hf,a2,n2,c2,g2,rfl⟩
 ·unfold stpDt stpDi
  rw[if_neg h23]
  have k8:=fun ρ a n c (h:RdAt ρ a n c ra rn rc Rs s1)=>n8_spec ρ br h
  have hlt1:=Wn 1 s1
  rw[show s1.2.2=(ZC 1 s1).2.2.2 from rfl]
  generalize ZC 1 s1=p1 at *
  obtain⟨x2,s2⟩:=p1
  dsimp only at k8 hlt1 ⊢
  have k16:=fun ρ a n c (h:RdAt ρ a n c ra rn rc Rs s2)=>n16_spec ρ br h
  have hlt2:=Wn 2 s2
  rw[show s2.2.2=(ZC 2 s2).2.2.2 from rfl]
  generalize ZC 2 s2=p2 at *
  obtain⟨x3,s3⟩:=p2
  dsimp only at k16 hlt2 ⊢
  unfold stpDb
  by_cases hx1:x1=1
  ·rw[if_pos hx1]
   have k64:=fun ρ a n c (h:RdAt ρ a n c ra rn rc Rs s3)=>n64_spec ρ br h
   have hlt3:=Wn 8 s3
   rw[show s3.2.2=(ZC 8 s3).2.2.2 from rfl]
   generalize ZC 8 s3=p3 at *
   obtain⟨x4,s4⟩:=p3
   dsimp only at k64 hlt3 ⊢
   repeat' (first|(refine Za (.func 178) ?_;refine qC rfl rfl (h8) ?_;rintro v ρ' L' hle ⟨rfl,rfl,a1,n1,c1,h1,rfl⟩<;>(try simp only[kA]))|(refine Za (.func 178) ?_;refine qC rfl rfl (k8 _ _ _ _ h1) ?_;rintro v ρ' L' hle ⟨rfl,rfl,a2,n2,c2,h2,rfl⟩<;>(try simp only[kA]))|(refine Za (.func 252) ?_;refine qC rfl rfl (k16 _ _ _ _ h2) ?_;rintro v ρ' L' hle ⟨rfl,rfl,a3,n3,c3,h3,rfl⟩<;>(try simp only[kA]))|(refine Za (.func 179) ?_;refine qC rfl rfl (k64 _ _ _ _ h3) ?_;rintro v ρ' L' hle ⟨rfl,rfl,a4,n4,c4,h4,rfl⟩<;>(try simp only[kA]))|refine zV ?_|intro _)
   exact qE ⟨Hp.le_refl _,rfl,⟨by dsimp only;omega,by dsimp only;decide⟩,a4,n4,c4,h4,rfl⟩
  ·rw[if_neg hx1]
   repeat' (first|(refine Za (.func 178) ?_;refine qC rfl rfl (h8) ?_;rintro v ρ' L' hle ⟨rfl,rfl,a1,n1,c1,h1,rfl⟩<;>(try simp only[kA]))|(refine Za (.func 178) ?_;refine qC rfl rfl (k8 _ _ _ _ h1) ?_;rintro v ρ' L' hle ⟨rfl,rfl,a2,n2,c2,h2,rfl⟩<;>(try simp only[kA]))|(refine Za (.func 252) ?_;refine qC rfl rfl (k16 _ _ _ _ h2) ?_;rintro v ρ' L' hle ⟨rfl,rfl,a3,n3,c3,h3,rfl⟩<;>(try simp only[kA]))|refine zV ?_|intro _)
   exact qE ⟨Hp.le_refl _,rfl,⟨by dsimp only;omega,by dsimp only;decide⟩,a3,n3,c3,h3,rfl⟩
theorem rckpt2_spec (ρ:Hp)(tb br cb:Nat)(v:RV)(r:Rc)(s:Yc){a n c ra rn rc Rs}(h:RdAt ρ a n c ra rn rc Rs s) :
  Spec Tryz.prog 256 [.pointer (some ⟨cb,0,none⟩)] ρ (cbC cb tb::rdL tb br a n c ra rn rc v r s)
   (fun z ρ' L'=>ρ.le ρ'∧z=.agg ⟨Xq (ckPD s).1⟩∧True∧∃a' n' c',RdAt ρ' a' n' c' ra rn rc Rs (ckPD s).2∧L'=cbC cb tb::rdL tb br a' n' c' ra rn rc v r (ckPD s).2):=by
 have h8:=n8_spec ρ br h
 have hlt:=Wn 1 s
 unfold ckPD
 rw[show rdL tb br a n c ra rn rc v r s=[reC tb br ra rn rc v r (ZC 1 s).2.2.2,rdC br a n c s.2.1] from rfl]
 generalize ZC 1 s=p at *
 obtain⟨x1,s1⟩:=p
 dsimp only at h8 hlt ⊢
 unfold ckPr
 have k64:=fun ρ a n c (h:RdAt ρ a n c ra rn rc Rs s1)=>n64_spec ρ br h
 have hlt3:=Wn 8 s1
 rw[show s1.2.2=(ZC 8 s1).2.2.2 from rfl]
 generalize ZC 8 s1=p3 at *
 obtain⟨x4,s4⟩:=p3
 dsimp only at k64 hlt3 ⊢
 refine Zb Tryz.func256 rfl rfl rfl fun u R=>?_
 simp only[Zd,kA]
 repeat' (first|(refine Za (.func 178) ?_;refine qC rfl rfl (h8) ?_;rintro v ρ' L' hle ⟨rfl,rfl,a1,n1,c1,h1,rfl⟩<;>(try simp only[kA]))|(refine Za (.func 179) ?_;refine qC rfl rfl (k64 _ _ _ _ h1) ?_;rintro v ρ' L' hle ⟨rfl,rfl,a4,n4,c4,h4,rfl⟩<;>(try simp only[kA]))|refine zV ?_|intro _)
 exact qE ⟨Hp.le_refl _,rfl,trivial,a4,n4,c4,h4,rfl⟩
theorem rckpt1_spec (ρ:Hp)(tb br cb:Nat)(v:RV)(r:Rc)(s:Yc){a n c ra rn rc Rs}(h:RdAt ρ a n c ra rn rc Rs s) :
  Spec Tryz.prog 254 [.pointer (some ⟨cb,0,none⟩)] ρ (cbC cb tb::rdL tb br a n c ra rn rc v r s)
   (fun z ρ' L'=>ρ.le ρ'∧z=.agg ⟨YM (ckTD s).1⟩∧True∧∃a' n' c',RdAt ρ' a' n' c' ra rn rc Rs (ckTD s).2∧L'=cbC cb tb::rdL tb br a' n' c' ra rn rc v r (ckTD s).2):=by
 have h8:=n32_spec ρ br h
 have hlt:=Wn 4 s
 unfold ckTD
 rw[show rdL tb br a n c ra rn rc v r s=[reC tb br ra rn rc v r (ZC 4 s).2.2.2,rdC br a n c s.2.1] from rfl]
 generalize ZC 4 s=p at *
 obtain⟨x1,s1⟩:=p
 dsimp only at h8 hlt ⊢
 unfold ckTf
 have k1:=fun ρ a n c (h:RdAt ρ a n c ra rn rc Rs s1)=>n64_spec ρ br h
 have hlt1:=Wn 8 s1
 rw[show s1.2.2=(ZC 8 s1).2.2.2 from rfl]
 generalize ZC 8 s1=p1 at *
 obtain⟨x2,s2⟩:=p1
 dsimp only at k1 hlt1 ⊢
 unfold ckTl
 have k2:=fun ρ a n c (h:RdAt ρ a n c ra rn rc Rs s2)=>n64_spec ρ br h
 have hlt2:=Wn 8 s2
 rw[show s2.2.2=(ZC 8 s2).2.2.2 from rfl]
 generalize ZC 8 s2=p2 at *
 obtain⟨x3,s3⟩:=p2
 dsimp only at k2 hlt2 ⊢
 unfold ckTu
 have k3:=fun ρ a n c (h:RdAt ρ a n c ra rn rc Rs s3)=>n64_spec ρ br h
 have hlt3:=Wn 8 s3
 rw[show s3.2.2=(ZC 8 s3).2.2.2 from rfl]
 generalize ZC 8 s3=p3 at *
 obtain⟨x4,s4⟩:=p3
 dsimp only at k3 hlt3 ⊢
 unfold ckTe
 have k4:=fun ρ a n c (h:RdAt ρ a n c ra rn rc Rs s4)=>n8_spec ρ br h
 have hlt4:=Wn 1 s4
 rw[show s4.2.2=(ZC 1 s4).2.2.2 from rfl]
 generalize ZC 1 s4=p4 at *
 obtain⟨x5,s5⟩:=p4
 dsimp only at k4 hlt4 ⊢
 refine Zb Tryz.func254 rfl rfl rfl fun u R=>?_
 simp only[Zd,kA]
 repeat' (first|(refine Za (.func 180) ?_;refine qC rfl rfl (h8) ?_;rintro v ρ' L' hle ⟨rfl,rfl,a1,n1,c1,h1,rfl⟩<;>(try simp only[kA]))|refine zV ?_|intro _)
 refine tpA [0,1,2,3,5,6,7,8,10,11,12,13] (.e 4 [15] (.e 9 [] (.e 14 [] (.e 16 [17] (.e 18 [19] (.e 20 [] .o)))))) ([[(_,.cells ⟨[.pointer (some ⟨tb,0,none⟩)]⟩ 284 (0,0))],[(tb,_)]]) ?_
 repeat' (refine iT ?_;first|refine rA ?_|((refine iE ?_;refine rE ?_)<;>((try refine Zn ?_);(first|(refine Za (.func 179) ?_;refine qC rfl rfl (k1 _ _ _ _ h1) ?_;rintro v ρ' L' hle ⟨rfl,rfl,a2,n2,c2,g2,rfl⟩<;>(try simp only[kA]))|(refine Za (.func 179) ?_;refine qC rfl rfl (k2 _ _ _ _ g2) ?_;rintro v ρ' L' hle ⟨rfl,rfl,a3,n3,c3,g3,rfl⟩<;>(try simp only[kA]))|(refine Za (.func 179) ?_;refine qC rfl rfl (k3 _ _ _ _ g3) ?_;rintro v ρ' L' hle ⟨rfl,rfl,a4,n4,c4,g4,rfl⟩<;>(try simp only[kA]))|(refine Yj ?_;try intro _))<;>((try simp only[kA]);refine Zj ?_;refine rN ?_))))
 all_goals (repeat' (first|(refine Za (.func 178) ?_;refine qC rfl rfl (k4 _ _ _ _ g4) ?_;rintro v ρ' L' hle ⟨rfl,rfl,a5,n5,c5,g5,rfl⟩<;>(try simp only[kA]))|refine zV ?_|intro _))
 all_goals exact qE ⟨Hp.le_refl _,rfl,trivial,a5,n5,c5,g5,rfl⟩
end Go.Proofs.E
