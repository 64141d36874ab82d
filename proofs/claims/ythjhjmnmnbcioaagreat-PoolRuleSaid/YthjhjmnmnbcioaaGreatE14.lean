/- Laws of PoolRule. Part 14 of 26. -/
import Derived.Test.YthjhjmnmnbcioaaGreatE13
set_option linter.unusedVariables false
set_option linter.unusedSimpArgs false
set_option linter.unusedSectionVars false
namespace Go.Proofs.E
open Go Tryz
set_option maxRecDepth 4000
set_option maxHeartbeats 1000000
attribute [local irreducible] Yl TL TC TE Spec YW R1 Hp.le EnvLe TS TR YS Zv TP QP
def Vo (lsn:Nat)(txn:Nat):Rc:=⟨1,lsn,txn,0,0,[],[],0,[],[]⟩
abbrev Vt (lsn txn:Nat):RR:=(zRR.1,Vo lsn txn)
theorem begR_in {ρ:Hp}(lsn txn:Nat):RcIn ρ zRR.1 (Vo lsn txn):=⟨AS.nil,by simp[Vo],AS.nil,AS.nil,AS.nil,by simp[Vo]⟩
theorem begR_ok {lsn txn:Nat}(h1:1<=lsn)(h2:lsn<=1099511627776)(h3:1<=txn)(h4:txn<=1073741824):Xh (Vo lsn txn)=true:=by
 unfold Xh Vo headOk askOk bareOk
 simp only[aE,decide_eq_true_eq]
 refine⟨by omega,⟨by omega,by omega,by omega,by omega,by omega,by simp;omega,by simp⟩,by simp,by simp⟩
theorem begR_len (lsn txn:Nat):(YG (Vo lsn txn)).length=21:=by simp[YG,recHB,recTB,Vo,Zh]
theorem begR_cost {lsn txn:Nat}(h:Xh (Vo lsn txn)=true):costN (Vo lsn txn)=1:=by
 rw[costN_ok h,begR_len];rfl
theorem LgIn.at {ρ S v sp}(h:LgIn ρ S v sp)(R:RgS)(f:Nat):LgIn ρ (S.at R f) v sp:=⟨h.own,h.rin,h.ok,h.used,h.base⟩
abbrev Yq (s m:Nat):List RR:=(List.range' s m).map (λ i=>Vt i 1)
theorem begL_len (s m:Nat):(Yq s m).length=m:=by simp[Yq]
theorem begL_snoc (m:Nat):Yq 1 m++[Vt (m+1) 1]=Yq 1 (m+1):=by
 unfold Yq
 rw[List.range'_1_concat,List.map_append]
 simp[Nat.add_comm]
theorem begL_mem {s m:Nat}{x:RR}(h:x∈Yq s m):∃i,s<=i/\i<s+m/\x=Vt i 1:=by
 obtain⟨i,hi,rfl⟩:=List.mem_map.1 h
 rw[List.mem_range'_1] at hi
 exact⟨i,hi.1,hi.2,rfl⟩
theorem begL_used (s m:Nat)(h1:1<=s)(h2:s+m<=1000):XB (Yq s m)=m:=by
 induction m generalizing s with
 | zero=>rfl
 | succ m ih=>
  have e:Yq s (m+1)=Vt s 1::Yq (s+1) m:=by simp[Yq,List.range'_succ]
  rw[e]
  have:=ih (s+1) (by omega) (by omega)
  have hc:=begR_cost (lsn:=s) (txn:=1) (begR_ok h1 (by omega) (by omega) (by omega))
  simp only[XB,List.map_cons,List.sum_cons] at this ⊢
  rw[this,hc];omega
def pS (R:RgS)(fl m:Nat):LgS:=⟨R,1,fl,0,1,Yq 1 m⟩
theorem pS_next (R:RgS)(fl m:Nat):(pS R fl m).next=m+1:=by simp[pS,LgS.next];omega
theorem pS_more (R:RgS)(fl m:Nat):(pS R fl m).more (Vt (m+1) 1)=pS R fl (m+1):=by
 unfold LgS.more pS;rw[begL_snoc]
theorem pS_app (R:RgS)(fl m:Nat)(hm:m<300):appE (pS R fl m) (Vo (m+1) 1) 0=0:=by
 have hok:=begR_ok (lsn:=m+1) (txn:=1) (by omega) (by omega) (by omega) (by omega)
 have hu:XB (pS R fl m).recs=m:=begL_used 1 m (by omega) (by omega)
 unfold appE
 rw[hok,if_neg (by simp),begR_cost hok,hu,pS_next,if_neg (by simp[Vo]),if_neg (by omega)]
theorem filter_beg:∀(m s lsn:Nat),(Yq s m).filter (λ x=>decide (lsn<=x.2.lsn))=Yq (max s lsn) (s+m-max s lsn)
 | 0,s,lsn=>by simp[Yq,show s-max s lsn=0 by omega]
 | m+1,s,lsn=>by
  have e:Yq s (m+1)=Vt s 1::Yq (s+1) m:=by simp[Yq,List.range'_succ]
  rw[e,List.filter_cons,filter_beg m (s+1) lsn]
  by_cases h:lsn<=s
  ·rw[if_pos (show decide (lsn<=(Vt s 1).2.lsn)=true from decide_eq_true h)]
   rw[show max (s+1) lsn=s+1 by omega,show max s lsn=s by omega,show s+(m+1)-s=m+1 by omega,show s+1+m-(s+1)=m by omega]
   simp[Yq,List.range'_succ]
  ·rw[if_neg (show ¬decide (lsn<=(Vt s 1).2.lsn)=true from λ e=>h (of_decide_eq_true e)),show max (s+1) lsn=max s lsn by omega,show s+1+m=s+(m+1) by omega]
theorem pS_rec (R:RgS)(fl m lsn:Nat):(recF (pS R fl m) lsn).isSome=decide (1<=lsn/\lsn<=m):=by
 unfold recF fromL pS
 rw[filter_beg]
 cases hk:1+m-max 1 lsn with
 | zero=>
  rw[decide_eq_false (by omega)];rfl
 | succ k=>
  have e:Yq (max 1 lsn) (k+1)=Vt (max 1 lsn) 1::Yq (max 1 lsn+1) k:=by simp[Yq,List.range'_succ]
  rw[e]
  show (if max 1 lsn=lsn then some (Vt (max 1 lsn) 1) else none).isSome=_
  by_cases h:1<=lsn
  ·rw[if_pos (by omega),decide_eq_true ⟨h,by omega⟩];rfl
  ·rw[if_neg (by omega),decide_eq_false (by omega)];rfl
theorem upTo_beg:∀(m s to:Nat),upTo to (Yq s m)=Yq s (min m (to+1-s))
 | 0,s,to=>by simp[Yq]
 | m+1,s,to=>by
  have e:Yq s (m+1)=Vt s 1::Yq (s+1) m:=by simp[Yq,List.range'_succ]
  have ih:=upTo_beg m (s+1) to
  unfold upTo at ih ⊢
  rw[e,List.takeWhile_cons]
  by_cases h:s<=to
  ·rw[if_pos (show decide ((Vt s 1).2.lsn<=to)=true from decide_eq_true h),ih,show min (m+1) (to+1-s)=min m (to+1-(s+1))+1 by omega]
   simp[Yq,List.range'_succ]
  ·rw[if_neg (show ¬decide ((Vt s 1).2.lsn<=to)=true from λ e=>h (of_decide_eq_true e)),show min (m+1) (to+1-s)=0 by omega];rfl
theorem lastF_beg:∀(m s f:Nat),lastF f (Yq s m)=if m=0 then f else s+m-1
 | 0,s,f=>rfl
 | m+1,s,f=>by
  have e:Yq s (m+1)=Vt s 1::Yq (s+1) m:=by simp[Yq,List.range'_succ]
  rw[e]
  show lastF s (Yq (s+1) m)=_
  rw[lastF_beg m (s+1) s]
  split
  ·rename_i h;subst h;simp
  ·rw[if_neg (by omega)];omega
structure StoK (R:RgS)(fl m:Nat)(D:DS)(t:Nat)(held:Nat->ZS):Prop where
 good:Good R D
 fo:FO D 902 t held
 head:R.h=ZI 450
 used:R.used=fl
 ents:R.ents.length=fl
 le:fl<=m
 few:m<=300
theorem StoK.flush {R:RgS}{fl m:Nat}{D:DS}{t:Nat}{held:Nat->ZS}(h:StoK R fl m D t held){to:Nat}(h1:fl<to)(h2:to<=m) :
  ∃R' D',(pS R fl m).flush to D=(pS R' to m,D',0)/\StoK R' to m D' t held/\D'.Calm:=by
 have hle:=h.le
 have hfw:=h.few
 have hu:=h.used
 have hsz:R.h.size=450:=by rw[h.head];rfl
 have hf1:R.h.first=1:=by rw[h.head];rfl
 have hfr:fromL (pS R fl m) (fl+1)=Yq (fl+1) (m-fl):=by
  unfold fromL pS
  rw[filter_beg,show max 1 (fl+1)=fl+1 by omega,show 1+m-(fl+1)=m-fl by omega]
 obtain⟨R',D',e,g',q1,q2,q3,q4,q5⟩:=flushL_good to (Yq (fl+1) (m-fl)) R D fl h.good (λ x hx=>by
  obtain⟨i,h3,h4,rfl⟩:=begL_mem hx
  exact begR_ok (by omega) (by omega) (by omega) (by omega)) (by rw[begL_used _ _ (by omega) (by omega)];omega) (by rw[begL_len];unfold RgS.next;rw[hf1,h.ents];omega)
 have hup:upTo to (Yq (fl+1) (m-fl))=Yq (fl+1) (to-fl):=by rw[upTo_beg,show min (m-fl) (to+1-(fl+1))=to-fl by omega]
 rw[hup] at e q2 q3
 rw[lastF_beg,if_neg (by omega),show fl+1+(to-fl)-1=to by omega] at e
 rw[begL_used _ _ (by omega) (by omega)] at q3
 refine⟨R',D', ?_,⟨g',h.fo.frame g'.ro.dok g'.ro.alive g'.ro.empty q4 (λ i h3 h4=>q5 i (by omega)),by rw[q1,h.head],by omega,by rw[q2,aL,List.length_map,begL_len,h.ents];omega,h2,hfw⟩,g'.calm⟩
 unfold LgS.flush
 rw[pS_next,if_neg (by omega),show (pS R fl m).fl=fl from rfl,hfr,show (pS R fl m).R=R from rfl,e]
 rfl
theorem StoK.write {R:RgS}{fl m:Nat}{D:DS}{t:Nat}{held:Nat->ZS}(h:StoK R fl m D t held){num lsn:Nat}{c:ZO}(hn:num<64)(hc:Fit c)(hl:lsn<M64)(ht:t+1<M64) :
  ∃D',YN D 902 num lsn c=(D',0)/\StoK R fl m D' (t+1) (upd held num (c,lsn)):=by
 obtain⟨w0,w1,w2,w3,w4⟩:=writeF_frame (lsn:=lsn) (c:=c) h.fo h.good.calm hn ht
 have hw:=h.fo.write hn hc hl ht
 have hsz:R.h.size=450:=by rw[h.head];rfl
 exact⟨_,Prod.ext rfl w0,h.good.frame hw.2.2 w1 w2 w3 (λ i hi=>w4 i (by omega)),hw.1 w0,h.head,h.used,h.ents,h.le,h.few⟩
theorem StoK.lv {R:RgS}{fl m:Nat}{D D':DS}{t:Nat}{held:Nat->ZS}(h:StoK R fl m D t held)(hl:Lv D D')(hf:FO D' 902 t held):StoK R fl m D' t held:=
 ⟨h.good.frame hf.dok (hl.calm h.good.calm) hf.empty (by rw[hl.secs]) (λ i _=>by rw[Xf hl.secs]),hf,h.head,h.used,h.ents,h.le,h.few⟩
theorem StoK.more {R:RgS}{fl m:Nat}{D:DS}{t:Nat}{held:Nat->ZS}(h:StoK R fl m D t held)(hm:m<300):StoK R fl (m+1) D t held:=
 ⟨h.good,h.fo,h.head,h.used,h.ents,by have:=h.le;omega,by omega⟩
theorem StoK.steal {R:RgS}{fl m:Nat}{D:DS}{t:Nat}{held:Nat->ZS}(h:StoK R fl m D t held){num:Nat}{g:Pg}(hn:num<64)(hc:Fit g.c)(hl:g.lsn<=m)(ht:t+1<M64) :
  ∃R' D',YU (pS R fl m) D 902 num g=(pS R' (max fl g.lsn) m,D',0)/\StoK R' (max fl g.lsn) m D' (t+1) (upd held num (g.c,g.lsn)):=by
 have hfw:=h.few
 unfold YU stealF
 by_cases hlt:fl<g.lsn
 ·obtain⟨R1,D1,e1,k1,_⟩:=h.flush hlt hl
  obtain⟨D2,e2,k2⟩:=k1.write (num:=num) (lsn:=g.lsn) (c:=g.c) hn hc (by unfold M64;omega) ht
  rw[show (pS R fl m).fl=fl from rfl,if_pos hlt,e1]
  dsimp only
  rw[if_neg (by simp),e2,show max fl g.lsn=g.lsn by omega]
  exact⟨R1,D2,rfl,k2⟩
 ·obtain⟨D2,e2,k2⟩:=h.write (num:=num) (lsn:=g.lsn) (c:=g.c) hn hc (by unfold M64;omega) ht
  rw[show (pS R fl m).fl=fl from rfl,if_neg hlt]
  dsimp only
  rw[if_neg (by simp),e2,show max fl g.lsn=fl by omega]
  exact⟨R,D2,rfl,k2⟩
theorem cntm1:cnt (-1)=-1:=by decide
theorem lays_arm:∀(l:List (Nat×Blk)) (D:DS),Lv1 D->(∀p∈l,p.1<D.secs.length) ->
  ((DS.lays l D).2=0/\Lv1 (DS.lays l D).1/\(D.armed=-1->(DS.lays l D).1.armed=-1)/\(DS.lays l D).1.secs=settled (λ _=>true) (YD D.secs l)) \/
  ((DS.lays l D).2≠0/\(DS.lays l D).1.dead=true/\D.armed≠-1/\∃l',l' <+: l/\(DS.lays l D).1.secs=YD D.secs l')
 | [],D,h,_=>by
  obtain⟨s,o,a,f,d⟩:=D
  obtain⟨_,_,h3,h4⟩:=h
  dsimp only at h3 h4
  subst h3;subst h4
  simp only[DS.lays,DS.sync,DS.tick,aB,if_false,cntm1]
  by_cases ha:a=0
  ·rw[if_pos ha]
   exact .inr ⟨by simp,rfl,by omega,[],List.prefix_refl _,rfl⟩
  ·rw[if_neg ha,if_neg (by decide)]
   exact .inl ⟨rfl,⟨rfl,rfl,rfl,rfl⟩,λ e=>by dsimp only at e ⊢;rw[e];decide,rfl⟩
 | p::r,D,h,hl=>by
  have hp:=hl p (by simp)
  obtain⟨s,o,a,f,d⟩:=D
  obtain⟨_,_,h3,h4⟩:=h
  dsimp only at h3 h4 hp
  subst h3;subst h4
  have hlt:¬((p.1:Int)<0\/(s.length:Int)<=p.1):=by omega
  by_cases ha:a=0
  ·have hw:DS.write ⟨s,o,a,-1,false⟩ p.1 p.2=({ DS.tick ⟨s,o,a,-1,false⟩ with dead:=true,secs:=putC s p.1 p.2 },9):=by
    unfold DS.write
    rw[if_neg (by simp),if_neg hlt,if_pos ha];rfl
   unfold DS.lays
   rw[hw,if_neg (by simp)]
   exact .inr ⟨by simp,rfl,by dsimp only;omega,[p],⟨r,rfl⟩,rfl⟩
  ·have hw:DS.write ⟨s,o,a,-1,false⟩ p.1 p.2=(⟨putC s p.1 p.2,IntKind.i64.wrap (o+1),cnt a,-1,false⟩,0):=by
    unfold DS.write
    rw[if_neg (by simp),if_neg hlt,if_neg ha,if_neg (show ¬((-1:Int)=0) by decide)]
    simp only[DS.tick,cntm1];rfl
   unfold DS.lays
   rw[hw,if_pos rfl]
   have ih:=lays_arm r ⟨putC s p.1 p.2,IntKind.i64.wrap (o+1),cnt a,-1,false⟩ ⟨rfl,rfl,rfl,rfl⟩ (λ q hq=>by simp only[Xq];exact hl q (by simp[hq]))
   rcases ih with⟨h1,h2,h3,h4⟩|⟨h1,h2,h3,l',⟨t,ht⟩,h4⟩
   ·exact .inl ⟨h1,h2,λ e=>h3 (by dsimp only at e ⊢;rw[e];decide),h4⟩
   ·exact .inr ⟨h1,h2,λ e=>h3 (by dsimp only at e ⊢;rw[e];decide),p::l',⟨t,by rw[<-ht];rfl⟩,h4⟩
abbrev begE (f:Nat):List Bs:=(Yq 1 f).map (λ x=>YG x.2)
def Cr (D:DS)(m:Nat):Prop:=∀keep,∃R f t held,RO R (D.crash keep)/\R.h=ZI 450/\R.ents=begE f/\R.used=f/\f<=min m 300/\FO (D.crash keep) 902 t held/\∀n,n<64->(held n).2<=f
structure StoA (R:RgS)(fl m:Nat)(D:DS)(t:Nat)(held:Nat->ZS):Prop where
 ro:RO R D
 frs:Frs R D
 lv:Lv1 D
 fo:FO D 902 t held
 head:R.h=ZI 450
 used:R.used=fl
 ents:R.ents=begE fl
 le:fl<=m
 few:m<=300
 low:∀n,n<64->(held n).2<=fl
theorem StoA.cr {R:RgS}{fl m:Nat}{D:DS}{t:Nat}{held:Nat->ZS}(h:StoA R fl m D t held):Cr D m:=λ keep=>⟨R,fl,t,held,h.ro.crash keep,h.head,h.ents,h.used,by have:=h.le;have:=h.few;omega,h.fo.crash keep,h.low⟩
theorem Cr.mono {D:DS}{m m':Nat}(h:Cr D m)(hm:m<=m'):Cr D m':=λ keep=>by
 obtain⟨R,f,t,held,h1,h2,h3,h4,h5,h6⟩:=h keep
 exact⟨R,f,t,held,h1,h2,h3,h4,by omega,h6⟩
theorem StoA.lv' {R:RgS}{fl m:Nat}{D D':DS}{t:Nat}{held:Nat->ZS}(h:StoA R fl m D t held)(hl:Lv D D')(hf:FO D' 902 t held):StoA R fl m D' t held:=
 ⟨h.ro.frame hf.dok hf.alive hf.empty (by rw[hl.secs]) (λ i _=>by rw[Xf hl.secs]),λ q hq=>by rw[Xf hl.secs];exact h.frs q hq,hl.next,hf,h.head,h.used,h.ents,h.le,h.few,h.low⟩
theorem begE_next (f:Nat):begE f++[YG (Vt (f+1) 1).2]=begE (f+1):=by
 unfold begE;rw[<-begL_snoc,List.map_append];rfl
theorem StoA.append {R:RgS}{fl m:Nat}{D:DS}{t:Nat}{held:Nat->ZS}(h:StoA R fl m D t held)(hm:fl<m) :
  ((R.append (YG (Vt (fl+1) 1).2) D).2.2=0/\(R.append (YG (Vt (fl+1) 1).2) D).1=R.plus (YG (Vt (fl+1) 1).2)/\StoA (R.append (YG (Vt (fl+1) 1).2) D).1 (fl+1) m (R.append (YG (Vt (fl+1) 1).2) D).2.1 t held/\(D.armed=-1->(R.append (YG (Vt (fl+1) 1).2) D).2.1.armed=-1)) \/
  ((R.append (YG (Vt (fl+1) 1).2) D).2.2≠0/\(R.append (YG (Vt (fl+1) 1).2) D).2.1.dead=true/\D.armed≠-1/\Cr (R.append (YG (Vt (fl+1) 1).2) D).2.1 m):=by
 have hfw:=h.few
 have hok:=begR_ok (lsn:=fl+1) (txn:=1) (by omega) (by omega) (by omega) (by omega)
 have hcost:=begR_cost hok
 rw[costN_ok hok] at hcost
 have hlen:=recB_le (Vi hok)
 have hsz:R.h.size=450:=by rw[h.head];rfl
 have hf1:R.h.first=1:=by rw[h.head];rfl
 have hel:R.ents.length=fl:=by rw[h.ents,List.length_map,begL_len]
 have hnx:R.next=fl+1:=by unfold RgS.next;rw[hf1,hel];omega
 have hu:=h.used
 have hbe:=begE_next fl
 have hbr:(Vt (fl+1) 1).2=Vo (fl+1) 1:=rfl
 rw[hbr] at hbe ⊢
 have hap:=h.ro.append h.frs (b:=YG (Vo (fl+1) 1)) (by omega) (by omega) (by omega)
 have hidx:∀p∈ZU R.h R.next (YG (Vo (fl+1) 1)) (R.h.place+R.used),p.1<452:=λ p hp=>by
  obtain⟨k,hk,rfl⟩:=WW.1 hp
  have:=Nat.mod_lt (R.h.place+R.used+k) (show 0<R.h.size by omega)
  dsimp only;omega
 have hsl:=h.fo.len
 have harm:=lays_arm (ZU R.h R.next (YG (Vo (fl+1) 1)) (R.h.place+R.used)) D h.lv (λ p hp=>by have:=hidx p hp;omega)
 have hdok:(DS.lays (ZU R.h R.next (YG (Vo (fl+1) 1)) (R.h.place+R.used)) D).1.Ok:=h.ro.dok.lays partsL_len
 have e:R.append (YG (Vo (fl+1) 1)) D=if (DS.lays (ZU R.h R.next (YG (Vo (fl+1) 1)) (R.h.place+R.used)) D).2=0 then (R.plus (YG (Vo (fl+1) 1)),DS.lays (ZU R.h R.next (YG (Vo (fl+1) 1)) (R.h.place+R.used)) D) else ({ R with broken:=true },DS.lays (ZU R.h R.next (YG (Vo (fl+1) 1)) (R.h.place+R.used)) D):=by
  unfold RgS.append
  rw[h.ro.live,if_neg (by simp),if_neg (by omega),if_neg (by omega)];rfl
 rw[e]
 generalize ZU R.h R.next (YG (Vo (fl+1) 1)) (R.h.place+R.used)=l at *
 generalize hr:DS.lays l D=r at *
 have hfr:∀{D':DS} {keep:Nat->Bool} {l':List (Nat×Blk)},l' <+: l->D'.secs=settled keep (YD D.secs l')->D'.Ok->D'.dead=false->FO D' 902 t held:=λ {D' keep l'} hl' hs hok hd=>
  h.fo.frame hok hd (by rw[hs];exact ZK) (by rw[hs,ZL,Yn]) (λ i h1 h2=>by
   rcases YJ h.fo.empty hs D rfl i with e|⟨p,hp,h3,_⟩
   ·exact e
   ·have:=hidx p (hl'.subset hp);omega)
 rcases harm with⟨h1,h2,h3,h4⟩|⟨h1,h2,h3,l',h4,h5⟩
 ·rw[if_pos h1]
  obtain⟨g1,g2⟩:=hap.1 h1
  refine .inl ⟨h1,rfl,⟨g1,g2,h2,hfr (List.prefix_refl _) h4 hdok h2.dead,h.head, ?_, ?_,hm,hfw,λ n hn=>Nat.le_succ_of_le (h.low n hn)⟩,h3⟩
  ·show R.used+Zs (YG (Vo (fl+1) 1)).length=fl+1
   omega
  ·show R.ents++[YG (Vo (fl+1) 1)]=_
   rw[h.ents,hbe]
 ·rw[if_neg h1]
  refine .inr ⟨h1,h2,h3,λ keep=>?_⟩
  have hfo:=hfr (D':=r.1.crash keep) (keep:=keep) h4 (by simp only[DS.crash];rw[h5]) hdok.crash rfl
  rcases hap.2 h1 keep with g|g
  ·exact⟨R,fl,t,held,g,h.head,h.ents,h.used,by have:=h.le;omega,hfo,h.low⟩
  ·refine⟨_,fl+1,t,held,g,h.head, ?_, ?_,by omega,hfo,λ n hn=>Nat.le_succ_of_le (h.low n hn)⟩
   ·show R.ents++[YG (Vo (fl+1) 1)]=_
    rw[h.ents,hbe]
   ·show R.used+Zs (YG (Vo (fl+1) 1)).length=fl+1
    omega
theorem pS_at (R R':RgS)(fl f m:Nat):(pS R fl m).at R' f=pS R' f m:=rfl
theorem flushL_A {m t to:Nat}{held:Nat->ZS}:∀(k fl:Nat) (R:RgS) (D:DS),StoA R fl m D t held->m=fl+k->to<=m ->
  ((XF to (Yq (fl+1) k) R D fl).2.2.2=0/\(XF to (Yq (fl+1) k) R D fl).2.2.1=max fl to/\StoA (XF to (Yq (fl+1) k) R D fl).1 (max fl to) m (XF to (Yq (fl+1) k) R D fl).2.1 t held/\(D.armed=-1->(XF to (Yq (fl+1) k) R D fl).2.1.armed=-1)) \/
  ((XF to (Yq (fl+1) k) R D fl).2.2.2≠0/\(XF to (Yq (fl+1) k) R D fl).2.1.dead=true/\D.armed≠-1/\Cr (XF to (Yq (fl+1) k) R D fl).2.1 m)
 | 0,fl,R,D,h,hm,hto=>by
  have e:max fl to=fl:=by omega
  rw[e]
  exact .inl ⟨rfl,rfl,h,id⟩
 | k+1,fl,R,D,h,hm,hto=>by
  have e:Yq (fl+1) (k+1)=Vt (fl+1) 1::Yq (fl+1+1) k:=by simp[Yq,List.range'_succ]
  rw[e,XF]
  by_cases hlt:to<fl+1
  ·rw[if_pos (show to<(Vt (fl+1) 1).2.lsn from hlt)]
   have e:max fl to=fl:=by omega
   rw[e]
   exact .inl ⟨rfl,rfl,h,id⟩
  ·rw[if_neg (show ¬to<(Vt (fl+1) 1).2.lsn from hlt)]
   rcases h.append (show fl<m by omega) with⟨h1,h2,h3,h4⟩|⟨h1,h2,h3,h4⟩
   ·rw[if_pos h1]
    have ih:=flushL_A (to:=to) k (fl+1) _ _ h3 (by omega) hto
    have e:max (fl+1) to=max fl to:=by omega
    rw[e] at ih
    rcases ih with⟨g1,g2,g3,g4⟩|⟨g1,g2,g3,g4⟩
    ·exact .inl ⟨g1,g2,g3,λ a=>g4 (h4 a)⟩
    ·exact .inr ⟨g1,g2,λ a=>g3 (h4 a),g4⟩
   ·rw[if_neg h1]
    exact .inr ⟨h1,h2,h3,h4⟩
theorem StoA.flush {R:RgS}{fl m:Nat}{D:DS}{t:Nat}{held:Nat->ZS}(h:StoA R fl m D t held){to:Nat}(hto:to<=m) :
  (((pS R fl m).flush to D).2.2=0/\(∃R',((pS R fl m).flush to D).1=pS R' (max fl to) m/\StoA R' (max fl to) m ((pS R fl m).flush to D).2.1 t held)/\(D.armed=-1->((pS R fl m).flush to D).2.1.armed=-1)) \/
  (((pS R fl m).flush to D).2.2≠0/\((pS R fl m).flush to D).2.1.dead=true/\D.armed≠-1/\Cr ((pS R fl m).flush to D).2.1 m):=by
 have hle:=h.le
 have hfr:fromL (pS R fl m) (fl+1)=Yq (fl+1) (m-fl):=by
  unfold fromL pS
  rw[filter_beg,show max 1 (fl+1)=fl+1 by omega,show 1+m-(fl+1)=m-fl by omega]
 have hg:=flushL_A (to:=to) (m-fl) fl R D h (by omega) hto
 unfold LgS.flush
 rw[pS_next,if_neg (by omega),show (pS R fl m).fl=fl from rfl,hfr,show (pS R fl m).R=R from rfl]
 dsimp only
 rcases hg with⟨g1,g2,g3,g4⟩|g
 ·rw[g2]
  exact .inl ⟨g1,⟨_,pS_at _ _ _ _ _,g3⟩,g4⟩
 ·exact .inr g
theorem StoA.write {R:RgS}{fl m:Nat}{D:DS}{t:Nat}{held:Nat->ZS}(h:StoA R fl m D t held){num lsn:Nat}{c:ZO}(hn:num<64)(hc:Fit c)(hl:lsn<=fl)(ht:t+1<M64) :
  ((YN D 902 num lsn c).2=0/\StoA R fl m (YN D 902 num lsn c).1 (t+1) (upd held num (c,lsn))/\(D.armed=-1->(YN D 902 num lsn c).1.armed=-1)) \/
  ((YN D 902 num lsn c).2≠0/\(YN D 902 num lsn c).1.dead=true/\D.armed≠-1/\Cr (YN D 902 num lsn c).1 m):=by
 have hfw:=h.few
 have hle:=h.le
 have hlow:=h.low
 have hsz:R.h.size=450:=by rw[h.head];rfl
 obtain⟨w1,w2,w3⟩:=h.fo.write hn hc (show lsn<M64 by unfold M64;omega) ht
 have hln:=h.fo.len
 have hL:902+4*num+4<=D.secs.length:=by omega
 obtain⟨e1,e2⟩:=countsD_lv (base:=902) (num:=num) h.lv hL
 have hv:=Vd h.fo.empty h.fo.alive hL e1
 have hs1:=WG (D:=D) (base:=902) (num:=num)
 obtain⟨m1,m2,_⟩:=csD_most h.fo hn (by omega)
 have hw:YN D 902 num lsn c=DS.lays (Yy (902+4*num+2*(csD D 902 num).other) (Zx num ((csD D 902 num).most+1) lsn c 0) (Zx num ((csD D 902 num).most+1) lsn c 1)) (Zo D 902 num).2.1:=by
  unfold YN
  rw[if_neg (by simp[e1]),hv]
  dsimp only
  rw[if_neg (by unfold M64 at ht;omega)]
 rw[hw] at w1 w2 w3 ⊢
 have hidx:∀p∈Yy (902+4*num+2*(csD D 902 num).other) (Zx num ((csD D 902 num).most+1) lsn c 0) (Zx num ((csD D 902 num).most+1) lsn c 1),902<=p.1/\p.1<902+256:=λ p hp=>by
  simp only[Yy,List.mem_cons,List.not_mem_nil,or_false] at hp
  rcases hp with rfl|rfl<;>dsimp only<;>omega
 have harm:=lays_arm (Yy (902+4*num+2*(csD D 902 num).other) (Zx num ((csD D 902 num).most+1) lsn c 0) (Zx num ((csD D 902 num).most+1) lsn c 1)) (Zo D 902 num).2.1 e2.next (λ p hp=>by rw[hs1];have:=hidx p hp;omega)
 rw[hs1,e2.armed] at harm
 generalize Yy (902+4*num+2*(csD D 902 num).other) (Zx num ((csD D 902 num).most+1) lsn c 0) (Zx num ((csD D 902 num).most+1) lsn c 1)=l at *
 generalize DS.lays l (Zo D 902 num).2.1=r at *
 have him:∀{D':DS} {keep:Nat->Bool} {l':List (Nat×Blk)},l' <+: l->D'.secs=settled keep (YD D.secs l')->D'.Ok->D'.dead=false->RO R D'/\∀i,i<452->img D' i=img D i:=λ {D' keep l'} hl' hs hok hd=>by
  have hi:∀i,i<452->img D' i=img D i:=λ i hi=>by
   rcases YJ h.fo.empty hs D rfl i with e|⟨p,hp,h3,_⟩
   ·exact e
   ·have:=hidx p (hl'.subset hp);omega
  exact⟨h.ro.frame hok hd (by rw[hs];exact ZK) (by rw[hs,ZL,Yn]) (λ i h1=>hi i (by omega)),hi⟩
 have hlow2:∀v:ZS,(v=held num\/v=(c,lsn))->∀n,n<64->(upd held num v n).2<=fl:=λ v hv n hn'=>by
  unfold upd
  split
  ·rcases hv with rfl|rfl
   ·exact hlow num hn
   ·exact hl
  ·exact hlow n hn'
 rcases harm with⟨h1,h2,h3,h4⟩|⟨h1,h2,h3,l',h4,h5⟩
 ·obtain⟨g1,g2⟩:=him (List.prefix_refl _) h4 w3 h2.dead
  exact .inl ⟨h1,⟨g1,λ q hq=>by rw[g2 _ (by omega)];exact h.frs q hq,h2,w1 h1,h.head,h.used,h.ents,h.le,h.few,hlow2 _ (.inr rfl)⟩,h3⟩
 ·refine .inr ⟨h1,h2,h3,λ keep=>?_⟩
  obtain⟨g1,_⟩:=him (D':=r.1.crash keep) (keep:=keep) h4 (by simp only[DS.crash];rw[h5]) w3.crash rfl
  obtain⟨v,hv,hf⟩:=w2 keep
  exact⟨R,fl,t+1,_,g1,h.head,h.ents,h.used,by have:=h.le;have:=h.few;omega,hf,hlow2 v hv⟩
theorem StoA.steal {R:RgS}{fl m:Nat}{D:DS}{t:Nat}{held:Nat->ZS}(h:StoA R fl m D t held){num:Nat}{g:Pg}(hn:num<64)(hc:Fit g.c)(hl:g.lsn<=m)(ht:t+1<M64) :
  ((YU (pS R fl m) D 902 num g).2.2=0/\(∃R',(YU (pS R fl m) D 902 num g).1=pS R' (max fl g.lsn) m/\StoA R' (max fl g.lsn) m (YU (pS R fl m) D 902 num g).2.1 (t+1) (upd held num (g.c,g.lsn)))/\(D.armed=-1->(YU (pS R fl m) D 902 num g).2.1.armed=-1)) \/
  ((YU (pS R fl m) D 902 num g).2.2≠0/\(YU (pS R fl m) D 902 num g).2.1.dead=true/\D.armed≠-1/\Cr (YU (pS R fl m) D 902 num g).2.1 m):=by
 unfold YU stealF
 rw[show (pS R fl m).fl=fl from rfl]
 by_cases hlt:fl<g.lsn
 ·rw[if_pos hlt]
  rcases h.flush hl with⟨h1,⟨R',h2,h3⟩,h4⟩|⟨h1,h2,h3,h4⟩
  ·rw[if_neg (by simp[h1]),h2]
   dsimp only
   rcases h3.write (num:=num) (lsn:=g.lsn) (c:=g.c) hn hc (by omega) ht with⟨k1,k2,k3⟩|⟨k1,k2,k3,k4⟩
   ·exact .inl ⟨k1,⟨R',rfl,k2⟩,λ a=>k3 (h4 a)⟩
   ·exact .inr ⟨k1,k2,λ a=>k3 (h4 a),k4⟩
  ·rw[if_pos h1]
   exact .inr ⟨h1,h2,h3,h4⟩
 ·rw[if_neg hlt]
  dsimp only
  rw[if_neg (by simp),show max fl g.lsn=fl by omega]
  rcases h.write (num:=num) (lsn:=g.lsn) (c:=g.c) hn hc (by omega) ht with⟨k1,k2,k3⟩|⟨k1,k2,k3,k4⟩
  ·exact .inl ⟨k1,⟨R,rfl,k2⟩,k3⟩
  ·exact .inr ⟨k1,k2,k3,k4⟩
abbrev Key:=Int×Nat
structure Bd where
 l:Key
 nx:Option Key
def cmpY (a b:Key):Int:=Vv a.1 a.2 b.1 b.2
def inB (b:Bd)(k:Key):Bool:=decide (0<=cmpY k b.l) && (match b.nx with|none=>true|some e=>decide (cmpY k e<0))
def zKid:Kid:=⟨0,0,0⟩
def kkey (k:Kid):Key:=(k.t,k.id)
def belowB (b:Bd)(ks:List Kid)(i:Nat):Bd:=⟨if 0<i then kkey (ks.getD i zKid) else b.l,if i+1<ks.length then some (kkey (ks.getD (i+1) zKid)) else b.nx⟩
def subB (b:Bd)(ks:List Kid)(i:Nat):Nat×Bd×Bool:=((ks.getD i zKid).page.toNat,belowB b ks i,decide (i=0) || inB b (kkey (ks.getD i zKid)))
def Xm (b:Bd)(ks:List Kid):List (Nat×Bd×Bool):=(List.range ks.length).map (subB b ks)
abbrev Fo:=Nat->ZO
def szC (c:ZO):Nat:=c.rows.length+c.kids.length
def pgBad (F:Fo)(n:Nat)(b:Bd):Bool:=decide ((F n).kind=0) || (decide (n≠0) && decide (szC (F n)<2)) || !((F n).rows.all (λ r=>inB b (r.t,r.id)))
def Vf (f:Nat->Nat->Bd->List Nat×Nat->Option (List Nat×Nat))(d:Nat):List (Nat×Bd×Bool)->List Nat×Nat->Option (List Nat×Nat)
 | [],s=>some s
 | x::l,s=>if x.2.2 then (f x.1 d x.2.1 s).bind (Vf f d l) else none
def Wx (F:Fo):Nat->Nat->Nat->Bd->List Nat×Nat->Option (List Nat×Nat)
 | 0,_,_,_,_=>none
 | f+1,n,d,b,s=>if n∈s.1\/pgBad F n b=true then none else if (F n).kind=1 then (if s.2=0\/s.2=d then some (n::s.1,d) else none) else Vf (Wx F f) (d+1) (Xm b (F n).kids) (n::s.1,s.2)
def XZ (f:Nat->Bd->Option (List Nat×List Nat)):List (Nat×Bd×Bool)->Option (List Nat×List Nat)
 | []=>some ([],[])
 | x::l=>if x.2.2 then (f x.1 x.2.1).bind (λ y=>(XZ f l).map (λ z=>(y.1++z.1,y.2++z.2))) else none
def Wh (F:Fo):Nat->Nat->Bd->Option (List Nat×List Nat)
 | 0,_,_=>none
 | h+1,n,b=>if pgBad F n b=true then none else if (F n).kind=2 then (XZ (Wh F h) (Xm b (F n).kids)).map (λ y=>(n::y.1,y.2.map (·+1))) else some ([n],[0])
def WO (f:Nat->Bd->List Nat):List (Nat×Bd×Bool)->List Nat->List Nat
 | [],out=>out
 | x::l,out=>if x.2.2 then (if f x.1 x.2.1=[] then [] else WO f l (out++f x.1 x.2.1)) else []
def XI (F:Fo):Nat->Nat->Bd->List Nat
 | 0,_,_=>[]
 | h+1,n,b=>if pgBad F n b=true then [] else WO (XI F h) (if (F n).kind=2 then Xm b (F n).kids else []) [n]
def YZ (F:Fo):Nat->Nat->Nat->List Nat
 | 0,_,d=>[d]
 | h+1,n,d=>if (F n).kind=2 then ((F n).kids.map (λ k=>YZ F h k.page.toNat (d+1))).flatten else [d]
theorem kidsH_ne {f:Nat->Bd->Option (List Nat×List Nat)}(hf:∀n b y,f n b=some y->y.2≠[]):∀{l:List (Nat×Bd×Bool)} {y},l≠[]->XZ f l=some y->y.2≠[]
 | [],_,h,_=>absurd rfl h
 | x::l,y,_,h=>by
  unfold XZ at h
  split at h
  ·cases h1:f x.1 x.2.1 with
   | none=>rw[h1] at h;cases h
   | some z=>
    rw[h1] at h
    simp only[Option.bind_some,Option.map_eq_some_iff] at h
    obtain⟨w,_,rfl⟩:=h
    simp[hf _ _ _ h1]
  ·cases h
def FoOk (F:Fo):Prop:=∀n,Zp (F n)=true
theorem FoOk.kinds {F:Fo}(h:FoOk F)(n:Nat):(F n).kind=0\/((F n).kind=1/\(F n).kids=[])\/((F n).kind=2/\(F n).rows=[]/\1<(F n).kids.length):=by
 have:=h n
 unfold Zp at this
 by_cases h0:(F n).kind=0
 ·exact .inl h0
 ·rw[if_neg h0] at this
  by_cases h1:(F n).kind=1
  ·rw[if_pos h1] at this
   simp only[aE,decide_eq_true_eq] at this
   exact .inr (.inl ⟨h1,List.eq_nil_of_length_eq_zero this.1⟩)
  ·rw[if_neg h1] at this
   by_cases h2:(F n).kind=2
   ·rw[if_pos h2] at this
    simp only[aE,decide_eq_true_eq] at this
    exact .inr (.inr ⟨h2,List.eq_nil_of_length_eq_zero this.1,this.2.1⟩)
   ·rw[if_neg h2] at this;cases this
theorem pgBad_kind {F:Fo}{n:Nat}{b:Bd}(h:¬pgBad F n b=true):(F n).kind≠0:=λ e=>h (by unfold pgBad;rw[decide_eq_true e];rfl)
theorem subsB_ne {b:Bd}{ks:List Kid}(h:1<ks.length):Xm b ks≠[]:=λ e=>by
 have:(Xm b ks).length=ks.length:=by simp[Xm]
 rw[e] at this
 simp at this;omega
theorem lookH_ne {F:Fo}(hF:FoOk F):∀(h n:Nat) (b:Bd) y,Wh F h n b=some y->y.2≠[]/\y.1≠[]
 | 0,_,_,_,e=>by cases e
 | h+1,n,b,y,e=>by
  unfold Wh at e
  split at e
  ·cases e
  ·split at e
   ·rename_i hb h2
    simp only[Option.map_eq_some_iff] at e
    obtain⟨w,hw,rfl⟩:=e
    have hk:1<(F n).kids.length:=by
     rcases hF.kinds n with h|h|h
     ·omega
     ·omega
     ·exact h.2.2
    have:=kidsH_ne (λ n b y e=>(lookH_ne hF h n b y e).1) (subsB_ne hk) hw
    exact⟨by simpa using this,by simp⟩
   ·cases e;exact⟨by simp,by simp⟩
theorem kidsR_eq {g:Nat->Bd->Option (List Nat×List Nat)}{f:Nat->Bd->List Nat}(hg:∀n b,f n b=match g n b with|none=>[]|some y=>y.1)(hn:∀n b y,g n b=some y->y.1≠[]) :
  ∀(l:List (Nat×Bd×Bool)) (out:List Nat),WO f l out=match XZ g l with|none=>[]|some y=>out++y.1
 | [],out=>by simp[WO,XZ]
 | x::l,out=>by
  unfold WO XZ
  by_cases hx:x.2.2=true
  ·rw[if_pos hx,if_pos hx,hg]
   cases h1:g x.1 x.2.1 with
   | none=>rfl
   | some y=>
    have hne:=hn _ _ _ h1
    dsimp only
    rw[if_neg hne,kidsR_eq hg hn]
    simp only[Option.bind_some]
    cases XZ g l with
    | none=>rfl
    | some z=>simp
  ·rw[if_neg hx,if_neg hx]
theorem pagesR_eq {F:Fo}(hF:FoOk F):∀(h n:Nat) (b:Bd),XI F h n b=match Wh F h n b with|none=>[]|some y=>y.1
 | 0,_,_=>rfl
 | h+1,n,b=>by
  unfold XI Wh
  by_cases hb:pgBad F n b=true
  ·rw[if_pos hb,if_pos hb]
  ·rw[if_neg hb,if_neg hb]
   by_cases h2:(F n).kind=2
   ·rw[if_pos h2,if_pos h2,kidsR_eq (λ n b=>pagesR_eq hF h n b) (λ n b y e=>(lookH_ne hF h n b y e).2)]
    cases XZ (Wh F h) (Xm b (F n).kids) with
    | none=>rfl
    | some z=>rfl
   ·rw[if_neg h2,if_neg h2];rfl
theorem kidsH_depths {g:Nat->Bd->Option (List Nat×List Nat)}{f:Nat->List Nat}{d:Nat}(hg:∀n b y,g n b=some y->f n=y.2.map (·+(d+1))) :
  ∀(l:List (Nat×Bd×Bool)) {y},XZ g l=some y->(l.map (λ x=>f x.1)).flatten=(y.2.map (·+1)).map (·+d)
 | [],y,h=>by unfold XZ at h;cases h;rfl
 | x::l,y,h=>by
  unfold XZ at h
  split at h
  ·cases h1:g x.1 x.2.1 with
   | none=>rw[h1] at h;cases h
   | some z=>
    rw[h1] at h
    simp only[Option.bind_some,Option.map_eq_some_iff] at h
    obtain⟨w,hw,rfl⟩:=h
    have:=kidsH_depths hg l hw
    rw[List.map_cons,aF,this,hg _ _ _ h1]
    simp[Function.comp_def,Nat.add_comm,Nat.add_left_comm]
  ·cases h
theorem subsB_pages (b:Bd)(ks:List Kid):(Xm b ks).map (λ x=>x.1)=ks.map (λ k=>k.page.toNat):=by
 unfold Xm
 apply List.ext_getElem
 ·simp
 ·intro i h1 h2
  simp only[List.length_map,List.length_range] at h1 h2
  simp[subB,List.getD_eq_getElem?_getD,h2]
theorem depthsR_eq {F:Fo}:∀(h n d:Nat) (b:Bd) y,Wh F h n b=some y->YZ F h n d=y.2.map (·+d)
 | 0,_,_,_,_,e=>by cases e
 | h+1,n,d,b,y,e=>by
  unfold Wh at e
  unfold YZ
  split at e
  ·cases e
  ·split at e
   ·rename_i hb h2
    simp only[Option.map_eq_some_iff] at e
    obtain⟨w,hw,rfl⟩:=e
    rw[if_pos h2]
    have h3:=kidsH_depths (f:=λ n=>YZ F h n (d+1)) (d:=d) (λ n b y e=>depthsR_eq h n (d+1) b y e) _ hw
    have h4:=congrArg (List.map (λ n=>YZ F h n (d+1))) (subsB_pages b (F n).kids)
    rw[List.map_map,List.map_map] at h4
    simp only[Function.comp_def] at h4
    rw[h4] at h3
    exact h3
   ·rename_i hb h2
    cases e
    rw[if_neg h2]
    simp
theorem kidsT_look {f:Nat->Nat->Bd->List Nat×Nat->Option (List Nat×Nat)}{g:Nat->Bd->Option (List Nat×List Nat)}{d:Nat}(hd:1<=d)
  (hf:∀n b s s',f n d b s=some s'->∃y,g n b=some y/\s'.1=y.1.reverse++s.1/\(s.1.Nodup->s'.1.Nodup)/\(∀x∈y.2,d+x=s'.2)/\(s.2=0\/s.2=s'.2)) :
  ∀(l:List (Nat×Bd×Bool)) (s s':List Nat×Nat),Vf f d l s=some s'->∃y,XZ g l=some y/\s'.1=y.1.reverse++s.1/\(s.1.Nodup->s'.1.Nodup)/\(∀x∈y.2,d+x=s'.2)/\(s.2=0\/s.2=s'.2)
 | [],s,s',h=>by
  unfold Vf at h
  cases h
  exact⟨([],[]),rfl,rfl,id,by simp,.inr rfl⟩
 | x::l,s,s',h=>by
  unfold Vf at h
  split at h
  ·rename_i hx
   cases h1:f x.1 d x.2.1 s with
   | none=>rw[h1] at h;cases h
   | some t=>
    rw[h1] at h
    simp only[Option.bind_some] at h
    obtain⟨y,e1,e2,e3,e4,e5⟩:=hf _ _ _ _ h1
    obtain⟨z,k1,k2,k3,k4,k5⟩:=kidsT_look hd hf l t s' h
    refine⟨(y.1++z.1,y.2++z.2), ?_, ?_,λ hn=>k3 (e3 hn), ?_, ?_⟩
    ·unfold XZ;rw[if_pos hx,e1];simp only[Option.bind_some];rw[k1];rfl
    ·rw[k2,e2];simp
    ·intro w hw
     rcases List.mem_append.1 hw with hw|hw
     ·have:=e4 w hw
      omega
     ·exact k4 w hw
    ·omega
  ·cases h
theorem pageT_look {F:Fo}(hF:FoOk F):∀(f n d:Nat) (b:Bd) (s s':List Nat×Nat),1<=d->Wx F f n d b s=some s'->∃y,Wh F f n b=some y/\s'.1=y.1.reverse++s.1/\(s.1.Nodup->s'.1.Nodup)/\(∀x∈y.2,d+x=s'.2)/\(s.2=0\/s.2=s'.2)
 | 0,_,_,_,_,_,_,e=>by cases e
 | f+1,n,d,b,s,s',hd,e=>by
  unfold Wx at e
  unfold Wh
  split at e
  ·cases e
  ·rename_i hb
   have hb1:n ∉ s.1:=λ h=>hb (.inl h)
   have hb2:¬pgBad F n b=true:=λ h=>hb (.inr h)
   rw[if_neg hb2]
   split at e
   ·rename_i h1
    rw[if_neg (by omega)]
    split at e
    ·rename_i h2
     cases e
     exact⟨_,rfl,rfl,λ hn=>List.nodup_cons.2 ⟨hb1,hn⟩,by simp,h2⟩
    ·cases e
   ·rename_i h1
    have h2:(F n).kind=2:=by
     rcases hF.kinds n with h|h|h
     ·exact absurd h (pgBad_kind hb2)
     ·exact absurd h.1 h1
     ·exact h.1
    rw[if_pos h2]
    obtain⟨y,e1,e2,e3,e4,e5⟩:=kidsT_look (g:=Wh F f) (d:=d+1) (by omega) (λ n b s s' e=>pageT_look hF f n (d+1) b s s' (by omega) e) _ _ _ e
    refine⟨(n::y.1,y.2.map (·+1)),by rw[e1];rfl,by rw[e2];simp,λ hn=>e3 (List.nodup_cons.2 ⟨hb1,hn⟩), ?_,e5⟩
    intro x hx
    obtain⟨w,hw,rfl⟩:=List.mem_map.1 hx
    have:=e4 w hw
    omega
theorem kidsT_of {f:Nat->Nat->Bd->List Nat×Nat->Option (List Nat×Nat)}{g:Nat->Bd->Option (List Nat×List Nat)}{d e:Nat}
  (hf:∀n b y s,g n b=some y->(y.1.reverse++s.1).Nodup->(∀x∈y.2,d+x=e)->(s.2=0\/s.2=e)->f n d b s=some (y.1.reverse++s.1,e)) :
  ∀(l:List (Nat×Bd×Bool)) (y:List Nat×List Nat) (s:List Nat×Nat),XZ g l=some y->(y.1.reverse++s.1).Nodup->(∀x∈y.2,d+x=e)->(s.2=e\/s.2=0/\l≠[])->Vf f d l s=some (y.1.reverse++s.1,e)
 | [],y,s,h,_,_,h3=>by
  unfold XZ at h
  cases h
  unfold Vf
  rcases h3 with h3|h3
  ·rw[<-h3];rfl
  ·exact absurd rfl h3.2
 | x::l,y,s,h,hn,hd,h3=>by
  unfold XZ at h
  unfold Vf
  split at h
  ·rename_i hx
   rw[if_pos hx]
   cases h1:g x.1 x.2.1 with
   | none=>rw[h1] at h;cases h
   | some z=>
    rw[h1] at h
    simp only[Option.bind_some,Option.map_eq_some_iff] at h
    obtain⟨w,hw,rfl⟩:=h
    simp only[List.reverse_append,aA] at hn ⊢
    rw[hf _ _ z s h1 (List.nodup_append.1 hn).2.1 (λ q hq=>hd q (by simp[hq])) (by omega)]
    simp only[Option.bind_some]
    exact kidsT_of hf l w (z.1.reverse++s.1,e) hw hn (λ q hq=>hd q (by simp[hq])) (.inl rfl)
  ·cases h
theorem pageT_of {F:Fo}(hF:FoOk F):∀(h n d e:Nat) (b:Bd) (y:List Nat×List Nat) (s:List Nat×Nat),Wh F h n b=some y->(y.1.reverse++s.1).Nodup->(∀x∈y.2,d+x=e)->(s.2=0\/s.2=e)->Wx F h n d b s=some (y.1.reverse++s.1,e)
 | 0,_,_,_,_,_,_,e,_,_,_=>by cases e
 | h+1,n,d,e,b,y,s,hl,hn,hd,h3=>by
  unfold Wh at hl
  unfold Wx
  split at hl
  ·cases hl
  ·rename_i hb
   split at hl
   ·rename_i h2
    simp only[Option.map_eq_some_iff] at hl
    obtain⟨w,hw,rfl⟩:=hl
    have hk:1<(F n).kids.length:=by
     rcases hF.kinds n with h|h|h
     ·omega
     ·omega
     ·exact h.2.2
    simp only[List.reverse_cons,aA,kA] at hn ⊢
    have hnn:=(List.nodup_cons.1 (List.nodup_append.1 hn).2.1).1
    rw[if_neg (by rintro (h|h);exact hnn h;exact hb h),if_neg (by omega)]
    exact kidsT_of (λ n b y s e1 e2 e3 e4=>pageT_of hF h n (d+1) e b y s e1 e2 e3 e4) _ w (n::s.1,s.2) hw hn (λ x hx=>by have:=hd (x+1) (List.mem_map.2 ⟨x,hx,rfl⟩);omega) (by
     rcases h3 with h3|h3
     ·exact .inr ⟨h3,subsB_ne hk⟩
     ·exact .inl h3)
   ·rename_i h2
    cases hl
    have h1:(F n).kind=1:=by
     rcases hF.kinds n with h|h|h
     ·exact absurd h (pgBad_kind hb)
     ·exact h.1
     ·exact absurd h.1 h2
    have he:=hd 0 (by simp)
    simp only[List.reverse_cons,List.reverse_nil,List.nil_append,List.cons_append] at hn ⊢
    have hnn:=(List.nodup_cons.1 hn).1
    rw[if_neg (by rintro (h|h);exact hnn h;exact hb h),if_pos h1,if_pos (by omega)]
    rw[<-he];rfl
theorem kidsH_mono {g g':Nat->Bd->Option (List Nat×List Nat)}(hg:∀n b y,g n b=some y->g' n b=some y):∀(l:List (Nat×Bd×Bool)) (y:List Nat×List Nat),XZ g l=some y->XZ g' l=some y
 | [],y,h=>by unfold XZ at h ⊢;exact h
 | x::l,y,h=>by
  unfold XZ at h ⊢
  split at h
  ·rename_i hx
   rw[if_pos hx]
   cases h1:g x.1 x.2.1 with
   | none=>rw[h1] at h;cases h
   | some z=>
    rw[h1] at h
    simp only[Option.bind_some,Option.map_eq_some_iff] at h
    obtain⟨w,hw,rfl⟩:=h
    rw[hg _ _ _ h1]
    simp only[Option.bind_some]
    rw[kidsH_mono hg l w hw];rfl
  ·cases h
theorem lookH_succ {F:Fo}:∀(h n:Nat) (b:Bd) (y:List Nat×List Nat),Wh F h n b=some y->Wh F (h+1) n b=some y
 | 0,_,_,_,e=>by cases e
 | h+1,n,b,y,e=>by
  rw[Wh] at e ⊢
  split at e
  ·cases e
  ·rename_i hb
   rw[if_neg hb]
   split at e
   ·rename_i h2
    rw[if_pos h2]
    simp only[Option.map_eq_some_iff] at e
    obtain⟨w,hw,rfl⟩:=e
    rw[kidsH_mono (λ n b y e=>lookH_succ h n b y e) _ _ hw];rfl
   ·rename_i h2
    rw[if_neg h2];exact e
theorem lookH_le {F:Fo}{h:Nat}(k:Nat){n:Nat}{b:Bd}{y:List Nat×List Nat}(e:Wh F h n b=some y):Wh F (h+k) n b=some y:=by
 induction k with
 | zero=>exact e
 | succ k ih=>exact lookH_succ _ _ _ _ ih
theorem kidsH_high {g g':Nat->Bd->Option (List Nat×List Nat)}{x m:Nat}(hg:∀n b y,g n b=some y->(∀q∈y.2,q=x)->m<=y.1.length/\g' n b=some y):∀(l:List (Nat×Bd×Bool)) (y:List Nat×List Nat),XZ g l=some y->(∀q∈y.2,q=x)->l.length*m<=y.1.length/\XZ g' l=some y
 | [],y,h,_=>by
  unfold XZ at h ⊢
  exact⟨by simp,h⟩
 | z::l,y,h,hq=>by
  unfold XZ at h ⊢
  split at h
  ·rename_i hx
   rw[if_pos hx]
   cases h1:g z.1 z.2.1 with
   | none=>rw[h1] at h;cases h
   | some v=>
    rw[h1] at h
    simp only[Option.bind_some,Option.map_eq_some_iff] at h
    obtain⟨w,hw,rfl⟩:=h
    obtain⟨e1,e2⟩:=hg _ _ _ h1 (λ q hh=>hq q (by simp[hh]))
    obtain⟨e3,e4⟩:=kidsH_high hg l w hw (λ q hh=>hq q (by simp[hh]))
    rw[e2]
    simp only[Option.bind_some]
    rw[e4]
    refine⟨?_,rfl⟩
    rw[aC,Nat.add_mul,Nat.one_mul,aL];omega
  ·cases h
theorem lookH_high {F:Fo}(hF:FoOk F):∀(h n x:Nat) (b:Bd) (y:List Nat×List Nat),Wh F h n b=some y->(∀q∈y.2,q=x)->2 ^ (x+1)-1<=y.1.length/\Wh F (x+1) n b=some y
 | 0,_,_,_,_,e,_=>by cases e
 | h+1,n,x,b,y,e,hq=>by
  rw[Wh] at e ⊢
  split at e
  ·cases e
  ·rename_i hb
   rw[if_neg hb]
   split at e
   ·rename_i h2
    rw[if_pos h2]
    simp only[Option.map_eq_some_iff] at e
    obtain⟨w,hw,rfl⟩:=e
    have hk:1<(F n).kids.length:=by
     rcases hF.kinds n with h|h|h
     ·omega
     ·omega
     ·exact h.2.2
    have hne:=kidsH_ne (λ n b y e=>(lookH_ne hF h n b y e).1) (subsB_ne (b:=b) hk) hw
    obtain⟨q0,hq0⟩:=List.exists_mem_of_ne_nil _ hne
    have hx:=hq (q0+1) (List.mem_map.2 ⟨q0,hq0,rfl⟩)
    subst hx
    obtain⟨e1,e2⟩:=kidsH_high (g':=Wh F (q0+1)) (x:=q0) (m:=2 ^ (q0+1)-1) (λ n b y e hq=>lookH_high hF h n q0 b y e hq) _ w hw (λ q hh=>by have:=hq (q+1) (List.mem_map.2 ⟨q,hh,rfl⟩);omega)
    rw[e2]
    refine⟨?_,rfl⟩
    have hl:(Xm b (F n).kids).length=(F n).kids.length:=by simp[Xm]
    rw[hl] at e1
    have hm:2*(2 ^ (q0+1)-1)<=(F n).kids.length*(2 ^ (q0+1)-1):=Nat.mul_le_mul_right _ hk
    have hp:2 ^ (q0+1+1)=2*2 ^ (q0+1):=by rw[Nat.pow_succ];omega
    have h1:1<=2 ^ (q0+1):=Nat.one_le_two_pow
    rw[aC,hp];omega
   ·rename_i h2
    cases e
    have:=hq 0 (by simp)
    subst this
    rw[if_neg h2]
    exact⟨by simp,rfl⟩
theorem kidsH_lt {g:Nat->Bd->Option (List Nat×List Nat)}(hg:∀n b y,n<64->g n b=some y->∀q∈y.1,q<64):∀(l:List (Nat×Bd×Bool)) (y:List Nat×List Nat),(∀x∈l,x.1<64)->XZ g l=some y->∀q∈y.1,q<64
 | [],y,_,h=>by unfold XZ at h;cases h;simp
 | x::l,y,hl,h=>by
  unfold XZ at h
  split at h
  ·cases h1:g x.1 x.2.1 with
   | none=>rw[h1] at h;cases h
   | some z=>
    rw[h1] at h
    simp only[Option.bind_some,Option.map_eq_some_iff] at h
    obtain⟨w,hw,rfl⟩:=h
    intro q hq
    rcases List.mem_append.1 hq with hq|hq
    ·exact hg _ _ _ (hl x (by simp)) h1 q hq
    ·exact kidsH_lt hg l w (λ z hz=>hl z (by simp[hz])) hw q hq
  ·cases h
theorem subsB_lt {b:Bd}{ks:List Kid}(h:∀k∈ks,0<=k.page/\k.page<64):∀x∈Xm b ks,x.1<64:=by
 intro x hx
 have:x.1∈(Xm b ks).map (λ x=>x.1):=List.mem_map.2 ⟨x,hx,rfl⟩
 rw[subsB_pages] at this
 obtain⟨k,hk,e⟩:=List.mem_map.1 this
 have:=h k hk
 omega
theorem lookH_lt {F:Fo}(hK:∀n,∀k∈(F n).kids,0<=k.page/\k.page<64):∀(h n:Nat) (b:Bd) (y:List Nat×List Nat),n<64->Wh F h n b=some y->∀q∈y.1,q<64
 | 0,_,_,_,_,e=>by cases e
 | h+1,n,b,y,hn,e=>by
  rw[Wh] at e
  split at e
  ·cases e
  ·split at e
   ·simp only[Option.map_eq_some_iff] at e
    obtain⟨w,hw,rfl⟩:=e
    intro q hq
    rcases List.mem_cons.1 hq with rfl|hq
    ·exact hn
    ·exact kidsH_lt (λ n b y h1 h2=>lookH_lt hK h n b y h1 h2) _ w (subsB_lt (hK n)) hw q hq
   ·cases e
    simpa using hn
theorem nodup_len:∀(m:Nat) (l:List Nat),l.Nodup->(∀x∈l,x<m)->l.length<=m
 | 0,l,_,h=>by
  cases l with
  | nil=>simp
  | cons a l=>exact absurd (h a (by simp)) (by omega)
 | m+1,l,hn,h=>by
  have h1:=nodup_len m (l.erase m) (hn.erase m) (λ x hx=>by
   have:=(hn.mem_erase_iff).1 hx
   have:=h x this.2
   omega)
  by_cases hm:m∈l
  ·rw[List.length_erase_of_mem hm] at h1;omega
  ·rw[List.erase_of_not_mem hm] at h1;omega
abbrev bd0:Bd:=⟨(0,0),none⟩
def codeF (F:Fo):Bool:=match Wx F 64 0 1 bd0 ([],0) with|none=>false|some s=>(List.range 64).all (λ n=>decide (n∈s.1) || decide ((F n).kind=0))
def docF (F:Fo):Bool:=decide (XI F 8 0 bd0≠[]) && ((List.range 64).all (λ n=>decide ((XI F 8 0 bd0).count n<=1) && (decide ((XI F 8 0 bd0).count n≠0) || decide ((F n).kind=0))) && (YZ F 8 0 1).all (λ x=>decide (x=(YZ F 8 0 1).headD 0)))
theorem codeF_docF {F:Fo}(hF:FoOk F)(hK:∀n,∀k∈(F n).kids,0<=k.page/\k.page<64):codeF F=docF F:=by
 rw[Bool.eq_iff_iff]
 unfold codeF docF
 rw[pagesR_eq hF]
 constructor
 ·intro h
  cases hp:Wx F 64 0 1 bd0 ([],0) with
  | none=>rw[hp] at h;cases h
  | some s=>
   rw[hp] at h
   dsimp only at h
   rw[List.all_eq_true] at h
   obtain⟨y,e1,e2,e3,e4,_⟩:=pageT_look hF 64 0 1 bd0 _ _ (aR _) hp
   have hnd:=e3 List.nodup_nil
   simp only[aN] at e2
   rw[e2] at hnd
   have hnd2:y.1.Nodup:=(List.reverse_perm y.1).nodup_iff.1 hnd
   obtain⟨hne,hne1⟩:=lookH_ne hF _ _ _ _ e1
   have hlt:=lookH_lt hK _ _ _ _ (by omega) e1
   have hlen:=nodup_len 64 y.1 hnd2 hlt
   have hall:∀q∈y.2,q=s.2-1:=λ q hq=>by have:=e4 q hq;omega
   obtain⟨h1,h2⟩:=lookH_high hF _ _ _ _ _ e1 hall
   have hx:s.2-1+1<=6:=by
    rcases Nat.lt_or_ge 6 (s.2-1+1) with hg|hg
    ·have:2 ^ 7<=2 ^ (s.2-1+1):=Nat.pow_le_pow_right (by omega) hg
     have:(2:Nat) ^ 7=128:=by decide
     omega
    ·exact hg
   have h3:=lookH_le (8-(s.2-1+1)) h2
   rw[show s.2-1+1+(8-(s.2-1+1))=8 by omega] at h3
   rw[h3]
   have h4:=depthsR_eq 8 0 1 bd0 y h3
   rw[h4]
   simp only[aE,decide_eq_true_eq,List.all_eq_true,Bool.or_eq_true]
   refine⟨hne1,λ n hn=>⟨?_, ?_⟩, ?_⟩
   ·exact List.nodup_iff_count.1 hnd2 n
   ·have:=h n hn
    simp only[Bool.or_eq_true,decide_eq_true_eq] at this
    rcases this with h|h
    ·rw[e2,List.mem_reverse] at h
     exact .inl (by have:=List.count_pos_iff.2 h;omega)
    ·exact .inr h
   ·intro q hq
    obtain⟨w,hw,rfl⟩:=List.mem_map.1 hq
    cases hy:y.2 with
    | nil=>exact absurd hy hne
    | cons a r=>
     simp only[List.map_cons,List.headD_cons]
     rw[hall w hw,hall a (by rw[hy];simp)]
 ·intro h
  simp only[aE,decide_eq_true_eq,List.all_eq_true,Bool.or_eq_true] at h
  obtain⟨h1,h2,h3⟩:=h
  cases hl:Wh F 8 0 bd0 with
  | none=>rw[hl] at h1;exact absurd rfl h1
  | some y=>
   rw[hl] at h1 h2
   dsimp only at h1 h2
   have hlt:=lookH_lt hK _ _ _ _ (by omega) hl
   have hnd:y.1.Nodup:=List.nodup_iff_count.2 (λ n=>by
    by_cases hm:n∈y.1
    ·exact (h2 n (List.mem_range.2 (hlt n hm))).1
    ·have:=List.count_eq_zero_of_not_mem hm;omega)
   have h4:=depthsR_eq 8 0 1 bd0 y hl
   rw[h4] at h3
   have h64:=lookH_le 56 hl
   rw[pageT_of hF 64 0 1 ((y.2.map (·+1)).headD 0) bd0 y ([],0) h64 (by simpa using (List.reverse_perm y.1).nodup_iff.2 hnd) (λ x hx=>by
    have:=h3 (x+1) (List.mem_map.2 ⟨x,hx,rfl⟩)
    omega) (.inl rfl)]
   dsimp only
   rw[List.all_eq_true]
   intro n hn
   simp only[aN,List.mem_reverse,Bool.or_eq_true,decide_eq_true_eq]
   rcases (h2 n hn).2 with h|h
   ·exact .inl (List.count_pos_iff.1 (by omega))
   ·exact .inr h
def NxIn (ρ:Hp)(v:Value):Option Key->Prop
 | none=>v=.pointer none
 | some k=>∃b off C T fr,v=.pointer (some ⟨b,off,none⟩)/\ρ b=some (.cells ⟨C⟩ T fr)/\off+2<=C.length/\(C.drop off).take 2=Vp k.1 k.2
theorem NxIn.mono {ρ ρ':Hp}{v:Value}{nx:Option Key}(h:NxIn ρ v nx)(hle:ρ.le ρ'):NxIn ρ' v nx:=by
 cases nx with
 | none=>exact h
 | some k=>obtain⟨b,off,C,T,fr,h1,h2,h3⟩:=h;exact⟨b,off,C,T,fr,h1,Hp.at' hle h2,h3⟩
theorem within_spec (ρ:Hp)(k l:Key)(v:Value)(nx:Option Key)(h:NxIn ρ v nx):Spec prog 285 [.agg ⟨Vp k.1 k.2⟩,.agg ⟨Vp l.1 l.2⟩,v] ρ [] (λ z ρ' L'=>z=.bool (inB ⟨l,nx⟩ k)/\ρ'=ρ/\L'=[]):=by
 refine Za func285 rfl rfl rfl λ u R=>?_
 simp only[Zc,kA]
 unfold inB cmpY
 dsimp only
 by_cases h1:0<=Vv k.1 k.2 l.1 l.2
 ·rw[decide_eq_true h1,Bool.true_and]
  cases nx with
  | none=>
   subst h
   dsimp only
   repeat' (first|refine zV ?_|intro _)
   refine tpZ [0,1] (.e 2 [3,4,5,6,7,8,9,10,11] (.e 12 [] (.f [13,14,15,16] .o))) ?_
   repeat' (refine iT ?_;first|refine rA ?_|(refine rE ?_<;>((try refine ZX ?_);(first|(refine Zb (.func 290) ?_;refine qR rfl rfl (YO _ _ _ _ _) ?_;try simp only[kA]))<;>(try simp only[kA])<;>refine zN ?_)))
   repeat' (first|refine zV ?_|intro _)
   exact qE ⟨rfl,rfl,rfl⟩
  | some e=>
   obtain⟨b,off,C,T,fr,rfl,hb,hfit,hc⟩:=h
   dsimp only
   by_cases h2:Vv k.1 k.2 e.1 e.2<0
   ·rw[decide_eq_true h2]
    repeat' (first|refine zV ?_|intro _)
    refine tpZ [0,1] (.e 2 [3,4,5,6,7,8,9,10,11] (.e 12 [] (.f [13,14,15,16] .o))) ?_
    repeat' (refine iT ?_;first|refine rA ?_|(refine rE ?_<;>((try refine ZX ?_);(first|(refine Zb (.func 290) ?_;refine qR rfl rfl (YO _ _ _ _ _) ?_;try simp only[kA]))<;>(try simp only[kA])<;>refine zN ?_)))
    repeat' (first|refine zV ?_|intro _)
    exact qE ⟨rfl,rfl,rfl⟩
   ·rw[decide_eq_false h2]
    repeat' (first|refine zV ?_|intro _)
    refine tpZ [0,1] (.e 2 [3,4,5,6,7,8,9,10,11] (.e 12 [] (.f [13,14,15,16] .o))) ?_
    repeat' (refine iT ?_;first|refine rA ?_|(refine rE ?_<;>((try refine ZX ?_);(first|(refine Zb (.func 290) ?_;refine qR rfl rfl (YO _ _ _ _ _) ?_;try simp only[kA]))<;>(try simp only[kA])<;>refine zN ?_)))
    repeat' (first|refine zV ?_|intro _)
    exact qE ⟨rfl,rfl,rfl⟩
 ·rw[decide_eq_false h1,Bool.false_and]
  repeat' (first|refine zV ?_|intro _)
  refine tpZ [0,1] (.e 2 [3,4,5,6,7,8,9,10,11] (.e 12 [] (.f [13,14,15,16] .o))) ?_
  repeat' (refine iT ?_;first|refine rA ?_|(refine rE ?_<;>((try refine ZX ?_);(first|(refine Zb (.func 290) ?_;refine qR rfl rfl (YO _ _ _ _ _) ?_;try simp only[kA]))<;>(try simp only[kA])<;>refine zN ?_)))
  repeat' (first|refine zV ?_|intro _)
  exact qE ⟨rfl,rfl,rfl⟩
theorem size13_spec (ρ:Hp)(kd:Int)(w:CV)(hr:w.rn<=1000000)(hk:w.kn<=1000000):Spec prog 292 [.agg ⟨Yv kd w⟩] ρ [] (λ v ρ' L'=>v=.int .i64 (w.rn+w.kn:Nat)/\ρ'=ρ/\L'=[]):=by
 refine Za func292 rfl rfl rfl λ u R=>?_
 simp only[Zc,kA]
 repeat' (first|refine zV ?_|intro _)
 exact qE ⟨by rw[Int.natCast_add],rfl,rfl⟩
theorem pSize_spec (ρ:Hp)(w:CV)(c:ZO)(h:CIn ρ w c.rows c.kids)(hok:Zp c=true):Spec prog 284 [.agg ⟨Yv c.kind w⟩] ρ [] (λ v ρ' L'=>v=.int .i64 (szC c:Nat)/\ρ'=ρ/\L'=[]):=by
 have hck:=Xn ρ w c h
 rw[hok] at hck
 have hs:=size13_spec ρ c.kind w h.rb h.kb
 have e:szC c=w.rn+w.kn:=by unfold szC;rw[h.r.len,h.k.len]
 rw[<-e] at hs
 refine Za func284 rfl rfl rfl λ u R=>?_
 simp only[Zc,kA]
 repeat' (first|(refine Zb (.func 205) ?_;refine qR rfl rfl (hck) ?_;try simp only[kA,if_true])|(refine Zb (.func 292) ?_;refine qR rfl rfl (hs) ?_;try simp only[kA])|refine zV ?_|intro _)
 exact qE ⟨rfl,rfl,rfl⟩
theorem look1_spec (ρ:Hp)(w:CV)(c:ZO)(h:CIn ρ w c.rows c.kids):Spec prog 254 [.agg ⟨Yv c.kind w⟩] ρ [] (λ v ρ' L'=>v=.bool (!Zp c)/\ρ'=ρ/\L'=[]):=by
 have hck:=Xn ρ w c h
 refine Za func254 rfl rfl rfl λ u R=>?_
 simp only[Zc,kA]
 cases hq:Zp c
 all_goals rw[hq] at hck
 all_goals (repeat' (first|(refine Zb (.func 205) ?_;refine qR rfl rfl (hck) ?_;try simp only[kA,if_true,if_false,aB])|refine zV ?_|intro _))
 all_goals exact qE ⟨rfl,rfl,rfl⟩
abbrev CC:=CV×ZO
abbrev ccV (x:CC):List Value:=Yv x.2.kind x.1
structure FoIn (ρ:Hp)(a:Option Addr)(n:Nat)(l:List CC):Prop where
 at':AIn ρ 3 ccV a n l
 cin:∀x∈l,CIn ρ x.1 x.2.rows x.2.kids
theorem FoIn.mono {ρ ρ' a n l}(h:FoIn ρ a n l)(hle:ρ.le ρ'):FoIn ρ' a n l:=⟨h.at'.mono hle,λ x hx=>(h.cin x hx).mono hle⟩
def zCC:CC:=(⟨none,0,0,none,0,0⟩,⟨0,[],[]⟩)
def Yw (l:List CC):Fo:=λ n=>(l.getD n zCC).2
theorem foOf_at {l:List CC}{n:Nat}(h:n<l.length):Yw l n=l[n].2:=by simp[Yw,List.getD_eq_getElem?_getD,h]
theorem foOf_ok {l:List CC}(h:∀x∈l,Zp x.2=true):FoOk (Yw l):=λ n=>by
 by_cases hn:n<l.length
 ·rw[foOf_at hn];exact h _ (aM hn)
 ·have:Yw l n=⟨0,[],[]⟩:=by simp[Yw,List.getD_eq_getElem?_getD,List.getElem?_eq_none (show l.length<=n by omega),zCC]
  rw[this];rfl
theorem FoOk.kid {F:Fo}(h:FoOk F)(n:Nat):∀k∈(F n).kids,0<=k.page/\k.page<64:=λ k hk=>by
 have:=(YF (h n)).kid k hk
 omega
abbrev wkC (wb:Nat)(a:Option Addr)(c:Nat)(mb dp:Nat):List (Nat×Obj):=[(wb,.cells ⟨[.slice a 64 c,.map (some mb),.int .i64 dp]⟩ 331 (0,0))]
abbrev mtC (mb:Nat)(es:List MapEntry)(ck:Nat):List (Nat×Obj):=[(mb,.map ⟨es⟩ ck)]
abbrev metI (l:List Nat):List Int:=List.map (λ (n:Nat)=>(n:Int)) l
theorem metI_mem {n:Nat}{l:List Nat}:((n:Int)∈metI l)↔n∈l:=by
 simp only[List.mem_map]
 exact⟨λ ⟨m,hm,e⟩=>by rwa [<-show m=n by omega],λ h=>⟨n,h,rfl⟩⟩
theorem MetOk.add {es es':List MapEntry}{l:List Nat}{n:Nat}(h:MetOk es (metI l))(h1:ZP .i64 es')(h2:∀j,Ym es' j=if j=(n:Int) then some (.bool true) else Ym es j):MetOk es' (metI (n::l)):=⟨h1,λ p=>by
 rw[h2 p,h.get p]
 by_cases e:p=(n:Int)<;>simp[e]⟩
structure SOk (f:Nat)(s:List Nat×Nat):Prop where
 nd:s.1.Nodup
 lt:∀x∈s.1,x<64
 fuel:64<=s.1.length+f
theorem SOk.room {f:Nat}{s:List Nat×Nat}(h:SOk f s){n:Nat}(hn:n<64)(hm:n ∉ s.1):∃f',f=f'+1:=by
 have:=nodup_len 64 (n::s.1) (List.nodup_cons.2 ⟨hm,h.nd⟩) (λ x hx=>by
  rcases List.mem_cons.1 hx with rfl|hx
  ·exact hn
  ·exact h.lt x hx)
 have:=h.fuel
 rw[aC] at *
 exact⟨f-1,by omega⟩
theorem SOk.put {f:Nat}{s:List Nat×Nat}(h:SOk (f+1) s){n:Nat}(hn:n<64)(hm:n ∉ s.1)(dp:Nat):SOk f (n::s.1,dp):=
 ⟨List.nodup_cons.2 ⟨hm,h.nd⟩,λ x hx=>by
  rcases List.mem_cons.1 hx with rfl|hx
  ·exact hn
  ·exact h.lt x hx,by have:=h.fuel;rw[aC];omega⟩
theorem SOk.page {F:Fo}(hF:FoOk F){f g n d:Nat}{b:Bd}{s s':List Nat×Nat}(h:SOk g s)(hn:n<64)(hd:1<=d)(e:Wx F f n d b s=some s'):SOk g s':=by
 obtain⟨y,e1,e2,e3,_,_⟩:=pageT_look hF f n d b s s' hd e
 have hlt:=lookH_lt hF.kid _ _ _ _ hn e1
 refine⟨e3 h.nd,λ x hx=>?_,by rw[e2,aL];have:=h.fuel;omega⟩
 rw[e2] at hx
 rcases List.mem_append.1 hx with hx|hx
 ·exact hlt x (List.mem_reverse.1 hx)
 ·exact h.lt x hx
theorem kidsT_app (f:Nat->Nat->Bd->List Nat×Nat->Option (List Nat×Nat))(d:Nat):∀(l m:List (Nat×Bd×Bool)) (s:List Nat×Nat),Vf f d (l++m) s=(Vf f d l s).bind (Vf f d m)
 | [],m,s=>by simp[Vf]
 | x::l,m,s=>by
  rw[List.cons_append]
  simp only[Vf]
  split
  ·cases f x.1 d x.2.1 s with
   | none=>rfl
   | some t=>simp only[Option.bind_some];exact kidsT_app f d l m t
  ·rfl
theorem subsB_take {b:Bd}{ks:List Kid}{i:Nat}(h:i<ks.length):(Xm b ks).take (i+1)=(Xm b ks).take i++[subB b ks i]:=by
 have hl:(Xm b ks).length=ks.length:=by simp[Xm]
 rw[aG (by omega)]
 simp[Xm]
theorem kidsT_next {f:Nat->Nat->Bd->List Nat×Nat->Option (List Nat×Nat)}{d:Nat}{b:Bd}{ks:List Kid}{i:Nat}{s s1:List Nat×Nat}(h:i<ks.length)(e:Vf f d ((Xm b ks).take i) s=some s1) :
  Vf f d ((Xm b ks).take (i+1)) s=if (subB b ks i).2.2=true then f (subB b ks i).1 d (subB b ks i).2.1 s1 else none:=by
 rw[subsB_take h,kidsT_app,e]
 simp only[Option.bind_some,Vf]
 split
 ·cases f (subB b ks i).1 d (subB b ks i).2.1 s1<;>rfl
 ·rfl
theorem kidsT_none {f:Nat->Nat->Bd->List Nat×Nat->Option (List Nat×Nat)}{d:Nat}{l:List (Nat×Bd×Bool)}{i:Nat}{s:List Nat×Nat}(e:Vf f d (l.take i) s=none):Vf f d l s=none:=by
 rw[<-List.take_append_drop i l,kidsT_app,e];rfl
theorem zC_len (ks:List Kid)(b:Bd):(Xm b ks).length=ks.length:=by simp[Xm]
end Go.Proofs.E
