/- Laws of PoolRule. Part 13 of 26. -/
import Derived.Test.YthjhjmnmnbcioaaGreatE12
set_option linter.unusedVariables false
set_option linter.unusedSimpArgs false
set_option linter.unusedSectionVars false
namespace Go.Proofs.E
open Go Tryz
set_option maxRecDepth 4000
set_option maxHeartbeats 1000000
attribute [local irreducible] Yl TL TC TE Spec YW R1 Hp.le EnvLe TS TR YS Zv TP QP
def M64:Nat:=18446744073709551616
structure Fit (c:ZO):Prop where
 ok:Zp c=true
 id:IdFit c
theorem dataB_eq {c:ZO}(h:Zp c=true):dataB c=UInt8.ofNat (Yf c).length::(Yf c++z8 (83-(Yf c).length)):=by
 have:=Vc h
 unfold dataB
 rw[fit_lay (by simp;omega)]
 simp only[aC,List.cons_append]
 congr 3;omega
theorem data_halves (c:ZO):((dataB c).drop (42*0)).take 42++((dataB c).drop (42*1)).take 42=dataB c:=by
 have h:=dataB_len c
 rw[Nat.mul_zero,List.drop_zero,aT (l:=(dataB c).drop (42*1)) (by simp;omega),List.take_append_drop]
theorem body_drop (num st lsn:Nat)(c:ZO)(i k:Nat):(bodyF num st lsn c i).drop (2+k)=(be 8 st++(be 8 lsn++((dataB c).drop (42*i)).take 42)).drop k:=by
 unfold bodyF
 rw[Nat.add_comm,List.drop_succ_cons,List.drop_succ_cons]
theorem WV (num st lsn:Nat)(c:ZO){i:Nat}(hi:i<2)(hst:st<M64):Xw (Zx num st lsn c i)=st:=by
 have hb:=bodyF_len num st lsn c hi
 unfold Xw Zx
 rw[List.drop_append_of_le_length (by omega),List.take_append_of_le_length (by simp;omega),show 2=2+0 from rfl,body_drop,List.drop_zero,List.take_left' (Zh _ _),Wy]
 exact Nat.mod_eq_of_lt (by simpa [M64] using hst)
theorem part_lsn (num st lsn:Nat)(c:ZO){i:Nat}(hi:i<2)(hl:lsn<M64):ZM (((Zx num st lsn c i).drop 10).take 8)=lsn:=by
 have hb:=bodyF_len num st lsn c hi
 unfold Zx
 rw[List.drop_append_of_le_length (by omega),List.take_append_of_le_length (by simp;omega),show 10=2+8 from rfl,body_drop,List.drop_left' (Zh _ _),List.take_left' (Zh _ _),Wy]
 exact Nat.mod_eq_of_lt (by simpa [M64] using hl)
theorem part_data (num st lsn:Nat)(c:ZO){i:Nat}(hi:i<2):((Zx num st lsn c i).drop 18).take 42=((dataB c).drop (42*i)).take 42:=by
 have hb:=bodyF_len num st lsn c hi
 have hd:=dataB_len c
 unfold Zx
 rw[List.drop_append_of_le_length (by omega),List.take_append_of_le_length (by simp;omega),show 18=2+16 from rfl,body_drop,<-aA,List.drop_left' (by simp[Zh])]
 rw[aT (by simp;omega)]
theorem part_ok (num st lsn:Nat)(c:ZO){i:Nat}(hi:i<2)(hn:num<64):PartOk num i (Zx num st lsn c i):=by
 have hb:=bodyF_len num st lsn c hi
 refine⟨?_, ?_, ?_⟩
 ·show (UInt8.ofNat num).toNat=num
  simp;omega
 ·show (UInt8.ofNat i).toNat=i
  simp;omega
 ·unfold Zx
  rw[List.drop_left' hb,List.take_left' hb,Wy]
  exact Nat.mod_eq_of_lt (by have:=sumB_lt (bodyF num st lsn c i);simpa using this)
theorem says_part (num st lsn:Nat)(c:ZO)(hc:Fit c)(h0:0<st)(hst:st<M64)(hl:lsn<M64):Yo num (Zx num st lsn c 0) (Zx num st lsn c 1)=⟨st,lsn,c,true,0⟩:=by
 have hde:=dataB_eq hc.ok
 have h82:=Vc hc.ok
 have e0:((Zx num st lsn c 0).getD 18 0).toNat=(Yf c).length:=by
  have h1:=part_data num st lsn c (i:=0) (by omega)
  rw[Nat.mul_zero,List.drop_zero,hde] at h1
  have h2:((Zx num st lsn c 0).drop 18).take 42=((Zx num st lsn c 0).drop 18).take 42:=rfl
  have h3:=congrArg (λ l:Bs=>l[0]?) h1
  simp only[List.take_succ_cons,List.getElem?_cons_zero] at h3
  rw[List.getElem?_take_of_lt (by omega),List.getElem?_drop] at h3
  rw[List.getD_eq_getElem?_getD,h3]
  simp;omega
 have e1:((Zx num st lsn c 0).drop 18).take 42++((Zx num st lsn c 1).drop 18).take 42=dataB c:=by
  rw[part_data _ _ _ _ (by omega),part_data _ _ _ _ (by omega),data_halves]
 have e2:((dataB c).drop 1).take (Yf c).length=Yf c:=by rw[hde,List.drop_succ_cons,List.drop_zero,List.take_left]
 have e3:=takeCont_back hc.ok hc.id []
 rw[aN] at e3
 have e4:ZM (((Zx num st lsn c 0).drop 2).take 8)=st:=WV num st lsn c (by omega) hst
 unfold Yo
 rw[e0,if_neg (by omega),e1,e2,e3,e4,part_lsn _ _ _ _ (by omega) hl]
 simp[h0]
theorem says_right {num:Nat}{a b:Blk}(ha:a.length=64)(hb:b.length=64)(h:(Yo num a b).right=true):0<Xw a/\Xw b=Xw a/\(Yo num a b).stamp=Xw a:=by
 have hlt:=stampOf_lt a
 unfold Yo at h ⊢
 split
 ·rename_i hc;rw[if_pos hc] at h;cases h
 ·rename_i hc
  rw[if_neg hc] at h
  dsimp only at h ⊢
  have h':=of_decide_eq_true h
  obtain⟨h1,h2,h3,h4⟩:=h'
  have hp0:=Xg num (ZM ((a.drop 2).take 8)) (ZM ((a.drop 10).take 8)) (Zq ((((a.drop 18).take 42++(b.drop 18).take 42).drop 1).take (a.getD 18 0).toNat)).1 (i:=0) (by omega)
  have hb1:=(List.append_inj h4 (by omega)).2
  refine⟨h3, ?_,rfl⟩
  exact (congrArg Xw hb1).symm.trans (WV num _ _ _ (by decide) hlt)
theorem stamp_zblk:Xw Xs=0:=by
 unfold Xw
 rw[zblk_z]
 simp only[z8,List.drop_replicate]
 exact z8_take _ _
def Sec (num i t:Nat)(b:Blk):Prop:=b=Xs\/∃st lsn c,0<st/\st<=t/\b=Zx num st lsn c i
theorem Sec.mono {num i t t':Nat}{b:Blk}(h:Sec num i t b)(ht:t<=t'):Sec num i t' b:=by
 rcases h with h|⟨st,lsn,c,h1,h2,h3⟩
 ·exact .inl h
 ·exact .inr ⟨st,lsn,c,h1,by omega,h3⟩
theorem Sec.len {num i t:Nat}{b:Blk}(h:Sec num i t b)(hi:i<2):b.length=64:=by
 rcases h with rfl|⟨st,lsn,c,h1,h2,rfl⟩
 ·rfl
 ·exact Xg _ _ _ _ hi
theorem Sec.stamp {num i t:Nat}{b:Blk}(h:Sec num i t b)(hi:i<2)(hn:num<64)(ht:t<M64):stampR num i b=Xw b/\Xw b<=t:=by
 rcases h with rfl|⟨st,lsn,c,h1,h2,rfl⟩
 ·unfold stampR
  rw[stamp_zblk]
  exact⟨by split<;>rfl,aZ _⟩
 ·rw[WV num st lsn c hi (by omega)]
  exact⟨by unfold stampR;rw[if_pos (part_ok num st lsn c hi hn),WV num st lsn c hi (by omega)],h2⟩
def cs2 (num:Nat)(a0 b0 a1 b1:Blk):CS:=((⟨zSl,0,0⟩:CS).step 0 (slotAt num a0 b0)).step 1 (slotAt num a1 b1)
abbrev ZS:=ZO×Nat
def zHeld:ZS:=(⟨0,[],[]⟩,0)
def WU (cs:CS):ZS:=if cs.best.right=true then (cs.best.c,cs.best.lsn) else zHeld
def sayH (num:Nat)(a b:Blk):ZS:=((Yo num a b).c,(Yo num a b).lsn)
theorem cs2_eq (num:Nat)(a0 b0 a1 b1:Blk):WU (cs2 num a0 b0 a1 b1)=(if (Yo num a0 b0).right=true then (if (Yo num a1 b1).right=true/\(Yo num a0 b0).stamp<(Yo num a1 b1).stamp then sayH num a1 b1 else sayH num a0 b0) else if (Yo num a1 b1).right=true then sayH num a1 b1 else zHeld) /\
  (cs2 num a0 b0 a1 b1).other=(if (Yo num a0 b0).right=true then (if (Yo num a1 b1).right=true/\(Yo num a0 b0).stamp<(Yo num a1 b1).stamp then 0 else 1) else 0) /\
  (cs2 num a0 b0 a1 b1).most=max (Wp num a0 b0) (Wp num a1 b1):=by
 unfold cs2 CS.step WU sayH slotAt
 generalize Wp num a0 b0=m0
 generalize Wp num a1 b1=m1
 generalize Yo num a0 b0=s0
 generalize Yo num a1 b1=s1
 obtain⟨st0,ls0,c0,r0,mo0⟩:=s0
 obtain⟨st1,ls1,c1,r1,mo1⟩:=s1
 cases r0
 ·cases r1
  ·simp[zSl]
  ·simp[zSl]
 ·cases r1
  ·simp[zSl]
  ·by_cases hlt:st0<st1
   ·simp[zSl,hlt]
   ·simp[zSl,hlt]
theorem mixed {num t lsn:Nat}{c:ZO}{a b x y:Blk}(hn:num<64)(hc:Fit c)(hl:lsn<M64)(ht:t+1<M64)(ha:Sec num 0 t a)(hb:Sec num 1 t b)
  (hx:x=a\/x=Zx num (t+1) lsn c 0) (hy:y=b\/y=Zx num (t+1) lsn c 1) :
  (x=a/\y=b)\/(Yo num x y).right=false\/(Yo num x y=⟨t+1,lsn,c,true,0⟩):=by
 have h1:=ha.stamp (by omega) hn (by omega)
 have h2:=hb.stamp (by omega) hn (by omega)
 have p0:=WV num (t+1) lsn c (i:=0) (by omega) ht
 have p1:=WV num (t+1) lsn c (i:=1) (by omega) ht
 rcases hx with rfl|rfl
 ·rcases hy with rfl|rfl
  ·exact .inl ⟨rfl,rfl⟩
  ·right;left
   cases hr:(Yo num x (Zx num (t+1) lsn c 1)).right with
   | false=>rfl
   | true=>
    have:=says_right (ha.len (by omega)) (Xg _ _ _ _ (by omega)) hr
    rw[p1] at this;omega
 ·rcases hy with rfl|rfl
  ·right;left
   cases hr:(Yo num (Zx num (t+1) lsn c 0) y).right with
   | false=>rfl
   | true=>
    have:=says_right (Xg _ _ _ _ (by omega)) (hb.len (by omega)) hr
    rw[p0] at this;omega
  ·exact .inr (.inr (says_part num (t+1) lsn c hc (by omega) ht hl))
theorem stampsF_le {num t:Nat}{a b:Blk}(hn:num<64)(ht:t<M64)(ha:Sec num 0 t a)(hb:Sec num 1 t b):Wp num a b<=t/\((Yo num a b).right=true->(Yo num a b).stamp<=Wp num a b):=by
 have h1:=ha.stamp (by omega) hn ht
 have h2:=hb.stamp (by omega) hn ht
 unfold Wp
 rw[h1.1,h2.1]
 refine⟨by omega,λ hr=>?_⟩
 have:=says_right (ha.len (by omega)) (hb.len (by omega)) hr
 omega
theorem wrote {num mo lsn:Nat}{c:ZO}{a0 b0 a1 b1 x0 y0 x1 y1:Blk}(hn:num<64)(hc:Fit c)(hl:lsn<M64)(h0:Sec num 0 mo a0)(h1:Sec num 1 mo b0)(h2:Sec num 0 mo a1)(h3:Sec num 1 mo b1)(hmo:mo=(cs2 num a0 b0 a1 b1).most)(ht:mo+1<M64)
  (hx0:x0=a0\/(cs2 num a0 b0 a1 b1).other=0/\x0=Zx num (mo+1) lsn c 0) (hy0:y0=b0\/(cs2 num a0 b0 a1 b1).other=0/\y0=Zx num (mo+1) lsn c 1)
  (hx1:x1=a1\/(cs2 num a0 b0 a1 b1).other=1/\x1=Zx num (mo+1) lsn c 0) (hy1:y1=b1\/(cs2 num a0 b0 a1 b1).other=1/\y1=Zx num (mo+1) lsn c 1) :
  (WU (cs2 num x0 y0 x1 y1)=WU (cs2 num a0 b0 a1 b1)\/WU (cs2 num x0 y0 x1 y1)=(c,lsn)) /\
  ((if (cs2 num a0 b0 a1 b1).other=0 then x0=Zx num (mo+1) lsn c 0/\y0=Zx num (mo+1) lsn c 1 else x1=Zx num (mo+1) lsn c 0/\y1=Zx num (mo+1) lsn c 1)->WU (cs2 num x0 y0 x1 y1)=(c,lsn)):=by
 obtain⟨e1,e2,e3⟩:=cs2_eq num a0 b0 a1 b1
 obtain⟨f1,_,_⟩:=cs2_eq num x0 y0 x1 y1
 have g0:=stampsF_le hn (by omega) h0 h1
 have g1:=stampsF_le hn (by omega) h2 h3
 have hsp:=says_part num (mo+1) lsn c hc (by omega) ht hl
 rw[e3] at hmo
 have q0:(Yo num a0 b0).right=true->(Yo num a0 b0).stamp<=mo:=λ h=>by have:=g0.2 h;omega
 have q1:(Yo num a1 b1).right=true->(Yo num a1 b1).stamp<=mo:=λ h=>by have:=g1.2 h;omega
 by_cases ho:(cs2 num a0 b0 a1 b1).other=0
 ·have hx1':x1=a1:=hx1.resolve_right (λ h=>by omega)
  have hy1':y1=b1:=hy1.resolve_right (λ h=>by omega)
  subst hx1';subst hy1'
  rw[if_pos ho]
  have hnc:¬((Yo num a0 b0).right=true/\¬((Yo num x1 y1).right=true/\(Yo num a0 b0).stamp<(Yo num x1 y1).stamp)):=λ hh=>by
   rw[e2,if_pos hh.1,if_neg hh.2] at ho;cases ho
  have hold:WU (cs2 num a0 b0 x1 y1)=if (Yo num x1 y1).right=true then sayH num x1 y1 else zHeld:=by
   rw[e1]
   by_cases hr:(Yo num a0 b0).right=true
   ·have hq:(Yo num x1 y1).right=true/\(Yo num a0 b0).stamp<(Yo num x1 y1).stamp:=Classical.not_not.1 (λ h=>hnc ⟨hr,h⟩)
    rw[if_pos hr,if_pos hq,if_pos hq.1]
   ·rw[if_neg hr]
  have hnew:Yo num x0 y0=⟨mo+1,lsn,c,true,0⟩->WU (cs2 num x0 y0 x1 y1)=(c,lsn):=λ he=>by
   rw[f1,he,if_pos rfl,if_neg (λ hh=>by have:=q1 hh.1;have:=hh.2;dsimp only at this;omega)]
   unfold sayH;rw[he]
  refine⟨?_,λ hh=>hnew (by rw[hh.1,hh.2];exact hsp)⟩
  rcases mixed hn hc hl ht h0 h1 (hx0.imp id (·.2)) (hy0.imp id (·.2)) with⟨rfl,rfl⟩|hm|hm
  ·exact .inl rfl
  ·left
   rw[hold,f1,hm,if_neg (by simp)]
  ·exact .inr (hnew hm)
 ·have hx0':x0=a0:=hx0.resolve_right (λ h=>ho h.1)
  have hy0':y0=b0:=hy0.resolve_right (λ h=>ho h.1)
  subst hx0';subst hy0'
  rw[if_neg ho]
  have hr:(Yo num x0 y0).right=true:=Classical.not_not.1 (λ h=>ho (by rw[e2,if_neg h]))
  have hnq:¬((Yo num a1 b1).right=true/\(Yo num x0 y0).stamp<(Yo num a1 b1).stamp):=λ h=>ho (by rw[e2,if_pos hr,if_pos h])
  have hold:WU (cs2 num x0 y0 a1 b1)=sayH num x0 y0:=by rw[e1,if_pos hr,if_neg hnq]
  have hnew:Yo num x1 y1=⟨mo+1,lsn,c,true,0⟩->WU (cs2 num x0 y0 x1 y1)=(c,lsn):=λ he=>by
   rw[f1,if_pos hr,he,if_pos ⟨rfl,by have:=q0 hr;dsimp only;omega⟩]
   unfold sayH;rw[he]
  refine⟨?_,λ hh=>hnew (by rw[hh.1,hh.2];exact hsp)⟩
  rcases mixed hn hc hl ht h2 h3 (hx1.imp id (·.2)) (hy1.imp id (·.2)) with⟨rfl,rfl⟩|hm|hm
  ·exact .inl rfl
  ·left
   rw[hold,f1,if_pos hr,hm,if_neg (by simp)]
  ·exact .inr (hnew hm)
theorem Sec.least {num i t m:Nat}{b:Blk}(h:Sec num i t b)(hi:i<2)(ht:t<M64)(hm:Xw b<=m):Sec num i m b:=by
 rcases h with h|⟨st,lsn,c,h1,h2,rfl⟩
 ·exact .inl h
 ·rw[WV num st lsn c hi (by omega)] at hm
  exact .inr ⟨st,lsn,c,h1,hm,rfl⟩
abbrev pg (D:DS)(base num j:Nat):Blk:=img D (base+4*num+j)
abbrev csD (D:DS)(base num:Nat):CS:=cs2 num (pg D base num 0) (pg D base num 1) (pg D base num 2) (pg D base num 3)
structure FO (D:DS)(base t:Nat)(held:Nat->ZS):Prop where
 dok:D.Ok
 alive:D.dead=false
 empty:YC D.secs
 len:base+256<=D.secs.length
 sec:∀num j,num<64->j<4->Sec num (j % 2) t (pg D base num j)
 held:∀num,num<64->WU (csD D base num)=held num
theorem FO.congr {D D':DS}{base t:Nat}{held:Nat->ZS}(h:FO D base t held)(hs:D'.secs=D.secs)(hok:D'.Ok)(ha:D'.dead=false):FO D' base t held:=by
 have hi:=Xf hs
 exact⟨hok,ha,by rw[hs];exact h.empty,by rw[hs];exact h.len,λ num j h1 h2=>by unfold pg;rw[hi];exact h.sec num j h1 h2,λ num h1=>by unfold csD pg;rw[hi];exact h.held num h1⟩
theorem FO.crash {D:DS}{base t:Nat}{held:Nat->ZS}(h:FO D base t held)(keep:Nat->Bool):FO (D.crash keep) base t held:=
 h.congr (by simp only[DS.crash];exact settled_empty h.empty) h.dok.crash rfl
theorem rd_ok {D:DS}(he:YC D.secs)(ha:D.dead=false){i:Nat}(hi:i<D.secs.length):(D.read (i:Int)).1.dead=false/\((D.read (i:Int)).2.2=0->(D.read (i:Int)).2.1=img D i):=by
 unfold DS.read
 rw[if_neg (by simp[ha]),if_neg (by omega)]
 split
 ·exact⟨ha,λ h=>by simp at h⟩
 ·refine⟨ha,λ _=>?_⟩
  rw[img_at hi]
  simp[says1,List.getElem?_eq_getElem hi,he _ (aM hi)]
theorem rdSlot_img {D:DS}(he:YC D.secs)(ha:D.dead=false){i:Nat}(hi:i+1<D.secs.length):(Wo D i).1.dead=false/\((Wo D i).2.2=0->(Wo D i).2.1=(img D i,img D (i+1))):=by
 obtain⟨h1,h2⟩:=rd_ok he ha (i:=i) (by omega)
 have hs:=read_secs (D:=D) (i:Int)
 obtain⟨h3,h4⟩:=rd_ok (D:=(D.read (i:Int)).1) (by rw[hs];exact he) h1 (i:=i+1) (by rw[hs];exact hi)
 rw[Xf hs] at h4
 unfold Wo
 split
 ·rename_i hc;exact⟨h1,λ h=>absurd h hc⟩
 ·rename_i hc
  split
  ·rename_i hd;exact⟨h3,λ h=>absurd h hd⟩
  ·rename_i hd
   refine⟨h3,λ _=>?_⟩
   rw[h2 (Classical.not_not.1 hc),h4 (Classical.not_not.1 hd)]
theorem slD_alive {D:DS}{base num:Nat}(he:YC D.secs)(ha:D.dead=false)(hl:base+4*num+4<=D.secs.length):∀k,k<=2->(slD D base num k).dead=false
 | 0,_=>ha
 | k+1,hk=>(rdSlot_img (D:=slD D base num k) (by rw[Xz];exact he) (slD_alive he ha hl k (by omega)) (i:=base+4*num+2*k) (by rw[Xz];omega)).1
theorem slR_img {D:DS}{base num k:Nat}(he:YC D.secs)(ha:D.dead=false)(hl:base+4*num+4<=D.secs.length)(hk:k<2)(h0:(slR D base num k).2.2=0):(slR D base num k).2.1=(pg D base num (2*k),pg D base num (2*k+1)):=by
 have:=(rdSlot_img (D:=slD D base num k) (by rw[Xz];exact he) (slD_alive he ha hl k (by omega)) (i:=base+4*num+2*k) (by rw[Xz];omega)).2 h0
 rw[Xf (Xz D base num k)] at this
 exact this
theorem WG {D:DS}{base num:Nat}:(Zo D base num).2.1.secs=D.secs:=by
 unfold Zo
 split
 ·exact Xz D base num 1
 ·split
  ·exact Xz D base num 2
  ·exact Xz D base num 2
theorem countsD_ok {D:DS}{base num:Nat}(h:D.Ok):(Zo D base num).2.1.Ok:=by
 unfold Zo
 split
 ·exact slD_ok h 1
 ·split
  ·exact slD_ok h 2
  ·exact slD_ok h 2
theorem countsD_alive {D:DS}{base num:Nat}(he:YC D.secs)(ha:D.dead=false)(hl:base+4*num+4<=D.secs.length):(Zo D base num).2.1.dead=false:=by
 unfold Zo
 split
 ·exact slD_alive he ha hl 1 (by omega)
 ·split
  ·exact slD_alive he ha hl 2 (by omega)
  ·exact slD_alive he ha hl 2 (by omega)
theorem Vd {D:DS}{base num:Nat}(he:YC D.secs)(ha:D.dead=false)(hl:base+4*num+4<=D.secs.length)(h0:(Zo D base num).2.2=0) :
  (Zo D base num).1=({ (csD D base num).best with most:=(csD D base num).most },(csD D base num).other):=by
 unfold Zo at h0 ⊢
 split at h0
 ·rename_i hc;exact absurd h0 hc
 ·rename_i hc
  split at h0
  ·rename_i hd;exact absurd h0 hd
  ·rename_i hd
   have e0:=slR_img he ha hl (k:=0) (by omega) (Classical.not_not.1 hc)
   have e1:=slR_img he ha hl (k:=1) (by omega) (Classical.not_not.1 hd)
   rw[if_neg hc,if_neg hd]
   have y0:(slY num (slR D base num 0)).1=slotAt num (pg D base num 0) (pg D base num 1):=by unfold slY;rw[if_neg hc,e0]
   have y1:(slY num (slR D base num 1)).1=slotAt num (pg D base num 2) (pg D base num 3):=by unfold slY;rw[if_neg hd,e1]
   have:csTo D base num 2=csD D base num:=by
    show (((⟨zSl,0,0⟩:CS).step 0 (slY num (slR D base num 0)).1).step 1 (slY num (slR D base num 1)).1)=_
    rw[y0,y1];rfl
   rw[this]
theorem rdSlot_calm {D:DS}(h:D.Calm){i:Nat}(hi:i+1<D.secs.length):(Wo D i).1.Calm/\(Wo D i).2.2=0:=by
 have e1:=h.read_eq (i:=i) (by omega)
 unfold Wo
 rw[e1]
 have e2:=(DS.Calm.mk' (s:=D.secs) (o:=IntKind.i64.wrap (D.ops+1))).read_eq (i:=i+1) hi
 rw[if_neg (by simp),e2,if_neg (by simp)]
 exact⟨DS.Calm.mk',rfl⟩
theorem slD_calm {D:DS}{base num:Nat}(h:D.Calm)(hl:base+4*num+4<=D.secs.length):∀k,k<=2->(slD D base num k).Calm
 | 0,_=>h
 | k+1,hk=>(rdSlot_calm (slD_calm h hl k (by omega)) (i:=base+4*num+2*k) (by rw[Xz];omega)).1
theorem countsD_calm {D:DS}{base num:Nat}(h:D.Calm)(hl:base+4*num+4<=D.secs.length):(Zo D base num).2.2=0/\(Zo D base num).2.1.Calm:=by
 have e0:=(rdSlot_calm (slD_calm h hl 0 (by omega)) (i:=base+4*num+2*0) (by rw[Xz];omega)).2
 have e1:=(rdSlot_calm (slD_calm h hl 1 (by omega)) (i:=base+4*num+2*1) (by rw[Xz];omega)).2
 unfold Zo slR
 rw[if_neg (by rw[e0];simp),if_neg (by rw[e1];simp)]
 exact⟨rfl,slD_calm h hl 2 (by omega)⟩
theorem FO.read {D:DS}{base t:Nat}{held:Nat->ZS}(h:FO D base t held)(hc:D.Calm){num:Nat}(hn:num<64):(Xy D base num).1=((held num).1,(held num).2,0)/\FO (Xy D base num).2 base t held/\(Xy D base num).2.Calm:=by
 have hln:=h.len
 have hl:base+4*num+4<=D.secs.length:=by omega
 obtain⟨e1,e2⟩:=countsD_calm hc hl
 have e3:=Vd h.empty h.alive hl e1
 have e4:=h.held num hn
 have hf:=h.congr (D':=(Zo D base num).2.1) WG (countsD_ok h.dok) e2.dead
 unfold WU at e4
 unfold Xy
 rw[e1,e3]
 dsimp only
 by_cases hr:(csD D base num).best.right=true
 ·rw[if_pos hr] at e4
  rw[if_neg (by simp[hr]),<-e4]
  exact⟨rfl,hf,e2⟩
 ·rw[if_neg hr] at e4
  rw[if_pos (.inr (by simpa using hr)),<-e4]
  exact⟨rfl,hf,e2⟩
def upd (f:Nat->ZS)(n:Nat)(v:ZS):Nat->ZS:=λ k=>if k=n then v else f k
theorem upd_self (f:Nat->ZS)(n:Nat):upd f n (f n)=f:=by funext k;unfold upd;split<;>simp_all
theorem FO.mono {D:DS}{base t t':Nat}{held:Nat->ZS}(h:FO D base t held)(ht:t<=t'):FO D base t' held:=
 ⟨h.dok,h.alive,h.empty,h.len,λ num j h1 h2=>(h.sec num j h1 h2).mono ht,h.held⟩
theorem csD_most {D:DS}{base t:Nat}{held:Nat->ZS}(h:FO D base t held){num:Nat}(hn:num<64)(ht:t<M64):(csD D base num).most<=t/\(csD D base num).other<2/\∀j,j<4->Xw (pg D base num j)<=(csD D base num).most:=by
 obtain⟨_,e2,e3⟩:=cs2_eq num (pg D base num 0) (pg D base num 1) (pg D base num 2) (pg D base num 3)
 have s0:=(h.sec num 0 hn (by omega)).stamp (by omega) hn ht
 have s1:=(h.sec num 1 hn (by omega)).stamp (by omega) hn ht
 have s2:=(h.sec num 2 hn (by omega)).stamp (by omega) hn ht
 have s3:=(h.sec num 3 hn (by omega)).stamp (by omega) hn ht
 simp only[Nat.zero_mod,show 1 % 2=1 from rfl,show 2 % 2=0 from rfl,show 3 % 2=1 from rfl] at s0 s1 s2 s3
 unfold csD
 unfold Wp at e3
 rw[s0.1,s1.1,s2.1,s3.1] at e3
 have ho:(cs2 num (pg D base num 0) (pg D base num 1) (pg D base num 2) (pg D base num 3)).other<2:=by
  rw[e2];repeat' split
  all_goals omega
 refine⟨by rw[e3];omega,ho,λ j hj=>?_⟩
 rw[e3]
 rcases (show j=0\/j=1\/j=2\/j=3 by omega) with rfl|rfl|rfl|rfl<;>omega
theorem FO.wrote {D D2:DS}{base t:Nat}{held:Nat->ZS}(h:FO D base t held){num lsn:Nat}{c:ZO}(hn:num<64)(hc:Fit c)(hl:lsn<M64)(ht:t+1<M64)
  (hok:D2.Ok) (ha:D2.dead=false) (he:YC D2.secs) (hlen:D2.secs.length=D.secs.length)
  (hi:∀i,img D2 i=img D i\/∃p∈Yy (base+4*num+2*(csD D base num).other) (Zx num ((csD D base num).most+1) lsn c 0) (Zx num ((csD D base num).most+1) lsn c 1),p.1=i/\img D2 i=p.2) :
  ∃v,(v=held num\/v=(c,lsn))/\FO D2 base (t+1) (upd held num v) /\
   (img D2 (base+4*num+2*(csD D base num).other)=Zx num ((csD D base num).most+1) lsn c 0->img D2 (base+4*num+2*(csD D base num).other+1)=Zx num ((csD D base num).most+1) lsn c 1->v=(c,lsn)):=by
 obtain⟨m1,m2,m3⟩:=csD_most h hn (by omega)
 have hsec:=λ j hj=>(h.sec num j hn hj).least (by omega) (by omega) (m3 j hj)
 have hheld:=h.held num hn
 have hat:∀j,j<4->pg D2 base num j=pg D base num j\/(csD D base num).other=j / 2/\pg D2 base num j=Zx num ((csD D base num).most+1) lsn c (j % 2):=λ j hj=>by
  rcases hi (base+4*num+j) with h1|⟨p,hp,h2,h3⟩
  ·exact .inl h1
  ·right
   simp only[Yy,List.mem_cons,List.not_mem_nil,or_false] at hp
   rcases hp with rfl|rfl
   ·have hj2:j=2*(csD D base num).other:=by dsimp only at h2;omega
    refine⟨by omega, ?_⟩
    rw[show j % 2=0 by omega];exact h3
   ·have hj2:j=2*(csD D base num).other+1:=by dsimp only at h2;omega
    refine⟨by omega, ?_⟩
    rw[show j % 2=1 by omega];exact h3
 have hw:=E.wrote (x0:=pg D2 base num 0) (y0:=pg D2 base num 1) (x1:=pg D2 base num 2) (y1:=pg D2 base num 3) hn hc hl (hsec 0 (by omega)) (hsec 1 (by omega)) (hsec 2 (by omega)) (hsec 3 (by omega)) rfl (by omega) (hat 0 (by omega)) (hat 1 (by omega)) (hat 2 (by omega)) (hat 3 (by omega))
 have hoth:∀m,m<64->m≠num->∀j,j<4->pg D2 base m j=pg D base m j:=λ m hm hne j hj=>by
  rcases hi (base+4*m+j) with h1|⟨p,hp,h2,h3⟩
  ·exact h1
  ·exfalso
   simp only[Yy,List.mem_cons,List.not_mem_nil,or_false] at hp
   rcases hp with rfl|rfl<;>dsimp only at h2<;>omega
 have hfo:∀v,WU (csD D2 base num)=v->FO D2 base (t+1) (upd held num v):=λ v hv=>by
  refine⟨hok,ha,he,by rw[hlen];exact h.len,λ m j hm hj=>?_,λ m hm=>?_⟩
  ·by_cases hmn:m=num
   ·subst hmn
    rcases hat j hj with h1|⟨_,h2⟩
    ·rw[h1];exact (h.sec m j hm hj).mono (by omega)
    ·rw[h2];exact .inr ⟨_,_,_,by omega,by omega,rfl⟩
   ·rw[hoth m hm hmn j hj];exact (h.sec m j hm hj).mono (by omega)
  ·unfold upd
   by_cases hmn:m=num
   ·subst hmn;rw[if_pos rfl];exact hv
   ·rw[if_neg hmn,<-h.held m hm]
    unfold csD
    rw[hoth m hm hmn 0 (by omega),hoth m hm hmn 1 (by omega),hoth m hm hmn 2 (by omega),hoth m hm hmn 3 (by omega)]
 refine⟨WU (csD D2 base num), ?_,hfo _ rfl,λ p1 p2=>?_⟩
 ·rcases hw.1 with h1|h1
  ·left;rw[<-hheld];exact h1
  ·exact .inr h1
 ·refine hw.2 ?_
  rcases (show (csD D base num).other=0\/(csD D base num).other=1 by omega) with ho|ho
  ·rw[ho] at p1 p2
   rw[if_pos ho];exact⟨p1,p2⟩
  ·rw[ho] at p1 p2
   rw[if_neg (by rw[show (cs2 num (pg D base num 0) (pg D base num 1) (pg D base num 2) (pg D base num 3)).other=1 from ho];omega)];exact⟨p1,p2⟩
theorem FO.write {D:DS}{base t:Nat}{held:Nat->ZS}(h:FO D base t held){num lsn:Nat}{c:ZO}(hn:num<64)(hc:Fit c)(hl:lsn<M64)(ht:t+1<M64) :
  ((YN D base num lsn c).2=0->FO (YN D base num lsn c).1 base (t+1) (upd held num (c,lsn)))/\(∀keep,∃v,(v=held num\/v=(c,lsn))/\FO ((YN D base num lsn c).1.crash keep) base (t+1) (upd held num v))/\(YN D base num lsn c).1.Ok:=by
 have hln:=h.len
 have hL:base+4*num+4<=D.secs.length:=by omega
 have ha1:=countsD_alive h.empty h.alive hL
 have hs1:=WG (D:=D) (base:=base) (num:=num)
 have hok1:=countsD_ok (base:=base) (num:=num) h.dok
 have hv:=Vd h.empty h.alive hL
 obtain⟨m1,m2,_⟩:=csD_most h hn (by omega)
 have hf1:=h.congr (D':=(Zo D base num).2.1) hs1 hok1 ha1
 unfold YN
 by_cases he:(Zo D base num).2.2=0
 ·rw[if_neg (by simp[he]),hv he]
  dsimp only
  rw[if_neg (by unfold M64 at ht;omega)]
  have hW:∀p∈Yy (base+4*num+2*(csD D base num).other) (Zx num ((csD D base num).most+1) lsn c 0) (Zx num ((csD D base num).most+1) lsn c 1),p.1<(Zo D base num).2.1.secs.length/\p.2.length=64:=λ p hp=>by
   rw[hs1]
   simp only[Yy,List.mem_cons,List.not_mem_nil,or_false] at hp
   rcases hp with rfl|rfl
   ·exact⟨by dsimp only;omega,Xg _ _ _ _ (by omega)⟩
   ·exact⟨by dsimp only;omega,Xg _ _ _ _ (by omega)⟩
  have hokL:=DS.Ok.lays (D:=(Zo D base num).2.1) hok1 (λ p hp=>(hW p hp).2)
  have hlenL:=YX (Yy (base+4*num+2*(csD D base num).other) (Zx num ((csD D base num).most+1) lsn c 0) (Zx num ((csD D base num).most+1) lsn c 1)) (Zo D base num).2.1
  have hout:=lays_out (Yy (base+4*num+2*(csD D base num).other) (Zx num ((csD D base num).most+1) lsn c 0) (Zx num ((csD D base num).most+1) lsn c 1)) (Zo D base num).2.1 ha1 (λ p hp=>(hW p hp).1)
  rw[hs1] at hlenL hout
  have hgo:=λ (D2:DS)=>h.wrote (D2:=D2) hn hc hl ht
  generalize hP0:Zx num ((csD D base num).most+1) lsn c 0=P0 at *
  generalize hP1:Zx num ((csD D base num).most+1) lsn c 1=P1 at *
  generalize base+4*num+2*(csD D base num).other=ix at *
  generalize hr:DS.lays (Yy ix P0 P1) (Zo D base num).2.1=r at *
  refine⟨λ h0=>?_,λ keep=>?_,hokL⟩
  ·rcases hout with⟨l',hl',hs,hne⟩|⟨hs,_,hal⟩
   ·exact absurd h0 hne
   ·have hemp:YC r.1.secs:=by rw[hs];exact ZK
    obtain⟨v,_,hv2,hv3⟩:=hgo r.1 hokL hal hemp hlenL (λ i=>YJ h.empty hs D rfl i)
    have hall:=λ {i:Nat} (hi:i<D.secs.length)=>img_all (D:=r.1) h.empty hs D rfl hi
    have hixl:=hW (ix,P0) (by simp[Yy])
    have hixm:=hW (ix+1,P1) (by simp[Yy])
    rw[hs1] at hixl hixm
    have h1:img r.1 ix=P0:=by
     rcases hall hixl.1 with⟨_,hno⟩|⟨p,hp,h1,h2⟩
     ·exact absurd rfl (hno (ix,P0) (by simp[Yy]))
     ·simp only[Yy,List.mem_cons,List.not_mem_nil,or_false] at hp
      rcases hp with rfl|rfl
      ·exact h2
      ·dsimp only at h1;omega
    have h2:img r.1 (ix+1)=P1:=by
     rcases hall hixm.1 with⟨_,hno⟩|⟨p,hp,h1,h2⟩
     ·exact absurd rfl (hno (ix+1,P1) (by simp[Yy]))
     ·simp only[Yy,List.mem_cons,List.not_mem_nil,or_false] at hp
      rcases hp with rfl|rfl
      ·dsimp only at h1;omega
      ·exact h2
    rw[hv3 h1 h2] at hv2
    exact hv2
  ·have hcr:∃(kp:Nat->Bool) (l':List (Nat×Blk)),l' <+: Yy ix P0 P1/\(r.1.crash keep).secs=settled kp (YD D.secs l'):=by
    rcases hout with⟨l',hl',hs,hne⟩|⟨hs,_,hal⟩
    ·exact⟨keep,l',hl',by simp only[DS.crash];rw[hs]⟩
    ·refine⟨λ _=>true,Yy ix P0 P1,List.prefix_refl _, ?_⟩
     have hemp:YC r.1.secs:=by rw[hs];exact ZK
     simp only[DS.crash]
     rw[settled_empty hemp,hs]
   obtain⟨kp,l',hl',hs⟩:=hcr
   obtain⟨v,h1,h2,_⟩:=hgo (r.1.crash keep) hokL.crash rfl (by rw[hs];exact ZK) (by rw[hs,ZL,Yn]) (λ i=>by
    rcases YJ h.empty hs D rfl i with h1|⟨p,hp,h2,h3⟩
    ·exact .inl h1
    ·exact .inr ⟨p,hl'.subset hp,h2,h3⟩)
   exact⟨v,h1,h2⟩
 ·rw[if_pos he]
  refine⟨λ h0=>absurd h0 he,λ keep=>⟨held num,.inl rfl, ?_⟩,hok1⟩
  rw[upd_self]
  exact (hf1.crash keep).mono (by omega)
theorem writeF_calm {D:DS}{base t:Nat}{held:Nat->ZS}(h:FO D base t held)(hc:D.Calm){num lsn:Nat}{c:ZO}(hn:num<64)(ht:t+1<M64):(YN D base num lsn c).2=0/\(YN D base num lsn c).1.Calm:=by
 have hln:=h.len
 have hL:base+4*num+4<=D.secs.length:=by omega
 obtain⟨e1,e2⟩:=countsD_calm hc hL
 have hv:=Vd h.empty h.alive hL e1
 have hs1:=WG (D:=D) (base:=base) (num:=num)
 obtain⟨m1,m2,_⟩:=csD_most h hn (by omega)
 unfold YN
 rw[if_neg (by simp[e1]),hv]
 dsimp only
 rw[if_neg (by unfold M64 at ht;omega)]
 obtain⟨l0,l1,l2⟩:=XN (Yy (base+4*num+2*(csD D base num).other) (Zx num ((csD D base num).most+1) lsn c 0) (Zx num ((csD D base num).most+1) lsn c 1)) (Zo D base num).2.1 e2 (λ p hp=>by
  rw[hs1]
  simp only[Yy,List.mem_cons,List.not_mem_nil,or_false] at hp
  rcases hp with rfl|rfl<;>dsimp only<;>omega)
 exact⟨l0,l1⟩
theorem FO.format {D:DS}{base:Nat}(hok:D.Ok)(hc:D.Calm)(he:YC D.secs)(hl:base+256<=D.secs.length) :
  (DS.lays (ZC base) D).2=0/\(DS.lays (ZC base) D).1.Calm/\FO (DS.lays (ZC base) D).1 base 0 (λ _=>zHeld):=by
 have hidx:∀p∈ZC base,p.1<D.secs.length:=λ p hp=>by
  simp only[ZC,List.mem_map,List.mem_range] at hp
  obtain⟨k,hk,rfl⟩:=hp
  dsimp only;omega
 obtain⟨l0,l1,l2⟩:=XN (ZC base) D hc hidx
 have hok1:=hok.lays (l:=ZC base) noughtsF_64
 have himg:∀i,i<256->img (DS.lays (ZC base) D).1 (base+i)=Xs:=λ i hi=>by
  rcases img_all he l2 D rfl (i:=base+i) (by omega) with⟨_,hno⟩|⟨p,hp,h1,h2⟩
  ·exact absurd rfl (hno (base+i,Xs) (by simp only[ZC,List.mem_map,List.mem_range];exact⟨i,hi,rfl⟩))
  ·simp only[ZC,List.mem_map,List.mem_range] at hp
   obtain⟨k,hk,rfl⟩:=hp
   exact h2
 have hpg:∀num j,num<64->j<4->pg (DS.lays (ZC base) D).1 base num j=Xs:=λ num j h1 h2=>by
  unfold pg;rw[Nat.add_assoc];exact himg _ (by omega)
 refine⟨l0,l1,hok1,l1.dead,by rw[l2];exact ZK,by rw[YX];exact hl,λ num j h1 h2=>.inl (hpg num j h1 h2),λ num h1=>?_⟩
 unfold csD
 rw[hpg num 0 h1 (by omega),hpg num 1 h1 (by omega),hpg num 2 h1 (by omega),hpg num 3 h1 (by omega),(cs2_eq num Xs Xs Xs Xs).1]
 have hr:(Yo num Xs Xs).right=false:=by
  cases hr:(Yo num Xs Xs).right with
  | false=>rfl
  | true=>
   have:=(says_right (by rfl) (by rfl) hr).1
   rw[stamp_zblk] at this;omega
 rw[if_neg (by simp[hr]),if_neg (by simp[hr])]
structure Pg where
 c:ZO
 w:CV
 lsn:Nat
 rc:Nat
abbrev pgV (g:Pg):List Value:=[.int .i64 g.c.kind,.slice g.w.ra g.w.rn g.w.rc,.slice g.w.ka g.w.kn g.w.kc,.int .u64 g.lsn,.int .u64 g.rc]
abbrev Pgs:=Int->Option Pg
def updG (pg:Pgs)(n:Int)(g:Pg):Pgs:=λ k=>if k=n then some g else pg k
theorem updG_self {pg:Pgs}{n:Int}{g:Pg}(h:pg n=some g):updG pg n g=pg:=by
 funext k
 unfold updG
 split
 ·rename_i e;rw[e,h]
 ·rfl
structure MpIn (ρ:Hp)(es:List MapEntry)(pg:Pgs):Prop where
 keys:ZP .i64 es
 uk:UKeys es
 get:∀n,Ym es n=(pg n).map (λ g=>.agg ⟨pgV g⟩)
 cin:∀n g,pg n=some g->CIn ρ g.w g.c.rows g.c.kids
theorem MpIn.mono {ρ ρ' es pg}(h:MpIn ρ es pg)(hle:ρ.le ρ'):MpIn ρ' es pg:=⟨h.keys,h.uk,h.get,λ n g hg=>(h.cin n g hg).mono hle⟩
theorem MpIn.put {ρ es es' pg}(h:MpIn ρ es pg){n:Int}{g:Pg}(hk:ZP .i64 es')(hu:UKeys es')(hg:∀j,Ym es' j=if j=n then some (.agg ⟨pgV g⟩) else Ym es j)(hc:CIn ρ g.w g.c.rows g.c.kids):MpIn ρ es' (updG pg n g):=
 ⟨hk,hu,λ j=>by
  rw[hg];unfold updG
  split
  ·rfl
  ·exact h.get j,λ j g' hj=>by
  unfold updG at hj
  split at hj
  ·cases hj;exact hc
  ·exact h.cin j g' hj⟩
abbrev Yr (mb:Nat)(es:List MapEntry)(ck:Nat):List (Nat×Obj):=[(mb,.map ⟨es⟩ ck)]
abbrev PoIn (ρ:Hp)(pb fb lb mb:Nat):Prop:=ρ pb=some (.cells ⟨[.pointer (some ⟨fb,0,none⟩),.pointer (some ⟨lb,0,none⟩),.map (some mb)]⟩ 220 (0,0))
theorem there_spec (ρ:Hp)(n:Int):Spec prog 142 [.int .i64 n] ρ [] (λ v ρ' L'=>v=.bool (decide (0<=n/\n<64))/\ρ'=ρ/\L'=[]):=by
 refine Za func142 rfl rfl rfl λ u R=>?_
 simp only[Zc,kA]
 by_cases h:0<=n
 ·repeat' (first|refine zV ?_|intro _)
  exact qE ⟨by rw[show (decide (0<=n/\n<64))=decide (n<64) by simp[h]],rfl,rfl⟩
 ·repeat' (first|refine zV ?_|intro _)
  exact qE ⟨by rw[show (decide (0<=n/\n<64))=false by simp[h]],rfl,rfl⟩
def holdD (pg:Pgs)(D:DS)(base num:Nat):DS:=if (pg num).isSome then D else (Xy D base num).2
structure HoldG (pg:Pgs)(D:DS)(base num:Nat)(g:Pg):Prop where
 out:pg num=some g\/pg num=none/\g.c=(Xy D base num).1.1/\g.lsn=(Xy D base num).1.2.1/\g.rc=0
theorem hold_spec (ρ:Hp)(pb fb lb mb db base num:Nat)(hp:PoIn ρ pb fb lb mb)(hf:FIn ρ fb db base)(hb:base<=100000)(hn:num<64)(k:DK)(D:DS)(hD:DOk k D)(pg:Pgs)(es:List MapEntry)(ck:Nat)(hm:MpIn ρ es pg)
  (hr:pg num=none->(Xy D base num).1.2.2=0) :
  Spec prog 143 [.pointer (some ⟨pb,0,none⟩),.int .i64 num] ρ (Yr mb es ck::Zg db k D)
   (λ v ρ' L'=>ρ.le ρ'/\∃g es' ck',v=.tuple ⟨[.agg ⟨pgV g⟩,.int .i64 0]⟩/\HoldG pg D base num g/\MpIn ρ' es' (updG pg num g)/\DOk k (holdD pg D base num)/\L'=Yr mb es' ck'::Zg db k (holdD pg D base num)):=by
 have hk:=hm.keys
 have hu:=hm.uk
 have hg:=hm.get num
 refine Za func143 rfl rfl rfl λ u R=>?_
 simp only[Zc,kA]
 cases hpn:pg num with
 | some g=>
  rw[hpn] at hg
  simp only[Option.map_some] at hg
  have hd:holdD pg D base num=D:=by unfold holdD;rw[hpn];rfl
  rw[hd]
  repeat' (first|refine zV ?_|intro _)
  exact qE (L':=Yr mb es ck::Zg db k D) ⟨Hp.le_refl _,g,es,ck,rfl,⟨.inl hpn⟩,by rw[updG_self hpn];exact hm,hD,rfl⟩
 | none=>
  rw[hpn] at hg
  simp only[Option.map_none] at hg
  have h0:=hr hpn
  have hd:holdD pg D base num=(Xy D base num).2:=by unfold holdD;rw[hpn];rfl
  rw[hd]
  have hrd:=Read_spec ρ fb db base num hf hb hn k D hD
  rw[h0] at hrd
  have hho:∀g:Pg,g.c=(Xy D base num).1.1->g.lsn=(Xy D base num).1.2.1->g.rc=0->HoldG pg D base num g:=λ g h1 h2 h3=>⟨.inr ⟨hpn,h1,h2,h3⟩⟩
  generalize Xy D base num=r at *
  obtain⟨⟨c,lsn,e⟩,D'⟩:=r
  dsimp only at *
  repeat' (first|(refine Zb (.func 33) ?_;refine qC rfl rfl hrd ?_;rintro v1 ρ1 L1 hle1 ⟨hl1,w,rfl,hC,hk1,rfl⟩;have hp1:=Hp.at' hl1 hp;try simp only[kB])|refine zV ?_|intro _)
  rename_i b11
  refine Yt [0,1,2,3,4,5] (.e 6 [] .o) ([[(b11,.cells ⟨pgV ⟨c,w,lsn,0⟩⟩ 217 (0,0))]]) ?_
  repeat' (refine iT ?_;first|refine rA ?_|(refine rE ?_<;>((first|(refine WQ rfl rfl rfl hk hu (λ es' ck' h1 h2 h3=>?_))|(refine qEf ?_;try intro _))<;>(try simp only[kA])<;>refine zN ?_)))
  all_goals (repeat' (first|refine zV ?_|intro _))
  all_goals exact qE (L':=Yr mb es' ck'::Zg db k D') ⟨hl1,⟨c,w,lsn,0⟩,es',ck',rfl,hho _ rfl rfl rfl,(hm.mono hl1).put h1 h2 h3 hC,hk1,rfl⟩
theorem flat_oneP {α:Type}{g:α->List Value}(hg:∀x,(g x).all (·.oneCell')=true)(l:List α):((l.map g).flatten).all (·.oneCell')=true:=by
 induction l with
 | nil=>rfl
 | cons a r ih=>simp only[List.map_cons,aF,List.all_append,aE];exact⟨hg a,ih⟩
theorem AIn.none_nil {ρ:Hp}{α:Type}{sz n:Nat}{g:α->List Value}{l:List α}(h:AIn ρ sz g none n l):l=[]:=by
 by_cases h0:0<l.length
 ·obtain⟨b,off,C,T,fr,h,_⟩:=h.get h0
  cases h
 ·exact List.eq_nil_of_length_eq_zero (by omega)
theorem cloneRows_spec (ρ:Hp)(a:Option Addr)(n c:Nat)(l:List Row)(h:AIn ρ 4 Yz a n l)(hn:n<=1000000)(hc:n<=c):Spec prog 206 [.slice a n c] ρ []
  (λ v ρ' L'=>ρ.le ρ'/\∃a' c',v=.slice a' n c'/\n<=c'/\AIn ρ' 4 Yz a' n l/\L'=[]):=by
 have hl:=h.len
 cases a with
 | none=>
  obtain rfl:=h.none_nil
  obtain rfl:n=0:=by simpa using hl.symm
  refine Za func206 rfl rfl rfl λ u R=>?_
  simp only[Zc,kA]
  repeat' (first|refine zV ?_|intro _)
  exact qE ⟨Hp.le_refl _,none,0,rfl,aR _,h,rfl⟩
 | some ad=>
  refine Za func206 rfl rfl rfl λ u R=>?_
  simp only[Zc,kA]
  repeat' (first|refine zV ?_|intro _)
  refine YA (n:=0) (xs:=[]) (sp:=[]) (ys:=((l.map Yz).flatten)) (sz:=4) rfl rfl (OwnS.zero _ 4) (hR:=ZJ) h.srcV (by rw[flat_len Yz 4 l (λ _ _=>rfl)];omega) (flat_oneP (λ _=>rfl) l) (by decide) rfl (by omega) (by omega) rfl (λ v' sp' hown'=>?_)
  simp only[Nat.zero_add,List.nil_append] at hown' ⊢
  refine Zt (ZG v' ((l.map Yz).flatten) sp' 171) (h:=Rem.here) (λ ρ2 hl2 hf2=>?_)
  obtain⟨a2,c2,rfl,hc2,hA2⟩:=hown'.aIn hl (λ _ _=>rfl) hf2
  repeat' (first|refine zV ?_|intro _)
  exact qE ⟨hl2,a2,c2,rfl,hc2,hA2,rfl⟩
theorem cloneKids_spec (ρ:Hp)(a:Option Addr)(n c:Nat)(l:List Kid)(h:AIn ρ 3 XD a n l)(hn:n<=1000000)(hc:n<=c):Spec prog 207 [.slice a n c] ρ []
  (λ v ρ' L'=>ρ.le ρ'/\∃a' c',v=.slice a' n c'/\n<=c'/\AIn ρ' 3 XD a' n l/\L'=[]):=by
 have hl:=h.len
 cases a with
 | none=>
  obtain rfl:=h.none_nil
  obtain rfl:n=0:=by simpa using hl.symm
  refine Za func207 rfl rfl rfl λ u R=>?_
  simp only[Zc,kA]
  repeat' (first|refine zV ?_|intro _)
  exact qE ⟨Hp.le_refl _,none,0,rfl,aR _,h,rfl⟩
 | some ad=>
  refine Za func207 rfl rfl rfl λ u R=>?_
  simp only[Zc,kA]
  repeat' (first|refine zV ?_|intro _)
  refine YA (n:=0) (xs:=[]) (sp:=[]) (ys:=((l.map XD).flatten)) (sz:=3) rfl rfl (OwnS.zero _ 3) (hR:=ZJ) h.srcV (by rw[flat_len XD 3 l (λ _ _=>rfl)];omega) (flat_oneP (λ _=>rfl) l) (by decide) rfl (by omega) (by omega) rfl (λ v' sp' hown'=>?_)
  simp only[Nat.zero_add,List.nil_append] at hown' ⊢
  refine Zt (ZG v' ((l.map XD).flatten) sp' 227) (h:=Rem.here) (λ ρ2 hl2 hf2=>?_)
  obtain⟨a2,c2,rfl,hc2,hA2⟩:=hown'.aIn hl (λ _ _=>rfl) hf2
  repeat' (first|refine zV ?_|intro _)
  exact qE ⟨hl2,a2,c2,rfl,hc2,hA2,rfl⟩
theorem copied_spec (ρ:Hp)(kd:Int)(w:CV)(rows:List Row)(kids:List Kid)(h:CIn ρ w rows kids):Spec prog 137 [.agg ⟨Yv kd w⟩] ρ []
  (λ v ρ' L'=>ρ.le ρ'/\∃w',v=.agg ⟨Yv kd w'⟩/\CIn ρ' w' rows kids/\L'=[]):=by
 have hr:=λ {ρ':Hp} (hl:ρ.le ρ')=>cloneRows_spec ρ' w.ra w.rn w.rc rows (h.r.mono hl) h.rb h.rc
 have hk:=λ {ρ':Hp} (hl:ρ.le ρ')=>cloneKids_spec ρ' w.ka w.kn w.kc kids (h.k.mono hl) h.kb h.kc
 have hfin:∀{ρ1 ρ2 ρ':Hp} {a1:Option Addr} {c1:Nat} {a2:Option Addr} {c2:Nat},AIn ρ1 4 Yz a1 w.rn rows->ρ1.le ρ'->w.rn<=c1->AIn ρ2 3 XD a2 w.kn kids->ρ2.le ρ'->w.kn<=c2->CIn ρ' ⟨a1,w.rn,c1,a2,w.kn,c2⟩ rows kids:=λ h1 l1 h2 h3 l2 h4=>⟨h1.mono l1,h3.mono l2,h.rb,h.kb,h2,h4⟩
 obtain⟨ra,rn,rc,ka,kn,kc⟩:=w
 dsimp only at hr hk hfin
 refine Za func137 rfl rfl rfl λ u R=>?_
 simp only[Zc,kA]
 repeat' (first|refine zV ?_|intro _)
 rename_i b1 b2
 refine Yt [0,3] (.b 1 4 [] [] (.b 2 4 [] [] (.e 4 [6] (.e 5 [] (.e 7 [8] (.e 9 [] .o)))) (.e 2 [6] (.e 5 [] (.e 7 [8] (.e 9 [] .o))))) (.e 1 [] (.e 2 [6] (.e 5 [] (.e 7 [8] (.e 9 [] .o)))))) ([]) ?_
 repeat' (refine iT ?_;first|refine rA ?_|((first|(refine iE ?_;refine rE ?_)|(refine iB ?_;refine rB ?_ ?_))<;>((first|(refine Zb (.func 206) ?_;refine qC rfl rfl (hr (by assumption)) ?_;rintro v1 ρ1 L1 hle1 ⟨hl1,a1,c1,rfl,hc1,hA1,rfl⟩;simp only[kA])|(refine Zb (.func 206) ?_;refine qC rfl rfl (hr (Hp.le_refl _)) ?_;rintro v1 ρ1 L1 hle1 ⟨hl1,a1,c1,rfl,hc1,hA1,rfl⟩;simp only[kA])|(refine Zb (.func 207) ?_;refine qC rfl rfl (hk (by assumption)) ?_;rintro v2 ρ2 L2 hle2 ⟨hl2,a2,c2,rfl,hc2,hA2,rfl⟩;simp only[kA])|(refine Zb (.func 207) ?_;refine qC rfl rfl (hk (Hp.le_refl _)) ?_;rintro v2 ρ2 L2 hle2 ⟨hl2,a2,c2,rfl,hc2,hA2,rfl⟩;simp only[kA])|(refine i_qq ?_;refine qQ ?_)|refine qEf ?_)<;>(try simp only[kA])<;>refine zN ?_)))
 all_goals (repeat' (first|refine zV ?_|intro _))
 all_goals exact qE (L':=[]) ⟨by first|exact Hp.le_trans hl1 hl2|exact Hp.le_trans hl2 hl1,_,rfl,hfin hA1 (by first|assumption|exact Hp.le_refl _) hc1 hA2 (by first|assumption|exact Hp.le_refl _) hc2,rfl⟩
abbrev zCc:Value:=.agg ⟨Yv 0 zCV⟩
theorem new17_spec (ρ:Hp)(fb lb:Nat):Spec prog 83 [.pointer (some ⟨fb,0,none⟩),.pointer (some ⟨lb,0,none⟩)] ρ []
  (λ v ρ' L'=>ρ.le ρ'/\∃pb mb,v=.tuple ⟨[.pointer (some ⟨pb,0,none⟩),.int .i64 0]⟩/\PoIn ρ' pb fb lb mb/\L'=[Yr mb [] 0]):=by
 refine Za func83 rfl rfl rfl λ u R=>?_
 simp only[Zc,kA]
 repeat' (first|refine zV ?_|intro _)
 rename_i mb pb
 refine ZB [(pb,.cells ⟨[.pointer (some ⟨fb,0,none⟩),.pointer (some ⟨lb,0,none⟩),.map (some mb)]⟩ 220 (0,0))] (h:=Rem.here) (λ ρ1 hl1 hf1=>?_)
 have hp:=hf1 _ (List.mem_singleton.2 rfl)
 exact qE (L':=[Yr mb [] 0]) ⟨hl1,pb,mb,rfl,hp,rfl⟩
theorem page17_arg (ρ:Hp)(pb:Nat)(n:Int)(hn:¬(0<=n/\n<64)):Spec prog 80 [.pointer (some ⟨pb,0,none⟩),.int .i64 n] ρ [] (λ v ρ' L'=>v=.tuple ⟨[zCc,.int .u64 0,.int .i64 2]⟩/\ρ'=ρ/\L'=[]):=by
 have ht:=there_spec ρ n
 rw[decide_eq_false hn] at ht
 refine Za func80 rfl rfl rfl λ u R=>?_
 simp only[Zc,kA]
 repeat' (first|(refine Zb (.func 142) ?_;refine qR rfl rfl (ht) ?_;try simp only[kA])|refine zV ?_|intro _)
 exact qE ⟨rfl,rfl,rfl⟩
theorem page17_spec (ρ:Hp)(pb fb lb mb db base num:Nat)(hp:PoIn ρ pb fb lb mb)(hf:FIn ρ fb db base)(hb:base<=100000)(hn:num<64)(k:DK)(D:DS)(hD:DOk k D)(pg:Pgs)(es:List MapEntry)(ck:Nat)(hm:MpIn ρ es pg)
  (hr:pg num=none->(Xy D base num).1.2.2=0) :
  Spec prog 80 [.pointer (some ⟨pb,0,none⟩),.int .i64 num] ρ (Yr mb es ck::Zg db k D)
   (λ v ρ' L'=>ρ.le ρ'/\∃g es' ck' w,v=.tuple ⟨[.agg ⟨Yv g.c.kind w⟩,.int .u64 (g.lsn:Nat),.int .i64 0]⟩/\CIn ρ' w g.c.rows g.c.kids/\HoldG pg D base num g/\MpIn ρ' es' (updG pg num g)/\DOk k (holdD pg D base num)/\L'=Yr mb es' ck'::Zg db k (holdD pg D base num)):=by
 have ht:=λ ρ=>there_spec ρ num
 simp only[decide_eq_true (show (0:Int)<=num/\(num:Int)<64 by omega)] at ht
 have hh:=hold_spec ρ pb fb lb mb db base num hp hf hb hn k D hD pg es ck hm hr
 have hcp:=λ {ρ':Hp} {g:Pg} {es':List MapEntry} (h:MpIn ρ' es' (updG pg num g))=>copied_spec ρ' g.c.kind g.w g.c.rows g.c.kids (h.cin num g (by unfold updG;rw[if_pos rfl]))
 refine Za func80 rfl rfl rfl λ u R=>?_
 simp only[Zc,kA]
 repeat' (first|(refine Zb (.func 142) ?_;refine qC rfl rfl (ht _) ?_;rintro v ρ' L' hle ⟨rfl,rfl,rfl⟩<;>(try simp only[kA]))|(refine Zb (.func 143) ?_;refine qC rfl rfl hh ?_;rintro v1 ρ1 L1 hle1 ⟨hl1,g,es',ck',rfl,hg,hm1,hk1,rfl⟩;try simp only[kB])|refine zV ?_|intro _)
 rename_i b7
 refine Yt [0,1,3,4,5] (.e 2 [] (.e 6 [] (.f [7,8] .o))) ([[(b7,.cells ⟨pgV g⟩ 217 (0,0))]]) ?_
 repeat' (refine iT ?_;first|refine rA ?_|(refine rE ?_<;>((first|(refine Zb (.func 137) ?_;refine qC rfl rfl (hcp hm1) ?_;rintro v2 ρ2 L2 hle2 ⟨hl2,w2,rfl,hC2,rfl⟩;simp only[kA])|refine qEf ?_)<;>(try simp only[kA])<;>refine zN ?_)))
 all_goals (repeat' (first|refine zV ?_|intro _))
 all_goals exact qE (L':=Yr mb es' ck'::Zg db k (holdD pg D base num)) ⟨Hp.le_trans hl1 hl2,g,es',ck',w2,rfl,hC2,hg,hm1.mono hl2,hk1,rfl⟩
theorem own_arg (ρ:Hp)(pb:Nat)(n:Int)(f:Value)(hn:¬(0<=n/\n<64)):Spec prog 138 [.pointer (some ⟨pb,0,none⟩),.int .i64 n,f] ρ [] (λ v ρ' L'=>v=.int .i64 2/\ρ'=ρ/\L'=[]):=by
 have ht:=there_spec ρ n
 rw[decide_eq_false hn] at ht
 refine Za func138 rfl rfl rfl λ u R=>?_
 simp only[Zc,kA]
 repeat' (first|(refine Zb (.func 142) ?_;refine qR rfl rfl (ht) ?_;try simp only[kA])|refine zV ?_|intro _)
 exact qE ⟨rfl,rfl,rfl⟩
theorem own_none (ρ:Hp)(pb fb lb mb:Nat)(hp:PoIn ρ pb fb lb mb)(n:Int)(f:Value)(hn:0<=n/\n<64)(pg:Pgs)(es:List MapEntry)(ck:Nat)(hm:MpIn ρ es pg)(hno:pg n=none) :
  Spec prog 138 [.pointer (some ⟨pb,0,none⟩),.int .i64 n,f] ρ [Yr mb es ck] (λ v ρ' L'=>v=.int .i64 4/\ρ'=ρ/\L'=[Yr mb es ck]):=by
 have ht:=there_spec ρ n
 rw[decide_eq_true hn] at ht
 have hk:=hm.keys
 have hg:=hm.get n
 rw[hno] at hg
 simp only[Option.map_none] at hg
 refine Za func138 rfl rfl rfl λ u R=>?_
 simp only[Zc,kA]
 repeat' (first|(refine Zb (.func 142) ?_;refine qR rfl rfl (ht) ?_;try simp only[kA])|refine zV ?_|intro _)
 exact qE (L':=[Yr mb es ck]) ⟨rfl,rfl,rfl⟩
theorem own_some (ρ:Hp)(pb fb lb mb:Nat)(hp:PoIn ρ pb fb lb mb)(n:Int)(hn:0<=n/\n<64)(pg:Pgs)(es:List MapEntry)(ck:Nat)(hm:MpIn ρ es pg)(g:Pg)(hs:pg n=some g)(fn:Nat)[hF:Zz prog fn](cs:List Value)(X:SH)(Post:Value->Hp->SH->Prop)
  (hS:Spec prog fn ([.agg ⟨pgV g⟩]++cs) ρ (Yr mb es ck::X) (λ v ρ' L'=>(∃e,v=.int .i64 e)/\Post v ρ' L')) :
  Spec prog 138 [.pointer (some ⟨pb,0,none⟩),.int .i64 n,.func (.func fn) ⟨[]⟩ ⟨cs⟩] ρ (Yr mb es ck::X) Post:=by
 have ht:=there_spec ρ n
 rw[decide_eq_true hn] at ht
 have hk:=hm.keys
 have hg:=hm.get n
 rw[hs] at hg
 simp only[Option.map_some] at hg
 refine Za func138 rfl rfl rfl λ u R=>?_
 simp only[Zc,kA]
 repeat' (first|(refine Zb (.func 142) ?_;refine qR rfl rfl (ht) ?_;try simp only[kA])|(refine Zb (.tmp 27) ?_;refine qC rfl rfl hS ?_;rintro v1 ρ1 L1 hle1 ⟨⟨e,rfl⟩,hP⟩;try simp only[kB])|refine zV ?_|intro _)
 exact qE (L':=L1) hP
def delG (pg:Pgs)(n:Int):Pgs:=λ k=>if k=n then none else pg k
theorem MpIn.del {ρ es es' pg}(h:MpIn ρ es pg){n:Int}(hk:ZP .i64 es')(hu:UKeys es')(hg:∀j,Ym es' j=if j=n then none else Ym es j):MpIn ρ es' (delG pg n):=
 ⟨hk,hu,λ j=>by
  rw[hg];unfold delG
  split
  ·rfl
  ·exact h.get j,λ j g' hj=>by
  unfold delG at hj
  split at hj
  ·cases hj
  ·exact h.cin j g' hj⟩
abbrev bpC (b pb:Nat):List (Nat×Obj):=[(b,.cells ⟨[.pointer (some ⟨pb,0,none⟩)]⟩ 79 (0,0))]
abbrev bnC (b:Nat)(n:Int):List (Nat×Obj):=[(b,.cells ⟨[.int .i64 n]⟩ 3 (0,0))]
theorem evict1_spec (ρ:Hp)(b2 b3 pb fb lb mb:Nat)(hp:PoIn ρ pb fb lb mb)(n:Int)(pg:Pgs)(es:List MapEntry)(ck:Nat)(hm:MpIn ρ es pg)(g:Pg) :
  Spec prog 139 [.agg ⟨pgV g⟩,.pointer (some ⟨b2,0,none⟩),.pointer (some ⟨b3,0,none⟩)] ρ [Yr mb es ck,bpC b2 pb,bnC b3 n]
   (λ v ρ' L'=>(∃e,v=.int .i64 e)/\v=.int .i64 (if g.rc=0 then 0 else 270)/\ρ'=ρ/\∃es' ck',MpIn ρ es' (if g.rc=0 then delG pg n else pg)/\L'=[Yr mb es' ck',bpC b2 pb,bnC b3 n]):=by
 have hk:=hm.keys
 have hu:=hm.uk
 refine Za func139 rfl rfl rfl λ u R=>?_
 simp only[Zc,kA]
 by_cases h0:g.rc=0
 ·rw[if_pos h0,if_pos h0]
  have h1:((g.rc:Nat):Int)=0:=by omega
  repeat' (first|refine zV ?_|intro _)
  refine Yt [0,1,2,3,4] (.e 5 [] .o) ([bpC b2 pb,bnC b3 n]) ?_
  repeat' (refine iT ?_;first|refine rA ?_|(refine rE ?_<;>((first|(refine tl_delete rfl rfl hk hu (λ es' h1 h2 h3=>?_))|(refine qEf ?_;try intro _))<;>(try simp only[kA])<;>refine zN ?_)))
  all_goals (repeat' (first|refine zV ?_|intro _))
  all_goals exact qE (L':=[Yr mb es' ck,bpC b2 pb,bnC b3 n]) ⟨⟨_,rfl⟩,rfl,rfl,es',ck,hm.del h1 h2 h3,rfl⟩
 ·rw[if_neg h0,if_neg h0]
  have h1:¬((g.rc:Nat):Int)=0:=by omega
  repeat' (first|refine zV ?_|intro _)
  exact qE (L':=[Yr mb es ck,bpC b2 pb,bnC b3 n]) ⟨⟨_,rfl⟩,rfl,rfl,es,ck,hm,rfl⟩
def Wc (pg:Pgs)(n:Int):Int:=if 0<=n/\n<64 then (match pg n with|none=>4|some g=>if g.rc=0 then 0 else 270) else 2
def evictG (pg:Pgs)(n:Int):Pgs:=if Wc pg n=0 then delG pg n else pg
theorem evict17_spec (ρ:Hp)(pb fb lb mb:Nat)(hp:PoIn ρ pb fb lb mb)(n:Int)(pg:Pgs)(es:List MapEntry)(ck:Nat)(hm:MpIn ρ es pg) :
  Spec prog 78 [.pointer (some ⟨pb,0,none⟩),.int .i64 n] ρ [Yr mb es ck]
   (λ v ρ' L'=>v=.int .i64 (Wc pg n)/\ρ'=ρ/\∃es' ck',MpIn ρ es' (evictG pg n)/\L'=[Yr mb es' ck']):=by
 refine Za func78 rfl rfl rfl λ u R=>?_
 simp only[Zc,kA]
 unfold evictG
 by_cases hn:0<=n/\n<64
 ·cases hs:pg n with
  | none=>
   have e:Wc pg n=4:=by unfold Wc;rw[if_pos hn,hs]
   rw[e,if_neg (by omega)]
   repeat' (first|(refine Zb (.func 138) ?_;refine qR rfl rfl (own_none ρ pb fb lb mb hp n _ hn pg es ck hm hs) ?_;try simp only[kA])|refine zV ?_|intro _)
   exact qE (L':=[Yr mb es ck]) ⟨rfl,rfl,es,ck,hm,rfl⟩
  | some g=>
   have e:Wc pg n=if g.rc=0 then 0 else 270:=by unfold Wc;rw[if_pos hn,hs]
   have e2:(if g.rc=0 then delG pg n else pg)=if Wc pg n=0 then delG pg n else pg:=by
    rw[e]
    by_cases h0:g.rc=0
    ·rw[if_pos h0,if_pos (by rw[if_pos h0])]
    ·rw[if_neg h0,if_neg (by rw[if_neg h0];omega)]
   have hev:=λ b2 b3=>own_some ρ pb fb lb mb hp n hn pg es ck hm g hs 139 [.pointer (some ⟨b2,0,none⟩),.pointer (some ⟨b3,0,none⟩)] [bpC b2 pb,bnC b3 n] _ (evict1_spec ρ b2 b3 pb fb lb mb hp n pg es ck hm g)
   rw[<-e2,e]
   repeat' (first|(refine Zb (.func 138) ?_;refine qC rfl rfl (hev _ _) ?_;rintro v1 ρ1 L1 hle1 ⟨rfl,rfl,es',ck',hm1,rfl⟩;try simp only[kB])|refine zV ?_|intro _)
   exact qE (L':=[Yr mb es' ck']) ⟨rfl,rfl,es',ck',hm1,rfl⟩
 ·have e:Wc pg n=2:=by unfold Wc;rw[if_neg hn]
  rw[e,if_neg (by omega)]
  repeat' (first|(refine Zb (.func 138) ?_;refine qR rfl rfl (own_arg _ _ _ _ hn) ?_;try simp only[kA])|refine zV ?_|intro _)
  exact qE (L':=[Yr mb es ck]) ⟨rfl,rfl,es,ck,hm,rfl⟩
structure PgOk (g:Pg):Prop where
 ok:Zp g.c=true
 fit:IdFit g.c
 lsn:g.lsn<18446744073709551616
def stealF (S:LgS)(D:DS)(g:Pg):LgS×DS×Int:=if S.fl<g.lsn then S.flush g.lsn D else (S,D,0)
def YU (S:LgS)(D:DS)(base num:Nat)(g:Pg):LgS×DS×Int:=
 if (stealF S D g).2.2≠0 then stealF S D g else ((stealF S D g).1,YN (stealF S D g).2.1 base num g.lsn g.c)
theorem steal1_spec (ρ:Hp)(b2 b3 pb fb lb mb rb db base num:Nat)(hp:PoIn ρ pb fb lb mb)(hf:FIn ρ fb db base)(hb:base<=100000)(hn:num<64)(pg:Pgs)(es:List MapEntry)(ck:Nat)(hm:MpIn ρ es pg)(g:Pg)(hs:pg num=some g)(hg:PgOk g)(h0:g.rc≠0)
  (S:LgS) (v:Value) (sp:List Value) (h:LgIn ρ S v sp) (w:RW) (hR:RIn ρ S.R w) (k:DK) (D:DS) (hD:DOk k D) (hfl:S.fl<1000000000000000) :
  Spec prog 140 [.agg ⟨pgV g⟩,.pointer (some ⟨b2,0,none⟩),.pointer (some ⟨b3,0,none⟩)] ρ (Yr mb es ck::bpC b2 pb::bnC b3 num::ZW lb rb S v::YK S v sp::(Yb rb db S.R w++Zg db k D))
   (λ z ρ' L'=>(∃e,z=.int .i64 e)/\z=.int .i64 (YU S D base num g).2.2/\ρ.le ρ'/\∃es' ck' w' k',MpIn ρ' es' (if (YU S D base num g).2.2=0 then updG pg num { g with rc:=0 } else pg)/\RIn ρ' (YU S D base num g).1.R w'/\DOk k' (YU S D base num g).2.1 /\
    L'=Yr mb es' ck'::bpC b2 pb::bnC b3 num::ZW lb rb (YU S D base num g).1 v::YK S v sp::(Yb rb db (YU S D base num g).1.R w'++Zg db k' (YU S D base num g).2.1)):=by
 have hk:=hm.keys
 have hu:=hm.uk
 have hcin:=hm.cin num g hs
 have hfs:=λ ρ=>Vy ρ lb rb S v
 have hflu:=flush16_spec ρ lb rb db S v sp h w hR k D hD g.lsn hfl
 have hwr:=λ {ρ':Hp} (hle:ρ.le ρ') (k:DK) (D:DS) (hD:DOk k D)=>Write_spec ρ' fb db base num g.lsn (hf.mono hle) hb hn hg.lsn g.c g.w (hcin.mono hle) hg.ok (λ r hr=>(hg.fit.row r hr).id) hg.fit.kid k D hD
 have hput:=λ {ρ':Hp} (hle:ρ.le ρ') {es':List MapEntry} h1 h2 h3=>(hm.mono hle).put (n:=num) (g:={ g with rc:=0 }) (es':=es') h1 h2 h3 (hcin.mono hle)
 have hst:YU S D base num g=if (stealF S D g).2.2≠0 then stealF S D g else ((stealF S D g).1,YN (stealF S D g).2.1 base num g.lsn g.c):=rfl
 have hstf:stealF S D g=if S.fl<g.lsn then S.flush g.lsn D else (S,D,0):=rfl
 have hrc:¬((g.rc:Nat):Int)=0:=by omega
 obtain⟨gc,gw,glsn,grc⟩:=g
 dsimp only at *
 by_cases hlt:S.fl<glsn
 ·rw[if_pos hlt] at hstf
  rw[hstf] at hst
  generalize S.flush glsn D=q at *
  obtain⟨S1,D1,e1⟩:=q
  dsimp only at *
  refine Za func140 rfl rfl rfl λ u R=>?_
  simp only[Zc,kA]
  repeat' (first|refine zV ?_|intro _)
  rename_i b1
  refine Yt [0,1,2,3,5,6] (.e 4 [] (.f [7] .o)) ([bpC b2 pb,[(b1,.cells ⟨pgV ⟨gc,gw,glsn,grc⟩⟩ 217 (0,0))]]) ?_
  repeat' (refine iT ?_;first|refine rA ?_|(refine rE ?_<;>(refine Zb (.func 34) ?_;refine qC rfl rfl (hfs _) ?_;rintro v ρ' L' hle ⟨rfl,rfl,rfl⟩<;>(try simp only[kA]))<;>(try simp only[kA])<;>refine zN ?_))
  all_goals (repeat' (first|refine zV ?_|intro _))
  all_goals refine Yt [0,1,2,3,4,5] (.e 6 [] (.f [7] .o)) ([bpC b2 pb,[(b1,.cells ⟨pgV ⟨gc,gw,glsn,grc⟩⟩ 217 (0,0))]]) ?_
  all_goals (repeat' (refine iT ?_;first|refine rA ?_|(refine rE ?_<;>(refine Zb (.func 15) ?_;refine qC rfl rfl hflu ?_;rintro v1 ρ1 L1 hle1 ⟨rfl,hl1,w1,k1,hR1,hD1,rfl⟩;try simp only[kB])<;>(try simp only[kA])<;>refine zN ?_)))
  all_goals (repeat' (first|refine zV ?_|intro _))
  all_goals
   by_cases hz:e1=0
   ·subst hz
    rw[if_neg (by simp)] at hst
    have hp1:=Hp.at' hl1 hp
    have hw1:=hwr hl1 k1 D1 hD1
    generalize YN D1 base num glsn gc=q at *
    obtain⟨D2,e2⟩:=q
    rw[hst]
    dsimp only at hw1 ⊢
    rw[show ((0:Int) != 0)=false from rfl]
    repeat' (first|refine zV ?_|intro _)
    refine Yt [0,1,2,3,4,5,6,7,8] (.e 9 [] (.f [10] .o)) ([bpC b2 pb,bnC b3 num,[(b1,.cells ⟨pgV ⟨gc,gw,glsn,grc⟩⟩ 217 (0,0))]]) ?_
    repeat' (refine iT ?_;first|refine rA ?_|(refine rE ?_<;>(refine Zb (.func 141) ?_;refine qC rfl rfl hw1 ?_;rintro v2 ρ2 L2 hle2 ⟨rfl,hl2,k2,hD2,rfl⟩;have hp2:=Hp.at' hl2 hp1;try simp only[kB])<;>(try simp only[kA])<;>refine zN ?_))
    all_goals (repeat' (first|refine zV ?_|intro _))
    all_goals
     have hl12:=Hp.le_trans hl1 hl2
     by_cases hz:e2=0
     ·subst hz
      rw[show ((0:Int) != 0)=false from rfl]
      repeat' (first|refine zV ?_|intro _)
      refine Yt [0,1,2,3,4,5] (.e 6 [] .o) ([bpC b2 pb,bnC b3 num,[(b1,.cells ⟨pgV ⟨gc,gw,glsn,0⟩⟩ 217 (0,0))]]) ?_
      repeat' (refine iT ?_;first|refine rA ?_|(refine rE ?_<;>((first|(refine WQ rfl rfl rfl hk hu (λ es' ck' h1 h2 h3=>?_))|(refine qEf ?_;try intro _))<;>(try simp only[kA])<;>refine zN ?_)))
      all_goals (repeat' (first|refine zV ?_|intro _))
      all_goals exact qE (L':=Yr mb es' ck'::bpC b2 pb::bnC b3 num::ZW lb rb S1 v::YK S v sp::(Yb rb db S1.R w1++Zg db k2 D2)) ⟨⟨_,rfl⟩,rfl,hl12,es',ck',w1,k2,by simp only[if_true];exact hput hl12 h1 h2 h3,hR1.mono hl2,hD2,rfl⟩
     ·have hcb:(e2 != 0)=true:=by simpa using hz
      rw[hcb]
      repeat' (first|refine zV ?_|intro _)
      exact qE (L':=Yr mb es ck::bpC b2 pb::bnC b3 num::ZW lb rb S1 v::YK S v sp::(Yb rb db S1.R w1++Zg db k2 D2)) ⟨⟨_,rfl⟩,rfl,hl12,es,ck,w1,k2,by rw[if_neg hz];exact hm.mono hl12,hR1.mono hl2,hD2,rfl⟩
   ·have hcb:(e1 != 0)=true:=by simpa using hz
    rw[if_pos hz] at hst
    rw[hst,hcb]
    dsimp only
    repeat' (first|refine zV ?_|intro _)
    exact qE (L':=Yr mb es ck::bpC b2 pb::bnC b3 num::ZW lb rb S1 v::YK S v sp::(Yb rb db S1.R w1++Zg db k1 D1)) ⟨⟨_,rfl⟩,rfl,hl1,es,ck,w1,k1,by rw[if_neg hz];exact hm.mono hl1,hR1,hD1,rfl⟩
 ·rw[if_neg hlt] at hstf
  rw[hstf] at hst
  rw[if_neg (by simp)] at hst
  have hw1:=hwr (Hp.le_refl _) k D hD
  dsimp only at hst
  generalize YN D base num glsn gc=q at *
  obtain⟨D2,e2⟩:=q
  rw[hst]
  dsimp only at hw1 ⊢
  refine Za func140 rfl rfl rfl λ u R=>?_
  simp only[Zc,kA]
  repeat' (first|refine zV ?_|intro _)
  rename_i b1
  refine Yt [0,1,2,3,5,6] (.e 4 [] (.f [7] .o)) ([bpC b2 pb,[(b1,.cells ⟨pgV ⟨gc,gw,glsn,grc⟩⟩ 217 (0,0))]]) ?_
  repeat' (refine iT ?_;first|refine rA ?_|(refine rE ?_<;>(refine Zb (.func 34) ?_;refine qC rfl rfl (hfs _) ?_;rintro v ρ' L' hle ⟨rfl,rfl,rfl⟩<;>(try simp only[kA]))<;>(try simp only[kA])<;>refine zN ?_))
  all_goals (repeat' (first|refine zV ?_|intro _))
  all_goals refine Yt [0,1,2,3,4,5,6,7,8] (.e 9 [] (.f [10] .o)) ([bpC b2 pb,bnC b3 num,[(b1,.cells ⟨pgV ⟨gc,gw,glsn,grc⟩⟩ 217 (0,0))]]) ?_
  all_goals (repeat' (refine iT ?_;first|refine rA ?_|(refine rE ?_<;>(refine Zb (.func 141) ?_;refine qC rfl rfl hw1 ?_;rintro v2 ρ2 L2 hle2 ⟨rfl,hl2,k2,hD2,rfl⟩;have hp2:=Hp.at' hl2 hp;try simp only[kB])<;>(try simp only[kA])<;>refine zN ?_)))
  all_goals (repeat' (first|refine zV ?_|intro _))
  all_goals
   by_cases hz:e2=0
   ·subst hz
    rw[show ((0:Int) != 0)=false from rfl]
    repeat' (first|refine zV ?_|intro _)
    refine Yt [0,1,2,3,4,5] (.e 6 [] .o) ([bpC b2 pb,bnC b3 num,[(b1,.cells ⟨pgV ⟨gc,gw,glsn,0⟩⟩ 217 (0,0))]]) ?_
    repeat' (refine iT ?_;first|refine rA ?_|(refine rE ?_<;>((first|(refine WQ rfl rfl rfl hk hu (λ es' ck' h1 h2 h3=>?_))|(refine qEf ?_;try intro _))<;>(try simp only[kA])<;>refine zN ?_)))
    all_goals (repeat' (first|refine zV ?_|intro _))
    all_goals exact qE (L':=Yr mb es' ck'::bpC b2 pb::bnC b3 num::ZW lb rb S v::YK S v sp::(Yb rb db S.R w++Zg db k2 D2)) ⟨⟨_,rfl⟩,rfl,hl2,es',ck',w,k2,by simp only[if_true];exact hput hl2 h1 h2 h3,hR.mono hl2,hD2,rfl⟩
   ·have hcb:(e2 != 0)=true:=by simpa using hz
    rw[hcb]
    repeat' (first|refine zV ?_|intro _)
    exact qE (L':=Yr mb es ck::bpC b2 pb::bnC b3 num::ZW lb rb S v::YK S v sp::(Yb rb db S.R w++Zg db k2 D2)) ⟨⟨_,rfl⟩,rfl,hl2,es,ck,w,k2,by rw[if_neg hz];exact hm.mono hl2,hR.mono hl2,hD2,rfl⟩
def stealE (pg:Pgs)(n:Int):Int:=if 0<=n/\n<64 then (match pg n with|none=>4|some _=>0) else 2
theorem steal17_not (ρ:Hp)(pb fb lb mb:Nat)(hp:PoIn ρ pb fb lb mb)(n:Int)(pg:Pgs)(es:List MapEntry)(ck:Nat)(hm:MpIn ρ es pg)(hno:∀g,pg n=some g->0<=n/\n<64->g.rc=0) :
  Spec prog 79 [.pointer (some ⟨pb,0,none⟩),.int .i64 n] ρ [Yr mb es ck] (λ v ρ' L'=>v=.int .i64 (stealE pg n)/\ρ'=ρ/\L'=[Yr mb es ck]):=by
 refine Za func79 rfl rfl rfl λ u R=>?_
 simp only[Zc,kA]
 by_cases hn:0<=n/\n<64
 ·cases hs:pg n with
  | none=>
   have e:stealE pg n=4:=by unfold stealE;rw[if_pos hn,hs]
   rw[e]
   repeat' (first|(refine Zb (.func 138) ?_;refine qC rfl rfl (own_none ρ pb fb lb mb hp n _ hn pg es ck hm hs) ?_;rintro v ρ' L' hle ⟨rfl,rfl,rfl⟩<;>(try simp only[kA]))|refine zV ?_|intro _)
   exact qE (L':=[Yr mb es ck]) ⟨rfl,rfl,rfl⟩
  | some g=>
   have e:stealE pg n=0:=by unfold stealE;rw[if_pos hn,hs]
   rw[e]
   have h0:((g.rc:Nat):Int)=0:=by have:=hno g hs hn;omega
   have h1:∀b2 b3,Spec prog 140 ([.agg ⟨pgV g⟩]++[.pointer (some ⟨b2,0,none⟩),.pointer (some ⟨b3,0,none⟩)]) ρ (Yr mb es ck::[bpC b2 pb,bnC b3 n]) (λ v ρ' L'=>(∃e,v=.int .i64 e)/\v=.int .i64 0/\ρ'=ρ/\L'=[Yr mb es ck,bpC b2 pb,bnC b3 n]):=λ b2 b3=>by
    refine Za func140 rfl rfl rfl λ u R=>?_
    simp only[Zc,kA]
    repeat' (first|refine zV ?_|intro _)
    exact qE (L':=[Yr mb es ck,bpC b2 pb,bnC b3 n]) ⟨⟨_,rfl⟩,rfl,rfl,rfl⟩
   have hev:=λ b2 b3=>own_some ρ pb fb lb mb hp n hn pg es ck hm g hs 140 _ _ _ (h1 b2 b3)
   repeat' (first|(refine Zb (.func 138) ?_;refine qC rfl rfl (hev _ _) ?_;rintro v1 ρ1 L1 hle1 ⟨rfl,rfl,rfl⟩;try simp only[kB])|refine zV ?_|intro _)
   exact qE (L':=[Yr mb es ck]) ⟨rfl,rfl,rfl⟩
 ·have e:stealE pg n=2:=by unfold stealE;rw[if_neg hn]
  rw[e]
  repeat' (first|(refine Zb (.func 138) ?_;refine qC rfl rfl (own_arg _ _ _ _ hn) ?_;rintro v ρ' L' hle ⟨rfl,rfl,rfl⟩<;>(try simp only[kA]))|refine zV ?_|intro _)
  exact qE (L':=[Yr mb es ck]) ⟨rfl,rfl,rfl⟩
theorem steal17_spec (ρ:Hp)(pb fb lb mb rb db base num:Nat)(hp:PoIn ρ pb fb lb mb)(hf:FIn ρ fb db base)(hb:base<=100000)(hn:num<64)(pg:Pgs)(es:List MapEntry)(ck:Nat)(hm:MpIn ρ es pg)(g:Pg)(hs:pg num=some g)(hg:PgOk g)(h0:g.rc≠0)
  (S:LgS) (v:Value) (sp:List Value) (h:LgIn ρ S v sp) (w:RW) (hR:RIn ρ S.R w) (k:DK) (D:DS) (hD:DOk k D) (hfl:S.fl<1000000000000000) :
  Spec prog 79 [.pointer (some ⟨pb,0,none⟩),.int .i64 num] ρ (Yr mb es ck::ZW lb rb S v::YK S v sp::(Yb rb db S.R w++Zg db k D))
   (λ z ρ' L'=>z=.int .i64 (YU S D base num g).2.2/\ρ.le ρ'/\∃es' ck' w' k',MpIn ρ' es' (if (YU S D base num g).2.2=0 then updG pg num { g with rc:=0 } else pg)/\RIn ρ' (YU S D base num g).1.R w'/\DOk k' (YU S D base num g).2.1 /\
    L'=Yr mb es' ck'::ZW lb rb (YU S D base num g).1 v::YK S v sp::(Yb rb db (YU S D base num g).1.R w'++Zg db k' (YU S D base num g).2.1)):=by
 have h1:=λ b2 b3=>steal1_spec ρ b2 b3 pb fb lb mb rb db base num hp hf hb hn pg es ck hm g hs hg h0 S v sp h w hR k D hD hfl
 have hev:=λ b2 b3=>own_some ρ pb fb lb mb hp num ⟨by omega,by omega⟩ pg es ck hm g hs 140 [.pointer (some ⟨b2,0,none⟩),.pointer (some ⟨b3,0,none⟩)] _ _ (h1 b2 b3)
 generalize YU S D base num g=q at *
 obtain⟨S1,D1,e1⟩:=q
 dsimp only at *
 refine Za func79 rfl rfl rfl λ u R=>?_
 simp only[Zc,kA]
 repeat' (first|(refine Zb (.func 138) ?_;refine qC rfl rfl (hev _ _) ?_;rintro v1 ρ1 L1 hle1 ⟨rfl,hl1,es',ck',w1,k1,hm1,hR1,hD1,rfl⟩;try simp only[kB])|refine zV ?_|intro _)
 exact qE (L':=Yr mb es' ck'::ZW lb rb S1 v::YK S v sp::(Yb rb db S1.R w1++Zg db k1 D1)) ⟨rfl,hl1,es',ck',w1,k1,hm1,hR1,hD1,rfl⟩
structure Lv (D D':DS):Prop where
 secs:D'.secs=D.secs
 armed:D'.armed=D.armed
 failing:D'.failing=-1
 dead:D'.dead=false
theorem Lv.trans {D D' D'':DS}(h:Lv D D')(h':Lv D' D''):Lv D D'':=⟨h'.secs.trans h.secs,h'.armed.trans h.armed,h'.failing,h'.dead⟩
abbrev Lv1 (D:DS):Prop:=Lv D D
theorem Lv.next {D D':DS}(h:Lv D D'):Lv1 D':=⟨rfl,rfl,h.failing,h.dead⟩
theorem DS.Calm.lv {D:DS}(h:D.Calm):Lv1 D:=by
 obtain⟨s,o,a,f,d⟩:=D
 obtain⟨h1,h2,h3⟩:=h
 dsimp only at h1 h2 h3
 subst h1;subst h2;subst h3
 exact⟨rfl,rfl,rfl,rfl⟩
theorem Lv.calm {D D':DS}(h:Lv D D')(hc:D.Calm):D'.Calm:=by
 obtain⟨s,o,a,f,d⟩:=D
 obtain⟨s',o',a',f',d'⟩:=D'
 obtain⟨h1,h2,h3⟩:=hc
 obtain⟨g1,g2,g3,g4⟩:=h
 dsimp only at h1 h2 h3 g1 g2 g3 g4
 subst h1;subst h2;subst h3;subst g1;subst g2;subst g3;subst g4
 exact⟨rfl,rfl,rfl⟩
theorem read_lv {D:DS}{i:Nat}(h:Lv1 D)(hi:i<D.secs.length):Lv D (D.read i).1/\(D.read i).2.2=0:=by
 obtain⟨s,o,a,f,d⟩:=D
 obtain⟨_,_,h3,h4⟩:=h
 dsimp only at h3 h4 hi
 subst h3;subst h4
 have hn:¬((i:Int)<0\/(s.length:Int)<=i):=by omega
 have hc:cnt (-1)=-1:=by decide
 unfold DS.read
 simp only[hn,if_false,aB,DS.tick,hc,show ¬((-1:Int)=0) by decide]
 exact⟨⟨rfl,rfl,rfl,rfl⟩,trivial⟩
theorem rdSlot_lv {D:DS}(h:Lv1 D){i:Nat}(hi:i+1<D.secs.length):Lv D (Wo D i).1/\(Wo D i).2.2=0:=by
 obtain⟨h1,h2⟩:=read_lv h (i:=i) (by omega)
 obtain⟨h3,h4⟩:=read_lv h1.next (i:=i+1) (by rw[h1.secs];exact hi)
 unfold Wo
 rw[if_neg (by simp[h2]),if_neg (by rw[h4];simp)]
 exact⟨h1.trans h3,rfl⟩
theorem slD_lv {D:DS}{base num:Nat}(h:Lv1 D)(hl:base+4*num+4<=D.secs.length):∀k,k<=2->Lv D (slD D base num k)
 | 0,_=>h
 | k+1,hk=>by
  have h1:=slD_lv h hl k (by omega)
  exact h1.trans (rdSlot_lv h1.next (i:=base+4*num+2*k) (by rw[Xz];omega)).1
theorem countsD_lv {D:DS}{base num:Nat}(h:Lv1 D)(hl:base+4*num+4<=D.secs.length):(Zo D base num).2.2=0/\Lv D (Zo D base num).2.1:=by
 have e0:=(rdSlot_lv (slD_lv h hl 0 (by omega)).next (i:=base+4*num+2*0) (by rw[Xz];omega)).2
 have e1:=(rdSlot_lv (slD_lv h hl 1 (by omega)).next (i:=base+4*num+2*1) (by rw[Xz];omega)).2
 unfold Zo slR
 rw[if_neg (by rw[e0];simp),if_neg (by rw[e1];simp)]
 exact⟨rfl,slD_lv h hl 2 (by omega)⟩
theorem FO.readL {D:DS}{base t:Nat}{held:Nat->ZS}(h:FO D base t held)(hc:Lv1 D){num:Nat}(hn:num<64):(Xy D base num).1=((held num).1,(held num).2,0)/\Lv D (Xy D base num).2/\FO (Xy D base num).2 base t held:=by
 have hln:=h.len
 have hl:base+4*num+4<=D.secs.length:=by omega
 obtain⟨e1,e2⟩:=countsD_lv hc hl
 have e3:=Vd h.empty h.alive hl e1
 have e4:=h.held num hn
 have hf:=h.congr (D':=(Zo D base num).2.1) WG (countsD_ok h.dok) e2.dead
 unfold WU at e4
 unfold Xy
 rw[e1,e3]
 dsimp only
 by_cases hr:(csD D base num).best.right=true
 ·rw[if_pos hr] at e4
  rw[if_neg (by simp[hr]),<-e4]
  exact⟨rfl,e2,hf⟩
 ·rw[if_neg hr] at e4
  rw[if_pos (.inr (by simpa using hr)),<-e4]
  exact⟨rfl,e2,hf⟩
abbrev PV:=Int->Option (ZO×Nat×Nat)
def vw (pg:Pgs):PV:=λ n=>(pg n).map (λ g=>(g.c,g.lsn,g.rc))
def VC (pv:PV)(n:Int)(x:ZO×Nat×Nat):PV:=λ k=>if k=n then some x else pv k
def Yx (held:Nat->ZS)(pv:PV)(n:Int):ZO×Nat×Nat:=(pv n).getD ((held n.toNat).1,(held n.toNat).2,0)
def Wd (held:Nat->ZS)(pv:PV)(n:Int):PV:=VC pv n (Yx held pv n)
theorem vw_upd (pg:Pgs)(n:Int)(g:Pg):vw (updG pg n g)=VC (vw pg) n (g.c,g.lsn,g.rc):=by
 funext k;unfold vw updG VC;split<;>simp
theorem vw_del (pg:Pgs)(n:Int):vw (delG pg n)=λ k=>if k=n then none else vw pg k:=by
 funext k;unfold vw delG;split<;>simp
theorem vw_some {pg:Pgs}{n:Int}{x:ZO×Nat×Nat}(h:vw pg n=some x):∃g,pg n=some g/\g.c=x.1/\g.lsn=x.2.1/\g.rc=x.2.2:=by
 unfold vw at h
 cases hp:pg n with
 | none=>rw[hp] at h;cases h
 | some g=>rw[hp] at h;cases h;exact⟨g,rfl,rfl,rfl,rfl⟩
theorem HoldG.view {pg:Pgs}{D:DS}{base t num:Nat}{held:Nat->ZS}{g:Pg}(h:HoldG pg D base num g)(hf:FO D base t held)(hc:Lv1 D)(hn:num<64):vw (updG pg num g)=Wd held (vw pg) num/\(g.c,g.lsn,g.rc)=Yx held (vw pg) num:=by
 have e:(g.c,g.lsn,g.rc)=Yx held (vw pg) num:=by
  unfold Yx vw
  rcases h.out with h1|⟨h1,h2,h3,h4⟩
  ·rw[h1];rfl
  ·rw[h1,h2,h3,h4,(hf.readL hc hn).1];rfl
 rw[vw_upd,e]
 exact⟨rfl,rfl⟩
theorem holdD_lv {pg:Pgs}{D:DS}{base t num:Nat}{held:Nat->ZS}(hf:FO D base t held)(hc:Lv1 D)(hn:num<64):Lv D (holdD pg D base num)/\FO (holdD pg D base num) base t held:=by
 unfold holdD
 split
 ·exact⟨hc,hf⟩
 ·exact (hf.readL hc hn).2
theorem hold_lv (ρ:Hp)(pb fb lb mb db base num t:Nat)(hp:PoIn ρ pb fb lb mb)(hf:FIn ρ fb db base)(hb:base<=100000)(hn:num<64)(k:DK)(D:DS)(hD:DOk k D)(pg:Pgs)(es:List MapEntry)(ck:Nat)(hm:MpIn ρ es pg)(held:Nat->ZS)(hF:FO D base t held)(hL:Lv1 D) :
  Spec prog 143 [.pointer (some ⟨pb,0,none⟩),.int .i64 num] ρ (Yr mb es ck::Zg db k D)
   (λ v ρ' L'=>ρ.le ρ'/\∃g es' ck' pg' D',v=.tuple ⟨[.agg ⟨pgV g⟩,.int .i64 0]⟩/\(g.c,g.lsn,g.rc)=Yx held (vw pg) num/\MpIn ρ' es' pg'/\vw pg'=Wd held (vw pg) num/\DOk k D'/\Lv D D'/\FO D' base t held/\L'=Yr mb es' ck'::Zg db k D'):=by
 have hr:=(hF.readL hL hn).1
 refine (hold_spec ρ pb fb lb mb db base num hp hf hb hn k D hD pg es ck hm (λ _=>by rw[hr])).mono ?_
 rintro v ρ' L' _ ⟨h1,g,es',ck',h2,h3,h4,h5,h6⟩
 obtain⟨e1,e2⟩:=h3.view hF hL hn
 obtain⟨e3,e4⟩:=holdD_lv (pg:=pg) hF hL hn
 exact⟨h1,g,es',ck',_,_,h2,e2,h4,e1,h5,e3,e4,h6⟩
theorem page_lv (ρ:Hp)(pb fb lb mb db base num t:Nat)(hp:PoIn ρ pb fb lb mb)(hf:FIn ρ fb db base)(hb:base<=100000)(hn:num<64)(k:DK)(D:DS)(hD:DOk k D)(pg:Pgs)(es:List MapEntry)(ck:Nat)(hm:MpIn ρ es pg)(held:Nat->ZS)(hF:FO D base t held)(hL:Lv1 D) :
  Spec prog 80 [.pointer (some ⟨pb,0,none⟩),.int .i64 num] ρ (Yr mb es ck::Zg db k D)
   (λ v ρ' L'=>ρ.le ρ'/\∃w es' ck' pg' D',v=.tuple ⟨[.agg ⟨Yv (Yx held (vw pg) num).1.kind w⟩,.int .u64 ((Yx held (vw pg) num).2.1:Nat),.int .i64 0]⟩/\CIn ρ' w (Yx held (vw pg) num).1.rows (Yx held (vw pg) num).1.kids/\MpIn ρ' es' pg'/\vw pg'=Wd held (vw pg) num/\DOk k D'/\Lv D D'/\FO D' base t held/\L'=Yr mb es' ck'::Zg db k D'):=by
 have hr:=(hF.readL hL hn).1
 refine (page17_spec ρ pb fb lb mb db base num hp hf hb hn k D hD pg es ck hm (λ _=>by rw[hr])).mono ?_
 rintro v ρ' L' _ ⟨h1,g,es',ck',w,h2,h2',h3,h4,h5,h6⟩
 obtain⟨e1,e2⟩:=h3.view hF hL hn
 obtain⟨e3,e4⟩:=holdD_lv (pg:=pg) hF hL hn
 rw[<-e2]
 exact⟨h1,w,es',ck',_,_,h2,h2',h4,e1,h5,e3,e4,h6⟩
structure Sh where
 page:Int
 w:CV
 c:ZO
abbrev sheV (s:Sh):List Value:=[.int .i64 s.page,.int .i64 s.c.kind,.slice s.w.ra s.w.rn s.w.rc,.slice s.w.ka s.w.kn s.w.kc]
structure ShsIn (ρ:Hp)(a:Option Addr)(n c:Nat)(l:List Sh):Prop where
 at':AIn ρ 4 sheV a n l
 big:n<=1000000
 cin:∀s∈l,CIn ρ s.w s.c.rows s.c.kids
theorem ShsIn.mono {ρ ρ' a n c l}(h:ShsIn ρ a n c l)(hle:ρ.le ρ'):ShsIn ρ' a n c l:=⟨h.at'.mono hle,h.big,λ s hs=>(h.cin s hs).mono hle⟩
def Wt:Int->List Sh->Bool
 | _,[]=>true
 | last,s::r=>decide (last<s.page/\0<=s.page/\s.page<64) && Wt s.page r
def XG (held:Nat->ZS):PV->List Sh->PV
 | pv,[]=>pv
 | pv,s::r=>XG held (Wd held pv s.page) r
def askE (known:Bool)(held:Nat->ZS)(pv:PV)(lsn:Nat)(l:List Sh):Int:=
 if known=false\/l=[] then 2 else if Wt (-1) l=false then 2 else if l.all (λ s=>Zp s.c)=false then 160
 else if l.any (λ s=>decide (lsn<=(Yx held (XG held pv l) s.page).2.1)) then 2 else 0
def askV (known:Bool)(held:Nat->ZS)(pv:PV)(l:List Sh):PV:=
 if known=false\/l=[] then pv else if Wt (-1) l=false then pv else if l.all (λ s=>Zp s.c)=false then pv else XG held pv l
def prevS (l:List Sh)(k:Nat):Int:=if h:0<k/\k<=l.length then (l[k-1]'(by omega)).page else -1
theorem riseS_drop {l:List Sh}{k:Nat}(hk:k<l.length):Wt (prevS l k) (l.drop k)=(decide (prevS l k<l[k].page/\0<=l[k].page/\l[k].page<64) && Wt (prevS l (k+1)) (l.drop (k+1))):=by
 rw[List.drop_eq_getElem_cons hk,Wt]
 congr 2
 unfold prevS
 rw[dif_pos ⟨by omega,by omega⟩]
 rfl
theorem holdsV_snoc (held:Nat->ZS):∀(pv:PV) (l:List Sh) (s:Sh),XG held pv (l++[s])=Wd held (XG held pv l) s.page
 | pv,[],s=>rfl
 | pv,x::r,s=>by simp only[List.cons_append,XG];exact holdsV_snoc held _ r s
theorem Vm {α:Type}(l:List α)(k:Nat)(hk:k<l.length):l.take (k+1)=l.take k++[l[k]]:=aG hk
theorem holdV_has (held:Nat->ZS)(pv:PV)(n m:Int)(h:(pv m).isSome):((Wd held pv n) m)=pv m/\((Wd held pv n) n).isSome:=by
 refine⟨?_,by unfold Wd VC;simp⟩
 unfold Wd VC
 split
 ·rename_i e
  subst e
  unfold Yx
  cases hp:pv m with
  | none=>rw[hp] at h;cases h
  | some x=>rfl
 ·rfl
theorem holdsV_has (held:Nat->ZS):∀(l:List Sh) (pv:PV) (m:Int),(pv m).isSome->(XG held pv l) m=pv m
 | [],pv,m,_=>rfl
 | s::r,pv,m,h=>by
  have h1:=(holdV_has held pv s.page m h).1
  show XG held (Wd held pv s.page) r m=_
  rw[holdsV_has held r _ m (by rw[h1];exact h),h1]
theorem holdsV_mem (held:Nat->ZS):∀(l:List Sh) (pv:PV) (s:Sh),s∈l->((XG held pv l) s.page).isSome
 | x::r,pv,s,hs=>by
  show (XG held (Wd held pv x.page) r s.page).isSome
  rcases List.mem_cons.1 hs with rfl|hs
  ·have h1:((Wd held pv s.page) s.page).isSome:=by unfold Wd VC;simp
   rw[holdsV_has held r _ _ h1];exact h1
  ·exact holdsV_mem held r _ s hs
theorem prevS_zero (l:List Sh):prevS l 0=-1:=by unfold prevS;rw[dif_neg (by omega)]
theorem prevS_pos {l:List Sh}{k:Nat}(h0:k≠0)(hk:k<l.length):prevS l k=(l[k-1]'(by omega)).page:=by unfold prevS;rw[dif_pos ⟨by omega,by omega⟩]
theorem WE:∀{l:List Sh} {last:Int},Wt last l=true->∀s∈l,0<=s.page/\s.page<64
 | [],_,_,s,hs=>by cases hs
 | x::r,last,h,s,hs=>by
  rw[Wt,aE,decide_eq_true_eq] at h
  rcases List.mem_cons.1 hs with rfl|hs
  ·exact h.1.2
  ·exact WE h.2 s hs
theorem asked_spec (ρ:Hp)(pb fb lb mb rb db base t:Nat)(hp:PoIn ρ pb fb lb mb)(hf:FIn ρ fb db base)(hb:base<=100000)(S:LgS)(v:Value)(sp:List Value)(hS:LgIn ρ S v sp)(k:DK)(D:DS)(hD:DOk k D)(pg:Pgs)(es:List MapEntry)(ck:Nat)(hm:MpIn ρ es pg)(held:Nat->ZS)(hF:FO D base t held)(hL:Lv1 D)
  (lsn:Nat) (a:Option Addr) (n c:Nat) (l:List Sh) (h:ShsIn ρ a n c l) :
  Spec prog 136 [.pointer (some ⟨pb,0,none⟩),.int .u64 (lsn:Nat),.slice a n c] ρ (ZW lb rb S v::YK S v sp::Yr mb es ck::Zg db k D)
   (λ z ρ' L'=>z=.int .i64 (askE (recF S lsn).isSome held (vw pg) lsn l)/\ρ.le ρ'/\∃es' ck' pg' D',MpIn ρ' es' pg'/\vw pg'=askV (recF S lsn).isSome held (vw pg) l/\DOk k D'/\Lv D D'/\FO D' base t held/\L'=ZW lb rb S v::YK S v sp::Yr mb es' ck'::Zg db k D'):=by
 have hl:=h.at'.len
 have hbig:=h.big
 have hrec:=rec16_spec ρ lb rb S v sp hS lsn
 generalize hE:askE (recF S lsn).isSome held (vw pg) lsn l=E
 generalize hV:askV (recF S lsn).isSome held (vw pg) l=V
 unfold askE at hE
 unfold askV at hV
 generalize ho:recF S lsn=o at *
 have hone:(rrV (o.getD zRR)).length=10:=rfl
 refine Za func136 rfl rfl rfl λ u R=>?_
 simp only[Zc,kA]
 cases hoo:o with
 | none=>
  subst hoo
  rw[if_pos (.inl rfl)] at hE hV
  subst hE;subst hV
  have hrc:(λ z ρ' L'=>z=recAns none/\ρ.le ρ'/\L'=[ZW lb rb S v,YK S v sp])=(λ z ρ' L'=>z=.tuple ⟨[.agg ⟨recV zRR.1 zRR.2⟩,.int .i64 4]⟩/\ρ.le ρ'/\L'=[ZW lb rb S v,YK S v sp]):=rfl
  rw[hrc] at hrec
  repeat' (first|(refine Zb (.func 73) ?_;refine qC rfl rfl hrec ?_;rintro v1 ρ1 L1 hle1 ⟨rfl,hl1,rfl⟩;try simp only[kB])|refine zV ?_|intro _)
  exact qE (L':=ZW lb rb S v::YK S v sp::Yr mb es ck::Zg db k D) ⟨rfl,hl1,es,ck,pg,D,hm.mono hl1,rfl,hD,hL,hF,rfl⟩
 | some x=>
  subst hoo
  obtain⟨xv,xr⟩:=x
  simp only[Option.isSome_some,Bool.true_eq_false,false_or] at hE hV
  have hrc:(λ z ρ' L'=>z=recAns (some (xv,xr))/\ρ.le ρ'/\L'=[ZW lb rb S v,YK S v sp])=(λ z ρ' L'=>z=.tuple ⟨[.agg ⟨recV xv xr⟩,.int .i64 0]⟩/\ρ.le ρ'/\L'=[ZW lb rb S v,YK S v sp]):=rfl
  rw[hrc] at hrec
  by_cases hnil:l=[]
  ·rw[if_pos hnil] at hE hV
   subst hE;subst hV
   have hn0:((n:Nat):Int)=0:=by rw[<-hl,hnil];rfl
   repeat' (first|(refine Zb (.func 73) ?_;refine qC rfl rfl hrec ?_;rintro v1 ρ1 L1 hle1 ⟨rfl,hl1,rfl⟩;try simp only[kB])|refine zV ?_|intro _)
   exact qE (L':=ZW lb rb S v::YK S v sp::Yr mb es ck::Zg db k D) ⟨rfl,hl1,es,ck,pg,D,hm.mono hl1,rfl,hD,hL,hF,rfl⟩
  ·rw[if_neg hnil] at hE hV
   have hn0:¬((n:Nat):Int)=0:=by
    intro e;apply hnil;exact List.eq_nil_of_length_eq_zero (by omega)
   repeat' (first|(refine Zb (.func 73) ?_;refine qC rfl rfl hrec ?_;rintro v1 ρ1 L1 hle1 ⟨rfl,hl1,rfl⟩;try simp only[kB])|refine zV ?_|intro _)
   have hp1:=Hp.at' hl1 hp
   have hf1:=hf.mono hl1
   have hm1:=hm.mono hl1
   have h1:=h.mono hl1
   clear hp hf hm h hrec
   refine lpG Nat [0,1,2,36,37] (λ z=>[(38,.int .i64 z),(6,.int .i64 0)]) (λ z=>ρ1) (λ z=>ZW lb rb S v::YK S v sp::Yr mb es ck::Zg db k D) (λ z=>z<=n/\Wt (prevS l z) (l.drop z)=Wt (-1) l) (λ z=>n-z) 0 ⟨aZ _,by rw[prevS_zero];rfl⟩ ?_
   rintro i hI
   try simp only[kB] at hI ⊢
   try dsimp only at hI ⊢
   obtain⟨hi,hri⟩:=hI
   by_cases hlt:i<n
   ·have hil:i<l.length:=by omega
    obtain⟨b,off,C,T,fr,e1,hb0,hfit,hc⟩:=h1.at'.get hil
    have hs:=riseS_drop hil
    rw[hri] at hs
    have hth:=λ ρ=>there_spec ρ (l[i]).page
    have hbad:(¬(0<=(l[i]).page/\(l[i]).page<64)\/(l[i]).page<=prevS l i)->Wt (-1) l=false:=λ hx=>by
     rw[hs,decide_eq_false (by omega)];rfl
    have hgood:0<=(l[i]).page/\(l[i]).page<64->prevS l i<(l[i]).page->Wt (prevS l (i+1)) (l.drop (i+1))=Wt (-1) l:=λ h1 h2=>by
     rw[hs,decide_eq_true ⟨h2,h1⟩,Bool.true_and]
    rw[e1]
    by_cases hi0:i=0
    ·have hpr:prevS l i=-1:=by rw[hi0];exact prevS_zero l
     rw[hpr] at hbad hgood
     have hi0':¬((i:Int) > 0):=by omega
     clear hs hri
     generalize l[i]=x at *
     by_cases hx:0<=x.page/\x.page<64
     ·simp only[decide_eq_true hx] at hth
      repeat' (first|refine zV ?_|intro _)
      rename_i bx
      refine Yt [0,1] (.e 2 [] (.f [3,4,5,6,7,8,9,10,11,12,13,14,15,16,17,18] .o)) ([[(bx,.cells ⟨sheV x⟩ 150 (0,0))]]) ?_
      repeat' (refine iT ?_;first|refine rA ?_|(refine rE ?_<;>(refine Zb (.func 142) ?_;refine qC rfl rfl (hth _) ?_;rintro v ρ' L' hle ⟨rfl,rfl,rfl⟩<;>(try simp only[kA]))<;>(try simp only[kA])<;>refine zN ?_))
      all_goals (repeat' (first|refine zV ?_|intro _))
      all_goals rw[<-e1]
      all_goals refine rnG (i+1) (⟨hlt,hgood hx (by omega)⟩)
     ·simp only[decide_eq_false hx] at hth
      rw[if_pos (hbad (.inl hx))] at hE hV
      subst hE;subst hV
      repeat' (first|refine zV ?_|intro _)
      rename_i bx
      refine Yt [0,1] (.e 2 [] (.f [3,4,5,6,7,8,9,10,11,12,13,14,15,16,17,18] .o)) ([[(bx,.cells ⟨sheV x⟩ 150 (0,0))]]) ?_
      repeat' (refine iT ?_;first|refine rA ?_|(refine rE ?_<;>(refine Zb (.func 142) ?_;refine qC rfl rfl (hth _) ?_;rintro v ρ' L' hle ⟨rfl,rfl,rfl⟩<;>(try simp only[kA]))<;>(try simp only[kA])<;>refine zN ?_))
      all_goals (repeat' (first|refine zV ?_|intro _))
      all_goals exact qE (L':=ZW lb rb S v::YK S v sp::Yr mb es ck::Zg db k D) ⟨rfl,hl1,es,ck,pg,D,hm1,rfl,hD,hL,hF,rfl⟩
    ·have hpr:=prevS_pos hi0 hil
     rw[hpr] at hbad hgood
     obtain⟨b2,off2,C2,T2,fr2,f1,hb2,hfit2,hc2⟩:=h1.at'.get (show i-1<l.length by omega)
     rw[e1] at f1
     cases f1
     rw[hb0] at hb2
     cases hb2
     have ek:((i:Int)-1).toNat=i-1:=by omega
     rw[<-ek] at hfit2
     have hc3:List.take 4 (List.drop (off+((i:Int)-1).toNat*4) C)=sheV (l[i-1]'(by omega)):=by rw[ek];exact hc2
     have hc4:C[off+((i:Int)-1).toNat*4]?=some (.int .i64 (l[i-1]'(by omega)).page):=by
      have:=congrArg (λ l:List Value=>l[0]?) hc3
      simp only[List.getElem?_take_of_lt (show 0<4 by omega),List.getElem?_drop,Nat.add_zero] at this
      exact this
     clear hc2 hc3 hs hri
     generalize l[i]=x at *
     generalize l[i-1]'(by omega)=y at *
     by_cases hx:0<=x.page/\x.page<64
     ·simp only[decide_eq_true hx] at hth
      by_cases hyx:y.page<x.page
      ·have hyx':¬x.page<=y.page:=by omega
       repeat' (first|refine zV ?_|intro _)
       rename_i bx
       refine Yt [0,1] (.e 2 [] (.f [3,4,5,6,7,8,9,10,11,12,13,14,15,16,17,18] .o)) ([[(bx,.cells ⟨sheV x⟩ 150 (0,0))]]) ?_
       repeat' (refine iT ?_;first|refine rA ?_|(refine rE ?_<;>(refine Zb (.func 142) ?_;refine qC rfl rfl (hth _) ?_;rintro v ρ' L' hle ⟨rfl,rfl,rfl⟩<;>(try simp only[kA]))<;>(try simp only[kA])<;>refine zN ?_))
       all_goals (repeat' (first|refine zV ?_|intro _))
       all_goals rw[<-e1]
       all_goals refine rnG (i+1) (⟨hlt,hgood hx hyx⟩)
      ·have hyx':x.page<=y.page:=by omega
       rw[if_pos (hbad (.inr hyx'))] at hE hV
       subst hE;subst hV
       repeat' (first|refine zV ?_|intro _)
       rename_i bx
       refine Yt [0,1] (.e 2 [] (.f [3,4,5,6,7,8,9,10,11,12,13,14,15,16,17,18] .o)) ([[(bx,.cells ⟨sheV x⟩ 150 (0,0))]]) ?_
       repeat' (refine iT ?_;first|refine rA ?_|(refine rE ?_<;>(refine Zb (.func 142) ?_;refine qC rfl rfl (hth _) ?_;rintro v ρ' L' hle ⟨rfl,rfl,rfl⟩<;>(try simp only[kA]))<;>(try simp only[kA])<;>refine zN ?_))
       all_goals (repeat' (first|refine zV ?_|intro _))
       all_goals exact qE (L':=ZW lb rb S v::YK S v sp::Yr mb es ck::Zg db k D) ⟨rfl,hl1,es,ck,pg,D,hm1,rfl,hD,hL,hF,rfl⟩
     ·simp only[decide_eq_false hx] at hth
      rw[if_pos (hbad (.inl hx))] at hE hV
      subst hE;subst hV
      repeat' (first|refine zV ?_|intro _)
      rename_i bx
      refine Yt [0,1] (.e 2 [] (.f [3,4,5,6,7,8,9,10,11,12,13,14,15,16,17,18] .o)) ([[(bx,.cells ⟨sheV x⟩ 150 (0,0))]]) ?_
      repeat' (refine iT ?_;first|refine rA ?_|(refine rE ?_<;>(refine Zb (.func 142) ?_;refine qC rfl rfl (hth _) ?_;rintro v ρ' L' hle ⟨rfl,rfl,rfl⟩<;>(try simp only[kA]))<;>(try simp only[kA])<;>refine zN ?_))
      all_goals (repeat' (first|refine zV ?_|intro _))
      all_goals exact qE (L':=ZW lb rb S v::YK S v sp::Yr mb es ck::Zg db k D) ⟨rfl,hl1,es,ck,pg,D,hm1,rfl,hD,hL,hF,rfl⟩
   ·have hi2:i=l.length:=by omega
    rw[hi2,List.drop_length,Wt] at hri
    rw[if_neg (by rw[<-hri];simp)] at hE hV
    have hrt:=hri.symm
    repeat' (first|refine zV ?_|intro _)
    clear hri hi hi2 hlt
    refine lpG Nat [0,1,2,63,64] (λ z=>[(65,.int .i64 z),(6,.int .i64 0)]) (λ z=>ρ1) (λ z=>ZW lb rb S v::YK S v sp::Yr mb es ck::Zg db k D) (λ z=>z<=n/\(l.take z).all (λ s=>Zp s.c)=true) (λ z=>n-z) 0 ⟨aZ _,rfl⟩ ?_
    rintro i hI
    try simp only[kB] at hI ⊢
    try dsimp only at hI ⊢
    obtain⟨hi,hok⟩:=hI
    by_cases hlt:i<n
    ·have hil:i<l.length:=by omega
     obtain⟨b,off,C,T,fr,e1,hb0,hfit,hc⟩:=h1.at'.get hil
     have hck:=Xn ρ1 (l[i]).w (l[i]).c (h1.cin _ (aM hil))
     have htk:=Vm l i hil
     have hbad:Zp (l[i]).c=false->l.all (λ s=>Zp s.c)=false:=λ e=>by
      cases hA:l.all (λ s=>Zp s.c) with
      | false=>rfl
      | true=>rw[List.all_eq_true] at hA;rw[hA _ (aM hil)] at e;cases e
     rw[e1]
     generalize l[i]=x at *
     cases hx:Zp x.c
     ·rw[hx] at hck
      rw[if_pos (hbad hx)] at hE hV
      subst hE;subst hV
      repeat' (first|(refine Zb (.func 205) ?_;refine qC rfl rfl (hck) ?_;rintro v ρ' L' hle ⟨rfl,rfl,rfl⟩<;>(try simp only[kA,if_false,aB]))|refine zV ?_|intro _)
      exact qE (L':=ZW lb rb S v::YK S v sp::Yr mb es ck::Zg db k D) ⟨rfl,hl1,es,ck,pg,D,hm1,rfl,hD,hL,hF,rfl⟩
     ·rw[hx] at hck
      repeat' (first|(refine Zb (.func 205) ?_;refine qC rfl rfl (hck) ?_;rintro v ρ' L' hle ⟨rfl,rfl,rfl⟩<;>(try simp only[kA,if_true]))|refine zV ?_|intro _)
      rw[<-e1]
      refine rnG (i+1) (⟨hlt,by rw[htk,List.all_append,hok];simp[hx]⟩)
    ·have hi2:i=l.length:=by omega
     rw[hi2,List.take_length] at hok
     rw[if_neg (by rw[hok];simp)] at hE hV
     have hpages:=WE hrt
     repeat' (first|refine zV ?_|intro _)
     clear hok hi hi2 hlt
     refine lpG (Nat×Hp×Pgs×(List MapEntry)×Nat×DS) [0,1,2,76,77] (λ z=>[(78,.int .i64 z.1),(6,.int .i64 0)]) (λ z=>z.2.1) (λ z=>ZW lb rb S v::YK S v sp::Yr mb z.2.2.2.1 z.2.2.2.2.1::Zg db k z.2.2.2.2.2) (λ z=>z.1<=n/\ρ1.le z.2.1/\MpIn z.2.1 z.2.2.2.1 z.2.2.1/\vw z.2.2.1=XG held (vw pg) (l.take z.1)/\DOk k z.2.2.2.2.2/\Lv D z.2.2.2.2.2/\FO z.2.2.2.2.2 base t held) (λ z=>n-z.1) (0,ρ1,pg,es,ck,D) ⟨aZ _,Hp.le_refl _,hm1,rfl,hD,hL,hF⟩ ?_
     rintro⟨i,ρ2,pg2,es2,ck2,D2⟩ hI
     try simp only[kB] at hI ⊢
     try dsimp only at hI ⊢
     obtain⟨hi,hl2,hm2,hvw,hD2,hL2,hF2⟩:=hI
     by_cases hlt:i<n
     ·have hil:i<l.length:=by omega
      obtain⟨b,off,C,T,fr,e1,hb0,hfit,hc⟩:=(h1.mono hl2).at'.get hil
      have htk:=Vm l i hil
      have hpn:=hpages _ (aM hil)
      rw[e1]
      generalize l[i]=x at *
      obtain⟨xp,xw,xc⟩:=x
      dsimp only at hpn
      obtain⟨num,rfl⟩:∃m:Nat,xp=m:=⟨xp.toNat,by omega⟩
      have hh:=hold_lv ρ2 pb fb lb mb db base num t (Hp.at' hl2 hp1) (hf1.mono hl2) hb (by omega) k D2 hD2 pg2 es2 ck2 hm2 held hF2 hL2.next
      repeat' (first|(refine Zb (.func 143) ?_;refine qC rfl rfl hh ?_;rintro v3 ρ3 L3 hle3 ⟨hl3,g,es3,ck3,pg3,D3,rfl,hg,hm3,hv3,hD3,hL3,hF3,rfl⟩;try simp only[kB])|refine zV ?_|intro _)
      rw[<-e1]
      refine rnG (i+1,ρ3,pg3,es3,ck3,D3) (⟨hlt,Hp.le_trans hl2 hl3,hm3,by dsimp only;rw[htk,holdsV_snoc,hv3,hvw],hD3,hL2.trans hL3,hF3⟩)
     ·have hi2:i=l.length:=by omega
      rw[hi2,List.take_length] at hvw
      have hl12:=Hp.le_trans hl1 hl2
      repeat' (first|refine zV ?_|intro _)
      clear hi hi2 hlt
      refine lpG Nat [0,1,93,94] (λ z=>[(95,.int .i64 z),(6,.int .i64 0)]) (λ z=>ρ2) (λ z=>ZW lb rb S v::YK S v sp::Yr mb es2 ck2::Zg db k D2) (λ z=>z<=n/\∀s∈l.take z,(Yx held (XG held (vw pg) l) s.page).2.1<lsn) (λ z=>n-z) 0 ⟨aZ _,by simp⟩ ?_
      rintro i hI
      try simp only[kB] at hI ⊢
      try dsimp only at hI ⊢
      obtain⟨hi,hlo⟩:=hI
      by_cases hlt:i<n
      ·have hil:i<l.length:=by omega
       obtain⟨b,off,C,T,fr,e1,hb0,hfit,hc⟩:=(h1.mono hl2).at'.get hil
       have htk:=Vm l i hil
       have hmem:=aM hil
       have hp2:=Hp.at' hl2 hp1
       have hkk:=hm2.keys
       obtain⟨g,hg1,hg2⟩:∃g,pg2 (l[i]).page=some g/\g.lsn=(Yx held (XG held (vw pg) l) (l[i]).page).2.1:=by
        have h5:=holdsV_mem held l (vw pg) _ hmem
        rw[<-hvw] at h5
        obtain⟨y,hy⟩:=Option.isSome_iff_exists.1 h5
        obtain⟨g,q1,q2,q3,q4⟩:=vw_some hy
        refine⟨g,q1, ?_⟩
        unfold Yx
        rw[<-hvw,hy,q3];rfl
       have hget:=hm2.get (l[i]).page
       rw[hg1] at hget
       simp only[Option.map_some] at hget
       have hbad:lsn<=g.lsn->l.any (λ s=>decide (lsn<=(Yx held (XG held (vw pg) l) s.page).2.1))=true:=λ e=>by
        rw[List.any_eq_true];exact⟨_,hmem,decide_eq_true (by rw[<-hg2];exact e)⟩
       have hnew:g.lsn<lsn->∀s∈l.take (i+1),(Yx held (XG held (vw pg) l) s.page).2.1<lsn:=λ e s hs=>by
        rw[htk] at hs
        rcases List.mem_append.1 hs with hs|hs
        ·exact hlo s hs
        ·rw[List.mem_singleton.1 hs,<-hg2];exact e
       rw[e1]
       generalize l[i]=x at *
       by_cases hge:lsn<=g.lsn
       ·rw[if_pos (hbad hge)] at hE
        subst hE
        rw[<-hvw] at hV
        subst hV
        repeat' (first|refine zV ?_|intro _)
        rename_i bx
        refine Yt [0] (.f [1,2,3,4,5,6,7,8,9] .o) ([Yr mb es2 ck2,[(bx,.cells ⟨sheV x⟩ 150 (0,0))]]) ?_
        repeat' (refine iT ?_;first|refine rA ?_)
        all_goals (repeat' (first|refine zV ?_|intro _))
        all_goals exact qE (L':=ZW lb rb S v::YK S v sp::Yr mb es2 ck2::Zg db k D2) ⟨rfl,hl12,es2,ck2,pg2,D2,hm2,rfl,hD2,hL2,hF2,rfl⟩
       ·repeat' (first|refine zV ?_|intro _)
        rename_i bx
        refine Yt [0] (.f [1,2,3,4,5,6,7,8,9] .o) ([Yr mb es2 ck2,[(bx,.cells ⟨sheV x⟩ 150 (0,0))]]) ?_
        repeat' (refine iT ?_;first|refine rA ?_)
        all_goals (repeat' (first|refine zV ?_|intro _))
        all_goals rw[<-e1]
        all_goals refine rnG (i+1) (⟨hlt,hnew (by omega)⟩)
      ·have hi2:i=l.length:=by omega
       rw[hi2,List.take_length] at hlo
       rw[if_neg (by
        rw[List.any_eq_true]
        rintro⟨s,hs,hd⟩
        have h6:=hlo s hs
        have h7:=of_decide_eq_true hd
        omega)] at hE
       subst hE
       rw[<-hvw] at hV
       subst hV
       repeat' (first|refine zV ?_|intro _)
       exact qE (L':=ZW lb rb S v::YK S v sp::Yr mb es2 ck2::Zg db k D2) ⟨rfl,hl12,es2,ck2,pg2,D2,hm2,rfl,hD2,hL2,hF2,rfl⟩
def newV (lsn:Nat)(pv:PV)(n:Int)(c:ZO):PV:=VC pv n (c,lsn,if ((pv n).getD (c,0,0)).2.2=0 then lsn else ((pv n).getD (c,0,0)).2.2)
def chgsV (lsn:Nat):PV->List Sh->PV
 | pv,[]=>pv
 | pv,s::r=>chgsV lsn (newV lsn pv s.page s.c) r
theorem chgsV_snoc (lsn:Nat):∀(pv:PV) (l:List Sh) (s:Sh),chgsV lsn pv (l++[s])=newV lsn (chgsV lsn pv l) s.page s.c
 | pv,[],s=>rfl
 | pv,x::r,s=>by simp only[List.cons_append,chgsV];exact chgsV_snoc lsn _ r s
theorem newV_has {lsn:Nat}{pv:PV}{n m:Int}{c:ZO}(h:(pv m).isSome):(newV lsn pv n c m).isSome:=by
 unfold newV VC;split
 ·rfl
 ·exact h
theorem chgsV_has {lsn:Nat}{m:Int}:∀(l:List Sh) {pv:PV},(pv m).isSome->(chgsV lsn pv l m).isSome
 | [],pv,h=>h
 | s::r,pv,h=>chgsV_has r (newV_has h)
def chgV (known:Bool)(held:Nat->ZS)(pv:PV)(lsn:Nat)(l:List Sh):PV:=if askE known held pv lsn l=0 then chgsV lsn (askV known held pv l) l else askV known held pv l
theorem askE_zero {known:Bool}{held:Nat->ZS}{pv:PV}{lsn:Nat}{l:List Sh}(h:askE known held pv lsn l=0):known=true/\Wt (-1) l=true/\l.all (λ s=>Zp s.c)=true/\askV known held pv l=XG held pv l/\∀s∈l,(Yx held (XG held pv l) s.page).2.1<lsn:=by
 unfold askE at h
 split at h
 ·omega
 ·rename_i h1
  split at h
  ·omega
  ·rename_i h2
   split at h
   ·omega
   ·rename_i h3
    split at h
    ·omega
    ·rename_i h4
     refine⟨by simpa using (not_or.1 h1).1,by simpa using h2,by simpa using h3, ?_,λ s hs=>?_⟩
     ·unfold askV;rw[if_neg h1,if_neg h2,if_neg h3]
     ·rcases Nat.lt_or_ge (Yx held (XG held pv l) s.page).2.1 lsn with h5|h5
      ·exact h5
      ·exact absurd (List.any_eq_true.2 ⟨s,hs,decide_eq_true h5⟩) h4
theorem change17_spec (ρ:Hp)(pb fb lb mb rb db base t:Nat)(hp:PoIn ρ pb fb lb mb)(hf:FIn ρ fb db base)(hb:base<=100000)(S:LgS)(v:Value)(sp:List Value)(hS:LgIn ρ S v sp)(k:DK)(D:DS)(hD:DOk k D)(pg:Pgs)(es:List MapEntry)(ck:Nat)(hm:MpIn ρ es pg)(held:Nat->ZS)(hF:FO D base t held)(hL:Lv1 D)
  (lsn:Nat) (a:Option Addr) (n c:Nat) (l:List Sh) (h:ShsIn ρ a n c l) :
  Spec prog 76 [.pointer (some ⟨pb,0,none⟩),.int .u64 (lsn:Nat),.slice a n c] ρ (ZW lb rb S v::YK S v sp::Yr mb es ck::Zg db k D)
   (λ z ρ' L'=>z=.int .i64 (askE (recF S lsn).isSome held (vw pg) lsn l)/\ρ.le ρ'/\∃es' ck' pg' D',MpIn ρ' es' pg'/\vw pg'=chgV (recF S lsn).isSome held (vw pg) lsn l/\DOk k D'/\Lv D D'/\FO D' base t held/\L'=ZW lb rb S v::YK S v sp::Yr mb es' ck'::Zg db k D'):=by
 have hl:=h.at'.len
 have hbig:=h.big
 have hask:=asked_spec ρ pb fb lb mb rb db base t hp hf hb S v sp hS k D hD pg es ck hm held hF hL lsn a n c l h
 have hz:=λ e=>askE_zero (known:=(recF S lsn).isSome) (held:=held) (pv:=vw pg) (lsn:=lsn) (l:=l) e
 unfold chgV
 generalize askE (recF S lsn).isSome held (vw pg) lsn l=E at *
 generalize askV (recF S lsn).isSome held (vw pg) l=V at *
 refine Za func76 rfl rfl rfl λ u R=>?_
 simp only[Zc,kA]
 repeat' (first|(refine Zb (.func 136) ?_;refine qC rfl rfl hask ?_;rintro v1 ρ1 L1 hle1 ⟨rfl,hl1,es1,ck1,pg1,D1,hm1,hv1,hD1,hL1,hF1,rfl⟩;try simp only[kB])|refine zV ?_|intro _)
 by_cases hE:E=0
 ·subst hE
  rw[show ((0:Int) != 0)=false from rfl]
  simp only[if_true]
  obtain⟨_,hrt,_,hV,_⟩:=hz rfl
  have h1:=h.mono hl1
  have hhas:∀s∈l,(V s.page).isSome:=λ s hs=>by rw[hV];exact holdsV_mem held l (vw pg) s hs
  repeat' (first|refine zV ?_|intro _)
  clear hz hask
  refine lpG (Nat×Hp×Pgs×(List MapEntry)×Nat) [0,1,20,21] (λ z=>[(22,.int .i64 z.1),(6,.int .i64 0)]) (λ z=>z.2.1) (λ z=>ZW lb rb S v::YK S v sp::Yr mb z.2.2.2.1 z.2.2.2.2::Zg db k D1) (λ z=>z.1<=n/\ρ1.le z.2.1/\MpIn z.2.1 z.2.2.2.1 z.2.2.1/\vw z.2.2.1=chgsV lsn V (l.take z.1)) (λ z=>n-z.1) (0,ρ1,pg1,es1,ck1) ⟨aZ _,Hp.le_refl _,hm1,hv1⟩ ?_
  rintro⟨i,ρ2,pg2,es2,ck2⟩ hI
  try simp only[kB] at hI ⊢
  try dsimp only at hI ⊢
  obtain⟨hi,hl2,hm2,hvw⟩:=hI
  by_cases hlt:i<n
  ·have hil:i<l.length:=by omega
   obtain⟨b,off,C,T,fr,e1,hb0,hfit,hc⟩:=(h1.mono hl2).at'.get hil
   have htk:=Vm l i hil
   have hmem:=aM hil
   have hp2:=Hp.at' (Hp.le_trans hl1 hl2) hp
   have hkk:=hm2.keys
   have huu:=hm2.uk
   have hcs:=(h1.mono hl2).cin _ hmem
   obtain⟨g,hg1,hg2⟩:∃g,pg2 (l[i]).page=some g/\((vw pg2 (l[i]).page).getD ((l[i]).c,0,0)).2.2=g.rc:=by
    have h5:=chgsV_has (lsn:=lsn) (l.take i) (hhas _ hmem)
    rw[<-hvw] at h5
    obtain⟨y,hy⟩:=Option.isSome_iff_exists.1 h5
    obtain⟨g,q1,q2,q3,q4⟩:=vw_some hy
    exact⟨g,q1,by rw[hy,q4];rfl⟩
   have hget:=hm2.get (l[i]).page
   rw[hg1] at hget
   simp only[Option.map_some] at hget
   rw[e1]
   generalize l[i]=x at *
   obtain⟨xp,xw,xc⟩:=x
   dsimp only at hcs hg1 hg2 hget hmem
   have hcp:=λ {ρ':Hp} (hle:ρ2.le ρ')=>copied_spec ρ' xc.kind xw xc.rows xc.kids (hcs.mono hle)
   obtain⟨gc,gw,glsn,grc⟩:=g
   dsimp only at hg2
   repeat' (first|refine zV ?_|intro _)
   rename_i bx
   refine Yt [0,1,2,3,4,5,6] (.e 7 [] (.e 8 [] .o)) ([Yr mb es2 ck2,[(bx,.cells ⟨sheV ⟨xp,xw,xc⟩⟩ 150 (0,0))]]) ?_
   repeat' (refine iT ?_;first|refine rA ?_|(refine rE ?_<;>(refine qEf ?_;try intro _)<;>(try simp only[kA])<;>refine zN ?_))
   all_goals (repeat' (first|(refine Zb (.func 137) ?_;refine qC rfl rfl (hcp (Hp.le_refl _)) ?_;rintro v3 ρ3 L3 hle3 ⟨hl3,w3,rfl,hC3,rfl⟩;have hp3:=Hp.at' hl3 hp2;simp only[kA])|refine zV ?_|intro _))
   dsimp only
   rename_i bg
   have hl3':=Hp.le_trans hl2 hl3
   have hput:=λ {es':List MapEntry} {r:Nat} h1 h2 h3=>(hm2.mono hl3).put (n:=xp) (g:=⟨xc,w3,lsn,r⟩) (es':=es') h1 h2 h3 hC3
   have hnew:∀r,r=(if grc=0 then lsn else grc)->vw (updG pg2 xp ⟨xc,w3,lsn,r⟩)=chgsV lsn V (l.take (i+1)):=λ r hr=>by
    rw[vw_upd,htk,chgsV_snoc,<-hvw]
    unfold newV
    rw[hg2,hr]
   by_cases h0:grc=0
   ·rw[if_pos h0] at hnew
    rw[show (((grc:Nat):Int) == 0)=true by simpa using h0]
    repeat' (first|refine zV ?_|intro _)
    refine Yt [0,1,2,3,4,5,6] (.e 7 [] .o) ([[(bg,.cells ⟨pgV ⟨xc,w3,lsn,lsn⟩⟩ 217 (0,0))],[(bx,.cells ⟨sheV ⟨xp,xw,xc⟩⟩ 150 (0,0))]]) ?_
    repeat' (refine iT ?_;first|refine rA ?_|(refine rE ?_<;>((first|(refine WQ rfl rfl rfl hkk huu (λ es' ck' q1 q2 q3=>?_))|(refine qEf ?_;try intro _))<;>(try simp only[kA])<;>refine zN ?_)))
    all_goals (repeat' (first|refine zV ?_|intro _))
    all_goals rw[<-e1]
    all_goals refine rnG (i+1,ρ3,updG pg2 xp ⟨xc,w3,lsn,lsn⟩,es',ck') (⟨hlt,hl3',hput q1 q2 q3,hnew _ rfl⟩)
   ·rw[if_neg h0] at hnew
    rw[show (((grc:Nat):Int) == 0)=false by simpa using h0]
    repeat' (first|refine zV ?_|intro _)
    refine Yt [0,1,2,3,4,5,6] (.e 7 [] .o) ([[(bg,.cells ⟨pgV ⟨xc,w3,lsn,grc⟩⟩ 217 (0,0))],[(bx,.cells ⟨sheV ⟨xp,xw,xc⟩⟩ 150 (0,0))]]) ?_
    repeat' (refine iT ?_;first|refine rA ?_|(refine rE ?_<;>((first|(refine WQ rfl rfl rfl hkk huu (λ es' ck' q1 q2 q3=>?_))|(refine qEf ?_;try intro _))<;>(try simp only[kA])<;>refine zN ?_)))
    all_goals (repeat' (first|refine zV ?_|intro _))
    all_goals rw[<-e1]
    all_goals refine rnG (i+1,ρ3,updG pg2 xp ⟨xc,w3,lsn,grc⟩,es',ck') (⟨hlt,hl3',hput q1 q2 q3,hnew _ rfl⟩)
  ·have hi2:i=l.length:=by omega
   rw[hi2,List.take_length] at hvw
   repeat' (first|refine zV ?_|intro _)
   exact qE (L':=ZW lb rb S v::YK S v sp::Yr mb es2 ck2::Zg db k D1) ⟨rfl,Hp.le_trans hl1 hl2,es2,ck2,pg2,D1,hm2,hvw,hD1,hL1,hF1,rfl⟩
 ·have hcb:(E != 0)=true:=by simpa using hE
  rw[hcb]
  simp only[if_neg hE]
  repeat' (first|refine zV ?_|intro _)
  exact qE (L':=ZW lb rb S v::YK S v sp::Yr mb es1 ck1::Zg db k D1) ⟨rfl,hl1,es1,ck1,pg1,D1,hm1,hv1,hD1,hL1,hF1,rfl⟩
theorem RO.frame {R:RgS}{D D':DS}(h:RO R D)(hok:D'.Ok)(ha:D'.dead=false)(he:YC D'.secs)(hl:D'.secs.length=D.secs.length)(hi:∀i,i<R.h.size+2->img D' i=img D i):RO R D':=by
 have hsz:=h.ok.size
 have hm:∀x,2+x % R.h.size<R.h.size+2:=λ x=>by have:=Nat.mod_lt x (show 0<R.h.size by omega);omega
 refine⟨h.ok,h.live,h.num,hok,ha,he,by rw[hl];exact h.len, ?_, ?_,h.has.frame rfl (λ j _=>hi _ (hm _)), ?_,λ q hq=>by rw[hi _ (by omega)];exact h.bound q hq⟩
 ·rw[hi _ (by omega)];exact h.head
 ·rw[hi _ (by omega)];exact h.other
 ·intro hlt t b h1 h2 h3 h4
  obtain⟨k,hk,hne⟩:=h.none hlt t b h1 h2 h3 h4
  exact⟨k,hk,by rw[hi _ (hm _)];exact hne⟩
theorem Good.frame {R:RgS}{D D':DS}(h:Good R D)(hok:D'.Ok)(hc:D'.Calm)(he:YC D'.secs)(hl:D'.secs.length=D.secs.length)(hi:∀i,i<R.h.size+2->img D' i=img D i):Good R D':=
 ⟨h.ro.frame hok hc.dead he hl hi,λ q hq=>by rw[hi _ (by omega)];exact h.frs q hq,hc⟩
theorem FO.frame {D D':DS}{base t:Nat}{held:Nat->ZS}(h:FO D base t held)(hok:D'.Ok)(ha:D'.dead=false)(he:YC D'.secs)(hl:D'.secs.length=D.secs.length)(hi:∀i,base<=i->i<base+256->img D' i=img D i):FO D' base t held:=by
 have hp:∀num j,num<64->j<4->pg D' base num j=pg D base num j:=λ num j h1 h2=>hi _ (by omega) (by omega)
 refine⟨hok,ha,he,by rw[hl];exact h.len,λ num j h1 h2=>by rw[hp num j h1 h2];exact h.sec num j h1 h2,λ num h1=>?_⟩
 unfold csD
 rw[hp num 0 h1 (by omega),hp num 1 h1 (by omega),hp num 2 h1 (by omega),hp num 3 h1 (by omega)]
 exact h.held num h1
theorem writeF_frame {D:DS}{base t:Nat}{held:Nat->ZS}(h:FO D base t held)(hc:D.Calm){num lsn:Nat}{c:ZO}(hn:num<64)(ht:t+1<M64) :
  (YN D base num lsn c).2=0/\(YN D base num lsn c).1.Calm/\YC (YN D base num lsn c).1.secs/\(YN D base num lsn c).1.secs.length=D.secs.length/\∀i,i<base\/base+256<=i->img (YN D base num lsn c).1 i=img D i:=by
 obtain⟨w0,w1⟩:=writeF_calm (lsn:=lsn) (c:=c) h hc hn ht
 have hln:=h.len
 have hL:base+4*num+4<=D.secs.length:=by omega
 obtain⟨e1,e2⟩:=countsD_calm hc hL
 have hv:=Vd h.empty h.alive hL e1
 have hs1:=WG (D:=D) (base:=base) (num:=num)
 obtain⟨m1,m2,_⟩:=csD_most h hn (by omega)
 refine⟨w0,w1, ?_⟩
 unfold YN
 rw[if_neg (by simp[e1]),hv]
 dsimp only
 rw[if_neg (by unfold M64 at ht;omega)]
 have hidx:∀p∈Yy (base+4*num+2*(csD D base num).other) (Zx num ((csD D base num).most+1) lsn c 0) (Zx num ((csD D base num).most+1) lsn c 1),base<=p.1/\p.1<base+256:=λ p hp=>by
  simp only[Yy,List.mem_cons,List.not_mem_nil,or_false] at hp
  rcases hp with rfl|rfl<;>dsimp only<;>omega
 obtain⟨l0,l1,l2⟩:=XN (Yy (base+4*num+2*(csD D base num).other) (Zx num ((csD D base num).most+1) lsn c 0) (Zx num ((csD D base num).most+1) lsn c 1)) (Zo D base num).2.1 e2 (λ p hp=>by
  rw[hs1];have:=hidx p hp;omega)
 refine⟨by rw[l2];exact ZK,by rw[YX,hs1],λ i hi=>?_⟩
 rcases YJ (s:=(Zo D base num).2.1.secs) (by rw[hs1];exact h.empty) l2 D hs1.symm i with e|⟨p,hp,h1,_⟩
 ·exact e
 ·have:=hidx p hp;omega
theorem FO.formatL {D:DS}{base:Nat}(hc:D.Calm)(he:YC D.secs)(hl:base+256<=D.secs.length) :
  YC (DS.lays (ZC base) D).1.secs/\(DS.lays (ZC base) D).1.secs.length=D.secs.length/\∀i,i<base\/base+256<=i->img (DS.lays (ZC base) D).1 i=img D i:=by
 have hidx:∀p∈ZC base,base<=p.1/\p.1<base+256:=λ p hp=>by
  simp only[ZC,List.mem_map,List.mem_range] at hp
  obtain⟨k,hk,rfl⟩:=hp
  dsimp only;omega
 obtain⟨l0,l1,l2⟩:=XN (ZC base) D hc (λ p hp=>by have:=hidx p hp;omega)
 refine⟨by rw[l2];exact ZK,YX _ _,λ i hi=>?_⟩
 rcases YJ he l2 D rfl i with e|⟨p,hp,h1,_⟩
 ·exact e
 ·have:=hidx p hp;omega
end Go.Proofs.E
