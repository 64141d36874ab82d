/- Laws of PoolRule. Part 15 of 26. -/
import Derived.Test.YthjhjmnmnbcioaaGreatE14
set_option linter.unusedVariables false
set_option linter.unusedSimpArgs false
set_option linter.unusedSectionVars false
namespace Go.Proofs.E
open Go Tryz
set_option maxRecDepth 4000
set_option maxHeartbeats 1000000
attribute [local irreducible] Yl TL TC TE Spec YW R1 Hp.le EnvLe TS TR YS Zv TP QP
theorem rows_take {α:Type}{p:α->Bool}{l:List α}{i:Nat}(h:i<l.length)(e:(l.take i).all p=true):(l.take (i+1)).all p=p l[i]:=by
 rw[aG h,List.all_append,e];simp
theorem all_false {α:Type}{p:α->Bool}{l:List α}{i:Nat}(h:i<l.length)(e:p l[i]=false):l.all p=false:=by
 rw[List.all_eq_false]
 exact⟨_,aM h,by simp[e]⟩
theorem page13_met (wb mb:Nat)(a:Option Addr)(c dp:Nat)(ρ:Hp)(n d:Nat)(kt:Int)(ki:Nat)(nv:Value)(s:List Nat)(es:List MapEntry)(ck:Nat)(hm:MetOk es (metI s))(hn:n∈s) :
  Spec prog 256 [.pointer (some ⟨wb,0,none⟩),.int .i64 n,.int .i64 d,.agg ⟨Vp kt ki⟩,nv] ρ [wkC wb a c mb dp,mtC mb es ck] (λ v ρ' L'=>v=.bool false/\ρ'=ρ/\L'=[wkC wb a c mb dp,mtC mb es ck]):=by
 have hg:Ym es (n:Int)=some (.bool true):=by rw[hm.get,if_pos (metI_mem.2 hn)]
 have hes:=hm.keys
 refine Za func256 rfl rfl rfl λ u R=>?_
 simp only[Zc,kA]
 repeat' (first|refine zV ?_|intro _)
 exact qE (L':=[wkC wb a c mb dp,mtC mb es ck]) ⟨rfl,rfl,rfl⟩
theorem page13_spec (l:List CC)(hl:l.length=64)(hok:∀x∈l,Zp x.2=true)(wb mb c:Nat)(a:Option Addr)(ρ:Hp)(hFo:FoIn ρ a 64 l) :
  ∀(f n d:Nat) (b:Bd) (s:List Nat×Nat) (nv:Value) (es:List MapEntry) (ck:Nat),n<64->1<=d->d+f<=100->SOk f s->MetOk es (metI s.1)->NxIn ρ nv b.nx ->
  Spec prog 256 [.pointer (some ⟨wb,0,none⟩),.int .i64 n,.int .i64 d,.agg ⟨Vp b.l.1 b.l.2⟩,nv] ρ [wkC wb a c mb s.2,mtC mb es ck]
   (λ v ρ' L'=>v=.bool (Wx (Yw l) f n d b s).isSome/\ρ'=ρ/\∃dp' es' ck',(∀s',Wx (Yw l) f n d b s=some s'->dp'=s'.2/\MetOk es' (metI s'.1))/\L'=[wkC wb a c mb dp',mtC mb es' ck']):=by
 have hF:=foOf_ok hok
 intro f
 induction f with
 | zero=>
  intro n d b s nv es ck hn hd hdf hs hm hnx
  by_cases hnm:n∈s.1
  ·refine (page13_met wb mb a c s.2 ρ n d _ _ nv s.1 es ck hm hnm).mono ?_
   rintro v r1 l1 _ ⟨rfl,rfl,rfl⟩
   exact⟨rfl,rfl,s.2,es,ck,(by intro s' h;cases h),rfl⟩
  ·obtain⟨f',h⟩:=hs.room hn hnm
   omega
 | succ f ih=>
  intro n d b s nv es ck hn hd hdf hs hm hnx
  by_cases hnm:n∈s.1
  ·refine (page13_met wb mb a c s.2 ρ n d _ _ nv s.1 es ck hm hnm).mono ?_
   rintro v r1 l1 _ ⟨rfl,rfl,rfl⟩
   have hr:Wx (Yw l) (f+1) n d b s=none:=by unfold Wx;rw[if_pos (.inl hnm)]
   rw[hr]
   exact⟨rfl,rfl,s.2,es,ck,(by intro s' h;cases h),rfl⟩
  ·have hg:Ym es (n:Int)=none:=by rw[hm.get,if_neg (λ h=>hnm (metI_mem.1 h))]
   have hes:=hm.keys
   have hs1:=hs.put hn hnm s.2
   have hmet:=λ {es':List MapEntry}=>MetOk.add (es:=es) (es':=es') (n:=n) hm
   obtain⟨bb,off,C,T,fr,rfl,hb0,hfit,hc⟩:=hFo.at'.get (show n<l.length by omega)
   have hcin:=hFo.cin _ (aM (show n<l.length by omega))
   have hco:=hok _ (aM (show n<l.length by omega))
   have hr:Wx (Yw l) (f+1) n d b s=if pgBad (Yw l) n b=true then none else if (Yw l n).kind=1 then (if s.2=0\/s.2=d then some (n::s.1,d) else none) else Vf (Wx (Yw l) f) (d+1) (Xm b (Yw l n).kids) (n::s.1,s.2):=by
    rw[Wx]
    by_cases h:pgBad (Yw l) n b=true
    ·rw[if_pos (.inr h),if_pos h]
    ·rw[if_neg (by rintro (h1|h1);exact hnm h1;exact h h1),if_neg h]
   rw[hr]
   unfold pgBad
   have hpz:=pSize_spec ρ l[n].1 l[n].2 hcin hco
   have hwi:=λ k=>within_spec ρ k b.l nv b.nx hnx
   rw[foOf_at (show n<l.length by omega)]
   generalize l[n]'(show n<l.length by omega)=x at *
   obtain⟨⟨ra,rn,rc,ka,kn,kc⟩,cc⟩:=x
   dsimp only at hcin hco hpz ⊢
   refine Za func256 rfl rfl rfl λ u R=>?_
   simp only[Zc,kA]
   by_cases k0:cc.kind=0
   ·rw[if_pos (by rw[decide_eq_true k0];rfl)]
    repeat' (first|(refine YQ rfl rfl rfl hes (λ es' ck' h1 h2=>?_))|refine zV ?_|intro _)
    exact qE (L':=[wkC wb (some ⟨bb,off,none⟩) c mb s.2,mtC mb es' ck']) ⟨rfl,rfl,s.2,es',ck',(by intro s' h;cases h),rfl⟩
   ·rw[decide_eq_false k0,Bool.false_or]
    by_cases hz:n≠0/\szC cc<2
    ·rw[if_pos (by rw[decide_eq_true hz.1,decide_eq_true hz.2];rfl)]
     obtain⟨hz1,hz2⟩:=hz
     repeat' (first|(refine YQ rfl rfl rfl hes (λ es' ck' h1 h2=>?_))|(refine Zb (.func 284) ?_;refine qR rfl rfl (hpz) ?_;try simp only[kA])|refine zV ?_|intro _)
     exact qE (L':=[wkC wb (some ⟨bb,off,none⟩) c mb s.2,mtC mb es' ck']) ⟨rfl,rfl,s.2,es',ck',(by intro s' h;cases h),rfl⟩
    ·rw[show (decide (n≠0) && decide (szC cc<2))=false by rw[<-Bool.decide_and];exact decide_eq_false hz,Bool.false_or]
     have hz':n=0\/(n≠0/\¬szC cc<2):=by omega
     clear hz
     have hrow:=hcin.r
     have hkid:=hcin.k
     have hrl:=hrow.len
     have hkl:=hkid.len
     have hrb:=hcin.rb
     have hkb:=hcin.kb
     dsimp only at hrow hkid hrl hkl hrb hkb
     rcases hz' with hz1|⟨hz1,hz2⟩
     case' inl=>
      repeat' (first|(refine YQ rfl rfl rfl hes (λ es1 ck1 h1 h2=>?_))|refine zV ?_|intro _)
     case' inr=>
      repeat' (first|(refine YQ rfl rfl rfl hes (λ es1 ck1 h1 h2=>?_))|(refine Zb (.func 284) ?_;refine qR rfl rfl (hpz) ?_;try simp only[kA])|refine zV ?_|intro _)
     all_goals
      have hmet1:=hmet h1 h2
      rename_i b8 b11
      refine lpG Nat [0,2,4,8,11,50,51] (λ z=>[(52,.int .i64 z),(10,.bool false)]) (λ z=>ρ) (λ z=>[(b11,.cells ⟨Yv cc.kind ⟨ra,rn,rc,ka,kn,kc⟩⟩ 88 (0,0))]::[(b8,.cells ⟨Vp b.l.1 b.l.2⟩ 169 (0,0))]::[wkC wb (some ⟨bb,off,none⟩) c mb s.2,mtC mb es1 ck1]) (λ z=>z<=rn/\(cc.rows.take z).all (λ r=>inB b (r.t,r.id))=true) (λ z=>rn-z) 0 ⟨aZ _,by simp⟩ ?_
      rintro i hI
      try simp only[kB] at hI ⊢
      try dsimp only at hI ⊢
      obtain⟨hi,hall⟩:=hI
      by_cases hlt:i<rn
      ·obtain⟨rb,ro,rC,rT,rf,er,hrb0,hrfit,hrc⟩:=hrow.get (show i<cc.rows.length by omega)
       have hnext:=rows_take (show i<cc.rows.length by omega) hall
       have hbad:=all_false (p:=λ r=>inB b (r.t,r.id)) (show i<cc.rows.length by omega)
       rw[er]
       generalize cc.rows[i]'(by omega)=r at *
       have hw:=hwi (r.t,r.id)
       dsimp only at hw hbad hnext
       cases hv:inB b (r.t,r.id)
       ·rw[hv] at hw
        have hbad:=hbad hv
        repeat' (first|(refine Zb (.func 285) ?_;refine qR rfl rfl (hw) ?_;try simp only[kA])|refine zV ?_|intro _)
        rw[hbad]
        rw[<-er]
        exact qE (L':=[wkC wb (some ⟨bb,off,none⟩) c mb s.2,mtC mb es1 ck1]) ⟨rfl,rfl,s.2,es1,ck1,(by intro s' h;cases h),rfl⟩
       ·rw[hv] at hw hnext
        repeat' (first|(refine Zb (.func 285) ?_;refine qR rfl rfl (hw) ?_;try simp only[kA])|refine zV ?_|intro _)
        rw[<-er]
        refine rnG (i+1) (⟨hlt,hnext⟩)
      ·have hi2:i=cc.rows.length:=by omega
       rw[hi2,List.take_length] at hall
       rw[hall,if_neg (by simp)]
       clear hall hlt hi hrow
       by_cases k1:cc.kind=1
       ·rw[if_pos k1]
        by_cases hd0:s.2=0
        ·rw[if_pos (.inl hd0)]
         rw[hd0]
         repeat' (first|refine zV ?_|intro _)
         exact qE (L':=[wkC wb (some ⟨bb,off,none⟩) c mb d,mtC mb es1 ck1]) ⟨rfl,rfl,d,es1,ck1,(by intro s' h;cases h;exact⟨rfl,hmet1⟩),rfl⟩
        ·by_cases hd1:s.2=d
         ·rw[if_pos (.inr hd1)]
          repeat' (first|refine zV ?_|intro _)
          exact qE (L':=[wkC wb (some ⟨bb,off,none⟩) c mb s.2,mtC mb es1 ck1]) ⟨rfl,rfl,s.2,es1,ck1,(by intro s' h;cases h;exact⟨hd1,hmet1⟩),rfl⟩
         ·rw[if_neg (by rintro (h|h);exact hd0 h;exact hd1 h)]
          repeat' (first|refine zV ?_|intro _)
          exact qE (L':=[wkC wb (some ⟨bb,off,none⟩) c mb s.2,mtC mb es1 ck1]) ⟨rfl,rfl,s.2,es1,ck1,(by intro s' h;cases h),rfl⟩
       ·rw[if_neg k1]
        repeat' (first|refine zV ?_|intro _)
        refine lpG (Nat×(List Nat×Nat)×(List MapEntry)×Nat) [0,2,4,8,11,82,83] (λ z=>[(84,.int .i64 z.1),(10,.bool false)]) (λ z=>ρ) (λ z=>[(b11,.cells ⟨Yv cc.kind ⟨ra,rn,rc,ka,kn,kc⟩⟩ 88 (0,0))]::[(b8,.cells ⟨Vp b.l.1 b.l.2⟩ 169 (0,0))]::[wkC wb (some ⟨bb,off,none⟩) c mb z.2.1.2,mtC mb z.2.2.1 z.2.2.2]) (λ z=>z.1<=kn/\Vf (Wx (Yw l) f) (d+1) ((Xm b cc.kids).take z.1) (n::s.1,s.2)=some z.2.1/\SOk f z.2.1/\MetOk z.2.2.1 (metI z.2.1.1)) (λ z=>kn-z.1) ((0,(n::s.1,s.2),es1,ck1)) ⟨aZ _,rfl,hs1,hmet1⟩ ?_
        rintro⟨i,s1,es2,ck2⟩ hI
        try simp only[kB] at hI ⊢
        try dsimp only at hI ⊢
        obtain⟨hi,hk1,hs2,hm2⟩:=hI
        by_cases hlt:i<kn
        ·obtain⟨kb,ko,kC,kT,kf,ek,hkb0,hkfit,hkc⟩:=hkid.get (show i<cc.kids.length by omega)
         have hnx1:=kidsT_next (f:=Wx (Yw l) f) (b:=b) (show i<cc.kids.length by omega) hk1
         have hnone:=λ e=>kidsT_none (i:=i+1) (l:=Xm b cc.kids) (f:=Wx (Yw l) f) (d:=d+1) (s:=(n::s.1,s.2)) e
         have hpb:=((YF hco).kid _ (aM (show i<cc.kids.length by omega))).2
         have hsub:subB b cc.kids i=((cc.kids[i]'(by omega)).page.toNat,belowB b cc.kids i,decide (i=0) || inB b (kkey (cc.kids[i]'(by omega)))):=by
          unfold subB;rw[List.getD_eq_getElem?_getD,List.getElem?_eq_getElem (show i<cc.kids.length by omega)];rfl
         have hbel:belowB b cc.kids i=⟨if 0<i then kkey (cc.kids[i]'(by omega)) else b.l,if i+1<cc.kids.length then some (kkey (cc.kids.getD (i+1) zKid)) else b.nx⟩:=by
          unfold belowB;rw[List.getD_eq_getElem?_getD,List.getElem?_eq_getElem (show i<cc.kids.length by omega)];rfl
         subst ek
         obtain⟨nv2,hnv2,hnxt⟩:∃nv2,NxIn ρ nv2 (if i+1<cc.kids.length then some (kkey (cc.kids.getD (i+1) zKid)) else b.nx)/\((i+1<kn/\nv2=.pointer (some ⟨kb,ko+(i+1)*3+0,none⟩))\/(¬i+1<kn/\nv2=nv)):=by
          by_cases hlt2:i+1<kn
          ·obtain⟨kb2,ko2,kC2,kT2,kf2,ek2,hkb2,hkfit2,hkc2⟩:=hkid.get (show i+1<cc.kids.length by omega)
           cases ek2
           refine⟨_, ?_,.inl ⟨hlt2,rfl⟩⟩
           rw[if_pos (by omega),List.getD_eq_getElem?_getD,List.getElem?_eq_getElem (show i+1<cc.kids.length by omega)]
           refine⟨_,_,_,_,_,rfl,hkb2,by omega, ?_⟩
           have:=congrArg (List.take 2) hkc2
           rw[List.take_take] at this
           exact this
          ·exact⟨nv,by rw[if_neg (by omega)];exact hnx,.inr ⟨hlt2,rfl⟩⟩
         rw[hsub,hbel] at hnx1
         clear hsub hbel
         generalize cc.kids[i]'(by omega)=x at *
         generalize (if i+1<cc.kids.length then some (kkey (cc.kids.getD (i+1) zKid)) else b.nx)=nx2 at *
         obtain⟨kt,ki,kp⟩:=x
         obtain⟨pn,hpn⟩:∃pn:Nat,kp=pn:=⟨kp.toNat,by dsimp only at hpb;omega⟩
         subst hpn
         dsimp only[kkey] at hpb hnx1
         rw[Int.toNat_natCast] at hnx1
         have hih:=λ (b':Bd) (hb':b'.nx=nx2)=>ih pn (d+1) b' s1 nv2 es2 ck2 (by omega) (by omega) (by omega) hs2 hm2 (hb' ▸ hnv2)
         rw[show ((d+1:Nat):Int)=(d:Int)+1 from rfl] at hih
         have hok3:=λ b' s'=>SOk.page hF (f:=f) (d:=d+1) (b:=b') (s':=s') hs2 (show pn<64 by omega) (by omega)
         by_cases hi0:0<i
         ·simp only[hi0,if_true,decide_eq_false (show ¬i=0 by omega),Bool.false_or] at hnx1
          have hcall:=hih ⟨(kt,ki),nx2⟩ rfl
          have hw:=hwi (kt,ki)
          dsimp only at hw hcall
          cases hv:inB b (kt,ki)
          ·rw[hv] at hw hnx1
           rw[if_neg (by simp)] at hnx1
           repeat' (first|(refine Zb (.func 285) ?_;refine qR rfl rfl (hw) ?_;try simp only[kA])|refine zV ?_|intro _)
           rw[hnone hnx1]
           exact qE (L':=[wkC wb (some ⟨bb,off,none⟩) c mb s1.2,mtC mb es2 ck2]) ⟨rfl,rfl,s1.2,es2,ck2,(by intro s' h;cases h),rfl⟩
          ·rw[hv] at hw hnx1
           rw[if_pos rfl] at hnx1
           rcases hnxt with⟨hlt2,rfl⟩|⟨hlt2,rfl⟩
           all_goals
            cases hp:Wx (Yw l) f pn (d+1) ⟨(kt,ki),nx2⟩ s1 with
            | none=>
             rw[hp] at hcall hnx1
             repeat' (first|(refine Zb (.func 285) ?_;refine qR rfl rfl (hw) ?_;try simp only[kA])|(refine Zb (.func 256) ?_;refine qC rfl rfl hcall ?_;rintro v3 ρ3 L3 hle3 ⟨rfl,rfl,dp3,es3,ck3,hs3,rfl⟩;try simp only[kA])|refine zV ?_|intro _)
             rw[hnone hnx1]
             exact qE (L':=[wkC wb (some ⟨bb,off,none⟩) c mb dp3,mtC mb es3 ck3]) ⟨rfl,rfl,dp3,es3,ck3,(by intro s' h;cases h),rfl⟩
            | some s3=>
             rw[hp] at hcall hnx1
             have hs4:=hok3 _ s3 hp
             repeat' (first|(refine Zb (.func 285) ?_;refine qR rfl rfl (hw) ?_;try simp only[kA])|(refine Zb (.func 256) ?_;refine qC rfl rfl hcall ?_;rintro v3 ρ3 L3 hle3 ⟨rfl,rfl,dp3,es3,ck3,hs3,rfl⟩;try simp only[kA])|refine zV ?_|intro _)
             obtain⟨rfl,hm3⟩:=hs3 s3 rfl
             refine rnG (i+1,s3,es3,ck3) (⟨hlt,hnx1,hs4,hm3⟩)
         ·have hi00:i=0:=by omega
          simp only[hi0,if_false,decide_eq_true hi00,Bool.true_or,if_true] at hnx1
          have hcall:=hih ⟨b.l,nx2⟩ rfl
          rcases hnxt with⟨hlt2,rfl⟩|⟨hlt2,rfl⟩
          all_goals
           cases hp:Wx (Yw l) f pn (d+1) ⟨b.l,nx2⟩ s1 with
           | none=>
            rw[hp] at hcall hnx1
            repeat' (first|(refine Zb (.func 256) ?_;refine qC rfl rfl hcall ?_;rintro v3 ρ3 L3 hle3 ⟨rfl,rfl,dp3,es3,ck3,hs3,rfl⟩;try simp only[kA])|refine zV ?_|intro _)
            rw[hnone hnx1]
            exact qE (L':=[wkC wb (some ⟨bb,off,none⟩) c mb dp3,mtC mb es3 ck3]) ⟨rfl,rfl,dp3,es3,ck3,(by intro s' h;cases h),rfl⟩
           | some s3=>
            rw[hp] at hcall hnx1
            have hs4:=hok3 _ s3 hp
            repeat' (first|(refine Zb (.func 256) ?_;refine qC rfl rfl hcall ?_;rintro v3 ρ3 L3 hle3 ⟨rfl,rfl,dp3,es3,ck3,hs3,rfl⟩;try simp only[kA])|refine zV ?_|intro _)
            obtain⟨rfl,hm3⟩:=hs3 s3 rfl
            refine rnG (i+1,s3,es3,ck3) (⟨hlt,hnx1,hs4,hm3⟩)
        ·have hi2:i=(Xm b cc.kids).length:=by rw[zC_len];omega
         rw[hi2,List.take_length] at hk1
         rw[hk1]
         repeat' (first|refine zV ?_|intro _)
         exact qE (L':=[wkC wb (some ⟨bb,off,none⟩) c mb s1.2,mtC mb es2 ck2]) ⟨rfl,rfl,s1.2,es2,ck2,(by intro s' h;cases h;exact⟨rfl,hm2⟩),rfl⟩
end Go.Proofs.E
