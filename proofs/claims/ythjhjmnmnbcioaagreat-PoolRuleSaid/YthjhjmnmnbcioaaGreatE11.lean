/- Laws of PoolRule. Part 11 of 26. -/
import Derived.Test.YthjhjmnmnbcioaaGreatE10
set_option linter.unusedVariables false
set_option linter.unusedSimpArgs false
set_option linter.unusedSectionVars false
namespace Go.Proofs.E
open Go Tryz
set_option maxRecDepth 4000
set_option maxHeartbeats 1000000
attribute [local irreducible] Yl TL TC TE Spec YW R1 Hp.le EnvLe TS TR YS Zv TP QP
abbrev pencV (p:Nat×Blk):List Value:=[.int .i64 p.1,bv p.2]
theorem take_succ_pre {α:Type}(l:List α)(k:Nat)(h:k<l.length):l.take k++[l[k]] <+: l:=by
 rw[<-aG h];exact List.take_prefix _ _
theorem partsL_at {h:Hd}{n at':Nat}{b:Bs}{k:Nat}(hk:k<(ZU h n b at').length):(ZU h n b at')[k]=(2+(at'+k) % h.size,Yg h.turn n b k):=by
 simp[ZU]
theorem partsL_length {h:Hd}{n at':Nat}{b:Bs}:(ZU h n b at').length=Zs b.length:=by simp[ZU]
abbrev partsS (bb ab hb nb:Nat)(a:Option Addr)(bn c at':Nat)(h:Hd)(na:Option Addr)(nn nc n:Nat):SH:=
 [[(bb,.cells ⟨[.slice a bn c]⟩ 107 (0,0))],[(ab,.cells ⟨[.int .i64 at']⟩ 3 (0,0))],[(hb,.cells ⟨hdV h na nn nc⟩ 109 (0,0))],[(nb,.cells ⟨[.int .u64 n]⟩ 35 (0,0))]]
theorem parts_iter (ρ0:Hp)(X:SH)(bb ab hb nb:Nat)(a:Option Addr)(bn c at':Nat)(b:Bs)(h:Hd)(na:Option Addr)(nn nc n:Nat)(hb0:Rd ρ0 X a bn b)(hc:bn<=c)(ht:h.turn<4294967296)(hn:n<=1099511627776)(hbl:bn<=8000)(hat:at'<=1000000)(hsz:0<h.size)(hsz2:h.size<=1000000) :
  Iter prog 177 [] [.pointer (some ⟨bb,0,none⟩),.pointer (some ⟨ab,0,none⟩),.pointer (some ⟨hb,0,none⟩),.pointer (some ⟨nb,0,none⟩)] pencV ρ0 (partsS bb ab hb nb a bn c at' h na nn nc n++X) (ZU h n b at'):=by
 intro l J Jx hY ρ Lj hl0 hJ
 have hl:=hb0.len
 have hsc:=sects_le (n:=bn) (by omega)
 have hpl:(ZU h n b at').length=Zs bn:=by rw[partsL_length,hl]
 refine Za func177 rfl rfl rfl λ u R=>?_
 simp only[Zc,kB]
 repeat' (first|(refine Zb (.func 101) ?_;refine qC rfl rfl (sects_spec _ bn (by omega)) ?_;rintro v ρ' L' hle ⟨rfl,rfl,rfl⟩<;>(try simp only[kA]))|refine zW ?_|intro _)
 refine lpG (Nat×Hp×SH) [0,1,2,3,4,9] (λ z=>[(10,.int .i64 z.1)]) (λ z=>z.2.1) (λ z=>partsS bb ab hb nb a bn c at' h na nn nc n++(X++z.2.2)) (λ z=>z.1<=Zs bn/\ρ'.le z.2.1/\J ((ZU h n b at').take z.1) z.2.1 z.2.2) (λ z=>Zs bn-z.1) (0,ρ',Lj) ⟨aZ _,Hp.le_refl _,hJ⟩ ?_
 rintro⟨k,ρ1,L1⟩ hI
 try simp only[kB] at hI ⊢
 try dsimp only at hI ⊢
 obtain⟨hk,hle1,hj⟩:=hI
 by_cases hlt:k<Zs bn
 ·have hk2:k<(ZU h n b at').length:=by omega
  have hpre:=take_succ_pre (ZU h n b at') k hk2
  rw[partsL_at] at hpre
  have hts:=aG hk2
  rw[partsL_at] at hts
  have hy:=hY _ _ ρ1 L1 hpre (Hp.le_trans hl0 hle1) hj
  have hrm:(2:Int)+((at':Int)+(k:Int)).tmod (h.size:Int)=((2+(at'+k) % h.size:Nat):Int):=by
   rw[Int.tmod_eq_emod_of_nonneg (by omega),Int.natCast_add,Int.natCast_emod,Int.natCast_add];rfl
  have hrm1:((at':Int)+(k:Int)).tmod (h.size:Int)<h.size:=Int.tmod_lt_of_pos _ (by omega)
  have hrm0:0<=((at':Int)+(k:Int)).tmod (h.size:Int):=Int.tmod_nonneg _ (by omega)
  repeat' (first|refine zW ?_|intro _)
  refine Yt [0,1,2,3,4,5,6,7,8,9,10,11,12] (.e 13 [] (.e 14 [] (.f [15] .o))) (partsS bb ab hb nb a bn c at' h na nn nc n) ?_
  repeat' (refine iT ?_;first|refine rA ?_|(refine rE ?_<;>((first|(refine Zb (.func 178) ?_;refine qC rfl rfl (part_spec _ X h.turn n a bn c b (hb0.mono (Hp.le_trans hl0 hle1)) hc k ht hn hbl hlt) ?_;rintro v6 ρ6 L6 hle6 ⟨rfl,rfl,rfl⟩;simp only[kA,hrm])|(refine Zb (.tmp 13) ?_;refine qY rfl rfl (hy) ?_;rintro v ρ' L' hle ⟨Lj',rfl,⟨rfl,hj'⟩|⟨rfl,hj'⟩⟩<;>(try simp only[kA,partsS,aA])))<;>(try simp only[kA])<;>refine zN ?_)))
  ·repeat' (first|refine zW ?_|intro _)
   refine rnG (k+1,ρ',Lj') (⟨hlt,Hp.le_trans hle1 hle,by dsimp only;rw[hts];exact hj'⟩)
  ·repeat' (first|refine zW ?_|intro _)
   exact qE (L':=partsS bb ab hb nb a bn c at' h na nn nc n++L6++Lj') ⟨Lj',rfl,.inr hj'⟩
 ·have hk2:k=Zs bn:=by omega
  subst hk2
  rw[aT (by omega)] at hj
  repeat' (first|refine zW ?_|intro _)
  exact qE (L':=partsS bb ab hb nb a bn c at' h na nn nc n++X++L1) ⟨L1,rfl,.inl hj⟩
theorem kwrite (ρ:Hp)(b:Nat)(k:DK)(D:DS)(i:Int)(blk:Blk)(h64:blk.length=64)(h:DOk k D) :
  Spec prog 95 [.pointer (some ⟨b,0,none⟩),.int .i64 i,bv blk] ρ (Zg b k D) (λ v ρ' L'=>v=.int .i64 (D.write i blk).2/\ρ'=ρ/\∃k',DOk k' (D.write i blk).1/\L'=Zg b k' (D.write i blk).1):=
 (dwrite_spec ρ b k.hb k.mb k.es k.ck D i blk h64 h.ok h.map).mono (λ v ρ' L' _ ⟨h1,h2,es',ck',h3,h4⟩=>⟨h1,h2,⟨k.hb,k.mb,es',ck'⟩,⟨h.ok.write h64,h3⟩,h4⟩)
theorem ksync (ρ:Hp)(b:Nat)(k:DK)(D:DS)(h:DOk k D) :
  Spec prog 96 [.pointer (some ⟨b,0,none⟩)] ρ (Zg b k D) (λ v ρ' L'=>v=.int .i64 D.sync.2/\ρ.le ρ'/\∃k',DOk k' D.sync.1/\L'=Zg b k' D.sync.1):=
 (dsync_spec ρ b k.hb k.mb k.es k.ck D h.ok h.map).mono (λ v ρ' L' _ ⟨h1,h2,mb',es',ck',h3,h4⟩=>⟨h1,h2,⟨k.hb,mb',es',ck'⟩,⟨h.ok.sync,h3⟩,h4⟩)
theorem kread (ρ:Hp)(b:Nat)(k:DK)(D:DS)(i:Int)(h:DOk k D) :
  Spec prog 119 [.pointer (some ⟨b,0,none⟩),.int .i64 i] ρ (Zg b k D) (λ v ρ' L'=>v=.tuple ⟨[bv (D.read i).2.1,.int .i64 (D.read i).2.2]⟩/\ρ'=ρ/\DOk k (D.read i).1/\L'=Zg b k (D.read i).1):=
 (dread_spec ρ b k.hb k.mb k.es k.ck D i h.ok h.map).mono (λ v ρ' L' _ ⟨h1,h2,h4⟩=>⟨h1,h2,⟨h.ok.read,h.map.read⟩,h4⟩)
inductive Wr (D:DS):List (Nat×Blk)->DS->Prop
 | nil:Wr D [] D
 | snoc {l:List (Nat×Blk)} {D1:DS} {p:Nat×Blk}:Wr D l D1->(D1.write (p.1:Int) p.2).2=0->Wr D (l++[p]) (D1.write (p.1:Int) p.2).1
theorem Wr.lays {D D1:DS}{l:List (Nat×Blk)}(h:Wr D l D1):∀r,DS.lays (l++r) D=DS.lays r D1:=by
 induction h with
 | nil=>intro r;rfl
 | snoc h1 h2 ih=>
  intro r
  rw[aA,ih]
  simp only[kA]
  rw[DS.lays,if_pos h2]
theorem Wr.stop {D D1:DS}{l xs:List (Nat×Blk)}{p:Nat×Blk}(h:Wr D l D1)(hp:l++[p] <+: xs)(hc:(D1.write (p.1:Int) p.2).2≠0):DS.lays xs D=D1.write (p.1:Int) p.2:=by
 obtain⟨t,rfl⟩:=hp
 rw[aA,h.lays]
 simp only[kA]
 rw[DS.lays,if_neg hc]
theorem lays_spec (ρ0 ρ:Hp)(g:Nat)(cs:List Value)(S:SH)(xs:List (Nat×Blk))(hl0:ρ0.le ρ)(hI:Iter prog g [] cs pencV ρ0 S xs)[hF:Zz prog g](h64:∀p∈xs,p.2.length=64)(b:Nat)(k:DK)(D:DS)(hD:DOk k D) :
  Spec prog 40 [.pointer (some ⟨b,0,none⟩),.func (.func g) ⟨[]⟩ ⟨cs⟩] ρ (S++Zg b k D) (λ v ρ' L'=>v=.int .i64 (DS.lays xs D).2/\ρ.le ρ'/\∃k',DOk k' (DS.lays xs D).1/\L'=S++Zg b k' (DS.lays xs D).1):=by
 refine Za func40 rfl rfl rfl λ u R=>?_
 simp only[Zc,kB]
 repeat' (first|refine zW ?_|intro _)
 rename_i b2 b4
 refine tc_rangeFunc (S:=S) (L0:=[[(b2,.cells ⟨[.pointer (some ⟨b,0,none⟩)]⟩ 24 (0,0))],[(b4,.cells ⟨[.int .i64 0]⟩ 25 (0,0))]]++Zg b k D) (R:=R) (R0:=[(b4,.cells ⟨[.int .i64 0]⟩ 25 (0,0))]::[(b2,.cells ⟨[.pointer (some ⟨b,0,none⟩)]⟩ 24 (0,0))]::(Zg b k D++R)) rfl rfl hI hl0 (λ _=>rfl) rfl
  (λ pre ρ1 Lu=>∃D1 k1,ρ.le ρ1/\Wr D pre D1/\DOk k1 D1/\Lu=[[(b2,.cells ⟨[.pointer (some ⟨b,0,none⟩)]⟩ 24 (0,0))],[(b4,.cells ⟨[.int .i64 0]⟩ 25 (0,0))]]++Zg b k1 D1)
  (λ c ρ1 Lu=>c=.exit 0/\∃D2 k2 e,ρ.le ρ1/\e≠0/\DS.lays xs D=(D2,e)/\DOk k2 D2/\Lu=[[(b2,.cells ⟨[.pointer (some ⟨b,0,none⟩)]⟩ 24 (0,0))],[(b4,.cells ⟨[.int .i64 e]⟩ 25 (0,0))]]++Zg b k2 D2) ?k1 ?k2 ⟨D,k,Hp.le_refl _,.nil,hD,rfl⟩ ?round ?done ?stop
 case k1=>exact tk
 case k2=>exact tk
 case round=>
  rintro l tm r pre y ρ1 Lu u R' hpre hl1 ⟨D1,k1,hl2,hwr,hD1,rfl⟩ hr hrec
  simp only[envP,kA]
  have hm64:=h64 y (hpre.subset (by simp))
  have hy1:=ZH y.2
  have hyl:(y.2.map Zk).length=64:=by simpa using hm64
  repeat' (first|refine zW ?_|intro _)
  refine ZR [(l,.loop r)] ?_
  refine te_begin rfl hr (λ r' hbz hrec'=>?_)
  repeat' (first|(refine Zb (.func 95) ?_;refine qC rfl rfl (kwrite _ b k1 D1 y.1 y.2 hm64 hD1) ?_;rintro v ρ' L' hle ⟨rfl,rfl,k2,hD2,rfl⟩<;>(try simp only[kA]))|refine zW ?_|intro _)
  by_cases hc:(D1.write (y.1:Int) y.2).2=0
  ·have hcb:((D1.write (y.1:Int) y.2).2 != 0)=false:=by simpa using hc
   have hw2:=hwr.snoc hc
   rw[hcb,hc]
   repeat' (first|refine zW ?_|intro _)
   refine ZR [(l,.loop r')] ?_
   refine te_next (Lu:=[[(b2,.cells ⟨[.pointer (some ⟨b,0,none⟩)]⟩ 24 (0,0))],[(b4,.cells ⟨[.int .i64 0]⟩ 25 (0,0))]]++Zg b k2 (D1.write (y.1:Int) y.2).1) rfl (Hp.le_refl _) ⟨hrec'.tmps.trans hrec.tmps,hrec'.params.trans hrec.params,hrec'.assign.trans hrec.assign,hrec'.body.trans hrec.body⟩ tk tk inferInstance ?_
   exact⟨_,k2,hl2,hw2,hD2,rfl⟩
  ·have hcb:((D1.write (y.1:Int) y.2).2 != 0)=true:=by simpa using hc
   have hst:=hwr.stop hpre hc
   rw[hcb]
   repeat' (first|refine zW ?_|intro _)
   refine ZR [(l,.loop r')] ?_
   refine te_leave (Lu:=[[(b2,.cells ⟨[.pointer (some ⟨b,0,none⟩)]⟩ 24 (0,0))],[(b4,.cells ⟨[.int .i64 (D1.write (y.1:Int) y.2).2]⟩ 25 (0,0))]]++Zg b k2 (D1.write (y.1:Int) y.2).1) rfl rfl (Hp.le_refl _) ⟨hrec'.tmps.trans hrec.tmps,hrec'.params.trans hrec.params,hrec'.assign.trans hrec.assign,hrec'.body.trans hrec.body⟩ tk tk inferInstance ?_
   exact⟨rfl,_,k2,_,hl2,hc,hst,hD2,rfl⟩
 case done=>
  rintro D0 ρ1 Lu hl1 ⟨D1,k1,hl2,hwr,hD1,rfl⟩
  simp only[kA]
  have hlay:=hwr.lays []
  rw[aN,DS.lays] at hlay
  rw[hlay]
  repeat' (first|(refine Zb (.func 96) ?_;refine qC rfl rfl (ksync _ b k1 D1 hD1) ?_;rintro v ρ' L' hle ⟨rfl,hl3,k2,hD2,rfl⟩<;>(try simp only[kA]))|refine zW ?_|intro _)
  refine ZR [(D0,.deferred (some []))] ?_
  exact We rfl rfl rfl inferInstance (res1 rfl (Zr rfl rfl)) (Hp.le_trans hl2 hl3) tk (by infer_instance) (L':=S++Zg b k2 D1.sync.1) ⟨rfl,Hp.le_trans hl2 hl3,k2,hD2,rfl⟩
 case stop=>
  rintro D0 c ρ1 Lu hl1 ⟨rfl,D2,k2,e,hl2,he,hlay,hD2,rfl⟩
  simp only[kA]
  have heb:(e != 0)=true:=by simpa using he
  rw[hlay]
  repeat' (first|refine zW ?_|intro _)
  refine ZR [(D0,.deferred (some []))] ?_
  exact We rfl rfl rfl inferInstance (res1 rfl (Zr rfl rfl)) hl2 tk (by infer_instance) (L':=S++Zg b k2 D2) ⟨rfl,hl2,k2,hD2,rfl⟩
theorem laid_iter (ρ0:Hp)(hb:Nat)(h:Hd)(na:Option Addr)(nn nc:Nat)(hn:SIn ρ0 Zk na nn h.note)(ht:h.turn<4294967296)(hf:h.first<=1099511627776)(hs:h.size<65536)(hp:h.place<65536)(hnl:nn<=32) :
  Iter prog 97 [] [.pointer (some ⟨hb,0,none⟩)] pencV ρ0 [[(hb,.cells ⟨hdV h na nn nc⟩ 109 (0,0))]] (Yp h):=by
 intro l J Jx hY ρ Lj hl0 hJ
 have hy:=λ ρ Lj h1 h2=>hY [] (h.turn % 2,XC h) ρ Lj (List.prefix_refl _) h1 h2
 have hrm:(h.turn:Int).tmod 2=((h.turn % 2:Nat):Int):=by rw[Int.tmod_eq_emod_of_nonneg (by omega)];rfl
 have hrm1:0<=(h.turn:Int).tmod 2:=by rw[hrm];omega
 have hrm2:(h.turn:Int).tmod 2<2:=by rw[hrm];omega
 refine Za func97 rfl rfl rfl λ u R=>?_
 simp only[Zc,kB]
 refine Yt [0,1,2,3,4,5] (.e 6 [] (.e 7 [] .o)) ([[(hb,.cells ⟨hdV h na nn nc⟩ 109 (0,0))]]) ?_
 repeat' (refine iT ?_;first|refine rA ?_|(refine rE ?_<;>((first|(refine Zb (.func 98) ?_;refine qC rfl rfl (hblock_spec _ h na nn nc (hn.mono hl0) ht hf hs hp hnl) ?_;rintro v6 ρ6 L6 hle6 ⟨rfl,rfl,rfl⟩;simp only[kA,hrm])|(refine Zb (.tmp 3) ?_;refine qY rfl rfl ((hy _ _ hl0 hJ)) ?_;rintro v ρ' L' hle ⟨Lj',rfl,⟨rfl,hj'⟩|⟨rfl,hj'⟩⟩<;>(try simp only[kA])))<;>(try simp only[kA])<;>refine zN ?_)))
 all_goals (repeat' (first|refine zW ?_|intro _))
 ·exact qE (L':=[[(hb,.cells ⟨hdV h na nn nc⟩ 109 (0,0))]]++Lj') ⟨Lj',rfl,.inl hj'⟩
 ·exact qE (L':=[[(hb,.cells ⟨hdV h na nn nc⟩ 109 (0,0))]]++Lj') ⟨Lj',rfl,.inr hj'⟩
theorem laid_spec (ρ:Hp)(h:Hd)(na:Option Addr)(nn nc:Nat)(hn:SIn ρ Zk na nn h.note)(ht:h.turn<4294967296)(hf:h.first<=1099511627776)(hs:h.size<65536)(hp:h.place<65536)(hnl:nn<=32)(b:Nat)(k:DK)(D:DS)(hD:DOk k D) :
  Spec prog 42 [.agg ⟨hdV h na nn nc⟩,.pointer (some ⟨b,0,none⟩)] ρ (Zg b k D) (λ v ρ' L'=>v=.int .i64 (DS.lays (Yp h) D).2/\ρ.le ρ'/\∃k',DOk k' (DS.lays (Yp h) D).1/\L'=Zg b k' (DS.lays (Yp h) D).1):=by
 refine Za func42 rfl rfl rfl λ u R=>?_
 simp only[Zc,kA]
 repeat' (first|refine zW ?_|intro _)
 rename_i hb
 repeat' (first|(refine Zb (.func 40) ?_;refine qC rfl rfl (lays_spec ρ ρ 97 [.pointer (some ⟨hb,0,none⟩)] [[(hb,.cells ⟨hdV h na nn nc⟩ 109 (0,0))]] (Yp h) (Hp.le_refl _) (laid_iter ρ hb h na nn nc hn ht hf hs hp hnl) (λ p hp=>by rw[List.mem_singleton.1 hp];exact headB_len h) b k D hD) ?_;rintro v ρ' L' hle ⟨rfl,hl1,k',hD',rfl⟩<;>(try simp only[kA]))|refine zW ?_|intro _)
 exact qE ⟨rfl,hl1,k',hD',rfl⟩
theorem noughtsL_at {n k:Nat}(hk:k<(ZD n).length):(ZD n)[k]=(k,Xs):=by simp[ZD]
theorem noughtsL_len {n:Nat}:(ZD n).length=n+2:=by simp[ZD]
theorem noughts_iter (ρ0:Hp)(sb n:Nat)(hn:n<=1000000):Iter prog 41 [] [.pointer (some ⟨sb,0,none⟩)] pencV ρ0 [[(sb,.cells ⟨[.int .i64 n]⟩ 3 (0,0))]] (ZD n):=by
 intro l J Jx hY ρ Lj hl0 hJ
 have hlen:=noughtsL_len (n:=n)
 refine Za func41 rfl rfl rfl λ u R=>?_
 simp only[Zc,kB]
 repeat' (first|refine zW ?_|intro _)
 refine lpG (Nat×Hp×SH) [0,1] (λ z=>[(3,.int .i64 z.1)]) (λ z=>z.2.1) (λ z=>[[(sb,.cells ⟨[.int .i64 n]⟩ 3 (0,0))]]++z.2.2) (λ z=>z.1<=n+2/\ρ.le z.2.1/\J ((ZD n).take z.1) z.2.1 z.2.2) (λ z=>n+2-z.1) (0,ρ,Lj) ⟨aZ _,Hp.le_refl _,hJ⟩ ?_
 rintro⟨k,ρ1,L1⟩ hI
 try simp only[kB] at hI ⊢
 try dsimp only at hI ⊢
 obtain⟨hk,hle1,hj⟩:=hI
 by_cases hlt:k<n+2
 ·have hk2:k<(ZD n).length:=by omega
  have hpre:=take_succ_pre (ZD n) k hk2
  rw[noughtsL_at] at hpre
  have hts:=aG hk2
  rw[noughtsL_at] at hts
  have hy:=hY _ _ ρ1 L1 hpre (Hp.le_trans hl0 hle1) hj
  repeat' (first|(simp only[Value.cells,zblk_cells];refine Zb (.tmp 9) ?_;refine qY rfl rfl hy ?_;rintro v ρ' L' hle ⟨Lj',rfl,⟨rfl,hj'⟩|⟨rfl,hj'⟩⟩<;>(try simp only[kA]))|refine zW ?_|intro _)
  ·refine rnG (k+1,ρ',Lj') (⟨hlt,Hp.le_trans hle1 hle,by dsimp only;rw[hts];exact hj'⟩)
  ·exact qE (L':=[[(sb,.cells ⟨[.int .i64 n]⟩ 3 (0,0))]]++Lj') ⟨Lj',rfl,.inr hj'⟩
 ·have hk2:k=n+2:=by omega
  subst hk2
  rw[aT (by omega)] at hj
  repeat' (first|refine zW ?_|intro _)
  exact qE (L':=[[(sb,.cells ⟨[.int .i64 n]⟩ 3 (0,0))]]++L1) ⟨L1,rfl,.inl hj⟩
theorem klen (ρ:Hp)(b:Nat)(k:DK)(D:DS):Spec prog 39 [.pointer (some ⟨b,0,none⟩)] ρ (Zg b k D) (λ v ρ' L'=>v=.int .i64 (D.secs.length:Nat)/\ρ'=ρ/\L'=Zg b k D):=len_disk ρ b k.hb k.mb k.es k.ck D
structure BSl where
 a:Option Addr
 n:Nat
 c:Nat
 l:Bs
abbrev slv (e:BSl):Value:=.slice e.a e.n e.c
structure BIn (ρ:Hp)(e:BSl):Prop where
 s:SIn ρ Zk e.a e.n e.l
 le:e.n<=e.c
theorem BIn.mono {ρ ρ':Hp}{e:BSl}(h:BIn ρ e)(hle:ρ.le ρ'):BIn ρ' e:=⟨h.s.mono hle,h.le⟩
structure RW where
 na:Option Addr
 nn:Nat
 nc:Nat
 ev:Value
 els:List BSl
 sp:List Value
abbrev rgV (R:RgS)(db:Nat)(w:RW):List Value:=[.int .u64 R.h.turn,.int .u64 R.h.first,.int .i64 R.h.size,.int .i64 R.h.place,.slice w.na w.nn w.nc,.pointer (some ⟨db,0,none⟩),w.ev,.int .i64 R.used,.bool R.broken]
abbrev Yb (rb db:Nat)(R:RgS)(w:RW):SH:=[[(rb,.cells ⟨rgV R db w⟩ 113 (0,0))],ZG w.ev (w.els.map slv) w.sp 107]
structure RIn (ρ:Hp)(R:RgS)(w:RW):Prop where
 ok:R.Ok
 note:SIn ρ Zk w.na w.nn R.h.note
 nle:w.nn<=w.nc
 own:OwnS w.ev w.els.length (w.els.map slv) w.sp 1
 ents:R.ents=w.els.map BSl.l
 els:∀e∈w.els,BIn ρ e
theorem RIn.mono {ρ ρ':Hp}{R:RgS}{w:RW}(h:RIn ρ R w)(hle:ρ.le ρ'):RIn ρ' R w:=⟨h.ok,h.note.mono hle,h.nle,h.own,h.ents,λ e he=>(h.els e he).mono hle⟩
theorem RIn.len {ρ:Hp}{R:RgS}{w:RW}(h:RIn ρ R w):w.els.length=R.ents.length:=by rw[h.ents];simp
theorem works_spec (ρ:Hp)(rb db:Nat)(R:RgS)(w:RW):Spec prog 109 [.pointer (some ⟨rb,0,none⟩)] ρ [[(rb,.cells ⟨rgV R db w⟩ 113 (0,0))]] (λ v ρ' L'=>v=.int .i64 (if R.broken then 8 else 0)/\ρ'=ρ/\L'=[[(rb,.cells ⟨rgV R db w⟩ 113 (0,0))]]):=by
 obtain⟨h,ents,used,broken⟩:=R
 refine Za func109 rfl rfl rfl λ u R=>?_
 simp only[Zc,kA]
 cases broken
 all_goals (repeat' (first|refine zW ?_|intro _))
 all_goals exact qE ⟨rfl,rfl,rfl⟩
theorem next_spec (ρ:Hp)(rb db:Nat)(R:RgS)(w:RW)(h:RIn ρ R w):Spec prog 110 [.pointer (some ⟨rb,0,none⟩)] ρ [[(rb,.cells ⟨rgV R db w⟩ 113 (0,0))]] (λ v ρ' L'=>v=.int .u64 (R.next:Nat)/\ρ'=ρ/\L'=[[(rb,.cells ⟨rgV R db w⟩ 113 (0,0))]]):=by
 have hl:=h.len
 have hnx:=h.ok.next
 have e:(R.h.first:Int)+(w.els.length:Int)=(R.next:Int):=by unfold RgS.next;omega
 obtain⟨a,cap,hev,_⟩:=h.own.len
 obtain⟨na,nn,nc,ev,els,sp⟩:=w
 dsimp only at hev hl e
 subst hev
 refine Za func110 rfl rfl rfl λ u R0=>?_
 simp only[Zc,kA]
 repeat' (first|refine zW ?_|intro _)
 refine tpZ [0] (.f [1,2,3,4,5,6,7,8,9,10,11,12] .o) ?_
 repeat' (refine iT ?_;first|refine rA ?_)
 all_goals (repeat' (first|refine zW ?_|intro _))
 rw[e]
 exact qE ⟨rfl,rfl,rfl⟩
theorem sects_nat (ρ:Hp)(n:Nat)(hn:n<=1000000):Spec prog 101 [.int .i64 n] ρ [] (λ v ρ' L'=>v=.int .i64 (Zs n:Nat)/\ρ'=ρ/\L'=[]):=sects_spec ρ n (by omega)
theorem RIn.adds {ρ:Hp}{R:RgS}{w:RW}(h:RIn ρ R w){e:BSl}(he:BIn ρ e)(hel:e.n<=8000)(hfit:R.used+Zs e.n<=R.h.size)(hn:R.next<1099511627776){v:Value}{sp:List Value}(ho:OwnS v (w.els.length+1) ((w.els++[e]).map slv) sp 1) :
  RIn ρ (R.adds e.l) ⟨w.na,w.nn,w.nc,v,w.els++[e],sp⟩:=by
 have hel2:=he.s.len
 have hok:=h.ok
 refine⟨⟨hok.turn,hok.size,hok.first, ?_,hok.place,hok.note, ?_, ?_, ?_⟩,h.note,h.nle,by simpa using ho, ?_, ?_⟩
 ·simp only[RgS.adds,RgS.next] at hn ⊢;simp;omega
 ·simp only[RgS.adds,usedL_append,hok.used];simp[XA]
 ·simp only[RgS.adds];rw[hel2];exact hfit
 ·intro b hb
  simp only[RgS.adds,List.mem_append,List.mem_singleton] at hb
  rcases hb with hb|rfl
  ·exact hok.long b hb
  ·omega
 ·simp[RgS.adds,h.ents]
 ·intro x hx
  rcases List.mem_append.1 hx with hx|hx
  ·exact h.els x hx
  ·rw[List.mem_singleton.1 hx];exact he
theorem adds_spec (ρ:Hp)(rb db:Nat)(R:RgS)(w:RW)(h:RIn ρ R w)(e:BSl)(he:BIn ρ e)(hel:e.n<=8000)(hfit:R.used+Zs e.n<=R.h.size)(hn:R.next<1099511627776) :
  Spec prog 112 [.pointer (some ⟨rb,0,none⟩),slv e] ρ (Yb rb db R w) (λ v ρ' L'=>v=.tuple ⟨[]⟩/\ρ'=ρ/\∃ev' sp',RIn ρ (R.adds e.l) ⟨w.na,w.nn,w.nc,ev',w.els++[e],sp'⟩/\L'=Yb rb db (R.adds e.l) ⟨w.na,w.nn,w.nc,ev',w.els++[e],sp'⟩):=by
 have hsz:=h.ok.size
 have hlen:=h.len
 have hul:=usedL_len R.ents
 have hus:=h.ok.used
 have hel2:=he.s.len
 have hown:=h.own
 obtain⟨hd,ents,used,broken⟩:=R
 obtain⟨na,nn,nc,ev,els,sp⟩:=w
 dsimp only at hsz hlen hul hus hown hfit ⊢
 have hmap:els.map slv++[slv e]=(els++[e]).map slv:=by simp
 have hus2:(used:Int)+(Zs e.n:Int)=((used+Zs e.l.length:Nat):Int):=by rw[hel2];omega
 refine Za func112 rfl rfl rfl λ u R0=>?_
 simp only[Zc,kA]
 repeat' (first|(refine Zl rfl rfl rfl rfl (by simp) rfl rfl (λ _=>?_))|(refine YA (ys:=[slv e]) (m:=1) (sz:=1) rfl rfl hown (hR:=by infer_instance) SrcV.lit rfl rfl (by decide) rfl (by omega) (by omega) rfl (λ v2 sp2 hown2=>?_);obtain⟨a2,cap2,rfl,hc2⟩:=hown2.slice;rw[hmap] at hown2 ⊢)|(refine Zb (.func 101) ?_;refine qR rfl rfl (sects_nat _ e.n (by omega)) ?_;try simp only[kA])|refine zW ?_|intro _)
 refine Yt [0,1,2,4,5] (.b 3 6 [] [] (.e 6 [7,8,9] (.e 10 [] .o)) (.e 3 [7,8,9] (.e 10 [] .o))) ([]) ?_
 repeat' (refine iT ?_;first|refine rA ?_|((first|(refine iE ?_;refine rE ?_)|(refine iB ?_;refine rB ?_ ?_))<;>((first|(refine Zb (.func 101) ?_;refine qR rfl rfl (sects_nat _ e.n (by omega)) ?_;try simp only[kA])|(refine i_qq ?_;refine qQ ?_)|refine qEf ?_)<;>(try simp only[kA])<;>refine zN ?_)))
 all_goals rw[hus2]
 all_goals exact qE (L':=[[(rb,_)],ZG _ _ _ _]) ⟨rfl,rfl,_,sp2,h.adds he hel hfit hn hown2,rfl⟩
theorem Rd.ofNone {ρ:Hp}{X:SH}{n:Nat}{l:Bs}(h:Rd ρ X none n l):l=[]/\n=0:=by
 have hl:=h.len
 have:=h.src ⟨Option.none,prog,default,[],0⟩ ρ X [] (Hp.le_refl _) ⟨by simp⟩
 rcases this with h|⟨b,off,h,_⟩
 ·have:l=[]:=by simpa using h
  subst this;exact⟨rfl,by simpa using hl.symm⟩
 ·cases h
theorem cloneR_spec (ρ:Hp)(X:SH)(a:Option Addr)(n c:Nat)(b:Bs)(h:Rd ρ X a n b)(hn:n<=1000000) :
  Spec prog 113 [.slice a n c] ρ X (λ v ρ' L'=>ρ.le ρ'/\∃e:BSl,v=slv e/\BIn ρ' e/\e.l=b/\e.n=n/\L'=X):=by
 have hl:=h.len
 cases a with
 | none=>
  obtain⟨rfl,rfl⟩:=h.ofNone
  refine Za func113 rfl rfl rfl λ u R=>?_
  simp only[Zc,kA]
  repeat' (first|refine zW ?_|intro _)
  exact qE ⟨Hp.le_refl _,⟨none,0,0,[]⟩,rfl,⟨SIn.nil,aR _⟩,rfl,rfl,rfl⟩
 | some ad=>
  refine Za func113 rfl rfl rfl λ u R=>?_
  simp only[Zc,kA]
  repeat' (first|refine zW ?_|intro _)
  rename_i bx
  refine YA (n:=0) (xs:=[]) (sp:=[]) (ys:=b.map Zk) (sz:=1) rfl rfl (OwnS.zero _ 1) (hR:=ZJ) (h.src _ _ _ _ (Hp.le_refl _) tk) (by simpa using hl) (ZH b) (by decide) rfl (by omega) (by omega) rfl (λ v' sp' hown'=>?_)
  simp only[Nat.zero_add,List.nil_append] at hown' ⊢
  repeat' (first|refine zW ?_|intro _)
  refine ZB _ (h:=Rem.here) (λ ρ6 hle6 hfz=>?_)
  obtain⟨a6,c6,rfl,hc6,hs6⟩:=hown'.sIn hfz
  exact qE ⟨hle6,⟨a6,n,c6,b⟩,rfl,⟨hs6,hc6⟩,rfl,rfl,rfl⟩
theorem partsL_len {h:Hd}{n at':Nat}{b:Bs}:∀p∈ZU h n b at',p.2.length=64:=λ p hp=>by
 simp only[ZU,List.mem_map] at hp
 obtain⟨k,_,rfl⟩:=hp
 exact partB_len _ _ _ _
theorem partsF_spec (ρ:Hp)(h:Hd)(na:Option Addr)(nn nc n:Nat)(a:Option Addr)(bn c at':Nat) :
  Spec prog 111 [.agg ⟨hdV h na nn nc⟩,.int .u64 n,.slice a bn c,.int .i64 at'] ρ [] (λ v ρ' L'=>ρ'=ρ/\∃bb ab hb nb,v=.func (.func 177) ⟨[]⟩ ⟨[.pointer (some ⟨bb,0,none⟩),.pointer (some ⟨ab,0,none⟩),.pointer (some ⟨hb,0,none⟩),.pointer (some ⟨nb,0,none⟩)]⟩/\L'=partsS bb ab hb nb a bn c at' h na nn nc n):=by
 refine Za func111 rfl rfl rfl λ u R=>?_
 simp only[Zc,kA]
 repeat' (first|refine zW ?_|intro _)
 rename_i hb nb bb ab
 exact qE (L':=partsS bb ab hb nb a bn c at' h na nn nc n) ⟨rfl,bb,ab,hb,nb,rfl,rfl⟩
theorem RIn.broken {ρ:Hp}{R:RgS}{w:RW}(h:RIn ρ R w)(b:Bool):RIn ρ { R with broken:=b } w:=⟨⟨h.ok.turn,h.ok.size,h.ok.first,h.ok.next,h.ok.place,h.ok.note,h.ok.used,h.ok.fit,h.ok.long⟩,h.note,h.nle,h.own,h.ents,h.els⟩
theorem append_spec (ρ:Hp)(rb db:Nat)(R:RgS)(w:RW)(h:RIn ρ R w)(k:DK)(D:DS)(hD:DOk k D)(X:SH)(a:Option Addr)(n c:Nat)(b:Bs)(hb:Rd ρ X a n b)(hc:n<=c)(hbig:n<=1000000) :
  Spec prog 51 [.pointer (some ⟨rb,0,none⟩),.slice a n c] ρ (Yb rb db R w++(Zg db k D++X))
   (λ v ρ' L'=>v=.int .i64 (R.append b D).2.2/\ρ.le ρ'/\∃k' w',DOk k' (R.append b D).2.1/\RIn ρ' (R.append b D).1 w'/\L'=Yb rb db (R.append b D).1 w'++(Zg db k' (R.append b D).2.1++X)):=by
 have hl:=hb.len
 have hok:=h.ok
 have hsz:=h.ok.size
 have hft:=h.ok.fit
 have hfs:=h.ok.first
 have hnx:=h.ok.next
 have hpl:=h.ok.place
 have htu:=h.ok.turn
 have hsc:=WJ n
 cases hbr:R.broken with
 | true=>
  have he:R.append b D=(R,D,8):=by simp[RgS.append,hbr]
  rw[he]
  have hw8:=works_spec ρ rb db R w
  rw[hbr] at hw8
  simp only[if_true] at hw8
  refine Za func51 rfl rfl rfl λ u R0=>?_
  simp only[Zc,kB]
  repeat' (first|(refine Zb (.func 109) ?_;refine qR rfl rfl (hw8) ?_;try simp only[kA])|refine zW ?_|intro _)
  exact qE (L':=Yb rb db R w++(Zg db k D++X)) ⟨rfl,Hp.le_refl _,k,w,hD,h,rfl⟩
 | false=>
  have hw0:=works_spec ρ rb db R w
  rw[hbr] at hw0
  simp only[aB,if_false] at hw0
  by_cases hlong:8000<n
  ·have he:R.append b D=(R,D,3):=by simp[RgS.append,hbr,hl,hlong]
   rw[he]
   refine Za func51 rfl rfl rfl λ u R0=>?_
   simp only[Zc,kB]
   repeat' (first|(refine Zb (.func 109) ?_;refine qR rfl rfl (hw0) ?_;try simp only[kA])|refine zW ?_|intro _)
   exact qE (L':=Yb rb db R w++(Zg db k D++X)) ⟨rfl,Hp.le_refl _,k,w,hD,h,rfl⟩
  ·have hnext:=next_spec ρ rb db R w h
   by_cases hfull:R.h.size-R.used<Zs n
   ·have he:R.append b D=(R,D,6):=by simp[RgS.append,hbr,hl,hlong,hfull]
    rw[he]
    refine Za func51 rfl rfl rfl λ u R0=>?_
    simp only[Zc,kB]
    repeat' (first|(refine Zb (.func 109) ?_;refine qR rfl rfl (hw0) ?_;try simp only[kA])|refine zW ?_|intro _)
    refine Yt [0,1,3,4,5,6,7,8,9,10,11,12] (.e 2 [13,14,15] (.e 16 [] (.f [17,18,19] .o))) ([[(rb,.cells ⟨rgV R db w⟩ 113 (0,0))]]) ?_
    repeat' (refine iT ?_;first|refine rA ?_|(refine rE ?_<;>((try refine ZX ?_);(first|(refine Zb (.func 101) ?_;refine qR rfl rfl (sects_nat _ n (by omega)) ?_;try simp only[kA]))<;>(try simp only[kA])<;>refine zN ?_)))
    all_goals (repeat' (first|refine zW ?_|intro _))
    all_goals exact qE (L':=Yb rb db R w++(Zg db k D++X)) ⟨rfl,Hp.le_refl _,k,w,hD,h,rfl⟩
   ·by_cases hmax:1099511627776<=R.next
    ·have he:R.append b D=(R,D,6):=by simp[RgS.append,hbr,hl,hlong,hfull,hmax]
     rw[he]
     refine Za func51 rfl rfl rfl λ u R0=>?_
     simp only[Zc,kB]
     repeat' (first|(refine Zb (.func 109) ?_;refine qR rfl rfl (hw0) ?_;try simp only[kA])|refine zW ?_|intro _)
     refine Yt [0,1,3,4,5,6,7,8,9,10,11,12] (.e 2 [13,14,15] (.e 16 [] (.f [17,18,19] .o))) ([[(rb,.cells ⟨rgV R db w⟩ 113 (0,0))]]) ?_
     repeat' (refine iT ?_;first|refine rA ?_|(refine rE ?_<;>((try refine ZX ?_);(first|(refine Zb (.func 101) ?_;refine qR rfl rfl (sects_nat _ n (by omega)) ?_;try simp only[kA])|(refine Zb (.func 110) ?_;refine qR rfl rfl (hnext) ?_;try simp only[kA]))<;>(try simp only[kA])<;>refine zN ?_)))
     all_goals (repeat' (first|refine zW ?_|intro _))
     all_goals exact qE (L':=Yb rb db R w++(Zg db k D++X)) ⟨rfl,Hp.le_refl _,k,w,hD,h,rfl⟩
    ·have hpu:(R.h.place:Int)+(R.used:Int)=((R.h.place+R.used:Nat):Int):=by omega
     have hit:=λ bb ab hb2 nb=>parts_iter ρ X bb ab hb2 nb a n c (R.h.place+R.used) b R.h w.na w.nn w.nc R.next hb hc (by omega) hnx (by omega) (by omega) (by omega) (by omega)
     have hsome:R.append b D=if (DS.lays (ZU R.h R.next b (R.h.place+R.used)) D).2=0 then (⟨R.h,R.ents++[b],R.used+Zs b.length,false⟩,DS.lays (ZU R.h R.next b (R.h.place+R.used)) D) else ({ R with broken:=true },DS.lays (ZU R.h R.next b (R.h.place+R.used)) D):=by
      unfold RgS.append
      rw[hbr,hl,if_neg (by simp),if_neg (by omega),if_neg (by omega)]
     refine Za func51 rfl rfl rfl λ u R0=>?_
     simp only[Zc,kB]
     repeat' (first|(refine Zb (.func 109) ?_;refine qR rfl rfl (hw0) ?_;try simp only[kA])|refine zW ?_|intro _)
     refine Yt [0,1,3,4,5,6,7,8,9,10,11,12] (.e 2 [13,14,15] (.e 16 [] (.f [17,18,19] .o))) ([[(rb,.cells ⟨rgV R db w⟩ 113 (0,0))]]) ?_
     repeat' (refine iT ?_;first|refine rA ?_|(refine rE ?_<;>((try refine ZX ?_);(first|(refine Zb (.func 101) ?_;refine qR rfl rfl (sects_nat _ n (by omega)) ?_;try simp only[kA])|(refine Zb (.func 110) ?_;refine qR rfl rfl (hnext) ?_;try simp only[kA]))<;>(try simp only[kA])<;>refine zN ?_)))
     all_goals (repeat' (first|refine zW ?_|intro _))
     refine Yt [0,1,2,3,4,5,6,7,8,10,11,12,13,14,15,16,17,18,19,20] (.e 9 [] (.e 21 [] (.e 22 [] (.f [23] .o)))) ([[(rb,.cells ⟨rgV R db w⟩ 113 (0,0))]]) ?_
     repeat' (refine iT ?_;first|refine rA ?_|(refine rE ?_<;>((first|(refine Zb (.func 110) ?_;refine qR rfl rfl (hnext) ?_;try simp only[kA,hpu])|(refine Zb (.func 111) ?_;refine qC rfl rfl (partsF_spec _ R.h w.na w.nn w.nc R.next a n c (R.h.place+R.used)) ?_;rintro v ρ' L' hle ⟨rfl,bb,ab,hb2,nb,rfl,rfl⟩<;>(try simp only[kA]))|(refine Zb (.func 40) ?_;refine qC rfl rfl (lays_spec _ _ _ _ _ _ (Hp.le_refl _) (hit bb ab hb2 nb) partsL_len db k D hD) ?_;rintro v6 ρ6 L6 hle6 ⟨rfl,hl6,k6,hD6,rfl⟩;simp only[kB]))<;>(try simp only[kA])<;>refine zN ?_)))
     all_goals (repeat' (first|refine zW ?_|intro _))
     have hlm:=h.mono hl6
     have hbm:=hb.mono hl6
     rw[hsome]
     generalize DS.lays (ZU R.h R.next b (R.h.place+R.used)) D=r at *
     obtain⟨D',ec⟩:=r
     dsimp only at hD6 ⊢
     by_cases hz:ec=0
     ·subst hz
      rw[show ((0:Int) != 0)=false from rfl,if_pos rfl]
      repeat' (first|(refine Zb (.func 113) ?_;refine qC rfl rfl (cloneR_spec _ X a n c b hbm hbig) ?_;rintro v7 ρ7 L7 hle7 ⟨hl7,e,rfl,he,hel,hen,rfl⟩;subst hel;simp only[kA])|(refine Zb (.func 112) ?_;refine qC rfl rfl (adds_spec _ rb db { R with broken:=false } w ((hlm.mono hl7).broken false) e he (by omega) (by rw[hen];dsimp only;omega) (by have:RgS.next { R with broken:=false }=R.next:=rfl;omega)) ?_;rintro v8 ρ8 L8 hle8 ⟨rfl,rfl,ev8,sp8,hin8,rfl⟩;simp only[kA])|refine zW ?_|intro _)
      exact qE (L':=Yb rb db (RgS.adds { R with broken:=false } e.l) ⟨w.na,w.nn,w.nc,ev8,w.els++[e],sp8⟩++(Zg db k6 D'++_)) ⟨rfl,Hp.le_trans hl6 hl7,k6,_,hD6,hin8,rfl⟩
     ·have hcb:(ec != 0)=true:=by simpa using hz
      rw[hcb,if_neg hz]
      repeat' (first|refine zW ?_|intro _)
      exact qE (L':=Yb rb db { R with broken:=true } w++(Zg db k6 D'++X)) ⟨rfl,hl6,k6,w,hD6,hlm.broken true,rfl⟩
theorem mod_inj {p m i j:Nat}(h:(p+i) % m=(p+j) % m)(hi:i<m)(hj:j<m):i=j:=by
 have key:∀i j:Nat,i<m->j<m->i<=j->(p+i) % m=(p+j) % m->i=j:=by
  intro i j hi hj hle h
  have h1:=Nat.div_add_mod (p+i) m
  have h2:=Nat.div_add_mod (p+j) m
  have h3:m*((p+j) / m)=m*((p+i) / m)+(j-i):=by omega
  have h4:(j-i)=m*((p+j) / m-(p+i) / m):=by rw[Nat.mul_sub];omega
  rcases Nat.eq_zero_or_pos ((p+j) / m-(p+i) / m) with h0|h0
  ·rw[h0] at h4;omega
  ·have:m*1<=m*((p+j) / m-(p+i) / m):=Nat.mul_le_mul_left m h0
   omega
 rcases Nat.le_total i j with hle|hle
 ·exact key i j hi hj hle h
 ·exact (key j i hj hi hle h.symm).symm
theorem WW {h:Hd}{n at':Nat}{b:Bs}{p:Nat×Blk}:p∈ZU h n b at'↔∃k,k<Zs b.length/\p=(2+(at'+k) % h.size,Yg h.turn n b k):=by
 simp only[ZU,List.mem_map,List.mem_range]
 constructor
 ·rintro⟨k,h1,rfl⟩;exact⟨k,h1,rfl⟩
 ·rintro⟨k,h1,rfl⟩;exact⟨k,h1,rfl⟩
def RgS.plus (R:RgS)(b:Bs):RgS:=⟨R.h,R.ents++[b],R.used+Zs b.length,false⟩
section
variable {R:RgS}{D D':DS}{b:Bs}
structure Wrote (R:RgS)(D D':DS)(b:Bs):Prop where
 ok:D'.Ok
 alive:D'.dead=false
 empty:YC D'.secs
 len:D'.secs.length=D.secs.length
 at':∀i,img D' i=img D i\/∃k,k<Zs b.length/\i=2+(R.h.place+R.used+k) % R.h.size/\img D' i=Yg R.h.turn R.next b k
theorem Wrote.old (w:Wrote R D D' b)(h:RO R D)(hfit:Zs b.length<=R.h.size-R.used){j:Nat}(hj:j<R.used):img D' (2+(R.h.place+j) % R.h.size)=img D (2+(R.h.place+j) % R.h.size):=by
 rcases w.at' (2+(R.h.place+j) % R.h.size) with h1|⟨k,hk,he,_⟩
 ·exact h1
 ·have:=mod_inj (p:=R.h.place) (i:=j) (j:=R.used+k) (m:=R.h.size) (by rw[<-Nat.add_assoc];omega) (by omega) (by omega)
  omega
theorem Wrote.heads (w:Wrote R D D' b){i:Nat}(hi:i<2):img D' i=img D i:=by
 rcases w.at' i with h1|⟨k,hk,he,_⟩
 ·exact h1
 ·omega
theorem Wrote.bound (w:Wrote R D D' b)(h:RO R D)(hn:R.next<1099511627776){q:Nat}(hq:q<R.h.size):YE (img D' (2+q))<=R.h.turn/\numOf (img D' (2+q))<=R.next:=by
 have ht:=h.ok.turn
 rcases w.at' (2+q) with h1|⟨k,hk,_,he⟩
 ·rw[h1];exact h.bound q hq
 ·rw[he,partB_turn (by omega),partB_num hn];omega
theorem Wrote.whole (w:Wrote R D D' b)(h:RO R D)(hb:b.length<=8000)(hfit:Zs b.length<=R.h.size-R.used)(hn:R.next<1099511627776)
  (hall:∀k,k<Zs b.length->img D' (2+(R.h.place+R.used+k) % R.h.size)=Yg R.h.turn R.next b k):RO (R.plus b) D'/\Frs (R.plus b) D':=by
 have ht:=h.ok.turn
 have hnx:(R.plus b).next=R.next+1:=by simp[RgS.plus,RgS.next];omega
 have hsz:=h.ok.size
 refine⟨⟨⟨h.ok.turn,h.ok.size,h.ok.first,by rw[hnx];omega,h.ok.place,h.ok.note, ?_, ?_, ?_⟩,rfl,h.num,w.ok,w.alive,w.empty,by rw[w.len];exact h.len, ?_, ?_, ?_, ?_, ?_⟩, ?_⟩
 ·simp only[RgS.plus,usedL_append,h.ok.used];simp[XA]
 ·have:=h.ok.fit
  simp only[RgS.plus];omega
 ·intro c hc
  simp only[RgS.plus,List.mem_append,List.mem_singleton] at hc
  rcases hc with hc|rfl
  ·exact h.ok.long c hc
  ·exact hb
 ·rw[w.heads (by simp only[RgS.plus];omega)];exact h.head
 ·intro h1
  rw[w.heads (by simp only[RgS.plus];omega)] at h1 ⊢
  exact h.other h1
 ·have hu:=h.ok.used
  refine Has.append (h.has.frame rfl (λ j hj=>w.old h hfit (by rw[hu];exact hj))) ⟨⟨R.h.turn,ht.1,aR _,λ k hk=>?_⟩,trivial⟩
  have:=hall k hk
  rw[hu] at this;exact this
 ·intro hlt t c h1 h2 h3 h4
  rw[hnx] at hlt ⊢
  refine⟨0,by have:=WJ c.length;omega,λ he=>?_⟩
  have hb1:=(w.bound h hn (q:=((R.plus b).h.place+(R.plus b).used+0) % (R.plus b).h.size) (Nat.mod_lt _ (by simp only[RgS.plus];omega))).2
  rw[he,partB_num hlt] at hb1
  omega
 ·intro q hq
  have:=w.bound h hn hq
  rw[hnx];simp only[RgS.plus];omega
 ·intro q hq hc
  have:=(w.bound h hn hq).2
  rw[hnx] at hc;omega
theorem Wrote.torn (w:Wrote R D D' b)(h:RO R D)(hf:Frs R D)(hb:b.length<=8000)(hfit:Zs b.length<=R.h.size-R.used)(hn:R.next<1099511627776)
  {k0:Nat} (hk0:k0<Zs b.length) (hne:img D' (2+(R.h.place+R.used+k0) % R.h.size)≠Yg R.h.turn R.next b k0):RO R D':=by
 have ht:=h.ok.turn
 have hsz:=h.ok.size
 refine⟨h.ok,h.live,h.num,w.ok,w.alive,w.empty,by rw[w.len];exact h.len, ?_, ?_, ?_, ?_,λ q hq=>w.bound h hn hq⟩
 ·rw[w.heads (by omega)];exact h.head
 ·intro h1
  rw[w.heads (by omega)] at h1 ⊢
  exact h.other h1
 ·have hu:=h.ok.used
  exact h.has.frame rfl (λ j hj=>w.old h hfit (by rw[hu];exact hj))
 ·intro hlt t c h1 h1' h2 h3
  by_cases hex:∃k,k<Zs c.length/\img D' (2+(R.h.place+R.used+k) % R.h.size)≠Yg t R.next c k
  ·exact hex
  ·exfalso
   have hall:∀k,k<Zs c.length->img D' (2+(R.h.place+R.used+k) % R.h.size)=Yg t R.next c k:=λ k hk=>by
    by_cases he:img D' (2+(R.h.place+R.used+k) % R.h.size)=Yg t R.next c k
    ·exact he
    ·exact absurd ⟨k,hk,he⟩ hex
   by_cases hT:t=R.h.turn
   ·subst hT
    have hnew:∀k,k<Zs c.length->k<Zs b.length/\img D' (2+(R.h.place+R.used+k) % R.h.size)=Yg R.h.turn R.next b k:=λ k hk=>by
     rcases w.at' (2+(R.h.place+R.used+k) % R.h.size) with e|⟨k2,hk2,he,e⟩
     ·exfalso
      have hq:(R.h.place+R.used+k) % R.h.size<R.h.size:=Nat.mod_lt _ (by omega)
      refine hf _ hq ?_
      rw[<-e,hall k hk,partB_turn (by omega),partB_num hlt]
      exact⟨rfl,rfl⟩
     ·have:k=k2:=mod_inj (p:=R.h.place+R.used) (m:=R.h.size) (by omega) (by omega) (by omega)
      subst this
      exact⟨hk2,e⟩
    have h0:=WJ c.length
    have hsame:=(hall 0 (by omega)).symm.trans (hnew 0 (by omega)).2
    have hlen:c.length=b.length:=by
     have:=congrArg Zu hsame
     rwa [partB_size (by omega),partB_size (by omega)] at this
    exact hne (hnew k0 (by rw[hlen];exact hk0)).2
   ·obtain⟨k,hk,hne2⟩:=h.none hlt t c h1 h1' h2 h3
    refine hne2 ?_
    rcases w.at' (2+(R.h.place+R.used+k) % R.h.size) with e|⟨k2,hk2,he,e⟩
    ·rw[<-e];exact hall k hk
    ·exfalso
     have:=(hall k hk).symm.trans e
     have:=congrArg YE this
     rw[partB_turn (by omega),partB_turn (by omega)] at this
     exact hT this
end
theorem RO.wrote {R:RgS}{D D':DS}{b:Bs}{keep:Nat->Bool}{l:List (Nat×Blk)}(h:RO R D)(hl:l <+: ZU R.h R.next b (R.h.place+R.used))(hok:D'.Ok)(hal:D'.dead=false)(hs:D'.secs=settled keep (YD D.secs l)):Wrote R D D' b:=
 ⟨hok,hal,by rw[hs];exact ZK,by rw[hs,ZL,Yn],λ i=>by
  rcases YJ h.empty hs D rfl i with e|⟨p,hp,h1,h2⟩
  ·exact .inl e
  ·obtain⟨k,hk,rfl⟩:=WW.1 (hl.subset hp)
   exact .inr ⟨k,hk,h1.symm,h2⟩⟩
theorem RO.append {R:RgS}{D:DS}{b:Bs}(h:RO R D)(hf:Frs R D)(hb:b.length<=8000)(hfit:Zs b.length<=R.h.size-R.used)(hn:R.next<1099511627776) :
  ((DS.lays (ZU R.h R.next b (R.h.place+R.used)) D).2=0->RO (R.plus b) (DS.lays (ZU R.h R.next b (R.h.place+R.used)) D).1/\Frs (R.plus b) (DS.lays (ZU R.h R.next b (R.h.place+R.used)) D).1) /\
  ((DS.lays (ZU R.h R.next b (R.h.place+R.used)) D).2≠0->∀keep,RO R ((DS.lays (ZU R.h R.next b (R.h.place+R.used)) D).1.crash keep)\/RO (R.plus b) ((DS.lays (ZU R.h R.next b (R.h.place+R.used)) D).1.crash keep)):=by
 have hsz:=h.ok.size
 have hlen:=h.len
 have hok:(DS.lays (ZU R.h R.next b (R.h.place+R.used)) D).1.Ok:=h.dok.lays partsL_len
 have hidx:∀p∈ZU R.h R.next b (R.h.place+R.used),p.1<D.secs.length:=λ p hp=>by
  obtain⟨k,hk,rfl⟩:=WW.1 hp
  have:=Nat.mod_lt (R.h.place+R.used+k) (show 0<R.h.size by omega)
  dsimp only;omega
 rcases lays_out (ZU R.h R.next b (R.h.place+R.used)) D h.alive hidx with⟨l',hl',hs,hc⟩|⟨hs,hc,hal⟩
 ·refine⟨λ h0=>absurd h0 hc,λ _ keep=>?_⟩
  have w:Wrote R D ((DS.lays (ZU R.h R.next b (R.h.place+R.used)) D).1.crash keep) b:=h.wrote hl' hok.crash rfl (by simp only[DS.crash];rw[hs])
  by_cases hex:∃k,k<Zs b.length/\img ((DS.lays (ZU R.h R.next b (R.h.place+R.used)) D).1.crash keep) (2+(R.h.place+R.used+k) % R.h.size)≠Yg R.h.turn R.next b k
  ·obtain⟨k,hk,hne⟩:=hex
   exact .inl (w.torn h hf hb hfit hn hk hne)
  ·refine .inr (w.whole h hb hfit hn (λ k hk=>?_)).1
   by_cases he:img ((DS.lays (ZU R.h R.next b (R.h.place+R.used)) D).1.crash keep) (2+(R.h.place+R.used+k) % R.h.size)=Yg R.h.turn R.next b k
   ·exact he
   ·exact absurd ⟨k,hk,he⟩ hex
 ·refine⟨λ _=>?_,λ h0=>absurd hc h0⟩
  have w:=h.wrote (List.prefix_refl _) hok hal hs
  refine w.whole h hb hfit hn (λ k hk=>?_)
  have hm:(2+(R.h.place+R.used+k) % R.h.size,Yg R.h.turn R.next b k)∈ZU R.h R.next b (R.h.place+R.used):=WW.2 ⟨k,hk,rfl⟩
  rcases img_all h.empty hs D rfl (hidx _ hm) with⟨_,hno⟩|⟨p,hp,h1,h2⟩
  ·exact absurd rfl (hno _ hm)
  ·obtain⟨k2,hk2,rfl⟩:=WW.1 hp
   dsimp only at h1 h2
   have:k2=k:=mod_inj (p:=R.h.place+R.used) (m:=R.h.size) (by omega) (by omega) (by omega)
   subst this
   exact h2
def RgS.minus (R:RgS)(n:Nat)(note:Bs):RgS:=⟨R.cutH n note,R.ents.drop n,R.used-XA (R.ents.take n),false⟩
theorem RO.cut {R:RgS}{D:DS}{n:Nat}{note:Bs}(h:RO R D)(hn:n<=R.ents.length)(ht:R.h.turn<1073741824)(hnote:note.length<=32)(hnum:R.next<1099511627776) :
  ((DS.lays (Yp (R.cutH n note)) D).2=0->RO (R.minus n note) (DS.lays (Yp (R.cutH n note)) D).1/\Frs (R.minus n note) (DS.lays (Yp (R.cutH n note)) D).1) /\
  ((DS.lays (Yp (R.cutH n note)) D).2≠0->∀keep,RO R ((DS.lays (Yp (R.cutH n note)) D).1.crash keep)\/RO (R.minus n note) ((DS.lays (Yp (R.cutH n note)) D).1.crash keep)):=by
 have hsz:=h.ok.size
 have hlen:=h.len
 have hus:=h.ok.used
 have hft:=h.ok.fit
 have htd:=usedL_take_drop R.ents n
 have hnx:=h.ok.next
 have hfi:=h.ok.first
 have htu:=h.ok.turn
 have hok:(DS.lays (Yp (R.cutH n note)) D).1.Ok:=h.dok.lays (λ p hp=>by rw[(Xe hp).2];exact headB_len _)
 have hidx:∀p∈Yp (R.cutH n note),p.1<D.secs.length:=λ p hp=>by rw[(Xe hp).1];omega
 have hm:0<R.h.size:=by omega
 have hok':RgS.Ok (R.minus n note):=⟨⟨by simp[RgS.minus,RgS.cutH,Hd.cut],by simp[RgS.minus,RgS.cutH,Hd.cut];omega⟩,hsz,by simp only[RgS.minus,RgS.cutH,Hd.cut];omega,by simp only[RgS.minus,RgS.cutH,Hd.cut,RgS.next,List.length_drop] at hnx ⊢;omega,Nat.mod_lt _ hm,hnote,by simp only[RgS.minus];omega,by simp only[RgS.minus,RgS.cutH,Hd.cut];omega,λ c hc=>h.ok.long c (List.mem_of_mem_drop hc)⟩
 have hhas:Has (img D) (R.cutH n note).size (R.cutH n note).turn (R.cutH n note).first (R.cutH n note).place (R.ents.drop n):=by
  have:=(h.has.drop n hn).le (T':=R.h.turn+1) (by omega)
  exact this.frame (by simp[RgS.cutH,Hd.cut]) (λ _ _=>rfl)
 have hpl:((R.cutH n note).place+(R.used-XA (R.ents.take n))) % (R.cutH n note).size=(R.h.place+R.used) % (R.cutH n note).size:=by
  simp only[RgS.cutH,Hd.cut]
  rw[Nat.add_mod,Nat.mod_mod,<-Nat.add_mod]
  congr 1;omega
 have hfn:(R.cutH n note).first+(R.ents.drop n).length=R.next:=by simp only[RgS.cutH,Hd.cut,RgS.next,List.length_drop];omega
 have key:∀{D':DS} {keep:Nat->Bool} {l:List (Nat×Blk)},l <+: Yp (R.cutH n note)->D'.Ok->D'.dead=false->D'.secs=settled keep (YD D.secs l)->img D' ((R.h.turn+1) % 2)=XC (R.cutH n note)->RO (R.minus n note) D'/\Frs (R.minus n note) D':=by
  intro D' keep l hl hok1 hal hs hi
  refine h.newHead hok1 hal (by rw[hs];exact ZK) (by rw[hs,ZL,Yn]) hi (λ i hi=>?_) rfl rfl hok' (by unfold RgS.next at hnum;simp only[RgS.cutH,Hd.cut];omega) hhas hpl hfn
  rcases YJ h.empty hs D rfl i with e|⟨p,hp,h1,_⟩
  ·exact e
  ·exact absurd (by rw[<-h1,(Xe (hl.subset hp)).1];rfl) hi
 rcases lays_out (Yp (R.cutH n note)) D h.alive hidx with⟨l',hl',hs,hc⟩|⟨hs,hc,hal⟩
 ·refine⟨λ h0=>absurd h0 hc,λ _ keep=>?_⟩
  have hs2:((DS.lays (Yp (R.cutH n note)) D).1.crash keep).secs=settled keep (YD D.secs l'):=by simp only[DS.crash];rw[hs]
  have hsame:∀i,i≠(R.h.turn+1) % 2->img ((DS.lays (Yp (R.cutH n note)) D).1.crash keep) i=img D i:=λ i hi=>by
   rcases YJ h.empty hs2 D rfl i with e|⟨p,hp,h1,_⟩
   ·exact e
   ·exact absurd (by rw[<-h1,(Xe (hl'.subset hp)).1];rfl) hi
  rcases YJ h.empty hs2 D rfl ((R.h.turn+1) % 2) with e|⟨p,hp,_,h2⟩
  ·left
   have hi:∀i,img ((DS.lays (Yp (R.cutH n note)) D).1.crash keep) i=img D i:=λ i=>by
    by_cases he:i=(R.h.turn+1) % 2
    ·rw[he];exact e
    ·exact hsame i he
   have hi':img ((DS.lays (Yp (R.cutH n note)) D).1.crash keep)=img D:=funext hi
   exact⟨h.ok,h.live,h.num,hok.crash,rfl,by rw[hs2];exact ZK,by rw[hs2,ZL,Yn];exact h.len,by rw[hi'];exact h.head,by rw[hi'];exact h.other,by rw[hi'];exact h.has,by rw[hi'];exact h.none,by rw[hi'];exact h.bound⟩
  ·right
   exact (key hl' hok.crash rfl hs2 (by rw[h2,(Xe (hl'.subset hp)).2])).1
 ·refine⟨λ _=>?_,λ h0=>absurd hc h0⟩
  refine key (List.prefix_refl _) hok hal hs ?_
  rcases img_all h.empty hs D rfl (i:=(R.h.turn+1) % 2) (by omega) with⟨_,hno⟩|⟨p,hp,_,h2⟩
  ·exact absurd rfl (hno _ (List.mem_singleton.2 rfl))
  ·rw[h2,(Xe hp).2]
theorem RO.crash {R:RgS}{D:DS}(h:RO R D)(keep:Nat->Bool):RO R (D.crash keep):=by
 have hs:(D.crash keep).secs=D.secs:=by simp only[DS.crash];exact settled_empty h.empty
 have hi:=Xf hs
 exact⟨h.ok,h.live,h.num,h.dok.crash,rfl,by rw[hs];exact h.empty,by rw[hs];exact h.len,by rw[hi];exact h.head,by rw[hi];exact h.other,by rw[hi];exact h.has,by rw[hi];exact h.none,by rw[hi];exact h.bound⟩
theorem RIn.at {ρ:Hp}{R:RgS}{w:RW}(h:RIn ρ R w){k:Nat}(hk:k<w.els.length):(w.els[k]).l=R.ents[k]'(by rw[<-h.len];exact hk)/\BIn ρ w.els[k]/\(w.els[k]).n<=8000:=by
 have hb:=h.els _ (aM hk)
 have hl:=hb.s.len
 have hlong:=h.ok.long
 have he:(w.els[k]).l=R.ents[k]'(by rw[<-h.len];exact hk):=by simp[h.ents]
 refine⟨he,hb, ?_⟩
 rw[<-hl,he];exact hlong _ (aM _)
theorem noughtsL_64 {n:Nat}:∀p∈ZD n,p.2.length=64:=λ p hp=>by
 simp only[ZD,List.mem_map] at hp
 obtain⟨k,_,rfl⟩:=hp;rfl
theorem fresh_rok {n:Nat}(h0:4<=n)(h1:n<=1000):RgS.Ok ⟨ZI n,[],0,false⟩:=
 ⟨by simp[ZI],⟨h0,h1⟩,by simp[ZI],by simp[RgS.next,ZI],by simp only[ZI];omega,by simp[ZI],rfl,aZ _,by simp⟩
theorem fresh_rin {ρ:Hp}{n:Nat}(h0:4<=n)(h1:n<=1000):RIn ρ ⟨ZI n,[],0,false⟩ ⟨none,0,0,.slice none 0 0,[],[]⟩:=
 ⟨fresh_rok h0 h1,SIn.nil,aR _,OwnS.nil 1,rfl,by simp⟩
def ringAns (ρ':Hp)(db:Nat)(r:Option RgS×DS×Int)(v:Value)(L':SH):Prop:=
 ∃k',DOk k' r.2.1/\match r.1 with
  | none=>v=.tuple ⟨[.pointer none,.int .i64 r.2.2]⟩/\L'=Zg db k' r.2.1
  | some R=>∃rb w,v=.tuple ⟨[.pointer (some ⟨rb,0,none⟩),.int .i64 0]⟩/\RIn ρ' R w/\L'=Yb rb db R w++Zg db k' r.2.1
theorem format_spec (ρ:Hp)(db:Nat)(k:DK)(D:DS)(hD:DOk k D)(size:Int)(hs:-9223372036854775808<=size/\size<=9223372036854775807) :
  Spec prog 8 [.pointer (some ⟨db,0,none⟩),.int .i64 size] ρ (Zg db k D) (λ v ρ' L'=>ρ.le ρ'/\ringAns ρ' db (WS size D) v L'):=by
 by_cases h1:size<4
 ·have he:WS size D=(none,D,2):=by unfold WS;rw[if_pos (.inl h1)]
  rw[he]
  refine Za func8 rfl rfl rfl λ u R=>?_
  simp only[Zc,kA]
  repeat' (first|refine zW ?_|intro _)
  rename_i b3
  refine Yt [0,1,2,3,4,5,6,7,9,10] (.e 8 [] (.f [11,12] .o)) ([[(b3,.cells ⟨[.int .i64 size]⟩ 3 (0,0))]]) ?_
  repeat' (refine iT ?_;first|refine rA ?_|(refine rE ?_<;>((try refine ZX ?_);(first|(refine Zb (.func 39) ?_;refine qR rfl rfl (klen _ db k D) ?_;try simp only[kA]))<;>(try simp only[kA])<;>refine zN ?_)))
  all_goals (repeat' (first|refine zW ?_|intro _))
  all_goals exact qE ⟨Hp.le_refl _,k,hD,rfl,rfl⟩
 ·by_cases h2:1000<size
  ·have he:WS size D=(none,D,2):=by unfold WS;rw[if_pos (.inr (.inl h2))]
   rw[he]
   refine Za func8 rfl rfl rfl λ u R=>?_
   simp only[Zc,kA]
   repeat' (first|refine zW ?_|intro _)
   rename_i b3
   refine Yt [0,1,2,3,4,5,6,7,9,10] (.e 8 [] (.f [11,12] .o)) ([[(b3,.cells ⟨[.int .i64 size]⟩ 3 (0,0))]]) ?_
   repeat' (refine iT ?_;first|refine rA ?_|(refine rE ?_<;>((try refine ZX ?_);(first|(refine Zb (.func 39) ?_;refine qR rfl rfl (klen _ db k D) ?_;try simp only[kA]))<;>(try simp only[kA])<;>refine zN ?_)))
   all_goals (repeat' (first|refine zW ?_|intro _))
   all_goals exact qE ⟨Hp.le_refl _,k,hD,rfl,rfl⟩
  ·by_cases h3:(D.secs.length:Int)<size+2
   ·have he:WS size D=(none,D,2):=by unfold WS;rw[if_pos (.inr (.inr h3))]
    rw[he]
    refine Za func8 rfl rfl rfl λ u R=>?_
    simp only[Zc,kA]
    repeat' (first|refine zW ?_|intro _)
    rename_i b3
    refine Yt [0,1,2,3,4,5,6,7,9,10] (.e 8 [] (.f [11,12] .o)) ([[(b3,.cells ⟨[.int .i64 size]⟩ 3 (0,0))]]) ?_
    repeat' (refine iT ?_;first|refine rA ?_|(refine rE ?_<;>((try refine ZX ?_);(first|(refine Zb (.func 39) ?_;refine qR rfl rfl (klen _ db k D) ?_;try simp only[kA]))<;>(try simp only[kA])<;>refine zN ?_)))
    all_goals (repeat' (first|refine zW ?_|intro _))
    all_goals exact qE ⟨Hp.le_refl _,k,hD,rfl,rfl⟩
   ·obtain⟨n,rfl⟩:∃n:Nat,size=n:=⟨size.toNat,by omega⟩
    have hn0:4<=n:=by omega
    have hn1:n<=1000:=by omega
    have he:WS n D=if (DS.lays (ZD n) D).2=0 then
      if (DS.lays (Yp (ZI n)) (DS.lays (ZD n) D).1).2=0 then (some ⟨ZI n,[],0,false⟩,DS.lays (Yp (ZI n)) (DS.lays (ZD n) D).1) else (none,DS.lays (Yp (ZI n)) (DS.lays (ZD n) D).1)
     else (none,DS.lays (ZD n) D):=by unfold WS;rw[if_neg (by omega)];simp only[Int.toNat_natCast]
    rw[he]
    refine Za func8 rfl rfl rfl λ u R=>?_
    simp only[Zc,kA]
    repeat' (first|refine zW ?_|intro _)
    rename_i b3
    refine Yt [0,1,2,3,4,5,6,7,9,10] (.e 8 [] (.f [11,12] .o)) ([[(b3,.cells ⟨[.int .i64 n]⟩ 3 (0,0))]]) ?_
    repeat' (refine iT ?_;first|refine rA ?_|(refine rE ?_<;>((try refine ZX ?_);(first|(refine Zb (.func 39) ?_;refine qR rfl rfl (klen _ db k D) ?_;try simp only[kA]))<;>(try simp only[kA])<;>refine zN ?_)))
    all_goals (repeat' (first|(refine Zb (.func 40) ?_;refine qC rfl rfl (lays_spec _ _ 41 [.pointer (some ⟨b3,0,none⟩)] [[(b3,.cells ⟨[.int .i64 n]⟩ 3 (0,0))]] (ZD n) (Hp.le_refl _) (noughts_iter _ b3 n (by omega)) noughtsL_64 db k D hD) ?_;rintro v6 ρ6 L6 hle6 ⟨rfl,hl6,k6,hD6,rfl⟩;simp only[kB])|refine zW ?_|intro _))
    all_goals generalize DS.lays (ZD n) D=r at *
    all_goals obtain⟨D',ec⟩:=r
    all_goals dsimp only at hD6 ⊢
    all_goals
     by_cases hz:ec=0
     ·subst hz
      have hrd:=λ ρ=>laid_spec ρ (ZI n) none 0 0 SIn.nil (by simp[ZI]) (by simp[ZI]) (by simp only[ZI];omega) (by simp[ZI]) (by omega) db k6 D' hD6
      rw[show ((0:Int) == 0)=true from rfl,if_pos rfl]
      repeat' (first|(refine Zb (.func 42) ?_;refine qC rfl rfl (hrd _) ?_;rintro v8 ρ8 L8 hle8 ⟨rfl,hl8,k8,hD8,rfl⟩;try simp only[kB])|refine zW ?_|intro _)
      generalize DS.lays (Yp (ZI n)) D'=r at *
      obtain⟨D'',ec⟩:=r
      dsimp only at hD8 ⊢
      by_cases hz:ec=0
      ·subst hz
       rw[show ((0:Int) != 0)=false from rfl,if_pos rfl]
       repeat' (first|refine zW ?_|intro _)
       rename_i rb
       exact qE (L':=Yb rb db ⟨ZI n,[],0,false⟩ ⟨none,0,0,.slice none 0 0,[],[]⟩++Zg db k8 D'') ⟨Hp.le_trans hl6 hl8,k8,hD8,rb,_,rfl,fresh_rin hn0 hn1,rfl⟩
      ·have hcb:(ec != 0)=true:=by simpa using hz
       rw[hcb,if_neg hz]
       repeat' (first|refine zW ?_|intro _)
       exact qE (L':=Zg db k8 D'') ⟨Hp.le_trans hl6 hl8,k8,hD8,rfl,rfl⟩
     ·have hcb:(ec == 0)=false:=by simpa using hz
      have hcb2:(ec != 0)=true:=by simpa using hz
      rw[hcb,if_neg hz]
      repeat' (first|refine zW ?_|intro _)
      exact qE (L':=Zg db k6 D') ⟨hl6,k6,hD6,rfl,rfl⟩
theorem first_spec (ρ:Hp)(rb db:Nat)(R:RgS)(w:RW):Spec prog 61 [.pointer (some ⟨rb,0,none⟩)] ρ [[(rb,.cells ⟨rgV R db w⟩ 113 (0,0))]] (λ v ρ' L'=>v=.int .u64 (R.h.first:Nat)/\ρ'=ρ/\L'=[[(rb,.cells ⟨rgV R db w⟩ 113 (0,0))]]):=by
 refine Za func61 rfl rfl rfl λ u R0=>?_
 simp only[Zc,kA]
 repeat' (first|refine zW ?_|intro _)
 exact qE ⟨rfl,rfl,rfl⟩
theorem note_spec (ρ:Hp)(rb db:Nat)(R:RgS)(w:RW)(h:RIn ρ R w):Spec prog 63 [.pointer (some ⟨rb,0,none⟩)] ρ [[(rb,.cells ⟨rgV R db w⟩ 113 (0,0))]] (λ v ρ' L'=>ρ.le ρ'/\∃e:BSl,v=slv e/\BIn ρ' e/\e.l=R.h.note/\L'=[[(rb,.cells ⟨rgV R db w⟩ 113 (0,0))]]):=by
 have hn:=h.ok.note
 have hl:=h.note.len
 refine Za func63 rfl rfl rfl λ u R0=>?_
 simp only[Zc,kA]
 repeat' (first|(refine Zb (.func 113) ?_;refine qC rfl rfl (cloneR_spec _ [] w.na w.nn w.nc R.h.note h.note.rd (by omega)) ?_;rintro v7 ρ7 L7 hle7 ⟨hl7,e,rfl,he,hel,hen,rfl⟩;simp only[kA])|refine zW ?_|intro _)
 exact qE ⟨hl7,e,rfl,he,hel,rfl⟩
theorem all_spec (ρ:Hp)(rb db:Nat)(R:RgS)(w:RW)(h:RIn ρ R w) :
  Spec prog 66 [.pointer (some ⟨rb,0,none⟩)] ρ (Yb rb db R w) (λ v ρ' L'=>ρ.le ρ'/\∃(els':List BSl) (sp':List Value),OwnS v els'.length (els'.map slv) sp' 1/\(∀e∈els',BIn ρ' e)/\els'.map BSl.l=R.ents/\L'=Yb rb db R w++[ZG v (els'.map slv) sp' 107]):=by
 have hlen:=h.len
 have hfit:=h.ok.fit
 have hsz:=h.ok.size
 have hus:=h.ok.used
 have hul:=usedL_len R.ents
 have hall:=λ {j:Nat} (hj:j<w.els.length)=>h.at hj
 rcases h.own.out with⟨hev,h0,h1,h2⟩|⟨bx,cap,hev,g1,g2,g3⟩
 ·have he:R.ents=[]:=List.eq_nil_of_length_eq_zero (by omega)
  obtain⟨wna,wnn,wnc,wev,els,sp⟩:=w
  dsimp only at hev h0 h1 h2 ⊢
  subst hev
  subst h2
  have hels:els=[]:=List.eq_nil_of_length_eq_zero h0
  subst hels
  refine Za func66 rfl rfl rfl λ u R0=>?_
  simp only[Zc,kA]
  repeat' (first|refine zW ?_|intro _)
  refine lpG Nat [2,11,12] (λ z=>[(13,.int .i64 z),(3,.slice none 0 0)]) (λ z=>ρ) (λ z=>[]) (λ z=>z=0) (λ z=>0) 0 rfl ?_
  rintro j hI
  try simp only[kB] at hI ⊢
  try dsimp only at hI ⊢
  subst hI
  repeat' (first|refine zW ?_|intro _)
  exact qE (L':=Yb rb db R ⟨wna,wnn,wnc,.slice none 0 0,[],[]⟩++[[]]) ⟨Hp.le_refl _,[],[],OwnS.nil 1,λ x hx=>(by cases hx),he.symm,rfl⟩
 ·obtain⟨wna,wnn,wnc,wev,els,sp⟩:=w
  dsimp only at hev g1 g2 g3 hlen hall ⊢
  subst hev
  simp only[Yb,ZG]
  refine Za func66 rfl rfl rfl λ u R0=>?_
  simp only[Zc,kA]
  repeat' (first|refine zW ?_|intro _)
  refine lpG (Nat×Hp×Value×(List BSl)×(List Value)) [2,11,12] (λ z=>[(13,.int .i64 z.1),(3,z.2.2.1)]) (λ z=>z.2.1) (λ z=>[[(bx,.cells ⟨els.map slv++sp⟩ 107 (0,0))],ZG z.2.2.1 (z.2.2.2.1.map slv) z.2.2.2.2 107]) (λ z=>z.1<=els.length/\ρ.le z.2.1/\OwnS z.2.2.1 z.2.2.2.1.length (z.2.2.2.1.map slv) z.2.2.2.2 1/\(∀e∈z.2.2.2.1,BIn z.2.1 e)/\z.2.2.2.1.map BSl.l=R.ents.take z.1) (λ z=>els.length-z.1) (0,ρ,.slice none 0 0,[],[]) ⟨aZ _,Hp.le_refl _,OwnS.nil 1,by simp,rfl⟩ ?_
  rintro⟨j,ρ1,v,els2,sp2⟩ hI
  try simp only[kB] at hI ⊢
  try dsimp only at hI ⊢
  obtain⟨hj,hle1,hown,hbin,hl⟩:=hI
  by_cases hlt:j<els.length
  ·obtain⟨q1,q2,q3⟩:=hall hlt
   have hget:(els.map slv++sp)[0+j*1]?=some (slv els[j]):=by
    rw[Nat.zero_add,Nat.mul_one,List.getElem?_append_left (by simp;omega)];simp[hlt]
   have hl2:els2.length=j:=by have:=congrArg List.length hl;simp at this;omega
   repeat' (first|(refine Zb (.func 113) ?_;refine qC rfl rfl (cloneR_spec _ [] (els[j]).a (els[j]).n (els[j]).c (els[j]).l (q2.mono hle1).s.rd (by omega)) ?_;rintro v7 ρ7 L7 hle7 ⟨hl7,e,rfl,he,hel,hen,rfl⟩;try simp only[kA])|(refine Zl rfl rfl rfl rfl (by simp) rfl rfl (λ _=>?_))|(refine YA (ys:=[slv e]) (m:=1) (sz:=1) rfl rfl hown (hR:=by infer_instance) SrcV.lit rfl rfl (by decide) rfl (by omega) (by omega) rfl (λ v2 sp3 hown2=>?_);rw[show els2.map slv++[slv e]=(els2++[e]).map slv by simp] at hown2 ⊢)|refine zW ?_|intro _)
   rw[show els2.length+1=(els2++[e]).length by simp] at hown2
   refine rnG (j+1,ρ7,v2,els2++[e],sp3) (⟨hlt,Hp.le_trans hle1 hl7,hown2,λ x hx=>(by rcases List.mem_append.1 hx with hx|hx<;>first|exact (hbin x hx).mono hl7|(rw[List.mem_singleton.1 hx];exact he)),by dsimp only;rw[List.map_append,hl,aG (by omega),<-q1,<-hel];rfl⟩)
  ·have hk:j=els.length:=by omega
   rw[hk,hlen,aT (aR _)] at hl
   repeat' (first|refine zW ?_|intro _)
   exact qE (L':=Yb rb db R ⟨wna,wnn,wnc,.slice (some ⟨bx,0,none⟩) els.length cap,els,sp⟩++[ZG v (els2.map slv) sp2 107]) ⟨hle1,els2,sp2,hown,hbin,hl,rfl⟩
structure Good (R:RgS)(D:DS):Prop where
 ro:RO R D
 frs:Frs R D
 calm:D.Calm
theorem calm_pair {r:DS×Int}(h:r.2=0):r=(r.1,0):=Prod.ext rfl h
theorem Good.append {R:RgS}{D:DS}{b:Bs}(h:Good R D)(hb:b.length<=8000)(hn:R.next<1099511627776)(hfit:Zs b.length<=R.h.size-R.used):∃D',R.append b D=(R.plus b,D',0)/\Good (R.plus b) D':=by
 have hsz:=h.ro.ok.size
 have hlen:=h.ro.len
 have hidx:∀p∈ZU R.h R.next b (R.h.place+R.used),p.1<D.secs.length:=λ p hp=>by
  obtain⟨k,hk,rfl⟩:=WW.1 hp
  have:=Nat.mod_lt (R.h.place+R.used+k) (show 0<R.h.size by omega)
  dsimp only;omega
 obtain⟨l0,l1,l2⟩:=XN (ZU R.h R.next b (R.h.place+R.used)) D h.calm hidx
 have ha:=(h.ro.append h.frs hb hfit hn).1 l0
 refine⟨(DS.lays (ZU R.h R.next b (R.h.place+R.used)) D).1, ?_,ha.1,ha.2,l1⟩
 unfold RgS.append
 rw[h.ro.live,if_neg (by simp),if_neg (by omega),if_neg (by omega),if_pos l0,calm_pair l0]
 rfl
theorem Good.full {R:RgS}{D:DS}{b:Bs}(h:Good R D)(hb:b.length<=8000)(hfit:¬Zs b.length<=R.h.size-R.used):R.append b D=(R,D,6):=by
 unfold RgS.append
 rw[h.ro.live,if_neg (by simp),if_neg (by omega),if_pos (by omega)]
theorem Good.cut {R:RgS}{D:DS}{n:Nat}{note:Bs}(h:Good R D)(hn:n<=R.ents.length)(ht:R.h.turn<1073741824)(hnote:note.length<=32)(hnum:R.next<1099511627776):∃D',R.cut n note D=(R.minus n note,D',0)/\Good (R.minus n note) D':=by
 have hsz:=h.ro.ok.size
 have hlen:=h.ro.len
 have hidx:∀p∈Yp (R.cutH n note),p.1<D.secs.length:=λ p hp=>by rw[(Xe hp).1];omega
 obtain⟨l0,l1,l2⟩:=XN (Yp (R.cutH n note)) D h.calm hidx
 have ha:=(h.ro.cut hn ht hnote hnum).1 l0
 refine⟨(DS.lays (Yp (R.cutH n note)) D).1, ?_,ha.1,ha.2,l1⟩
 unfold RgS.cut
 rw[h.ro.live,if_neg (by simp),if_neg (by omega),if_neg (by omega)]
 simp only[Int.toNat_natCast]
 rw[if_pos l0,calm_pair l0]
 rfl
theorem z8_take (n m:Nat):ZM ((z8 n).take m)=0:=by
 have:∀k,ZM (z8 k)=0:=λ k=>by
  induction k with
  | zero=>rfl
  | succ k ih=>simp only[z8,List.replicate_succ] at ih ⊢;rw[unbe_cons,ih];simp
 simp only[z8,List.take_replicate]
 exact this _
theorem zblk_z:Xs=z8 64:=rfl
theorem turn_zblk:YE Xs=0:=by unfold YE;rw[zblk_z,z8_take]
theorem num_zblk:numOf Xs=0:=by
 unfold numOf;rw[zblk_z];simp only[z8,List.drop_replicate];exact z8_take _ _
theorem read_zblk:(XL Xs).2=false:=by
 have h:¬(headOf Xs).Right (Xs.getD 21 0).toNat:=λ h=>by
  have h1:=h.1
  have:(headOf Xs).turn=0:=by
   simp only[headOf,zblk_z,z8,List.drop_replicate];exact z8_take _ _
  omega
 unfold XL
 rw[if_neg h]
theorem Good.format {D:DS}{n:Nat}(hok:D.Ok)(hc:D.Calm)(h0:4<=n)(h1:n<=1000)(hl:n+2<=D.secs.length)(he:YC D.secs):∃D',WS n D=(some ⟨ZI n,[],0,false⟩,D',0)/\Good ⟨ZI n,[],0,false⟩ D':=by
 have hidx:∀p∈ZD n,p.1<D.secs.length:=λ p hp=>by
  simp only[ZD,List.mem_map,List.mem_range] at hp
  obtain⟨k,hk,rfl⟩:=hp
  dsimp only;omega
 obtain⟨l0,l1,l2⟩:=XN (ZD n) D hc hidx
 have hok1:=hok.lays (l:=ZD n) noughtsL_64
 have hlen1:=YX (ZD n) D
 have hemp1:YC (DS.lays (ZD n) D).1.secs:=by rw[l2];exact ZK
 have hidx2:∀p∈Yp (ZI n),p.1<(DS.lays (ZD n) D).1.secs.length:=λ p hp=>by
  rw[(Xe hp).1,hlen1];simp only[ZI];omega
 obtain⟨m0,m1,m2⟩:=XN (Yp (ZI n)) (DS.lays (ZD n) D).1 l1 hidx2
 have hok2:=hok1.lays (l:=Yp (ZI n)) (λ p hp=>by rw[(Xe hp).2];exact headB_len _)
 have hlen2:=YX (Yp (ZI n)) (DS.lays (ZD n) D).1
 have himg1:∀i,i<n+2->img (DS.lays (ZD n) D).1 i=Xs:=λ i hi=>by
  rcases img_all he l2 D rfl (i:=i) (by omega) with⟨_,hno⟩|⟨p,hp,h1,h2⟩
  ·exact absurd rfl (hno (i,Xs) (by simp only[ZD,List.mem_map,List.mem_range];exact⟨i,hi,rfl⟩))
  ·simp only[ZD,List.mem_map,List.mem_range] at hp
   obtain⟨k,hk,rfl⟩:=hp
   exact h2
 have himg2:img (DS.lays (Yp (ZI n)) (DS.lays (ZD n) D).1).1 1=XC (ZI n):=by
  rcases img_all hemp1 m2 (DS.lays (ZD n) D).1 rfl (i:=1) (by omega) with⟨_,hno⟩|⟨p,hp,_,h2⟩
  ·exact absurd rfl (hno (1,XC (ZI n)) (List.mem_singleton.2 rfl))
  ·rw[h2,(Xe hp).2]
 have himg3:∀i,i<n+2->i≠1->img (DS.lays (Yp (ZI n)) (DS.lays (ZD n) D).1).1 i=Xs:=λ i hi hne=>by
  rcases YJ hemp1 m2 (DS.lays (ZD n) D).1 rfl i with e|⟨p,hp,h1,_⟩
  ·rw[e];exact himg1 i hi
  ·exact absurd (by rw[<-h1,(Xe hp).1];rfl) hne
 refine⟨(DS.lays (Yp (ZI n)) (DS.lays (ZD n) D).1).1, ?_,⟨fresh_rok h0 h1,rfl,by simp[ZI],hok2,m1.dead,by rw[m2];exact ZK, ?_, ?_, ?_,trivial, ?_, ?_⟩, ?_,m1⟩
 ·unfold WS
  rw[if_neg (by omega)]
  simp only[Int.toNat_natCast]
  rw[if_pos l0,if_pos m0,calm_pair m0]
 ·show n+2<=_
  omega
 ·exact himg2
 ·rw[show (({ h:=ZI n,ents:=[],used:=0,broken:=false }:RgS).h.turn+1) % 2=0 from (by simp[ZI]),himg3 0 (by omega) (by omega),read_zblk]
  intro h;cases h
 ·intro _ t b ht ht2 _ _
  refine⟨0,WJ _,λ hx=>?_⟩
  have:=congrArg YE hx
  rw[himg3 _ (by have:=Nat.mod_lt ((ZI n).place+0+0) (show 0<(ZI n).size by simp only[ZI];omega);simp only[ZI] at this ⊢;omega) (by omega),turn_zblk,partB_turn (by omega)] at this
  omega
 ·intro q hq
  have hq2:q<n:=hq
  rw[himg3 _ (by omega) (by omega),turn_zblk,num_zblk]
  exact⟨aZ _,aZ _⟩
 ·intro q hq hc
  have hq2:q<n:=hq
  rw[himg3 _ (by omega) (by omega),turn_zblk] at hc
  exact absurd hc.1 (by simp[ZI])
end Go.Proofs.E
namespace Go.Proofs.E
open Go Go.RowKit Tryz
set_option maxHeartbeats 1000000
attribute [local irreducible] Yl TL TC TE Spec YW R1 Hp.le EnvLe TS TR YS Zv TP QP
set_option maxRecDepth 8000
theorem rs_flatK {α:Type}{sz:Nat}{g:α->List Value}{C:List Value}{off:Nat}:∀(l:List α) (k:Nat),k<=l.length->(∀i (h:i<l.length),(C.drop (off+i*sz)).take sz=g l[i])->(C.drop off).take (k*sz)=((l.take k).map g).flatten
 | l,0,_,_=>by simp
 | l,k+1,hk,h=>by
  have ih:=rs_flatK l k (by omega) h
  rw[show l.take (k+1)=l.take k++[l[k]'(by omega)] from aG (by omega),Nat.add_mul,Nat.one_mul,List.take_add,ih,List.drop_drop,h k (by omega)]
  simp only[List.map_append,List.flatten_append,List.map_cons,List.map_nil,aF,List.flatten_nil,aN]
theorem aIn_ofK {ρ:Hp}{α:Type}{sz:Nat}{g:α->List Value}{P:α->Prop}{cs:List Value}{s:Option Addr×Nat×Nat×List α}(hg:∀x,(g x).length=sz)(h:RS ρ sz (λ cs x=>cs=g x/\P x) cs s):AIn ρ sz g s.1 s.2.1 s.2.2.2/\(∀x∈s.2.2.2,P x)/\s.2.1<=s.2.2.1/\s.2.1<=9223372036854775807:=by
 obtain⟨a,n,c,ks⟩:=s
 obtain⟨h1,h2,h3,h4,h5⟩:=h
 dsimp only at h1 h2 h3 h4 h5 ⊢
 refine⟨⟨h4, ?_,λ x _=>hg x⟩,λ x hx=>?_,h2,by omega⟩
 ·by_cases h0:n=0
  ·exact .inl h0
  ·right
   obtain⟨b,off,C,T,fr,e1,e2,e3,e4⟩:=h5 0 (by omega)
   have same:∀i (h:i<ks.length),off+i*sz+sz<=C.length/\(C.drop (off+i*sz)).take sz=g ks[i]:=λ i hi=>by
    obtain⟨b',off',C',T',fr',f1,f2,f3,f4⟩:=h5 i hi
    rw[e1] at f1
    cases f1
    rw[e2] at f2
    cases f2
    exact⟨f3,f4.1⟩
   refine⟨b,off,C,T,fr,e1,e2, ?_, ?_⟩
   ·have:=(same (n-1) (by omega)).1
    have e:n*sz=(n-1)*sz+sz:=by
     obtain⟨m,rfl⟩:∃m,n=m+1:=⟨n-1,by omega⟩
     rw[Nat.add_mul];simp
    omega
   ·have:=rs_flatK (sz:=sz) (g:=g) ks n (by omega) (λ i hi=>(same i hi).2)
    rw[this,aT (by omega)]
 ·obtain⟨i,hi,rfl⟩:=List.mem_iff_getElem.1 hx
  obtain⟨_,_,_,_,_,_,_,_,f⟩:=h5 i hi
  exact f.2
theorem Opn.mono {H:Type}{enc:TypeId×Value->H}{P:Program}{w:World}{t:TypeId}{α β:Type}{R:List Value->α->Prop}{R':List Value->β->Prop}(h:Opn enc P w t R)(k:∀cs a,R cs a->∃b,R' cs b):Opn enc P w t R':=λ fuel cs x hx=>by
 obtain⟨a,ha⟩:=h fuel cs x hx
 exact k cs a ha
theorem sIn_of1 {ρ:Hp}{α:Type}{g:α->Value}{a:Option Addr}{n:Nat}{l:List α}(h:AIn ρ 1 (λ x=>[g x]) a n l):SIn ρ g a n l:=by
 refine⟨h.len, ?_⟩
 rcases h.out with h0|⟨b,off,C,T,fr,h1,h2,h3,h4⟩
 ·exact .inl h0
 ·right
  refine⟨b,off,C,T,fr,h1,h2, ?_⟩
  rw[Nat.mul_one] at h4
  rw[h4]
  clear h h4 h3
  induction l with
  | nil=>rfl
  | cons x r ih=>simp[ih]
end Go.Proofs.E
namespace Go.Proofs.E
open Go Tryz
set_option maxRecDepth 4000
set_option maxHeartbeats 1000000
attribute [local irreducible] Yl TL TC TE Spec YW R1 Hp.le EnvLe TS TR YS Zv TP QP
theorem sIn_l {ρ:Hp}{b:Nat}{l:Bs}{T:TypeId}{fr:Nat×Nat}(h:ρ b=some (.cells ⟨l.map Zk⟩ T fr)):SIn ρ Zk (some ⟨b,0,none⟩) l.length l:=⟨rfl,.inr ⟨b,0,_,_,_,rfl,h,by rw[List.drop_zero,aT (by simp)]⟩⟩
theorem knew (ρ:Hp)(n:Nat)(h0:0<n)(h1:n<=2048):Spec prog 6 [.int .i64 n] ρ [] (λ v ρ' L'=>ρ'=ρ/\∃b k,v=.tuple ⟨[.pointer (some ⟨b,0,none⟩),.int .i64 0]⟩/\DOk k (DS.new n)/\L'=Zg b k (DS.new n)):=
 (new_spec ρ n h0 h1).mono (λ v ρ' L' _ ⟨h1',b,hb,mb,ck,h2,h3⟩=>⟨h1',b,⟨hb,mb,[],ck⟩,h2,⟨new_okD h0 h1,MapOk.empty fresh_empty⟩,h3⟩)
theorem XR {ρ:Hp}{b:Nat}{s:Bs}{T:TypeId}{fr:Nat×Nat}(h:ρ b=some (.cells ⟨s.map Zk⟩ T fr))(lo' n:Nat)(hn:lo'+n<=s.length):SIn ρ Zk (some ⟨b,lo',none⟩) n ((s.drop lo').take n):=by
 refine⟨by simp;omega,.inr ⟨b,lo',_,_,_,rfl,h,by rw[List.map_take,List.map_drop]⟩⟩
abbrev RR:=RV×Rc
abbrev rrV (x:RR):List Value:=recV x.1 x.2
abbrev flatL (l:List RR):List Value:=(l.map rrV).flatten
theorem flatL_len (l:List RR):(flatL l).length=l.length*10:=by
 induction l with
 | nil=>rfl
 | cons x r ih=>simp only[flatL,List.map_cons,aF,aL] at ih ⊢;rw[ih];simp[rrV];omega
theorem flatL_add (l m:List RR):flatL (l++m)=flatL l++flatL m:=by simp[flatL]
structure LgS where
 R:RgS
 base:Nat
 fl:Nat
 ma:Nat
 nx:Int
 recs:List RR
def XB (l:List RR):Nat:=(l.map λ x=>costN x.2).sum
theorem usedR_add (l m:List RR):XB (l++m)=XB l+XB m:=by simp[XB]
def LgS.next (S:LgS):Nat:=S.base+S.recs.length
def LgS.more (S:LgS)(x:RR):LgS:={ S with recs:=S.recs++[x] }
abbrev lgV (rb:Nat)(S:LgS)(v:Value):List Value:=[.pointer (some ⟨rb,0,none⟩),.int .u64 S.base,.int .u64 S.fl,.int .u64 S.ma,.int .i64 S.nx,v,.int .i64 (XB S.recs:Nat)]
abbrev ZW (lb rb:Nat)(S:LgS)(v:Value):List (Nat×Obj):=[(lb,.cells ⟨lgV rb S v⟩ 101 (0,0))]
abbrev YK (S:LgS)(v:Value)(sp:List Value):List (Nat×Obj):=ZG v (flatL S.recs) sp 47
structure LgIn (ρ:Hp)(S:LgS)(v:Value)(sp:List Value):Prop where
 own:OwnS v S.recs.length (flatL S.recs) sp 10
 rin:∀x∈S.recs,RcIn ρ x.1 x.2
 ok:∀x∈S.recs,Xh x.2=true
 used:XB S.recs<=1000000
 base:S.base<=1099511627777
theorem costN_le (r:Rc):costN r<=100:=by
 unfold costN
 split
 ·rename_i h
  have:=recB_le (Vi h)
  unfold sectsB;omega
 ·omega
theorem costN_pos {r:Rc}(h:Xh r=true):1<=costN r:=by
 unfold costN;rw[if_pos h];unfold sectsB;omega
theorem usedR_len {l:List RR}(h:∀x∈l,Xh x.2=true):l.length<=XB l:=by
 induction l with
 | nil=>exact aZ _
 | cons x r ih=>
  have h1:=costN_pos (h x (by simp))
  have h2:=ih (λ y hy=>h y (by simp[hy]))
  simp only[XB,List.map_cons,List.sum_cons,aC] at h2 ⊢
  omega
theorem LgIn.mono {ρ ρ' S v sp}(h:LgIn ρ S v sp)(hle:ρ.le ρ'):LgIn ρ' S v sp:=⟨h.own,λ x hx=>(h.rin x hx).mono hle,h.ok,h.used,h.base⟩
theorem LgIn.len {ρ S v sp}(h:LgIn ρ S v sp):S.recs.length<=1000000:=Nat.le_trans (usedR_len h.ok) h.used
theorem LgIn.next {ρ S v sp}(h:LgIn ρ S v sp):S.next<2000000000000:=by
 have h1:=h.len
 have h2:=h.base
 unfold LgS.next;omega
theorem Vh (ρ:Hp)(lb rb:Nat)(S:LgS)(v:Value)(sp:List Value)(h:LgIn ρ S v sp) :
  Spec prog 36 [.pointer (some ⟨lb,0,none⟩)] ρ [ZW lb rb S v] (λ z ρ' L'=>z=.int .u64 (S.next:Nat)/\ρ'=ρ/\L'=[ZW lb rb S v]):=by
 have h1:=h.len
 have h2:=h.base
 obtain⟨a,c,rfl,_⟩:=h.own.len
 have e:((S.base:Nat):Int)+((S.recs.length:Nat):Int)=((S.next:Nat):Int):=by unfold LgS.next;omega
 refine Za func36 rfl rfl rfl λ u R=>?_
 simp only[Zc,kA]
 repeat' (first|refine zW ?_|intro _)
 refine tpZ [0] (.f [1,2,3,4,5,6,7,8,9,10,11] .o) ?_
 repeat' (refine iT ?_;first|refine rA ?_)
 all_goals (repeat' (first|refine zW ?_|intro _))
 all_goals rw[e]
 all_goals exact qE (L':=[ZW lb rb S (.slice a S.recs.length c)]) ⟨rfl,rfl,rfl⟩
theorem Vy (ρ:Hp)(lb rb:Nat)(S:LgS)(v:Value) :
  Spec prog 34 [.pointer (some ⟨lb,0,none⟩)] ρ [ZW lb rb S v] (λ z ρ' L'=>z=.int .u64 (S.fl:Nat)/\ρ'=ρ/\L'=[ZW lb rb S v]):=by
 refine Za func34 rfl rfl rfl λ u R=>?_
 simp only[Zc,kA]
 repeat' (first|refine zW ?_|intro _)
 exact qE (L':=[ZW lb rb S v]) ⟨rfl,rfl,rfl⟩
theorem takes_spec16 (ρ:Hp)(lb rb:Nat)(S:LgS)(v:Value)(sp:List Value)(h:LgIn ρ S v sp)(x:RR)(hx:RcIn ρ x.1 x.2)(hok:Xh x.2=true)(hu:XB S.recs+costN x.2<=1000000) :
  Spec prog 45 [.pointer (some ⟨lb,0,none⟩),.agg ⟨recV x.1 x.2⟩] ρ [ZW lb rb S v,YK S v sp]
   (λ z ρ' L'=>z=.tuple ⟨[]⟩/\ρ.le ρ'/\∃v' sp',LgIn ρ' (S.more x) v' sp'/\L'=[ZW lb rb (S.more x) v',YK (S.more x) v' sp']):=by
 have h1:=h.len
 have hc:=rcost_spec ρ x.1 x.2 hx
 have hcl:=costN_le x.2
 have hown:=h.own
 obtain⟨va,vc,rfl,_⟩:=hown.len
 have e1:((XB S.recs:Nat):Int)+((costN x.2:Nat):Int)=((XB (S.recs++[x]):Nat):Int):=by rw[usedR_add];simp[XB]
 refine Za func45 rfl rfl rfl λ u R=>?_
 simp only[Zc,kA]
 repeat' (first|(refine Zb (.func 44) ?_;refine qC rfl rfl (hc) ?_;rintro v ρ' L' hle ⟨hle1,rfl,rfl⟩<;>(try simp only[kA]))|refine zW ?_|intro _)
 rename_i xb
 refine Yt [0,1,2,3,4,6,9,10,11,13] (.c 5 7 12 [] [] [14] (.b 7 12 [] [14] (.b 8 12 [] [14] (.e 12 [14,15,16] (.e 17 [18,19] (.e 20 [] .o))) (.e 8 [15,16] (.e 17 [18,19] (.e 20 [] .o)))) (.e 7 [] (.e 8 [15,16] (.e 17 [18,19] (.e 20 [] .o))))) (.b 5 12 [] [14] (.b 8 12 [] [14] (.e 12 [14,15,16] (.e 17 [18,19] (.e 20 [] .o))) (.e 8 [15,16] (.e 17 [18,19] (.e 20 [] .o)))) (.e 5 [] (.e 8 [15,16] (.e 17 [18,19] (.e 20 [] .o))))) (.b 5 7 [] [] (.e 7 [] (.e 8 [15,16] (.e 17 [18,19] (.e 20 [] .o)))) (.e 5 [] (.e 8 [15,16] (.e 17 [18,19] (.e 20 [] .o)))))) ([[(xb,.cells ⟨recV x.1 x.2⟩ 47 (0,0))]]) ?_
 repeat' (refine iT ?_;first|refine rA ?_|((first|(refine iE ?_;refine rE ?_)|(refine iB ?_;refine rB ?_ ?_)|(refine iC ?_;refine rC ?_ ?_ ?_))<;>((first|(refine Ys (css:=[recV x.1 x.2]) (sz:=10) rfl rfl rfl rfl (by simp) (by simp) rfl (λ bs=>?_);simp only[aF,List.flatten_nil,aN])|(refine YA (ys:=recV x.1 x.2) (m:=1) (sz:=10) rfl rfl hown (hR:=by repeat (first|exact ZJ|apply Ya)) SrcV.lit rfl rfl (by decide) rfl (by omega) (by omega) rfl (λ v' sp' hown'=>?_);obtain⟨va2,vc2,rfl,hvc2⟩:=hown'.slice)|(refine i_qq ?_;refine qQ ?_)|(refine qEf ?_;try intro _))<;>(try simp only[kA])<;>refine zN ?_)))
 all_goals (repeat' (first|refine zW ?_|intro _))
 all_goals
  have hfl:flatL S.recs++recV x.1 x.2=flatL (S.recs++[x]):=by rw[flatL_add];simp[flatL]
  simp only[e1]
  rw[hfl] at hown' ⊢
  refine qE (L':=[ZW lb rb (S.more x) (.slice va2 (S.recs.length+1) vc2),YK (S.more x) (.slice va2 (S.recs.length+1) vc2) sp']) ⟨rfl,hle1,_,sp',⟨by simpa [LgS.more] using hown', ?_, ?_, ?_,h.base⟩,rfl⟩
  ·intro y hy
   rcases List.mem_append.1 hy with hy|hy
   ·exact (h.rin y hy).mono hle1
   ·rw[List.mem_singleton.1 hy];exact hx.mono hle1
  ·intro y hy
   rcases List.mem_append.1 hy with hy|hy
   ·exact h.ok y hy
   ·rw[List.mem_singleton.1 hy];exact hok
  ·show XB (S.recs++[x])<=1000000
   rw[usedR_add];simpa [XB] using hu
def appE (S:LgS)(r:Rc)(res:Int):Int:=
 if Xh r=false then 220 else if r.lsn≠S.next\/res<0\/400<res then 2
 else if 400<(XB S.recs:Int)+(costN r:Int)+res\/S.next=1099511627776 then 261 else 0
theorem append16_yes (ρ:Hp)(lb rb:Nat)(S:LgS)(v:Value)(sp:List Value)(h:LgIn ρ S v sp)(x:RR)(hx:RcIn ρ x.1 x.2)(res:Int)(hyes:appE S x.2 res=0) :
  Spec prog 13 [.pointer (some ⟨lb,0,none⟩),.agg ⟨recV x.1 x.2⟩,.int .i64 res] ρ [ZW lb rb S v,YK S v sp]
   (λ z ρ' L'=>z=.int .i64 0/\ρ.le ρ'/\∃v' sp',LgIn ρ' (S.more x) v' sp'/\L'=[ZW lb rb (S.more x) v',YK (S.more x) v' sp']):=by
 have h1:=h.len
 have hc:=rcost_spec ρ x.1 x.2 hx
 have hcl:=costN_le x.2
 have hus:=h.used
 have hn:=λ ρ=>Vh ρ lb rb S v sp
 have hown:=h.own
 have ht:=λ ρ hin=>takes_spec16 ρ lb rb S v sp hin x
 obtain⟨va,vc,rfl,_⟩:=hown.len
 unfold appE at hyes
 unfold errN at hc
 cases hok:Xh x.2
 ·rw[hok,if_pos rfl] at hyes;omega
 ·rw[hok] at hc
  simp only[if_true] at hc
  rw[hok,if_neg (by simp)] at hyes
  by_cases h2:x.2.lsn≠S.next\/res<0\/400<res
  ·rw[if_pos h2] at hyes;omega
  ·rw[if_neg h2] at hyes
   by_cases h3:400<(XB S.recs:Int)+(costN x.2:Int)+res\/S.next=1099511627776
   ·rw[if_pos h3] at hyes;omega
   ·obtain⟨a1,a2⟩:=not_or.1 h2
    have a1:x.2.lsn=S.next:=Classical.not_not.1 a1
    have a3:¬res<0:=by omega
    have a4:¬400<res:=by omega
    have a5:¬400<(XB S.recs:Int)+(costN x.2:Int)+res:=by omega
    have a6:¬((S.next:Nat):Int)=1099511627776:=by omega
    refine Za func13 rfl rfl rfl λ u R=>?_
    simp only[Zc,kA]
    repeat' (first|(refine Zb (.func 44) ?_;refine qC rfl rfl (hc) ?_;rintro v ρ' L' hle ⟨hle1,rfl,rfl⟩<;>(try simp only[kA]))|refine zW ?_|intro _)
    rename_i xb
    have hn1:=hn _ (h.mono hle1)
    refine Yt [0,1,2] (.e 3 [] (.f [4,5,6,7,8,9,10,11,12,13] .o)) ([[(xb,.cells ⟨recV x.1 x.2⟩ 47 (0,0))]]) ?_
    repeat' (refine iT ?_;first|refine rA ?_|(refine rE ?_<;>(refine Zb (.func 36) ?_;refine qR rfl rfl (hn1) ?_;try simp only[kA])<;>(try simp only[kA])<;>refine zN ?_))
    all_goals (repeat' (first|(refine Zb (.func 36) ?_;refine qR rfl rfl (hn1) ?_;try simp only[kA])|(refine Zb (.func 45) ?_;refine qC rfl rfl ((ht _ (h.mono hle1) (hx.mono hle1) hok (by omega))) ?_;rintro v ρ' L' hle ⟨rfl,hle2,v',sp',hin,rfl⟩<;>(try simp only[kA]))|refine zW ?_|intro _))
    all_goals exact qE (L':=[ZW lb rb (S.more x) v',YK (S.more x) v' sp']) ⟨rfl,Hp.le_trans hle1 hle2,v',sp',hin,rfl⟩
theorem filt_pre16 {α:Type}(q:α->Bool)(l:List α){k:Nat}(hk:k<l.length)(hq:q l[k]=true):((l.take k).filter q++[l[k]]) <+: l.filter q/\(l.take (k+1)).filter q=(l.take k).filter q++[l[k]]:=by
 have e:(l.take (k+1)).filter q=(l.take k).filter q++[l[k]]:=by
  rw[aG hk,List.filter_append]
  congr 1
  simp[hq]
 refine⟨?_,e⟩
 rw[<-e]
 exact⟨(l.drop (k+1)).filter q,by rw[<-List.filter_append,List.take_append_drop]⟩
theorem filt_no16 {α:Type}(q:α->Bool)(l:List α){k:Nat}(hk:k<l.length)(hq:q l[k]=false):(l.take (k+1)).filter q=(l.take k).filter q:=by
 rw[aG hk,List.filter_append]
 simp[hq]
theorem flatL_at {l:List RR}{sp:List Value}{k:Nat}(h:k<l.length):((flatL l++sp).drop (0+k*10)).take 10=rrV l[k]:=by
 have h1:=flatL_len l
 rw[Nat.zero_add,List.drop_append_of_le_length (by omega),List.take_append_of_le_length (by rw[List.length_drop];omega)]
 exact flat_at rrV 10 l k h (λ x _=>rfl)
abbrev fromL (S:LgS)(lsn:Nat):List RR:=S.recs.filter (λ x=>decide (lsn<=x.2.lsn))
abbrev fb1 (b lb:Nat):List (Nat×Obj):=[(b,.cells ⟨[.pointer (some ⟨lb,0,none⟩)]⟩ 28 (0,0))]
abbrev fb2 (b lsn:Nat):List (Nat×Obj):=[(b,.cells ⟨[.int .u64 (lsn:Nat)]⟩ 35 (0,0))]
theorem from16_spec (ρ:Hp)(lb lsn:Nat):Spec prog 49 [.pointer (some ⟨lb,0,none⟩),.int .u64 (lsn:Nat)] ρ [] (λ v ρ' L'=>∃b1 b2,v=.func (.func 108) ⟨[]⟩ ⟨[.pointer (some ⟨b1,0,none⟩),.pointer (some ⟨b2,0,none⟩)]⟩/\ρ'=ρ/\L'=[fb1 b1 lb,fb2 b2 lsn]):=by
 refine Za func49 rfl rfl rfl λ u R=>?_
 simp only[Zc,kA]
 repeat' (first|refine zW ?_|intro _)
 rename_i b1 b2
 exact qE (L':=[fb1 b1 lb,fb2 b2 lsn]) ⟨b1,b2,rfl,rfl,rfl⟩
theorem from16_iter (ρ0:Hp)(lb rb b1 b2 lsn:Nat)(S:LgS)(v:Value)(sp:List Value)(h:LgIn ρ0 S v sp) :
  IterP prog 108 [] [.pointer (some ⟨b1,0,none⟩),.pointer (some ⟨b2,0,none⟩)] (λ x:RR=>[.agg ⟨rrV x⟩]) ρ0 [fb1 b1 lb,fb2 b2 lsn,YK S v sp] (ZW lb rb S v) (fromL S lsn):=by
 intro l J Jx hC hY ρ Lj hl0 hJ
 have h1:=h.len
 obtain⟨A,B,rfl⟩:=hC _ _ hJ
 rcases h.own.out with⟨rfl,g0,g1,g2⟩|⟨bx,cap,rfl,g1,g2,g3⟩
 ·have hnil:S.recs=[]:=List.eq_nil_of_length_eq_zero g0
  subst g2
  simp only[YK,ZG,fromL,hnil,List.filter_nil]
  refine Za func108 rfl rfl rfl λ u R=>?_
  simp only[Zc,kB]
  repeat' (first|refine zW ?_|intro _)
  refine lpG Nat [0,2,9,10] (λ z=>[(11,.int .i64 z)]) (λ z=>ρ) (λ z=>fb1 b1 lb::fb2 b2 lsn::(A++ZW lb rb S (.slice none 0 0)::B)) (λ z=>z=0) (λ z=>0) 0 rfl ?_
  rintro k hI
  try simp only[kB] at hI ⊢
  try dsimp only at hI ⊢
  subst hI
  repeat' (first|refine zW ?_|intro _)
  exact qE (L':=fb1 b1 lb::fb2 b2 lsn::[]::(A++ZW lb rb S (.slice none 0 0)::B)) ⟨_,rfl,.inl hJ⟩
 ·simp only[YK,ZG]
  have hfl:=flatL_len S.recs
  have hlen:(flatL S.recs++sp).length=cap*10:=by rw[aL];exact g2
  refine Za func108 rfl rfl rfl λ u R=>?_
  simp only[Zc,kB]
  repeat' (first|refine zW ?_|intro _)
  refine lpG (Nat×Hp×SH) [0,2,9,10] (λ z=>[(11,.int .i64 z.1)]) (λ z=>z.2.1) (λ z=>fb1 b1 lb::fb2 b2 lsn::[(bx,.cells ⟨flatL S.recs++sp⟩ 47 (0,0))]::z.2.2) (λ z=>z.1<=S.recs.length/\ρ.le z.2.1/\J ((S.recs.take z.1).filter (λ x=>decide (lsn<=x.2.lsn))) z.2.1 z.2.2) (λ z=>S.recs.length-z.1) ((0,ρ,A++ZW lb rb S (.slice (some ⟨bx,0,none⟩) S.recs.length cap)::B)) ⟨aZ _,Hp.le_refl _,hJ⟩ ?_
  rintro⟨k,ρ1,L1⟩ hI
  try simp only[kB] at hI ⊢
  try dsimp only at hI ⊢
  obtain⟨hk,hle1,hj⟩:=hI
  by_cases hlt:k<S.recs.length
  ·have hl1:=Hp.le_trans hl0 hle1
   have hc:=flatL_at (sp:=sp) hlt
   have hyes:=filt_pre16 (λ x:RR=>decide (lsn<=x.2.lsn)) S.recs hlt
   have hno:=filt_no16 (λ x:RR=>decide (lsn<=x.2.lsn)) S.recs hlt
   generalize S.recs[k]=x at *
   obtain⟨xv,xr⟩:=x
   dsimp only[rrV] at hc hyes hno
   by_cases hq:lsn<=xr.lsn
   ·obtain⟨hpre,hts⟩:=hyes (decide_eq_true hq)
    clear hyes hno
    have hy:=hY _ _ ρ1 L1 hpre hl1 hj
    repeat' (first|(refine Zb (.tmp 20) ?_;refine qY rfl rfl (hy) ?_;rintro v ρ' L' hle ⟨Lj',rfl,⟨rfl,hj'⟩|⟨rfl,hj'⟩⟩<;>(try simp only[kA]))|refine zW ?_|intro _)
    ·repeat' (first|refine zW ?_|intro _)
     refine rnG (k+1,ρ',Lj') (⟨hlt,Hp.le_trans hle1 hle,by dsimp only;rw[hts];exact hj'⟩)
    ·repeat' (first|refine zW ?_|intro _)
     exact qE (L':=fb1 b1 lb::fb2 b2 lsn::[(bx,.cells ⟨flatL S.recs++sp⟩ 47 (0,0))]::Lj') ⟨Lj',rfl,.inr hj'⟩
   ·have hts:=hno (decide_eq_false hq)
    clear hyes hno
    repeat' (first|refine zW ?_|intro _)
    refine rnG (k+1,ρ1,L1) (⟨hlt,hle1,by dsimp only;rw[hts];exact hj⟩)
  ·have hk2:k=S.recs.length:=by omega
   rw[hk2,List.take_length] at hj
   repeat' (first|refine zW ?_|intro _)
   exact qE (L':=fb1 b1 lb::fb2 b2 lsn::[(bx,.cells ⟨flatL S.recs++sp⟩ 47 (0,0))]::L1) ⟨L1,rfl,.inl hj⟩
def XF (to:Nat):List RR->RgS->DS->Nat->RgS×DS×Nat×Int
 | [],R,D,f=>(R,D,f,0)
 | x::l,R,D,f=>if to<x.2.lsn then (R,D,f,0)
  else if (R.append (YG x.2) D).2.2=0 then XF to l (R.append (YG x.2) D).1 (R.append (YG x.2) D).2.1 x.2.lsn
  else ((R.append (YG x.2) D).1,(R.append (YG x.2) D).2.1,f,(R.append (YG x.2) D).2.2)
def LgS.at (S:LgS)(R:RgS)(f:Nat):LgS:={ S with R:=R,fl:=f }
def LgS.flush (S:LgS)(to:Nat)(D:DS):LgS×DS×Int:=
 if S.next<=to then (S,D,2) else
 (S.at (XF to (fromL S (S.fl+1)) S.R D S.fl).1 (XF to (fromL S (S.fl+1)) S.R D S.fl).2.2.1,(XF to (fromL S (S.fl+1)) S.R D S.fl).2.1,(XF to (fromL S (S.fl+1)) S.R D S.fl).2.2.2)
theorem fromL_mem {S:LgS}{lsn:Nat}{x:RR}(h:x∈fromL S lsn):x∈S.recs:=(List.mem_filter.1 h).1
abbrev b2C (b lb:Nat):List (Nat×Obj):=[(b,.cells ⟨[.pointer (some ⟨lb,0,none⟩)]⟩ 28 (0,0))]
abbrev b3C (b to:Nat):List (Nat×Obj):=[(b,.cells ⟨[.int .u64 (to:Nat)]⟩ 35 (0,0))]
abbrev b4C (b:Nat)(e:Int):List (Nat×Obj):=[(b,.cells ⟨[.int .i64 e]⟩ 25 (0,0))]
theorem flush16_spec (ρ:Hp)(lb rb db:Nat)(S:LgS)(v:Value)(sp:List Value)(h:LgIn ρ S v sp)(w:RW)(hR:RIn ρ S.R w)(k:DK)(D:DS)(hD:DOk k D)(to:Nat)(hf:S.fl<1000000000000000) :
  Spec prog 15 [.pointer (some ⟨lb,0,none⟩),.int .u64 (to:Nat)] ρ (ZW lb rb S v::YK S v sp::(Yb rb db S.R w++Zg db k D))
   (λ z ρ' L'=>z=.int .i64 (S.flush to D).2.2/\ρ.le ρ'/\∃w' k',RIn ρ' (S.flush to D).1.R w'/\DOk k' (S.flush to D).2.1/\L'=ZW lb rb (S.flush to D).1 v::YK S v sp::(Yb rb db (S.flush to D).1.R w'++Zg db k' (S.flush to D).2.1)):=by
 have hn:=λ ρ=>Vh ρ lb rb S v sp
 by_cases hto:S.next<=to
 ·have e:S.flush to D=(S,D,2):=by unfold LgS.flush;rw[if_pos hto]
  rw[e]
  refine Za func15 rfl rfl rfl λ u R=>?_
  simp only[Zc,kA]
  repeat' (first|refine zW ?_|intro _)
  rename_i c2 c3 c4
  refine Yt [0,1] (.e 2 [] (.f [3] .o)) ([b2C c2 lb,b3C c3 to]) ?_
  repeat' (refine iT ?_;first|refine rA ?_|(refine rE ?_<;>(refine Zb (.func 36) ?_;refine qR rfl rfl (hn _ h) ?_;try simp only[kA])<;>(try simp only[kA])<;>refine zN ?_))
  all_goals (repeat' (first|refine zW ?_|intro _))
  all_goals exact qE (L':=ZW lb rb S v::YK S v sp::(Yb rb db S.R w++Zg db k D)) ⟨rfl,Hp.le_refl _,w,k,hR,hD,rfl⟩
 ·generalize hq:XF to (fromL S (S.fl+1)) S.R D S.fl=q
  have e:S.flush to D=(S.at q.1 q.2.2.1,q.2.1,q.2.2.2):=by unfold LgS.flush;rw[if_neg hto,hq]
  rw[e]
  dsimp only
  obtain⟨Rq,Dq,fq,eq⟩:=q
  refine Za func15 rfl rfl rfl λ u R=>?_
  simp only[Zc,kA]
  have e1:((S.fl:Nat):Int)+1=((S.fl+1:Nat):Int):=by omega
  repeat' (first|refine zW ?_|intro _)
  rename_i c2 c3 c4
  refine Yt [0,1] (.e 2 [] (.f [3] .o)) ([b2C c2 lb,b3C c3 to]) ?_
  repeat' (refine iT ?_;first|refine rA ?_|(refine rE ?_<;>(refine Zb (.func 36) ?_;refine qR rfl rfl (hn _ h) ?_;try simp only[kA])<;>(try simp only[kA])<;>refine zN ?_))
  all_goals (repeat' (first|refine zW ?_|intro _))
  all_goals
   refine tpZ [0,1,2,3,4,5] (.e 6 [] .o) ?_
   repeat' (refine iT ?_;first|refine rA ?_|(refine rE ?_<;>(simp only[e1];refine Zb (.func 49) ?_;refine qC rfl rfl (from16_spec _ lb (S.fl+1)) ?_;rintro v1 ρ1 L1 hle1 ⟨d1,d2,rfl,rfl,rfl⟩;simp only[kA])<;>(try simp only[kA])<;>refine zN ?_))
  all_goals (repeat' (first|refine zW ?_|intro _))
  refine tc_rangeFuncP (S:=[fb1 d1 lb,fb2 d2 (S.fl+1),YK S v sp]) (L0:=[b2C c2 lb,b3C c3 to,b4C c4 0,ZW lb rb S v]++(Yb rb db S.R w++Zg db k D)) (R:=R) (R0:=?r0) rfl rfl (from16_iter ρ1 lb rb d1 d2 (S.fl+1) S v sp h) (Hp.le_refl _) (λ _=>rfl) rfl
   (λ pre ρ2 Lu=>∃R1 D1 f1 w1 k1,(∀rest,XF to (pre++rest) S.R D S.fl=XF to rest R1 D1 f1)/\ρ1.le ρ2/\RIn ρ2 R1 w1/\DOk k1 D1/\Lu=[b2C c2 lb,b3C c3 to,b4C c4 0,ZW lb rb (S.at R1 f1) v]++(Yb rb db R1 w1++Zg db k1 D1))
   (λ c ρ2 Lu=>((c=.exit 0/\eq=0)\/(c=.ret/\eq≠0))/\∃w1 k1,ρ1.le ρ2/\RIn ρ2 Rq w1/\DOk k1 Dq/\Lu=[b2C c2 lb,b3C c3 to,b4C c4 eq,ZW lb rb (S.at Rq fq) v]++(Yb rb db Rq w1++Zg db k1 Dq)) ?k1 ?k2 ⟨S.R,D,S.fl,w,k,λ _=>rfl,Hp.le_refl _,hR,hD,rfl⟩ ?hC ?round ?done ?stop
  case k1=>exact tk
  case k2=>exact tk
  case hC=>
   rintro ρ2 Lu ⟨R1,D1,f1,w1,k1,h1,_,_,_,rfl⟩
   have:=h1 []
   simp only[aN,XF,Prod.mk.injEq] at this
   obtain⟨rfl,rfl,rfl,_⟩:=this
   exact⟨[b2C c2 lb,b3C c3 to,b4C c4 0],Yb rb db S.R w1++Zg db k1 D,rfl⟩
  case round=>
   rintro l tm r pre y ρ2 Lu u R' hpre hl1 ⟨R1,D1,f1,w1,k1,hgo,hl2,hR1,hD1,rfl⟩ hr hrec
   simp only[envP,kA]
   obtain⟨t,ht⟩:=hpre
   have hmem:y∈S.recs:=fromL_mem (lsn:=S.fl+1) (by rw[<-ht];simp)
   have hin:=(h.rin y hmem).mono hl2
   have hok:=h.ok y hmem
   have hgo1:=hgo (y::t)
   have ht':pre++y::t=fromL S (S.fl+1):=by rw[<-ht];simp
   have hgo2:=λ rest=>hgo (y::rest)
   rw[ht',hq] at hgo1
   obtain⟨yv,yr⟩:=y
   dsimp only at hin hok hgo1 hgo2
   rw[XF] at hgo1
   simp only[XF] at hgo2
   repeat' (first|refine zW ?_|intro _)
   refine ZR [(l,.loop r)] ?_
   refine te_begin rfl hr (λ r' hbz hrec'=>?_)
   by_cases hgt:to<yr.lsn
   ·rw[if_pos hgt] at hgo1
    simp only[Prod.mk.injEq] at hgo1
    obtain⟨rfl,rfl,rfl,rfl⟩:=hgo1
    repeat' (first|refine zW ?_|intro _)
    refine ZR [(l,.loop r')] ?_
    refine te_leave (Lu:=[b2C c2 lb,b3C c3 to,b4C c4 0,ZW lb rb (S.at Rq fq) v]++(Yb rb db Rq w1++Zg db k1 Dq)) rfl rfl (Hp.le_refl _) ⟨hrec'.tmps.trans hrec.tmps,hrec'.params.trans hrec.params,hrec'.assign.trans hrec.assign,hrec'.body.trans hrec.body⟩ tk tk inferInstance ?_
    exact⟨.inl ⟨rfl,rfl⟩,w1,k1,hl2,hR1,hD1,rfl⟩
   ·rw[if_neg hgt] at hgo1
    simp only[if_neg hgt] at hgo2
    have henc:=rencode_spec ρ2 yv yr hin
    rw[hok] at henc
    simp only[if_true] at henc
    have hlen:=recB_le (Vi hok)
    have happ:=λ {ρ3:Hp} {a:Option Addr} {n c:Nat} (hl:ρ2.le ρ3) (hs:SIn ρ3 Zk a n (YG yr)) (hc:n<=c)=>append_spec ρ3 rb db R1 w1 (hR1.mono hl) k1 D1 hD1 [] a n c (YG yr) hs.rd hc (by have:=hs.len;omega)
    repeat' (first|(refine Zb (.func 50) ?_;refine qC rfl rfl (henc) ?_;rintro v ρ' L' hle ⟨hl3,ea,en,ec,rfl,hec,hes,rfl⟩<;>(try simp only[kA]))|(refine Zb (.func 51) ?_;refine qC rfl rfl (happ (by assumption) hes hec) ?_;rintro v4 ρ4 L4 hle4 ⟨rfl,hl4,k4,w4,hD4,hR4,rfl⟩;try simp only[kA,aN,aA])|refine zW ?_|intro _)
    generalize R1.append (YG yr) D1=ap at *
    obtain⟨Ra,Da,ea⟩:=ap
    dsimp only at *
    by_cases hz:ea=0
    ·subst hz
     rw[if_pos rfl] at hgo1
     simp only[if_true] at hgo2
     rw[show ((0:Int) != 0)=false from rfl]
     repeat' (first|refine zW ?_|intro _)
     refine ZR [(l,.loop r')] ?_
     refine te_next (Lu:=[b2C c2 lb,b3C c3 to,b4C c4 0,ZW lb rb (S.at Ra yr.lsn) v]++(Yb rb db Ra w4++Zg db k4 Da)) rfl (Hp.le_trans hl3 hl4) ⟨hrec'.tmps.trans hrec.tmps,hrec'.params.trans hrec.params,hrec'.assign.trans hrec.assign,hrec'.body.trans hrec.body⟩ tk tk inferInstance ?_
     exact⟨Ra,Da,yr.lsn,w4,k4,hgo2,Hp.le_trans hl2 (Hp.le_trans hl3 hl4),hR4,hD4,rfl⟩
    ·rw[if_neg hz] at hgo1
     simp only[Prod.mk.injEq] at hgo1
     obtain⟨rfl,rfl,rfl,rfl⟩:=hgo1
     have hcb:(eq != 0)=true:=by simpa using hz
     rw[hcb]
     repeat' (first|refine zW ?_|intro _)
     refine ZR [(l,.loop r')] ?_
     refine te_leave (Lu:=[b2C c2 lb,b3C c3 to,b4C c4 eq,ZW lb rb (S.at Rq fq) v]++(Yb rb db Rq w4++Zg db k4 Dq)) rfl rfl (Hp.le_trans hl3 hl4) ⟨hrec'.tmps.trans hrec.tmps,hrec'.params.trans hrec.params,hrec'.assign.trans hrec.assign,hrec'.body.trans hrec.body⟩ tk tk inferInstance ?_
     exact⟨.inr ⟨rfl,hz⟩,w4,k4,Hp.le_trans hl2 (Hp.le_trans hl3 hl4),hR4,hD4,rfl⟩
  case done=>
   rintro D0 ρ2 Lu hl1 ⟨R1,D1,f1,w1,k1,hgo,hl2,hR1,hD1,rfl⟩
   have:=hgo []
   rw[aN,hq] at this
   simp only[XF,Prod.mk.injEq] at this
   obtain⟨rfl,rfl,rfl,rfl⟩:=this
   simp only[kA]
   repeat' (first|refine zW ?_|intro _)
   refine ZR [(D0,.deferred (some []))] ?_
   exact We rfl rfl rfl inferInstance (res1 rfl (Zr rfl rfl)) hl2 tk (by infer_instance) (L':=ZW lb rb (S.at Rq fq) v::YK S v sp::(Yb rb db Rq w1++Zg db k1 Dq)) ⟨rfl,hl2,w1,k1,hR1,hD1,rfl⟩
  case stop=>
   rintro D0 c ρ2 Lu hl1 ⟨hc,w1,k1,hl2,hR1,hD1,rfl⟩
   simp only[kA]
   rcases hc with⟨rfl,rfl⟩|⟨rfl,hne⟩
   ·repeat' (first|refine zW ?_|intro _)
    refine ZR [(D0,.deferred (some []))] ?_
    exact We rfl rfl rfl inferInstance (res1 rfl (Zr rfl rfl)) hl2 tk (by infer_instance) (L':=ZW lb rb (S.at Rq fq) v::YK S v sp::(Yb rb db Rq w1++Zg db k1 Dq)) ⟨rfl,hl2,w1,k1,hR1,hD1,rfl⟩
   ·repeat' (first|refine zW ?_|intro _)
    refine ZR [(D0,.deferred (some []))] ?_
    exact We rfl rfl rfl inferInstance (res1 rfl (Zr rfl rfl)) hl2 tk (by infer_instance) (L':=ZW lb rb (S.at Rq fq) v::YK S v sp::(Yb rb db Rq w1++Zg db k1 Dq)) ⟨rfl,hl2,w1,k1,hR1,hD1,rfl⟩
def zRR:RR:=(⟨⟨none,0,0⟩,⟨none,0,0⟩,⟨none,0,0⟩,⟨none,0,0⟩⟩,⟨0,0,0,0,0,[],[],0,[],[]⟩)
def firstIs (lsn:Nat):List RR->Option RR
 | []=>none
 | x::_=>if x.2.lsn=lsn then some x else none
def recF (S:LgS)(lsn:Nat):Option RR:=firstIs lsn (fromL S lsn)
abbrev recAns (o:Option RR):Value:=.tuple ⟨[.agg ⟨rrV (o.getD zRR)⟩,.int .i64 (if o.isSome then 0 else 4)]⟩
abbrev rc4 (b:Nat)(x:RR):List (Nat×Obj):=[(b,.cells ⟨rrV x⟩ 47 (0,0))]
theorem rec16_spec (ρ:Hp)(lb rb:Nat)(S:LgS)(v:Value)(sp:List Value)(h:LgIn ρ S v sp)(lsn:Nat) :
  Spec prog 73 [.pointer (some ⟨lb,0,none⟩),.int .u64 (lsn:Nat)] ρ [ZW lb rb S v,YK S v sp] (λ z ρ' L'=>z=recAns (recF S lsn)/\ρ.le ρ'/\L'=[ZW lb rb S v,YK S v sp]):=by
 generalize ho:recF S lsn=o
 refine Za func73 rfl rfl rfl λ u R=>?_
 simp only[Zc,kA]
 repeat' (first|(refine Zb (.func 49) ?_;refine qC rfl rfl (from16_spec _ lb lsn) ?_;rintro v1 ρ1 L1 hle1 ⟨d1,d2,rfl,rfl,rfl⟩;simp only[kA])|refine zW ?_|intro _)
 rename_i c3 c4 c5
 refine tc_rangeFuncP (S:=[fb1 d1 lb,fb2 d2 lsn,YK S v sp]) (L0:=[b3C c3 lsn,rc4 c4 zRR,b4C c5 0,ZW lb rb S v]) (R:=R) (R0:=?r0) rfl rfl (from16_iter ρ1 lb rb d1 d2 lsn S v sp h) (Hp.le_refl _) (λ _=>rfl) rfl
   (λ pre ρ2 Lu=>pre=[]/\ρ1.le ρ2/\Lu=[b3C c3 lsn,rc4 c4 zRR,b4C c5 0,ZW lb rb S v])
   (λ c ρ2 Lu=>ρ1.le ρ2/\((c=.exit 0/\o=none/\Lu=[b3C c3 lsn,rc4 c4 zRR,b4C c5 0,ZW lb rb S v])\/∃x,c=.ret/\o=some x/\Lu=[b3C c3 lsn,rc4 c4 x,b4C c5 0,ZW lb rb S v])) ?k1 ?k2 ⟨rfl,Hp.le_refl _,rfl⟩ ?hC ?round ?done ?stop
 case k1=>exact tk
 case k2=>exact tk
 case hC=>
  rintro ρ2 Lu ⟨_,_,rfl⟩
  exact⟨[b3C c3 lsn,rc4 c4 zRR,b4C c5 0],[],rfl⟩
 case round=>
  rintro l tm r pre y ρ2 Lu u R' hpre hl1 ⟨rfl,hl2,rfl⟩ hr hrec
  simp only[envP,kA]
  obtain⟨t,ht⟩:=hpre
  have ho1:o=if y.2.lsn=lsn then some y else none:=by
   rw[<-ho];unfold recF;rw[<-ht];rfl
  obtain⟨yv,yr⟩:=y
  dsimp only at ho1
  repeat' (first|refine zW ?_|intro _)
  refine ZR [(l,.loop r)] ?_
  refine te_begin rfl hr (λ r' hbz hrec'=>?_)
  by_cases he:yr.lsn=lsn
  ·rw[if_pos he] at ho1
   subst he
   repeat' (first|refine zW ?_|intro _)
   refine ZR [(l,.loop r')] ?_
   refine te_leave (Lu:=[b3C c3 yr.lsn,rc4 c4 (yv,yr),b4C c5 0,ZW lb rb S v]) rfl rfl (Hp.le_refl _) ⟨hrec'.tmps.trans hrec.tmps,hrec'.params.trans hrec.params,hrec'.assign.trans hrec.assign,hrec'.body.trans hrec.body⟩ tk tk inferInstance ?_
   exact⟨hl2,.inr ⟨_,rfl,ho1,rfl⟩⟩
  ·rw[if_neg he] at ho1
   have he2:¬((yr.lsn:Nat):Int)=((lsn:Nat):Int):=by omega
   repeat' (first|refine zW ?_|intro _)
   refine ZR [(l,.loop r')] ?_
   refine te_leave (Lu:=[b3C c3 lsn,rc4 c4 zRR,b4C c5 0,ZW lb rb S v]) rfl rfl (Hp.le_refl _) ⟨hrec'.tmps.trans hrec.tmps,hrec'.params.trans hrec.params,hrec'.assign.trans hrec.assign,hrec'.body.trans hrec.body⟩ tk tk inferInstance ?_
   exact⟨hl2,.inl ⟨rfl,ho1,rfl⟩⟩
 case done=>
  rintro D0 ρ2 Lu hl1 ⟨he,hl2,rfl⟩
  have ho1:o=none:=by rw[<-ho];unfold recF;rw[he];rfl
  subst ho1
  simp only[kA]
  repeat' (first|refine zW ?_|intro _)
  refine ZR [(D0,.deferred (some []))] ?_
  exact We rfl rfl rfl inferInstance (res2 rfl (ZN rfl rfl) (Zr rfl rfl)) hl2 tk (by infer_instance) (L':=[ZW lb rb S v,YK S v sp]) ⟨rfl,hl2,rfl⟩
 case stop=>
  rintro D0 c ρ2 Lu hl1 ⟨hl2,⟨rfl,rfl,rfl⟩|⟨x,rfl,rfl,rfl⟩⟩
  ·simp only[kA]
   repeat' (first|refine zW ?_|intro _)
   refine ZR [(D0,.deferred (some []))] ?_
   exact We rfl rfl rfl inferInstance (res2 rfl (ZN rfl rfl) (Zr rfl rfl)) hl2 tk (by infer_instance) (L':=[ZW lb rb S v,YK S v sp]) ⟨rfl,hl2,rfl⟩
  ·simp only[kA]
   repeat' (first|refine zW ?_|intro _)
   refine ZR [(D0,.deferred (some []))] ?_
   exact We rfl rfl rfl inferInstance (res2 rfl (ZN rfl rfl) (Zr rfl rfl)) hl2 tk (by infer_instance) (L':=[ZW lb rb S v,YK S v sp]) ⟨rfl,hl2,rfl⟩
structure EvV where
 kind:Int
 n:Int
 b:BSl
 note:BSl
 ka:Option Addr
 kn:Nat
 kp:Nat
 ks:List Bool
structure EvIn (ρ:Hp)(e:EvV):Prop where
 n:-9223372036854775808<=e.n/\e.n<=9223372036854775807
 kind:-9223372036854775808<=e.kind/\e.kind<=9223372036854775807
 b:BIn ρ e.b
 bbg:e.b.n<=9223372036854775807
 note:BIn ρ e.note
 nb:e.note.n<=9223372036854775807
 ks:SIn ρ bb e.ka e.kn e.ks
 kc:e.kn<=e.kp
 kb:e.kn<=9223372036854775807
theorem EvIn.mono {ρ ρ':Hp}{e:EvV}(h:EvIn ρ e)(hle:ρ.le ρ'):EvIn ρ' e:=⟨h.n,h.kind,h.b.mono hle,h.bbg,h.note.mono hle,h.nb,h.ks.mono hle,h.kc,h.kb⟩
theorem Good.append2 {R:RgS}{D:DS}{b:Bs}(h:Good R D)(hb:b.length<=8000)(hn:R.next<1099511627776)(hfit:Zs b.length<=R.h.size-R.used) :
  ∃D',R.append b D=(R.plus b,D',0)/\Good (R.plus b) D'/\D'.secs.length=D.secs.length/\∀i,R.h.size+2<=i->img D' i=img D i:=by
 have hsz:=h.ro.ok.size
 have hlen:=h.ro.len
 have hidx:∀p∈ZU R.h R.next b (R.h.place+R.used),p.1<R.h.size+2:=λ p hp=>by
  obtain⟨k,hk,rfl⟩:=WW.1 hp
  have:=Nat.mod_lt (R.h.place+R.used+k) (show 0<R.h.size by omega)
  dsimp only;omega
 obtain⟨l0,l1,l2⟩:=XN (ZU R.h R.next b (R.h.place+R.used)) D h.calm (λ p hp=>by have:=hidx p hp;omega)
 have ha:=(h.ro.append h.frs hb hfit hn).1 l0
 refine⟨(DS.lays (ZU R.h R.next b (R.h.place+R.used)) D).1, ?_,⟨ha.1,ha.2,l1⟩,YX _ _,λ i hi=>?_⟩
 ·unfold RgS.append
  rw[h.ro.live,if_neg (by simp),if_neg (by omega),if_neg (by omega),if_pos l0,calm_pair l0]
  rfl
 ·rcases YJ h.ro.empty l2 D rfl i with e|⟨p,hp,h1,_⟩
  ·exact e
  ·have:=hidx p hp;omega
def lastF (f:Nat):List RR->Nat
 | []=>f
 | x::l=>lastF x.2.lsn l
abbrev upTo (to:Nat)(l:List RR):List RR:=l.takeWhile (λ x=>decide (x.2.lsn<=to))
theorem costN_ok {r:Rc}(h:Xh r=true):costN r=Zs (YG r).length:=by unfold costN;rw[if_pos h];rfl
theorem flushL_good (to:Nat):∀(l:List RR) (R:RgS) (D:DS) (f:Nat),Good R D->(∀x∈l,Xh x.2=true)->XB l<=R.h.size-R.used->R.next+l.length<=1099511627776 ->
  ∃R' D',XF to l R D f=(R',D',lastF f (upTo to l),0)/\Good R' D'/\R'.h=R.h/\R'.ents=R.ents++(upTo to l).map (λ x=>YG x.2)/\R'.used=R.used+XB (upTo to l)/\D'.secs.length=D.secs.length/\∀i,R.h.size+2<=i->img D' i=img D i
 | [],R,D,f,g,_,_,_=>⟨R,D,rfl,g,rfl,by simp,by simp[XB],rfl,λ _ _=>rfl⟩
 | x::l,R,D,f,g,hok,hu,hn=>by
  have hx:=hok x (by simp)
  have hc:=costN_ok hx
  have hlen:=recB_le (Vi hx)
  simp only[XB,List.map_cons,List.sum_cons] at hu
  simp only[aC] at hn
  unfold upTo
  rw[XF,List.takeWhile_cons]
  by_cases hto:to<x.2.lsn
  ·rw[if_pos hto,decide_eq_false (by omega)]
   exact⟨R,D,rfl,g,rfl,by simp,by simp[XB],rfl,λ _ _=>rfl⟩
  ·rw[if_neg hto,decide_eq_true (by omega)]
   obtain⟨D',e,g',hl',hi'⟩:=g.append2 (b:=YG x.2) (by omega) (by omega) (by omega)
   have hnx:(R.plus (YG x.2)).next=R.next+1:=by simp[RgS.plus,RgS.next];omega
   have hus:(R.plus (YG x.2)).used=R.used+Zs (YG x.2).length:=rfl
   obtain⟨R2,D2,e2,g2,h2,he2,hu2,hl2,hi2⟩:=flushL_good to l (R.plus (YG x.2)) D' x.2.lsn g' (λ y hy=>hok y (by simp[hy])) (by rw[hus];show _<=R.h.size-_;unfold XB;omega) (by rw[hnx];omega)
   rw[e]
   dsimp only
   rw[if_pos rfl,e2]
   refine⟨R2,D2,rfl,g2,h2, ?_, ?_,hl2.trans hl',λ i hi=>(hi2 i hi).trans (hi' i hi)⟩
   ·rw[he2];simp[RgS.plus,upTo]
   ·rw[hu2,hus,<-hc];simp[XB,upTo];omega
def newLg (R:RgS):LgS:=⟨R,1,0,0,1,[]⟩
theorem newLg_in {ρ:Hp}{R:RgS}:LgIn ρ (newLg R) (.slice none 0 0) []:=⟨OwnS.nil 10,by simp[newLg],by simp[newLg],by simp[newLg,XB],by simp[newLg]⟩
theorem kformat16 (ρ:Hp)(n m:Nat)(hn0:4<=n)(hn1:n<=1000)(hm:n+2<=m)(hm1:m<=2048)(db:Nat)(k:DK)(hk:DOk k (DS.new m)) :
  Spec prog 7 [.pointer (some ⟨db,0,none⟩),.int .i64 n] ρ (Zg db k (DS.new m)) (λ v ρ' L'=>ρ.le ρ'/\∃lb rb w k' D',v=.tuple ⟨[.pointer (some ⟨lb,0,none⟩),.int .i64 0]⟩/\DOk k' D'/\RIn ρ' ⟨ZI n,[],0,false⟩ w/\Good ⟨ZI n,[],0,false⟩ D'/\D'.secs.length=m/\L'=ZW lb rb (newLg ⟨ZI n,[],0,false⟩) (.slice none 0 0)::(Yb rb db ⟨ZI n,[],0,false⟩ w++Zg db k' D')):=by
 obtain⟨D',e,g⟩:=Good.format (D:=DS.new m) (n:=n) (new_okD (by omega) hm1) new_calm hn0 hn1 (by simp[DS.new,fresh];omega) fresh_empty
 have hlen:D'.secs.length=m:=by
  unfold WS at e
  split at e
  ·simp at e
  ·split at e
   ·split at e
    ·have:=congrArg (λ x=>x.2.1.secs.length) e
     dsimp only at this
     rw[<-this,YX,YX];simp[DS.new,fresh]
    ·simp at e
   ·simp at e
 have hf:=format_spec ρ db k (DS.new m) hk n (by omega)
 rw[e] at hf
 refine Za func7 rfl rfl rfl λ u R=>?_
 simp only[Zc,kA]
 repeat' (first|(refine Zb (.func 8) ?_;refine qC rfl rfl hf ?_;rintro v1 ρ1 L1 hle1 ⟨hl1,k1,hk1,rb,w,rfl,hr,rfl⟩;try simp only[kB])|refine zW ?_|intro _)
 rename_i lb
 exact qE (L':=ZW lb rb (newLg ⟨ZI n,[],0,false⟩) (.slice none 0 0)::(Yb rb db ⟨ZI n,[],0,false⟩ w++Zg db k1 D')) ⟨hl1,lb,rb,w,k1,D',rfl,hk1,hr,g,hlen,rfl⟩
end Go.Proofs.E
