/- Laws of LogReads. Part 10 of 28. -/
import Derived.Test.YtpcfmhifkkpjpaaGreatC9
namespace Go.Proofs.E
open Go
set_option linter.unusedVariables false
set_option linter.unusedSimpArgs false
set_option linter.unusedSectionVars false
set_option maxRecDepth 4000
set_option maxHeartbeats 1000000
attribute [local irreducible] Yl TL TC TE Spec ZI R1 Hp.le EnvLe TS TR YS Zp TP QP
abbrev pencV (p:Nat×Blk):List Value:=[.int .i64 p.1,bv p.2]
theorem take_succ_pre {α:Type}(l:List α)(k:Nat)(h:k<l.length):l.take k++[l[k]] <+: l:=by
 rw[←List.take_succ_eq_append_getElem h];exact List.take_prefix _ _
theorem partsL_at {h:Hd}{n at':Nat}{b:Bs}{k:Nat}(hk:k<(Yu h n b at').length):(Yu h n b at')[k]=(2+(at'+k) % h.size,Yp h.turn n b k):=by
 simp[Yu]
theorem partsL_length {h:Hd}{n at':Nat}{b:Bs}:(Yu h n b at').length=ZD b.length:=by simp[Yu]
abbrev partsS (bb ab hb nb:Nat)(a:Option Addr)(bn c at':Nat)(h:Hd)(na:Option Addr)(nn nc n:Nat):SH:=
 [[(bb,.cells ⟨[.slice a bn c]⟩ 22 (0,0))],[(ab,.cells ⟨[.int .i64 at']⟩ 3 (0,0))],[(hb,.cells ⟨hdV h na nn nc⟩ 160 (0,0))],[(nb,.cells ⟨[.int .u64 n]⟩ 33 (0,0))]]
theorem parts_iter (ρ0:Hp)(X:SH)(bb ab hb nb:Nat)(a:Option Addr)(bn c at':Nat)(b:Bs)(h:Hd)(na:Option Addr)(nn nc n:Nat)(hb0:Rd ρ0 X a bn b)(hc:bn≤c)(ht:h.turn<4294967296)(hn:n≤1099511627776)(hbl:bn≤8000)(hat:at'≤1000000)(hsz:0<h.size)(hsz2:h.size≤1000000) :
  Iter Tryz.prog 168 [] [.pointer (some ⟨bb,0,none⟩),.pointer (some ⟨ab,0,none⟩),.pointer (some ⟨hb,0,none⟩),.pointer (some ⟨nb,0,none⟩)] pencV ρ0 (partsS bb ab hb nb a bn c at' h na nn nc n++X) (Yu h n b at'):=by
 intro l J Jx hY ρ Lj hl0 hJ
 have hl:=hb0.len
 have hsc:=sects_le (n:=bn) (by omega)
 have hpl:(Yu h n b at').length=ZD bn:=by rw[partsL_length,hl]
 refine Zb Tryz.func168 rfl rfl rfl fun u R=>?_
 simp only[Zd,kA,List.append_assoc]
 repeat' (first|(refine Za (.func 83) ?_;refine qC rfl rfl (sects_spec _ bn (by omega)) ?_;rintro v ρ' L' hle ⟨rfl,rfl,rfl⟩<;>(try simp only[kA]))|refine zW ?_|intro _)
 refine Zi [(0,_),(1,_),(2,_),(3,_),(4,_),(9,_)] (fun (ζ:(Nat)×(Hp)×(SH))=>[(10,.int .i64 ζ.1)]) (fun (ζ:(Nat)×(Hp)×(SH))=>ζ.2.1) (fun (ζ:(Nat)×(Hp)×(SH))=>partsS bb ab hb nb a bn c at' h na nn nc n++(X++ζ.2.2)) (fun (ζ:(Nat)×(Hp)×(SH))=>ζ.1≤ZD bn∧ρ'.le ζ.2.1∧J ((Yu h n b at').take ζ.1) ζ.2.1 ζ.2.2) (fun (ζ:(Nat)×(Hp)×(SH))=>ZD bn-ζ.1) ((0,ρ',Lj)) (⟨Nat.zero_le _,Hp.le_refl _,hJ⟩) Zc Zc rfl tk ?_
 rintro⟨k,ρ1,L1⟩ hI
 try simp only[kA,List.append_assoc] at hI ⊢
 try dsimp only at hI ⊢
 obtain⟨hk,hle1,hj⟩:=hI
 by_cases hlt:k<ZD bn
 ·have hk2:k<(Yu h n b at').length:=by omega
  have hpre:=take_succ_pre (Yu h n b at') k hk2
  rw[partsL_at] at hpre
  have hts:=List.take_succ_eq_append_getElem hk2
  rw[partsL_at] at hts
  have hy:=hY _ _ ρ1 L1 hpre (Hp.le_trans hl0 hle1) hj
  have hrm:(2:Int)+((at':Int)+(k:Int)).tmod (h.size:Int)=((2+(at'+k) % h.size:Nat):Int):=by
   rw[Int.tmod_eq_emod_of_nonneg (by omega),Int.natCast_add,Int.natCast_emod,Int.natCast_add];rfl
  have hrm1:((at':Int)+(k:Int)).tmod (h.size:Int)<h.size:=Int.tmod_lt_of_pos _ (by omega)
  have hrm0:0≤((at':Int)+(k:Int)).tmod (h.size:Int):=Int.tmod_nonneg _ (by omega)
  repeat' (first|refine zW ?_|intro _)
  refine tpA [0,1,2,3,4,5,6,7,8,9,10,11,12] (.e 13 [] (.e 14 [] (.f [15] .o))) (partsS bb ab hb nb a bn c at' h na nn nc n) ?_
  repeat' (refine iT ?_;first|refine rA ?_|((refine iE ?_;refine rE ?_)<;>((try refine Zn ?_);(first|(refine Za (.func 169) ?_;refine qC rfl rfl (part_spec _ X h.turn n a bn c b (hb0.mono (Hp.le_trans hl0 hle1)) hc k ht hn hbl hlt) ?_;rintro v6 ρ6 L6 hle6 ⟨rfl,rfl,rfl⟩;simp only[kA,hrm])|(refine Za (.tmp 13) ?_;refine qY rfl rfl (hy) ?_;rintro v ρ' L' hle ⟨Lj',rfl,⟨rfl,hj'⟩|⟨rfl,hj'⟩⟩<;>(try simp only[kA,partsS,List.append_assoc]))|(refine Yj ?_;try intro _))<;>((try simp only[kA]);refine Zj ?_;refine rN ?_))))
  ·repeat' (first|refine zW ?_|intro _)
   refine Ze (k+1,ρ',Lj') (⟨hlt,Hp.le_trans hle1 hle,by dsimp only;rw[hts];exact hj'⟩) Zc Zc rfl tk inferInstance (by first|omega|(dsimp only;omega))
  ·repeat' (first|refine zW ?_|intro _)
   exact qE (L':=partsS bb ab hb nb a bn c at' h na nn nc n++L6++Lj') ⟨Lj',rfl,.inr hj'⟩
 ·have hk2:k=ZD bn:=by omega
  subst hk2
  rw[List.take_of_length_le (by omega)] at hj
  repeat' (first|refine zW ?_|intro _)
  exact qE (L':=partsS bb ab hb nb a bn c at' h na nn nc n++X++L1) ⟨L1,rfl,.inl hj⟩
end Go.Proofs.E
namespace Go.Proofs.E
open Go
set_option linter.unusedVariables false
set_option linter.unusedSimpArgs false
set_option linter.unusedSectionVars false
set_option maxRecDepth 4000
set_option maxHeartbeats 1000000
attribute [local irreducible] Yl TL TC TE Spec ZI R1 Hp.le EnvLe TS TR YS Zp
theorem kwrite (ρ:Hp)(b:Nat)(k:DK)(D:DS)(i:Int)(blk:Blk)(h64:blk.length=64)(h:DOk k D) :
  Spec Tryz.prog 162 [.pointer (some ⟨b,0,none⟩),.int .i64 i,bv blk] ρ (Zt b k D) (fun v ρ' L'=>v=.int .i64 (D.write i blk).2∧ρ'=ρ∧∃k',DOk k' (D.write i blk).1∧L'=Zt b k' (D.write i blk).1):=
 (dwrite_spec ρ b k.hb k.mb k.es k.ck D i blk h64 h.ok h.map).mono (fun v ρ' L' _ ⟨h1,h2,es',ck',h3,h4⟩=>⟨h1,h2,⟨k.hb,k.mb,es',ck'⟩,⟨h.ok.write h64,h3⟩,h4⟩)
theorem ksync (ρ:Hp)(b:Nat)(k:DK)(D:DS)(h:DOk k D) :
  Spec Tryz.prog 163 [.pointer (some ⟨b,0,none⟩)] ρ (Zt b k D) (fun v ρ' L'=>v=.int .i64 D.sync.2∧ρ.le ρ'∧∃k',DOk k' D.sync.1∧L'=Zt b k' D.sync.1):=
 (dsync_spec ρ b k.hb k.mb k.es k.ck D h.ok h.map).mono (fun v ρ' L' _ ⟨h1,h2,mb',es',ck',h3,h4⟩=>⟨h1,h2,⟨k.hb,mb',es',ck'⟩,⟨h.ok.sync,h3⟩,h4⟩)
theorem kread (ρ:Hp)(b:Nat)(k:DK)(D:DS)(i:Int)(h:DOk k D) :
  Spec Tryz.prog 173 [.pointer (some ⟨b,0,none⟩),.int .i64 i] ρ (Zt b k D) (fun v ρ' L'=>v=.tuple ⟨[bv (D.read i).2.1,.int .i64 (D.read i).2.2]⟩∧ρ'=ρ∧DOk k (D.read i).1∧L'=Zt b k (D.read i).1):=
 (dread_spec ρ b k.hb k.mb k.es k.ck D i h.ok h.map).mono (fun v ρ' L' _ ⟨h1,h2,h4⟩=>⟨h1,h2,⟨h.ok.read,h.map.read⟩,h4⟩)
inductive Wr (D:DS):List (Nat×Blk)→DS→Prop
 | nil:Wr D [] D
 | snoc {l:List (Nat×Blk)} {D1:DS} {p:Nat×Blk}:Wr D l D1→(D1.write (p.1:Int) p.2).2=0→Wr D (l++[p]) (D1.write (p.1:Int) p.2).1
theorem Wr.lays {D D1:DS}{l:List (Nat×Blk)}(h:Wr D l D1):∀r,DS.lays (l++r) D=DS.lays r D1:=by
 induction h with
 | nil=>intro r;rfl
 | snoc h1 h2 ih=>
  intro r
  rw[List.append_assoc,ih]
  simp only[kA]
  rw[DS.lays,if_pos h2]
theorem Wr.stop {D D1:DS}{l xs:List (Nat×Blk)}{p:Nat×Blk}(h:Wr D l D1)(hp:l++[p] <+: xs)(hc:(D1.write (p.1:Int) p.2).2≠0):DS.lays xs D=D1.write (p.1:Int) p.2:=by
 obtain⟨t,rfl⟩:=hp
 rw[List.append_assoc,h.lays]
 simp only[kA]
 rw[DS.lays,if_neg hc]
theorem lays_spec (ρ0 ρ:Hp)(g:Nat)(cs:List Value)(S:SH)(xs:List (Nat×Blk))(hl0:ρ0.le ρ)(hI:Iter Tryz.prog g [] cs pencV ρ0 S xs)[hF:ZO Tryz.prog g](h64:∀p∈xs,p.2.length=64)(b:Nat)(k:DK)(D:DS)(hD:DOk k D) :
  Spec Tryz.prog 74 [.pointer (some ⟨b,0,none⟩),.func (.func g) ⟨[]⟩ ⟨cs⟩] ρ (S++Zt b k D) (fun v ρ' L'=>v=.int .i64 (DS.lays xs D).2∧ρ.le ρ'∧∃k',DOk k' (DS.lays xs D).1∧L'=S++Zt b k' (DS.lays xs D).1):=by
 refine Zb Tryz.func74 rfl rfl rfl fun u R=>?_
 simp only[Zd,kA,List.append_assoc]
 repeat' (first|refine zW ?_|intro _)
 rename_i b2 b4
 refine tc_rangeFunc (S:=S) (L0:=[[(b2,.cells ⟨[.pointer (some ⟨b,0,none⟩)]⟩ 26 (0,0))],[(b4,.cells ⟨[.int .i64 0]⟩ 27 (0,0))]]++Zt b k D) (R:=R) (R0:=[(b4,.cells ⟨[.int .i64 0]⟩ 27 (0,0))]::[(b2,.cells ⟨[.pointer (some ⟨b,0,none⟩)]⟩ 26 (0,0))]::(Zt b k D++R)) rfl rfl hI hl0 (fun _=>rfl) rfl
  (fun pre ρ1 Lu=>∃D1 k1,ρ.le ρ1∧Wr D pre D1∧DOk k1 D1∧Lu=[[(b2,.cells ⟨[.pointer (some ⟨b,0,none⟩)]⟩ 26 (0,0))],[(b4,.cells ⟨[.int .i64 0]⟩ 27 (0,0))]]++Zt b k1 D1)
  (fun c ρ1 Lu=>c=.exit 0∧∃D2 k2 e,ρ.le ρ1∧e≠0∧DS.lays xs D=(D2,e)∧DOk k2 D2∧Lu=[[(b2,.cells ⟨[.pointer (some ⟨b,0,none⟩)]⟩ 26 (0,0))],[(b4,.cells ⟨[.int .i64 e]⟩ 27 (0,0))]]++Zt b k2 D2) ?k1 ?k2 ⟨D,k,Hp.le_refl _,.nil,hD,rfl⟩ ?round ?done ?stop
 case k1=>exact tk
 case k2=>exact tk
 case round=>
  rintro l tm r pre y ρ1 Lu u R' hpre hl1 ⟨D1,k1,hl2,hwr,hD1,rfl⟩ hr hrec
  simp only[envP,kA]
  have hm64:=h64 y (hpre.subset (by simp))
  have hy1:=Yn y.2
  have hyl:(y.2.map Zo).length=64:=by simpa using hm64
  repeat' (first|refine zW ?_|intro _)
  refine YD [(l,.loop r)] ?_
  refine te_begin rfl hr (fun r' hbz hrec'=>?_)
  repeat' (first|(refine Za (.func 162) ?_;refine qC rfl rfl (kwrite _ b k1 D1 y.1 y.2 hm64 hD1) ?_;rintro v ρ' L' hle ⟨rfl,rfl,k2,hD2,rfl⟩<;>(try simp only[kA]))|refine zW ?_|intro _)
  by_cases hc:(D1.write (y.1:Int) y.2).2=0
  ·have hcb:((D1.write (y.1:Int) y.2).2 != 0)=false:=by simpa using hc
   have hw2:=hwr.snoc hc
   rw[hcb,hc]
   repeat' (first|refine zW ?_|intro _)
   refine YD [(l,.loop r')] ?_
   refine te_next (Lu:=[[(b2,.cells ⟨[.pointer (some ⟨b,0,none⟩)]⟩ 26 (0,0))],[(b4,.cells ⟨[.int .i64 0]⟩ 27 (0,0))]]++Zt b k2 (D1.write (y.1:Int) y.2).1) rfl (Hp.le_refl _) ⟨hrec'.tmps.trans hrec.tmps,hrec'.params.trans hrec.params,hrec'.assign.trans hrec.assign,hrec'.body.trans hrec.body⟩ tk tk inferInstance ?_
   exact⟨_,k2,hl2,hw2,hD2,rfl⟩
  ·have hcb:((D1.write (y.1:Int) y.2).2 != 0)=true:=by simpa using hc
   have hst:=hwr.stop hpre hc
   rw[hcb]
   repeat' (first|refine zW ?_|intro _)
   refine YD [(l,.loop r')] ?_
   refine te_leave (Lu:=[[(b2,.cells ⟨[.pointer (some ⟨b,0,none⟩)]⟩ 26 (0,0))],[(b4,.cells ⟨[.int .i64 (D1.write (y.1:Int) y.2).2]⟩ 27 (0,0))]]++Zt b k2 (D1.write (y.1:Int) y.2).1) rfl rfl (Hp.le_refl _) ⟨hrec'.tmps.trans hrec.tmps,hrec'.params.trans hrec.params,hrec'.assign.trans hrec.assign,hrec'.body.trans hrec.body⟩ tk tk inferInstance ?_
   exact⟨rfl,_,k2,_,hl2,hc,hst,hD2,rfl⟩
 case done=>
  rintro D0 ρ1 Lu hl1 ⟨D1,k1,hl2,hwr,hD1,rfl⟩
  simp only[kA]
  have hlay:=hwr.lays []
  rw[List.append_nil,DS.lays] at hlay
  rw[hlay]
  repeat' (first|(refine Za (.func 163) ?_;refine qC rfl rfl (ksync _ b k1 D1 hD1) ?_;rintro v ρ' L' hle ⟨rfl,hl3,k2,hD2,rfl⟩<;>(try simp only[kA]))|refine zW ?_|intro _)
  refine YD [(D0,.deferred (some []))] ?_
  exact WU rfl rfl rfl inferInstance (res1 rfl (ZA rfl rfl)) (Hp.le_trans hl2 hl3) tk (by infer_instance) (L':=S++Zt b k2 D1.sync.1) ⟨rfl,Hp.le_trans hl2 hl3,k2,hD2,rfl⟩
 case stop=>
  rintro D0 c ρ1 Lu hl1 ⟨rfl,D2,k2,e,hl2,he,hlay,hD2,rfl⟩
  simp only[kA]
  have heb:(e != 0)=true:=by simpa using he
  rw[hlay]
  repeat' (first|refine zW ?_|intro _)
  refine YD [(D0,.deferred (some []))] ?_
  exact WU rfl rfl rfl inferInstance (res1 rfl (ZA rfl rfl)) hl2 tk (by infer_instance) (L':=S++Zt b k2 D2) ⟨rfl,hl2,k2,hD2,rfl⟩
end Go.Proofs.E
namespace Go.Proofs.E
open Go
set_option linter.unusedVariables false
set_option linter.unusedSimpArgs false
set_option linter.unusedSectionVars false
set_option maxRecDepth 4000
set_option maxHeartbeats 1000000
attribute [local irreducible] Yl TL TC TE Spec ZI R1 Hp.le EnvLe TS TR YS Zp TP QP
theorem laid_iter (ρ0:Hp)(hb:Nat)(h:Hd)(na:Option Addr)(nn nc:Nat)(hn:SIn ρ0 Zo na nn h.note)(ht:h.turn<4294967296)(hf:h.first≤1099511627776)(hs:h.size<65536)(hp:h.place<65536)(hnl:nn≤32) :
  Iter Tryz.prog 164 [] [.pointer (some ⟨hb,0,none⟩)] pencV ρ0 [[(hb,.cells ⟨hdV h na nn nc⟩ 160 (0,0))]] (Yo h):=by
 intro l J Jx hY ρ Lj hl0 hJ
 have hy:=fun ρ Lj h1 h2=>hY [] (h.turn % 2,Xy h) ρ Lj (List.prefix_refl _) h1 h2
 have hrm:(h.turn:Int).tmod 2=((h.turn % 2:Nat):Int):=by rw[Int.tmod_eq_emod_of_nonneg (by omega)];rfl
 have hrm1:0≤(h.turn:Int).tmod 2:=by rw[hrm];omega
 have hrm2:(h.turn:Int).tmod 2<2:=by rw[hrm];omega
 refine Zb Tryz.func164 rfl rfl rfl fun u R=>?_
 simp only[Zd,kA,List.append_assoc]
 refine tpA [0,1,2,3,4,5] (.e 6 [] (.e 7 [] .o)) ([[(hb,.cells ⟨hdV h na nn nc⟩ 160 (0,0))]]) ?_
 repeat' (refine iT ?_;first|refine rA ?_|((refine iE ?_;refine rE ?_)<;>((try refine Zn ?_);(first|(refine Za (.func 165) ?_;refine qC rfl rfl (hblock_spec _ h na nn nc (hn.mono hl0) ht hf hs hp hnl) ?_;rintro v6 ρ6 L6 hle6 ⟨rfl,rfl,rfl⟩;simp only[kA,hrm])|(refine Za (.tmp 3) ?_;refine qY rfl rfl ((hy _ _ hl0 hJ)) ?_;rintro v ρ' L' hle ⟨Lj',rfl,⟨rfl,hj'⟩|⟨rfl,hj'⟩⟩<;>(try simp only[kA]))|(refine Yj ?_;try intro _))<;>((try simp only[kA]);refine Zj ?_;refine rN ?_))))
 all_goals (repeat' (first|refine zW ?_|intro _))
 ·exact qE (L':=[[(hb,.cells ⟨hdV h na nn nc⟩ 160 (0,0))]]++Lj') ⟨Lj',rfl,.inl hj'⟩
 ·exact qE (L':=[[(hb,.cells ⟨hdV h na nn nc⟩ 160 (0,0))]]++Lj') ⟨Lj',rfl,.inr hj'⟩
theorem laid_spec (ρ:Hp)(h:Hd)(na:Option Addr)(nn nc:Nat)(hn:SIn ρ Zo na nn h.note)(ht:h.turn<4294967296)(hf:h.first≤1099511627776)(hs:h.size<65536)(hp:h.place<65536)(hnl:nn≤32)(b:Nat)(k:DK)(D:DS)(hD:DOk k D) :
  Spec Tryz.prog 76 [.agg ⟨hdV h na nn nc⟩,.pointer (some ⟨b,0,none⟩)] ρ (Zt b k D) (fun v ρ' L'=>v=.int .i64 (DS.lays (Yo h) D).2∧ρ.le ρ'∧∃k',DOk k' (DS.lays (Yo h) D).1∧L'=Zt b k' (DS.lays (Yo h) D).1):=by
 refine Zb Tryz.func76 rfl rfl rfl fun u R=>?_
 simp only[Zd,kA]
 repeat' (first|refine zW ?_|intro _)
 rename_i hb
 repeat' (first|(refine Za (.func 74) ?_;refine qC rfl rfl (lays_spec ρ ρ 164 [.pointer (some ⟨hb,0,none⟩)] [[(hb,.cells ⟨hdV h na nn nc⟩ 160 (0,0))]] (Yo h) (Hp.le_refl _) (laid_iter ρ hb h na nn nc hn ht hf hs hp hnl) (fun p hp=>by rw[List.mem_singleton.1 hp];exact headB_len h) b k D hD) ?_;rintro v ρ' L' hle ⟨rfl,hl1,k',hD',rfl⟩<;>(try simp only[kA]))|refine zW ?_|intro _)
 exact qE ⟨rfl,hl1,k',hD',rfl⟩
theorem noughtsL_at {n k:Nat}(hk:k<(ZN n).length):(ZN n)[k]=(k,zblk):=by simp[ZN]
theorem noughtsL_len {n:Nat}:(ZN n).length=n+2:=by simp[ZN]
theorem noughts_iter (ρ0:Hp)(sb n:Nat)(hn:n≤1000000):Iter Tryz.prog 75 [] [.pointer (some ⟨sb,0,none⟩)] pencV ρ0 [[(sb,.cells ⟨[.int .i64 n]⟩ 3 (0,0))]] (ZN n):=by
 intro l J Jx hY ρ Lj hl0 hJ
 have hlen:=noughtsL_len (n:=n)
 refine Zb Tryz.func75 rfl rfl rfl fun u R=>?_
 simp only[Zd,kA,List.append_assoc]
 repeat' (first|refine zW ?_|intro _)
 refine Zi [(0,_),(1,_)] (fun (ζ:(Nat)×(Hp)×(SH))=>[(3,.int .i64 ζ.1)]) (fun (ζ:(Nat)×(Hp)×(SH))=>ζ.2.1) (fun (ζ:(Nat)×(Hp)×(SH))=>[[(sb,.cells ⟨[.int .i64 n]⟩ 3 (0,0))]]++ζ.2.2) (fun (ζ:(Nat)×(Hp)×(SH))=>ζ.1≤n+2∧ρ.le ζ.2.1∧J ((ZN n).take ζ.1) ζ.2.1 ζ.2.2) (fun (ζ:(Nat)×(Hp)×(SH))=>n+2-ζ.1) ((0,ρ,Lj)) (⟨Nat.zero_le _,Hp.le_refl _,hJ⟩) Zc Zc rfl tk ?_
 rintro⟨k,ρ1,L1⟩ hI
 try simp only[kA,List.append_assoc] at hI ⊢
 try dsimp only at hI ⊢
 obtain⟨hk,hle1,hj⟩:=hI
 by_cases hlt:k<n+2
 ·have hk2:k<(ZN n).length:=by omega
  have hpre:=take_succ_pre (ZN n) k hk2
  rw[noughtsL_at] at hpre
  have hts:=List.take_succ_eq_append_getElem hk2
  rw[noughtsL_at] at hts
  have hy:=hY _ _ ρ1 L1 hpre (Hp.le_trans hl0 hle1) hj
  repeat' (first|(simp only[Value.cells,zblk_cells];refine Za (.tmp 9) ?_;refine qY rfl rfl hy ?_;rintro v ρ' L' hle ⟨Lj',rfl,⟨rfl,hj'⟩|⟨rfl,hj'⟩⟩<;>(try simp only[kA]))|refine zW ?_|intro _)
  ·refine Ze (k+1,ρ',Lj') (⟨hlt,Hp.le_trans hle1 hle,by dsimp only;rw[hts];exact hj'⟩) Zc Zc rfl tk inferInstance (by first|omega|(dsimp only;omega))
  ·exact qE (L':=[[(sb,.cells ⟨[.int .i64 n]⟩ 3 (0,0))]]++Lj') ⟨Lj',rfl,.inr hj'⟩
 ·have hk2:k=n+2:=by omega
  subst hk2
  rw[List.take_of_length_le (by omega)] at hj
  repeat' (first|refine zW ?_|intro _)
  exact qE (L':=[[(sb,.cells ⟨[.int .i64 n]⟩ 3 (0,0))]]++L1) ⟨L1,rfl,.inl hj⟩
theorem klen (ρ:Hp)(b:Nat)(k:DK)(D:DS):Spec Tryz.prog 73 [.pointer (some ⟨b,0,none⟩)] ρ (Zt b k D) (fun v ρ' L'=>v=.int .i64 (D.secs.length:Nat)∧ρ'=ρ∧L'=Zt b k D):=len_disk ρ b k.hb k.mb k.es k.ck D
structure BSl where
 a:Option Addr
 n:Nat
 c:Nat
 l:Bs
abbrev slv (e:BSl):Value:=.slice e.a e.n e.c
structure BIn (ρ:Hp)(e:BSl):Prop where
 s:SIn ρ Zo e.a e.n e.l
 le:e.n≤e.c
theorem BIn.mono {ρ ρ':Hp}{e:BSl}(h:BIn ρ e)(hle:ρ.le ρ'):BIn ρ' e:=⟨h.s.mono hle,h.le⟩
structure RW where
 na:Option Addr
 nn:Nat
 nc:Nat
 ev:Value
 els:List BSl
 sp:List Value
abbrev rgV (R:RgS)(db:Nat)(w:RW):List Value:=[.int .u64 R.h.turn,.int .u64 R.h.first,.int .i64 R.h.size,.int .i64 R.h.place,.slice w.na w.nn w.nc,.pointer (some ⟨db,0,none⟩),w.ev,.int .i64 R.used,.bool R.broken]
abbrev ZT (rb db:Nat)(R:RgS)(w:RW):SH:=[[(rb,.cells ⟨rgV R db w⟩ 163 (0,0))],Zz w.ev (w.els.map slv) w.sp 22]
structure RIn (ρ:Hp)(R:RgS)(w:RW):Prop where
 ok:R.Ok
 note:SIn ρ Zo w.na w.nn R.h.note
 nle:w.nn≤w.nc
 own:OwnS w.ev w.els.length (w.els.map slv) w.sp 1
 ents:R.ents=w.els.map BSl.l
 els:∀e∈w.els,BIn ρ e
theorem RIn.mono {ρ ρ':Hp}{R:RgS}{w:RW}(h:RIn ρ R w)(hle:ρ.le ρ'):RIn ρ' R w:=⟨h.ok,h.note.mono hle,h.nle,h.own,h.ents,fun e he=>(h.els e he).mono hle⟩
theorem RIn.len {ρ:Hp}{R:RgS}{w:RW}(h:RIn ρ R w):w.els.length=R.ents.length:=by rw[h.ents];simp
theorem slv_one (l:List BSl):(l.map slv).all (·.oneCell')=true:=by
 rw[List.all_eq_true];intro v hv;obtain⟨b,_,rfl⟩:=List.mem_map.1 hv;rfl
theorem works_spec (ρ:Hp)(rb db:Nat)(R:RgS)(w:RW):Spec Tryz.prog 82 [.pointer (some ⟨rb,0,none⟩)] ρ [[(rb,.cells ⟨rgV R db w⟩ 163 (0,0))]] (fun v ρ' L'=>v=.int .i64 (if R.broken then 8 else 0)∧ρ'=ρ∧L'=[[(rb,.cells ⟨rgV R db w⟩ 163 (0,0))]]):=by
 obtain⟨h,ents,used,broken⟩:=R
 refine Zb Tryz.func82 rfl rfl rfl fun u R=>?_
 simp only[Zd,kA]
 cases broken
 all_goals (repeat' (first|refine zW ?_|intro _))
 all_goals exact qE ⟨rfl,rfl,rfl⟩
theorem next_spec (ρ:Hp)(rb db:Nat)(R:RgS)(w:RW)(h:RIn ρ R w):Spec Tryz.prog 84 [.pointer (some ⟨rb,0,none⟩)] ρ [[(rb,.cells ⟨rgV R db w⟩ 163 (0,0))]] (fun v ρ' L'=>v=.int .u64 (R.next:Nat)∧ρ'=ρ∧L'=[[(rb,.cells ⟨rgV R db w⟩ 163 (0,0))]]):=by
 have hl:=h.len
 have hnx:=h.ok.next
 have e:(R.h.first:Int)+(w.els.length:Int)=(R.next:Int):=by unfold RgS.next;omega
 obtain⟨a,cap,hev,_⟩:=h.own.len
 obtain⟨na,nn,nc,ev,els,sp⟩:=w
 dsimp only at hev hl e
 subst hev
 refine Zb Tryz.func84 rfl rfl rfl fun u R0=>?_
 simp only[Zd,kA]
 repeat' (first|refine zW ?_|intro _)
 refine tpZ [0] (.f [1,2,3,4,5,6,7,8,9,10,11,12] .o) ?_
 repeat' (refine iT ?_;first|refine rA ?_)
 all_goals (repeat' (first|refine zW ?_|intro _))
 rw[e]
 exact qE ⟨rfl,rfl,rfl⟩
theorem sects_nat (ρ:Hp)(n:Nat)(hn:n≤1000000):Spec Tryz.prog 83 [.int .i64 n] ρ [] (fun v ρ' L'=>v=.int .i64 (ZD n:Nat)∧ρ'=ρ∧L'=[]):=sects_spec ρ n (by omega)
theorem RIn.adds {ρ:Hp}{R:RgS}{w:RW}(h:RIn ρ R w){e:BSl}(he:BIn ρ e)(hel:e.n≤8000)(hfit:R.used+ZD e.n≤R.h.size)(hn:R.next<1099511627776){v:Value}{sp:List Value}(ho:OwnS v (w.els.length+1) ((w.els++[e]).map slv) sp 1) :
  RIn ρ (R.adds e.l) ⟨w.na,w.nn,w.nc,v,w.els++[e],sp⟩:=by
 have hel2:=he.s.len
 have hok:=h.ok
 refine⟨⟨hok.turn,hok.size,hok.first, ?_,hok.place,hok.note, ?_, ?_, ?_⟩,h.note,h.nle,by simpa using ho, ?_, ?_⟩
 ·simp only[RgS.adds,RgS.next] at hn ⊢;simp;omega
 ·simp only[RgS.adds,usedL_append,hok.used];simp[Yy]
 ·simp only[RgS.adds];rw[hel2];exact hfit
 ·intro b hb
  simp only[RgS.adds,List.mem_append,List.mem_singleton] at hb
  rcases hb with hb|rfl
  ·exact hok.long b hb
  ·omega
 ·simp[RgS.adds,h.ents]
 ·intro x hx
  rcases List.mem_append.1 hx with hx|hx
  ·exact h.els x hx
  ·rw[List.mem_singleton.1 hx];exact he
theorem adds_spec (ρ:Hp)(rb db:Nat)(R:RgS)(w:RW)(h:RIn ρ R w)(e:BSl)(he:BIn ρ e)(hel:e.n≤8000)(hfit:R.used+ZD e.n≤R.h.size)(hn:R.next<1099511627776) :
  Spec Tryz.prog 86 [.pointer (some ⟨rb,0,none⟩),slv e] ρ (ZT rb db R w) (fun v ρ' L'=>v=.tuple ⟨[]⟩∧ρ'=ρ∧∃ev' sp',RIn ρ (R.adds e.l) ⟨w.na,w.nn,w.nc,ev',w.els++[e],sp'⟩∧L'=ZT rb db (R.adds e.l) ⟨w.na,w.nn,w.nc,ev',w.els++[e],sp'⟩):=by
 have hsz:=h.ok.size
 have hlen:=h.len
 have hul:=usedL_len R.ents
 have hus:=h.ok.used
 have hel2:=he.s.len
 have hown:=h.own
 obtain⟨hd,ents,used,broken⟩:=R
 obtain⟨na,nn,nc,ev,els,sp⟩:=w
 dsimp only at hsz hlen hul hus hown hfit ⊢
 have hmap:els.map slv++[slv e]=(els++[e]).map slv:=by simp
 have hus2:(used:Int)+(ZD e.n:Int)=((used+ZD e.l.length:Nat):Int):=by rw[hel2];omega
 refine Zb Tryz.func86 rfl rfl rfl fun u R0=>?_
 simp only[Zd,kA]
 repeat' (first|(refine Zm rfl rfl rfl rfl (by simp) rfl rfl (fun _=>?_))|(refine ZK (ys:=[slv e]) (m:=1) (sz:=1) rfl rfl hown (hR:=by infer_instance) SrcV.lit rfl rfl (by decide) rfl (by omega) (by omega) rfl (fun v2 sp2 hown2=>?_);obtain⟨a2,cap2,rfl,hc2⟩:=hown2.slice;rw[hmap] at hown2 ⊢)|(refine Za (.func 83) ?_;refine qR rfl rfl (sects_nat _ e.n (by omega)) ?_;try simp only[kA])|refine zW ?_|intro _)
 refine tpA [0,1,2,4,5] (.b 3 6 [] [] (.e 6 [7,8,9] (.e 10 [] .o)) (.e 3 [7,8,9] (.e 10 [] .o))) ([]) ?_
 repeat' (refine iT ?_;first|refine rA ?_|((first|(refine iE ?_;refine rE ?_)|(refine iB ?_;refine rB ?_ ?_))<;>((try refine Zn ?_);(first|(refine Za (.func 83) ?_;refine qR rfl rfl (sects_nat _ e.n (by omega)) ?_;try simp only[kA])|(refine i_qq ?_;refine qQ ?_)|(refine Yj ?_;try intro _))<;>((try simp only[kA]);refine Zj ?_;refine rN ?_))))
 all_goals rw[hus2]
 all_goals exact qE (L':=[[(rb,_)],Zz _ _ _ _]) ⟨rfl,rfl,_,sp2,h.adds he hel hfit hn hown2,rfl⟩
theorem Rd.ofNone {ρ:Hp}{X:SH}{n:Nat}{l:Bs}(h:Rd ρ X none n l):l=[]∧n=0:=by
 have hl:=h.len
 have:=h.src ⟨Option.none,Tryz.prog,default,[],0⟩ ρ X [] (Hp.le_refl _) ⟨by simp⟩
 rcases this with h|⟨b,off,h,_⟩
 ·have:l=[]:=by simpa using h
  subst this;exact⟨rfl,by simpa using hl.symm⟩
 ·cases h
theorem Vh (ρ:Hp)(X:SH)(a:Option Addr)(n c:Nat)(b:Bs)(h:Rd ρ X a n b)(hn:n≤1000000) :
  Spec Tryz.prog 87 [.slice a n c] ρ X (fun v ρ' L'=>ρ.le ρ'∧∃e:BSl,v=slv e∧BIn ρ' e∧e.l=b∧e.n=n∧L'=X):=by
 have hl:=h.len
 cases a with
 | none=>
  obtain⟨rfl,rfl⟩:=h.ofNone
  refine Zb Tryz.func87 rfl rfl rfl fun u R=>?_
  simp only[Zd,kA]
  repeat' (first|refine zW ?_|intro _)
  exact qE ⟨Hp.le_refl _,⟨none,0,0,[]⟩,rfl,⟨SIn.nil,Nat.le_refl _⟩,rfl,rfl,rfl⟩
 | some ad=>
  refine Zb Tryz.func87 rfl rfl rfl fun u R=>?_
  simp only[Zd,kA]
  repeat' (first|refine zW ?_|intro _)
  rename_i bx
  refine ZK (n:=0) (xs:=[]) (sp:=[]) (ys:=b.map Zo) (sz:=1) rfl rfl (OwnS.zero _ 1) (hR:=Zq) (h.src _ _ _ _ (Hp.le_refl _) tk) (by simpa using hl) (Yn b) (by decide) rfl (by omega) (by omega) rfl (fun v' sp' hown'=>?_)
  simp only[Nat.zero_add,List.nil_append] at hown' ⊢
  repeat' (first|refine zW ?_|intro _)
  refine ZM _ (h:=Rem.here) (fun ρ6 hle6 hfz=>?_)
  obtain⟨a6,c6,rfl,hc6,hs6⟩:=hown'.sIn hfz
  exact qE ⟨hle6,⟨a6,n,c6,b⟩,rfl,⟨hs6,hc6⟩,rfl,rfl,rfl⟩
theorem partsL_len {h:Hd}{n at':Nat}{b:Bs}:∀p∈Yu h n b at',p.2.length=64:=fun p hp=>by
 simp only[Yu,List.mem_map] at hp
 obtain⟨k,_,rfl⟩:=hp
 exact partB_len _ _ _ _
theorem partsF_spec (ρ:Hp)(h:Hd)(na:Option Addr)(nn nc n:Nat)(a:Option Addr)(bn c at':Nat) :
  Spec Tryz.prog 85 [.agg ⟨hdV h na nn nc⟩,.int .u64 n,.slice a bn c,.int .i64 at'] ρ [] (fun v ρ' L'=>ρ'=ρ∧∃bb ab hb nb,v=.func (.func 168) ⟨[]⟩ ⟨[.pointer (some ⟨bb,0,none⟩),.pointer (some ⟨ab,0,none⟩),.pointer (some ⟨hb,0,none⟩),.pointer (some ⟨nb,0,none⟩)]⟩∧L'=partsS bb ab hb nb a bn c at' h na nn nc n):=by
 refine Zb Tryz.func85 rfl rfl rfl fun u R=>?_
 simp only[Zd,kA]
 repeat' (first|refine zW ?_|intro _)
 rename_i hb nb bb ab
 exact qE (L':=partsS bb ab hb nb a bn c at' h na nn nc n) ⟨rfl,bb,ab,hb,nb,rfl,rfl⟩
theorem RIn.broken {ρ:Hp}{R:RgS}{w:RW}(h:RIn ρ R w)(b:Bool):RIn ρ { R with broken:=b } w:=⟨⟨h.ok.turn,h.ok.size,h.ok.first,h.ok.next,h.ok.place,h.ok.note,h.ok.used,h.ok.fit,h.ok.long⟩,h.note,h.nle,h.own,h.ents,h.els⟩
theorem append_spec (ρ:Hp)(rb db:Nat)(R:RgS)(w:RW)(h:RIn ρ R w)(k:DK)(D:DS)(hD:DOk k D)(X:SH)(a:Option Addr)(n c:Nat)(b:Bs)(hb:Rd ρ X a n b)(hc:n≤c)(hbig:n≤1000000) :
  Spec Tryz.prog 16 [.pointer (some ⟨rb,0,none⟩),.slice a n c] ρ (ZT rb db R w++(Zt db k D++X))
   (fun v ρ' L'=>v=.int .i64 (R.append b D).2.2∧ρ.le ρ'∧∃k' w',DOk k' (R.append b D).2.1∧RIn ρ' (R.append b D).1 w'∧L'=ZT rb db (R.append b D).1 w'++(Zt db k' (R.append b D).2.1++X)):=by
 have hl:=hb.len
 have hok:=h.ok
 have hsz:=h.ok.size
 have hft:=h.ok.fit
 have hfs:=h.ok.first
 have hnx:=h.ok.next
 have hpl:=h.ok.place
 have htu:=h.ok.turn
 have hsc:=WM n
 cases hbr:R.broken with
 | true=>
  have he:R.append b D=(R,D,8):=by simp[RgS.append,hbr]
  rw[he]
  have hw8:=works_spec ρ rb db R w
  rw[hbr] at hw8
  simp only[if_true] at hw8
  refine Zb Tryz.func16 rfl rfl rfl fun u R0=>?_
  simp only[Zd,kA,List.append_assoc]
  repeat' (first|(refine Za (.func 82) ?_;refine qR rfl rfl (hw8) ?_;try simp only[kA])|refine zW ?_|intro _)
  exact qE (L':=ZT rb db R w++(Zt db k D++X)) ⟨rfl,Hp.le_refl _,k,w,hD,h,rfl⟩
 | false=>
  have hw0:=works_spec ρ rb db R w
  rw[hbr] at hw0
  simp only[Bool.false_eq_true,if_false] at hw0
  by_cases hlong:8000<n
  ·have he:R.append b D=(R,D,3):=by simp[RgS.append,hbr,hl,hlong]
   rw[he]
   refine Zb Tryz.func16 rfl rfl rfl fun u R0=>?_
   simp only[Zd,kA,List.append_assoc]
   repeat' (first|(refine Za (.func 82) ?_;refine qR rfl rfl (hw0) ?_;try simp only[kA])|refine zW ?_|intro _)
   exact qE (L':=ZT rb db R w++(Zt db k D++X)) ⟨rfl,Hp.le_refl _,k,w,hD,h,rfl⟩
  ·have hnext:=next_spec ρ rb db R w h
   by_cases hfull:R.h.size-R.used<ZD n
   ·have he:R.append b D=(R,D,6):=by simp[RgS.append,hbr,hl,hlong,hfull]
    rw[he]
    refine Zb Tryz.func16 rfl rfl rfl fun u R0=>?_
    simp only[Zd,kA,List.append_assoc]
    repeat' (first|(refine Za (.func 82) ?_;refine qR rfl rfl (hw0) ?_;try simp only[kA])|refine zW ?_|intro _)
    refine tpA [0,1,3,4,5,6,7,8,9,10,11,12] (.e 2 [13,14,15] (.e 16 [] (.f [17,18,19] .o))) ([[(rb,.cells ⟨rgV R db w⟩ 163 (0,0))]]) ?_
    repeat' (refine iT ?_;first|refine rA ?_|((refine iE ?_;refine rE ?_)<;>((try refine Zn ?_);(first|(refine Za (.func 83) ?_;refine qR rfl rfl (sects_nat _ n (by omega)) ?_;try simp only[kA])|(refine Yj ?_;try intro _))<;>((try simp only[kA]);refine Zj ?_;refine rN ?_))))
    all_goals (repeat' (first|refine zW ?_|intro _))
    all_goals exact qE (L':=ZT rb db R w++(Zt db k D++X)) ⟨rfl,Hp.le_refl _,k,w,hD,h,rfl⟩
   ·by_cases hmax:1099511627776≤R.next
    ·have he:R.append b D=(R,D,6):=by simp[RgS.append,hbr,hl,hlong,hfull,hmax]
     rw[he]
     refine Zb Tryz.func16 rfl rfl rfl fun u R0=>?_
     simp only[Zd,kA,List.append_assoc]
     repeat' (first|(refine Za (.func 82) ?_;refine qR rfl rfl (hw0) ?_;try simp only[kA])|refine zW ?_|intro _)
     refine tpA [0,1,3,4,5,6,7,8,9,10,11,12] (.e 2 [13,14,15] (.e 16 [] (.f [17,18,19] .o))) ([[(rb,.cells ⟨rgV R db w⟩ 163 (0,0))]]) ?_
     repeat' (refine iT ?_;first|refine rA ?_|((refine iE ?_;refine rE ?_)<;>((try refine Zn ?_);(first|(refine Za (.func 83) ?_;refine qR rfl rfl (sects_nat _ n (by omega)) ?_;try simp only[kA])|(refine Za (.func 84) ?_;refine qR rfl rfl (hnext) ?_;try simp only[kA])|(refine Yj ?_;try intro _))<;>((try simp only[kA]);refine Zj ?_;refine rN ?_))))
     all_goals (repeat' (first|refine zW ?_|intro _))
     all_goals exact qE (L':=ZT rb db R w++(Zt db k D++X)) ⟨rfl,Hp.le_refl _,k,w,hD,h,rfl⟩
    ·have hpu:(R.h.place:Int)+(R.used:Int)=((R.h.place+R.used:Nat):Int):=by omega
     have hit:=fun bb ab hb2 nb=>parts_iter ρ X bb ab hb2 nb a n c (R.h.place+R.used) b R.h w.na w.nn w.nc R.next hb hc (by omega) hnx (by omega) (by omega) (by omega) (by omega)
     have hsome:R.append b D=if (DS.lays (Yu R.h R.next b (R.h.place+R.used)) D).2=0 then (⟨R.h,R.ents++[b],R.used+ZD b.length,false⟩,DS.lays (Yu R.h R.next b (R.h.place+R.used)) D) else ({ R with broken:=true },DS.lays (Yu R.h R.next b (R.h.place+R.used)) D):=by
      unfold RgS.append
      rw[hbr,hl,if_neg (by simp),if_neg (by omega),if_neg (by omega)]
     refine Zb Tryz.func16 rfl rfl rfl fun u R0=>?_
     simp only[Zd,kA,List.append_assoc]
     repeat' (first|(refine Za (.func 82) ?_;refine qR rfl rfl (hw0) ?_;try simp only[kA])|refine zW ?_|intro _)
     refine tpA [0,1,3,4,5,6,7,8,9,10,11,12] (.e 2 [13,14,15] (.e 16 [] (.f [17,18,19] .o))) ([[(rb,.cells ⟨rgV R db w⟩ 163 (0,0))]]) ?_
     repeat' (refine iT ?_;first|refine rA ?_|((refine iE ?_;refine rE ?_)<;>((try refine Zn ?_);(first|(refine Za (.func 83) ?_;refine qR rfl rfl (sects_nat _ n (by omega)) ?_;try simp only[kA])|(refine Za (.func 84) ?_;refine qR rfl rfl (hnext) ?_;try simp only[kA])|(refine Yj ?_;try intro _))<;>((try simp only[kA]);refine Zj ?_;refine rN ?_))))
     all_goals (repeat' (first|refine zW ?_|intro _))
     refine tpA [0,1,2,3,4,5,6,7,8,10,11,12,13,14,15,16,17,18,19,20] (.e 9 [] (.e 21 [] (.e 22 [] (.f [23] .o)))) ([[(rb,.cells ⟨rgV R db w⟩ 163 (0,0))]]) ?_
     repeat' (refine iT ?_;first|refine rA ?_|((refine iE ?_;refine rE ?_)<;>((try refine Zn ?_);(first|(refine Za (.func 84) ?_;refine qR rfl rfl (hnext) ?_;try simp only[kA,hpu])|(refine Za (.func 85) ?_;refine qC rfl rfl (partsF_spec _ R.h w.na w.nn w.nc R.next a n c (R.h.place+R.used)) ?_;rintro v ρ' L' hle ⟨rfl,bb,ab,hb2,nb,rfl,rfl⟩<;>(try simp only[kA]))|(refine Za (.func 74) ?_;refine qC rfl rfl (lays_spec _ _ _ _ _ _ (Hp.le_refl _) (hit bb ab hb2 nb) partsL_len db k D hD) ?_;rintro v6 ρ6 L6 hle6 ⟨rfl,hl6,k6,hD6,rfl⟩;simp only[kA,List.append_assoc])|(refine Yj ?_;try intro _))<;>((try simp only[kA]);refine Zj ?_;refine rN ?_))))
     all_goals (repeat' (first|refine zW ?_|intro _))
     have hlm:=h.mono hl6
     have hbm:=hb.mono hl6
     rw[hsome]
     generalize DS.lays (Yu R.h R.next b (R.h.place+R.used)) D=r at *
     obtain⟨D',ec⟩:=r
     dsimp only at hD6 ⊢
     by_cases hz:ec=0
     ·subst hz
      rw[show ((0:Int) != 0)=false from rfl,if_pos rfl]
      repeat' (first|(refine Za (.func 87) ?_;refine qC rfl rfl (Vh _ X a n c b hbm hbig) ?_;rintro v7 ρ7 L7 hle7 ⟨hl7,e,rfl,he,hel,hen,rfl⟩;subst hel;simp only[kA])|(refine Za (.func 86) ?_;refine qC rfl rfl (adds_spec _ rb db { R with broken:=false } w ((hlm.mono hl7).broken false) e he (by omega) (by rw[hen];dsimp only;omega) (by have:RgS.next { R with broken:=false }=R.next:=rfl;omega)) ?_;rintro v8 ρ8 L8 hle8 ⟨rfl,rfl,ev8,sp8,hin8,rfl⟩;simp only[kA])|refine zW ?_|intro _)
      exact qE (L':=ZT rb db (RgS.adds { R with broken:=false } e.l) ⟨w.na,w.nn,w.nc,ev8,w.els++[e],sp8⟩++(Zt db k6 D'++_)) ⟨rfl,Hp.le_trans hl6 hl7,k6,_,hD6,hin8,rfl⟩
     ·have hcb:(ec != 0)=true:=by simpa using hz
      rw[hcb,if_neg hz]
      repeat' (first|refine zW ?_|intro _)
      exact qE (L':=ZT rb db { R with broken:=true } w++(Zt db k6 D'++X)) ⟨rfl,hl6,k6,w,hD6,hlm.broken true,rfl⟩
end Go.Proofs.E
namespace Go.Proofs.E
open Go
set_option linter.unusedVariables false
set_option linter.unusedSimpArgs false
set_option linter.unusedSectionVars false
set_option maxRecDepth 4000
set_option maxHeartbeats 1000000
attribute [local irreducible] Yl TL TC TE Spec ZI R1 Hp.le EnvLe TS TR YS Zp
theorem mod_inj {p m i j:Nat}(h:(p+i) % m=(p+j) % m)(hi:i<m)(hj:j<m):i=j:=by
 have key:∀i j:Nat,i<m→j<m→i≤j→(p+i) % m=(p+j) % m→i=j:=by
  intro i j hi hj hle h
  have h1:=Nat.div_add_mod (p+i) m
  have h2:=Nat.div_add_mod (p+j) m
  have h3:m*((p+j) / m)=m*((p+i) / m)+(j-i):=by omega
  have h4:(j-i)=m*((p+j) / m-(p+i) / m):=by rw[Nat.mul_sub];omega
  rcases Nat.eq_zero_or_pos ((p+j) / m-(p+i) / m) with h0|h0
  ·rw[h0] at h4;omega
  ·have:m*1≤m*((p+j) / m-(p+i) / m):=Nat.mul_le_mul_left m h0
   omega
 rcases Nat.le_total i j with hle|hle
 ·exact key i j hi hj hle h
 ·exact (key j i hj hi hle h.symm).symm
theorem partsL_mem {h:Hd}{n at':Nat}{b:Bs}{p:Nat×Blk}:p∈Yu h n b at'↔∃k,k<ZD b.length∧p=(2+(at'+k) % h.size,Yp h.turn n b k):=by
 simp only[Yu,List.mem_map,List.mem_range]
 constructor
 ·rintro⟨k,h1,rfl⟩;exact⟨k,h1,rfl⟩
 ·rintro⟨k,h1,rfl⟩;exact⟨k,h1,rfl⟩
def RgS.plus (R:RgS)(b:Bs):RgS:=⟨R.h,R.ents++[b],R.used+ZD b.length,false⟩
section
variable {R:RgS}{D D':DS}{b:Bs}
structure Wrote (R:RgS)(D D':DS)(b:Bs):Prop where
 ok:D'.Ok
 alive:D'.dead=false
 empty:WZ D'.secs
 len:D'.secs.length=D.secs.length
 at':∀i,img D' i=img D i∨∃k,k<ZD b.length∧i=2+(R.h.place+R.used+k) % R.h.size∧img D' i=Yp R.h.turn R.next b k
theorem Wrote.old (w:Wrote R D D' b)(h:RO R D)(hfit:ZD b.length≤R.h.size-R.used){j:Nat}(hj:j<R.used):img D' (2+(R.h.place+j) % R.h.size)=img D (2+(R.h.place+j) % R.h.size):=by
 rcases w.at' (2+(R.h.place+j) % R.h.size) with h1|⟨k,hk,he,_⟩
 ·exact h1
 ·have:=mod_inj (p:=R.h.place) (i:=j) (j:=R.used+k) (m:=R.h.size) (by rw[←Nat.add_assoc];omega) (by omega) (by omega)
  omega
theorem Wrote.heads (w:Wrote R D D' b){i:Nat}(hi:i<2):img D' i=img D i:=by
 rcases w.at' i with h1|⟨k,hk,he,_⟩
 ·exact h1
 ·omega
theorem Wrote.bound (w:Wrote R D D' b)(h:RO R D)(hn:R.next<1099511627776){q:Nat}(hq:q<R.h.size):YE (img D' (2+q))≤R.h.turn∧numOf (img D' (2+q))≤R.next:=by
 have ht:=h.ok.turn
 rcases w.at' (2+q) with h1|⟨k,hk,_,he⟩
 ·rw[h1];exact h.bound q hq
 ·rw[he,partB_turn (by omega),partB_num hn];omega
theorem Wrote.whole (w:Wrote R D D' b)(h:RO R D)(hb:b.length≤8000)(hfit:ZD b.length≤R.h.size-R.used)(hn:R.next<1099511627776)
  (hall:∀k,k<ZD b.length→img D' (2+(R.h.place+R.used+k) % R.h.size)=Yp R.h.turn R.next b k):RO (R.plus b) D'∧Frs (R.plus b) D':=by
 have ht:=h.ok.turn
 have hnx:(R.plus b).next=R.next+1:=by simp[RgS.plus,RgS.next];omega
 have hsz:=h.ok.size
 refine⟨⟨⟨h.ok.turn,h.ok.size,h.ok.first,by rw[hnx];omega,h.ok.place,h.ok.note, ?_, ?_, ?_⟩,rfl,h.num,w.ok,w.alive,w.empty,by rw[w.len];exact h.len, ?_, ?_, ?_, ?_, ?_⟩, ?_⟩
 ·simp only[RgS.plus,usedL_append,h.ok.used];simp[Yy]
 ·have:=h.ok.fit
  simp only[RgS.plus];omega
 ·intro c hc
  simp only[RgS.plus,List.mem_append,List.mem_singleton] at hc
  rcases hc with hc|rfl
  ·exact h.ok.long c hc
  ·exact hb
 ·rw[w.heads (by simp only[RgS.plus];omega)];exact h.head
 ·intro h1
  rw[w.heads (by simp only[RgS.plus];omega)] at h1 ⊢
  exact h.other h1
 ·have hu:=h.ok.used
  refine Has.append (h.has.frame rfl (fun j hj=>w.old h hfit (by rw[hu];exact hj))) ⟨⟨R.h.turn,ht.1,Nat.le_refl _,fun k hk=>?_⟩,trivial⟩
  have:=hall k hk
  rw[hu] at this;exact this
 ·intro hlt t c h1 h2 h3 h4
  rw[hnx] at hlt ⊢
  refine⟨0,by have:=WM c.length;omega,fun he=>?_⟩
  have hb1:=(w.bound h hn (q:=((R.plus b).h.place+(R.plus b).used+0) % (R.plus b).h.size) (Nat.mod_lt _ (by simp only[RgS.plus];omega))).2
  rw[he,partB_num hlt] at hb1
  omega
 ·intro q hq
  have:=w.bound h hn hq
  rw[hnx];simp only[RgS.plus];omega
 ·intro q hq hc
  have:=(w.bound h hn hq).2
  rw[hnx] at hc;omega
theorem Wrote.torn (w:Wrote R D D' b)(h:RO R D)(hf:Frs R D)(hb:b.length≤8000)(hfit:ZD b.length≤R.h.size-R.used)(hn:R.next<1099511627776)
  {k0:Nat} (hk0:k0<ZD b.length) (hne:img D' (2+(R.h.place+R.used+k0) % R.h.size)≠Yp R.h.turn R.next b k0):RO R D':=by
 have ht:=h.ok.turn
 have hsz:=h.ok.size
 refine⟨h.ok,h.live,h.num,w.ok,w.alive,w.empty,by rw[w.len];exact h.len, ?_, ?_, ?_, ?_,fun q hq=>w.bound h hn hq⟩
 ·rw[w.heads (by omega)];exact h.head
 ·intro h1
  rw[w.heads (by omega)] at h1 ⊢
  exact h.other h1
 ·have hu:=h.ok.used
  exact h.has.frame rfl (fun j hj=>w.old h hfit (by rw[hu];exact hj))
 ·intro hlt t c h1 h1' h2 h3
  by_cases hex:∃k,k<ZD c.length∧img D' (2+(R.h.place+R.used+k) % R.h.size)≠Yp t R.next c k
  ·exact hex
  ·exfalso
   have hall:∀k,k<ZD c.length→img D' (2+(R.h.place+R.used+k) % R.h.size)=Yp t R.next c k:=fun k hk=>by
    by_cases he:img D' (2+(R.h.place+R.used+k) % R.h.size)=Yp t R.next c k
    ·exact he
    ·exact absurd ⟨k,hk,he⟩ hex
   by_cases hT:t=R.h.turn
   ·subst hT
    have hnew:∀k,k<ZD c.length→k<ZD b.length∧img D' (2+(R.h.place+R.used+k) % R.h.size)=Yp R.h.turn R.next b k:=fun k hk=>by
     rcases w.at' (2+(R.h.place+R.used+k) % R.h.size) with e|⟨k2,hk2,he,e⟩
     ·exfalso
      have hq:(R.h.place+R.used+k) % R.h.size<R.h.size:=Nat.mod_lt _ (by omega)
      refine hf _ hq ?_
      rw[←e,hall k hk,partB_turn (by omega),partB_num hlt]
      exact⟨rfl,rfl⟩
     ·have:k=k2:=mod_inj (p:=R.h.place+R.used) (m:=R.h.size) (by omega) (by omega) (by omega)
      subst this
      exact⟨hk2,e⟩
    have h0:=WM c.length
    have hsame:=(hall 0 (by omega)).symm.trans (hnew 0 (by omega)).2
    have hlen:c.length=b.length:=by
     have:=congrArg ZE hsame
     rwa [partB_size (by omega),partB_size (by omega)] at this
    exact hne (hnew k0 (by rw[hlen];exact hk0)).2
   ·obtain⟨k,hk,hne2⟩:=h.none hlt t c h1 h1' h2 h3
    refine hne2 ?_
    rcases w.at' (2+(R.h.place+R.used+k) % R.h.size) with e|⟨k2,hk2,he,e⟩
    ·rw[←e];exact hall k hk
    ·exfalso
     have:=(hall k hk).symm.trans e
     have:=congrArg YE this
     rw[partB_turn (by omega),partB_turn (by omega)] at this
     exact hT this
end
theorem RO.wrote {R:RgS}{D D':DS}{b:Bs}{keep:Nat→Bool}{l:List (Nat×Blk)}(h:RO R D)(hl:l <+: Yu R.h R.next b (R.h.place+R.used))(hok:D'.Ok)(hal:D'.dead=false)(hs:D'.secs=settled keep (YR D.secs l)):Wrote R D D' b:=
 ⟨hok,hal,by rw[hs];exact XD,by rw[hs,Yv,YJ],fun i=>by
  rcases WE h.empty hs D rfl i with e|⟨p,hp,h1,h2⟩
  ·exact .inl e
  ·obtain⟨k,hk,rfl⟩:=partsL_mem.1 (hl.subset hp)
   exact .inr ⟨k,hk,h1.symm,h2⟩⟩
theorem RO.append {R:RgS}{D:DS}{b:Bs}(h:RO R D)(hf:Frs R D)(hb:b.length≤8000)(hfit:ZD b.length≤R.h.size-R.used)(hn:R.next<1099511627776) :
  ((DS.lays (Yu R.h R.next b (R.h.place+R.used)) D).2=0→RO (R.plus b) (DS.lays (Yu R.h R.next b (R.h.place+R.used)) D).1∧Frs (R.plus b) (DS.lays (Yu R.h R.next b (R.h.place+R.used)) D).1) ∧
  ((DS.lays (Yu R.h R.next b (R.h.place+R.used)) D).2≠0→∀keep,RO R ((DS.lays (Yu R.h R.next b (R.h.place+R.used)) D).1.crash keep)∨RO (R.plus b) ((DS.lays (Yu R.h R.next b (R.h.place+R.used)) D).1.crash keep)):=by
 have hsz:=h.ok.size
 have hlen:=h.len
 have hok:(DS.lays (Yu R.h R.next b (R.h.place+R.used)) D).1.Ok:=h.dok.lays partsL_len
 have hidx:∀p∈Yu R.h R.next b (R.h.place+R.used),p.1<D.secs.length:=fun p hp=>by
  obtain⟨k,hk,rfl⟩:=partsL_mem.1 hp
  have:=Nat.mod_lt (R.h.place+R.used+k) (show 0<R.h.size by omega)
  dsimp only;omega
 rcases lays_out (Yu R.h R.next b (R.h.place+R.used)) D h.alive hidx with⟨l',hl',hs,hc⟩|⟨hs,hc,hal⟩
 ·refine⟨fun h0=>absurd h0 hc,fun _ keep=>?_⟩
  have w:Wrote R D ((DS.lays (Yu R.h R.next b (R.h.place+R.used)) D).1.crash keep) b:=h.wrote hl' hok.crash rfl (by simp only[DS.crash];rw[hs])
  by_cases hex:∃k,k<ZD b.length∧img ((DS.lays (Yu R.h R.next b (R.h.place+R.used)) D).1.crash keep) (2+(R.h.place+R.used+k) % R.h.size)≠Yp R.h.turn R.next b k
  ·obtain⟨k,hk,hne⟩:=hex
   exact .inl (w.torn h hf hb hfit hn hk hne)
  ·refine .inr (w.whole h hb hfit hn (fun k hk=>?_)).1
   by_cases he:img ((DS.lays (Yu R.h R.next b (R.h.place+R.used)) D).1.crash keep) (2+(R.h.place+R.used+k) % R.h.size)=Yp R.h.turn R.next b k
   ·exact he
   ·exact absurd ⟨k,hk,he⟩ hex
 ·refine⟨fun _=>?_,fun h0=>absurd hc h0⟩
  have w:=h.wrote (List.prefix_refl _) hok hal hs
  refine w.whole h hb hfit hn (fun k hk=>?_)
  have hm:(2+(R.h.place+R.used+k) % R.h.size,Yp R.h.turn R.next b k)∈Yu R.h R.next b (R.h.place+R.used):=partsL_mem.2 ⟨k,hk,rfl⟩
  rcases img_all h.empty hs D rfl (hidx _ hm) with⟨_,hno⟩|⟨p,hp,h1,h2⟩
  ·exact absurd rfl (hno _ hm)
  ·obtain⟨k2,hk2,rfl⟩:=partsL_mem.1 hp
   dsimp only at h1 h2
   have:k2=k:=mod_inj (p:=R.h.place+R.used) (m:=R.h.size) (by omega) (by omega) (by omega)
   subst this
   exact h2
def RgS.minus (R:RgS)(n:Nat)(note:Bs):RgS:=⟨R.cutH n note,R.ents.drop n,R.used-Yy (R.ents.take n),false⟩
theorem RO.cut {R:RgS}{D:DS}{n:Nat}{note:Bs}(h:RO R D)(hn:n≤R.ents.length)(ht:R.h.turn<1073741824)(hnote:note.length≤32)(hnum:R.next<1099511627776) :
  ((DS.lays (Yo (R.cutH n note)) D).2=0→RO (R.minus n note) (DS.lays (Yo (R.cutH n note)) D).1∧Frs (R.minus n note) (DS.lays (Yo (R.cutH n note)) D).1) ∧
  ((DS.lays (Yo (R.cutH n note)) D).2≠0→∀keep,RO R ((DS.lays (Yo (R.cutH n note)) D).1.crash keep)∨RO (R.minus n note) ((DS.lays (Yo (R.cutH n note)) D).1.crash keep)):=by
 have hsz:=h.ok.size
 have hlen:=h.len
 have hus:=h.ok.used
 have hft:=h.ok.fit
 have htd:=WX R.ents n
 have hnx:=h.ok.next
 have hfi:=h.ok.first
 have htu:=h.ok.turn
 have hok:(DS.lays (Yo (R.cutH n note)) D).1.Ok:=h.dok.lays (fun p hp=>by rw[(Xh hp).2];exact headB_len _)
 have hidx:∀p∈Yo (R.cutH n note),p.1<D.secs.length:=fun p hp=>by rw[(Xh hp).1];omega
 have hm:0<R.h.size:=by omega
 have hok':RgS.Ok (R.minus n note):=⟨⟨by simp[RgS.minus,RgS.cutH,Hd.cut],by simp[RgS.minus,RgS.cutH,Hd.cut];omega⟩,hsz,by simp only[RgS.minus,RgS.cutH,Hd.cut];omega,by simp only[RgS.minus,RgS.cutH,Hd.cut,RgS.next,List.length_drop] at hnx ⊢;omega,Nat.mod_lt _ hm,hnote,by simp only[RgS.minus];omega,by simp only[RgS.minus,RgS.cutH,Hd.cut];omega,fun c hc=>h.ok.long c (List.mem_of_mem_drop hc)⟩
 have hhas:Has (img D) (R.cutH n note).size (R.cutH n note).turn (R.cutH n note).first (R.cutH n note).place (R.ents.drop n):=by
  have:=(h.has.drop n hn).le (T':=R.h.turn+1) (by omega)
  exact this.frame (by simp[RgS.cutH,Hd.cut]) (fun _ _=>rfl)
 have hpl:((R.cutH n note).place+(R.used-Yy (R.ents.take n))) % (R.cutH n note).size=(R.h.place+R.used) % (R.cutH n note).size:=by
  simp only[RgS.cutH,Hd.cut]
  rw[Nat.add_mod,Nat.mod_mod,←Nat.add_mod]
  congr 1;omega
 have hfn:(R.cutH n note).first+(R.ents.drop n).length=R.next:=by simp only[RgS.cutH,Hd.cut,RgS.next,List.length_drop];omega
 have key:∀{D':DS} {keep:Nat→Bool} {l:List (Nat×Blk)},l <+: Yo (R.cutH n note)→D'.Ok→D'.dead=false→D'.secs=settled keep (YR D.secs l)→img D' ((R.h.turn+1) % 2)=Xy (R.cutH n note)→RO (R.minus n note) D'∧Frs (R.minus n note) D':=by
  intro D' keep l hl hok1 hal hs hi
  refine h.newHead hok1 hal (by rw[hs];exact XD) (by rw[hs,Yv,YJ]) hi (fun i hi=>?_) rfl rfl hok' (by unfold RgS.next at hnum;simp only[RgS.cutH,Hd.cut];omega) hhas hpl hfn
  rcases WE h.empty hs D rfl i with e|⟨p,hp,h1,_⟩
  ·exact e
  ·exact absurd (by rw[←h1,(Xh (hl.subset hp)).1];rfl) hi
 rcases lays_out (Yo (R.cutH n note)) D h.alive hidx with⟨l',hl',hs,hc⟩|⟨hs,hc,hal⟩
 ·refine⟨fun h0=>absurd h0 hc,fun _ keep=>?_⟩
  have hs2:((DS.lays (Yo (R.cutH n note)) D).1.crash keep).secs=settled keep (YR D.secs l'):=by simp only[DS.crash];rw[hs]
  have hsame:∀i,i≠(R.h.turn+1) % 2→img ((DS.lays (Yo (R.cutH n note)) D).1.crash keep) i=img D i:=fun i hi=>by
   rcases WE h.empty hs2 D rfl i with e|⟨p,hp,h1,_⟩
   ·exact e
   ·exact absurd (by rw[←h1,(Xh (hl'.subset hp)).1];rfl) hi
  rcases WE h.empty hs2 D rfl ((R.h.turn+1) % 2) with e|⟨p,hp,_,h2⟩
  ·left
   have hi:∀i,img ((DS.lays (Yo (R.cutH n note)) D).1.crash keep) i=img D i:=fun i=>by
    by_cases he:i=(R.h.turn+1) % 2
    ·rw[he];exact e
    ·exact hsame i he
   have hi':img ((DS.lays (Yo (R.cutH n note)) D).1.crash keep)=img D:=funext hi
   exact⟨h.ok,h.live,h.num,hok.crash,rfl,by rw[hs2];exact XD,by rw[hs2,Yv,YJ];exact h.len,by rw[hi'];exact h.head,by rw[hi'];exact h.other,by rw[hi'];exact h.has,by rw[hi'];exact h.none,by rw[hi'];exact h.bound⟩
  ·right
   exact (key hl' hok.crash rfl hs2 (by rw[h2,(Xh (hl'.subset hp)).2])).1
 ·refine⟨fun _=>?_,fun h0=>absurd hc h0⟩
  refine key (List.prefix_refl _) hok hal hs ?_
  rcases img_all h.empty hs D rfl (i:=(R.h.turn+1) % 2) (by omega) with⟨_,hno⟩|⟨p,hp,_,h2⟩
  ·exact absurd rfl (hno _ (List.mem_singleton.2 rfl))
  ·rw[h2,(Xh hp).2]
theorem RO.crash {R:RgS}{D:DS}(h:RO R D)(keep:Nat→Bool):RO R (D.crash keep):=by
 have hs:(D.crash keep).secs=D.secs:=by simp only[DS.crash];exact settled_empty h.empty
 have hi:=WL hs
 exact⟨h.ok,h.live,h.num,h.dok.crash,rfl,by rw[hs];exact h.empty,by rw[hs];exact h.len,by rw[hi];exact h.head,by rw[hi];exact h.other,by rw[hi];exact h.has,by rw[hi];exact h.none,by rw[hi];exact h.bound⟩
theorem usedL_take_succ (l:List Bs)(k:Nat)(h:k<l.length):Yy (l.take (k+1))=Yy (l.take k)+ZD l[k].length:=by
 rw[List.take_succ_eq_append_getElem h,usedL_append];simp[Yy]
theorem RIn.at {ρ:Hp}{R:RgS}{w:RW}(h:RIn ρ R w){k:Nat}(hk:k<w.els.length):(w.els[k]).l=R.ents[k]'(by rw[←h.len];exact hk)∧BIn ρ w.els[k]∧(w.els[k]).n≤8000:=by
 have hb:=h.els _ (List.getElem_mem hk)
 have hl:=hb.s.len
 have hlong:=h.ok.long
 have he:(w.els[k]).l=R.ents[k]'(by rw[←h.len];exact hk):=by simp[h.ents]
 refine⟨he,hb, ?_⟩
 rw[←hl,he];exact hlong _ (List.getElem_mem _)
theorem clone2_spec (ρ:Hp)(a:Option Addr)(n c off:Nat)(T:TypeId)(xs sp:List Value)(X:SH)(b:Nat)(cap:Nat)(els:List BSl)(hn:n≤1000000)(hlen:els.length=n)(ha:a=some ⟨b,off,none⟩)(hX:X=[[(b,.cells ⟨xs⟩ T (0,0))]])(hx:(xs.drop off).take n=els.map slv) :
  Spec Tryz.prog 91 [.slice a n c] ρ X (fun v ρ' L'=>ρ'=ρ∧∃sp',OwnS v n (els.map slv) sp' 1∧L'=X++[Zz v (els.map slv) sp' 22]):=by
 subst ha;subst hX
 refine Zb Tryz.func91 rfl rfl rfl fun u R=>?_
 simp only[Zd,kA]
 repeat' (first|refine zW ?_|intro _)
 refine ZK (n:=0) (xs:=[]) (sp:=[]) (ys:=els.map slv) (sz:=1) rfl rfl (OwnS.zero _ 1) (hR:=Zq) (SrcV.find (n:=n) hx) (by simpa using hlen) (slv_one els) (by decide) rfl (by omega) (by omega) rfl (fun v' sp' hown'=>?_)
 simp only[Nat.zero_add,List.nil_append] at hown' ⊢
 repeat' (first|refine zW ?_|intro _)
 exact qE (L':=[[(b,.cells ⟨xs⟩ T (0,0))],Zz v' (els.map slv) sp' 22]) ⟨rfl,sp',hown',rfl⟩
theorem clone2_nil (ρ:Hp)(n c:Nat):Spec Tryz.prog 91 [.slice none n c] ρ [] (fun v ρ' L'=>v=.slice none 0 0∧ρ'=ρ∧L'=[]):=by
 refine Zb Tryz.func91 rfl rfl rfl fun u R=>?_
 simp only[Zd,kA]
 repeat' (first|refine zW ?_|intro _)
 exact qE ⟨rfl,rfl,rfl⟩
end Go.Proofs.E
namespace Go.Proofs.E
open Go
set_option linter.unusedVariables false
set_option linter.unusedSimpArgs false
set_option linter.unusedSectionVars false
set_option maxRecDepth 4000
set_option maxHeartbeats 1000000
attribute [local irreducible] Yl TL TC TE Spec ZI R1 Hp.le EnvLe TS TR YS Zp TP QP
theorem RIn.cutOk {ρ:Hp}{R:RgS}{w:RW}(h:RIn ρ R w){n:Nat}{note:Bs}(hn:n≤R.ents.length)(ht:R.h.turn<1073741824)(hnl:note.length≤32){e:BSl}(he:BIn ρ e)(hel:e.l=note){v:Value}{sp:List Value}(ho:OwnS v (w.els.length-n) ((w.els.drop n).map slv) sp 1) :
  RIn ρ ⟨R.cutH n note,R.ents.drop n,R.used-Yy (R.ents.take n),false⟩ ⟨e.a,e.n,e.c,v,w.els.drop n,sp⟩:=by
 have hsz:=h.ok.size
 have hlen:=h.len
 have hus:=h.ok.used
 have hft:=h.ok.fit
 have htd:=WX R.ents n
 have hnx:=h.ok.next
 have hfi:=h.ok.first
 have htu:=h.ok.turn
 subst hel
 unfold RgS.next at hnx
 refine⟨⟨⟨?_, ?_⟩,hsz, ?_, ?_,Nat.mod_lt _ (by omega),hnl, ?_, ?_,fun c hc=>h.ok.long c (List.mem_of_mem_drop hc)⟩,he.s,he.le,by simpa using ho, ?_,fun x hx=>h.els x (List.mem_of_mem_drop hx)⟩
 all_goals dsimp only[RgS.cutH,Hd.cut,RgS.next]
 any_goals simp only[List.length_drop]
 any_goals omega
 rw[h.ents,List.map_drop]
theorem cut_spec_main (ρ:Hp)(rb db:Nat)(R:RgS)(w:RW)(h:RIn ρ R w)(k:DK)(D:DS)(hD:DOk k D)(X:SH)(a:Option Addr)(nn c:Nat)(note:Bs)(hb:Rd ρ X a nn note)(m:Nat)(hbr:R.broken=false)(hm:m≤R.ents.length)(ht:R.h.turn<1073741824)(hnl:note.length≤32) :
  Spec Tryz.prog 18 [.pointer (some ⟨rb,0,none⟩),.int .i64 m,.slice a nn c] ρ (ZT rb db R w++(Zt db k D++X))
   (fun v ρ' L'=>v=.int .i64 (R.cut m note D).2.2∧ρ.le ρ'∧∃k' w',DOk k' (R.cut m note D).2.1∧RIn ρ' (R.cut m note D).1 w'∧L'=ZT rb db (R.cut m note D).1 w'++(Zt db k' (R.cut m note D).2.1++X)):=by
 have hl:=hb.len
 have hlen:=h.len
 have hsz:=h.ok.size
 have hus:=h.ok.used
 have hft:=h.ok.fit
 have hnx:=h.ok.next
 have hfi:=h.ok.first
 have hpl:=h.ok.place
 have hul:=usedL_len R.ents
 have htd:=WX R.ents m
 have hsome:R.cut m note D=if (DS.lays (Yo (R.cutH m note)) D).2=0 then (⟨R.cutH m note,R.ents.drop m,R.used-Yy (R.ents.take m),false⟩,DS.lays (Yo (R.cutH m note)) D) else ({ R with broken:=true },DS.lays (Yo (R.cutH m note)) D):=by
  unfold RgS.cut
  rw[hbr,if_neg (by simp),if_neg (by omega),if_neg (by omega)]
  simp only[Int.toNat_natCast]
 have e1:(R.h.turn:Int)+1=((R.cutH m note).turn:Int):=by simp[RgS.cutH,Hd.cut]
 have e2:(R.h.first:Int)+(m:Int)=((R.cutH m note).first:Int):=by simp[RgS.cutH,Hd.cut]
 have e3:((R.h.place:Int)+((Yy (R.ents.take m):Nat):Int)).tmod (R.h.size:Int)=((R.cutH m note).place:Int):=by
  rw[Int.tmod_eq_emod_of_nonneg (by omega)];simp[RgS.cutH,Hd.cut]
 have hfj:(R.h.first:Int)+(m:Int)≤1099511627776:=by unfold RgS.next at hnx;omega
 have e4:(R.used:Int)-((Yy (R.ents.take m):Nat):Int)=((R.used-Yy (R.ents.take m):Nat):Int):=by omega
 have hcl:(R.cutH m note).turn<4294967296∧(R.cutH m note).first≤1099511627776∧(R.cutH m note).size<65536∧(R.cutH m note).place<65536:=by
  have:=Nat.mod_lt (R.h.place+Yy (R.ents.take m)) (show 0<R.h.size by omega)
  dsimp only[RgS.cutH,Hd.cut];omega
 have hw0:=works_spec ρ rb db R w
 rw[hbr] at hw0
 simp only[Bool.false_eq_true,if_false] at hw0
 have hall:=fun {j:Nat} (hj:j<w.els.length)=>h.at hj
 have hcutok:=fun {ρ2:Hp} (hle:ρ.le ρ2) {e:BSl} (he:BIn ρ2 e) (hel:e.l=note) {v:Value} {sp:List Value} ho=>(h.mono hle).cutOk (v:=v) (sp:=sp) hm ht hnl he hel ho
 have hbrk:=fun {ρ2:Hp} (hle:ρ.le ρ2)=>(h.mono hle).broken true
 rcases h.own.out with⟨hev,h0,h1,h2⟩|⟨bx,cap,hev,g1,g2,g3⟩
 ·obtain⟨wna,wnn,wnc,wev,els,sp⟩:=w
  dsimp only at hev h0 h1 h2 hlen hcutok hbrk hw0 ⊢
  subst hev
  subst h2
  have hels:els=[]:=List.eq_nil_of_length_eq_zero h0
  subst hels
  have hm0:m=0:=by simp at hlen;omega
  subst hm0
  simp only[ZT,Zz]
  refine Zb Tryz.func18 rfl rfl rfl fun u R0=>?_
  simp only[Zd,kA,List.append_assoc]
  repeat' (first|(refine Za (.func 82) ?_;refine qC rfl rfl (hw0) ?_;rintro v ρ' L' hle ⟨rfl,rfl,rfl⟩<;>(try simp only[kA]))|refine zW ?_|intro _)
  refine Zi [(0,_),(1,_),(2,_),(6,_),(7,_),(47,_),(48,_)] (fun (ζ:(Nat))=>[(49,.int .i64 ζ),(8,.int .i64 (Yy (R.ents.take ζ):Nat))]) (fun (ζ:(Nat))=>ρ') (fun (ζ:(Nat))=>[]) (fun (ζ:(Nat))=>ζ=0) (fun (ζ:(Nat))=>0) (0) (rfl) Zc Zc rfl tk ?_
  rintro j hI
  try simp only[kA,List.append_assoc] at hI ⊢
  try dsimp only at hI ⊢
  subst hI
  repeat' (first|refine zW ?_|intro _)
  refine tpA [0,1,2,3,4,5,6,7,8,9,10,11,12,13,14,15,16,17,18,19,20,21,22,23,24,25,26,27,28,29,30,31,32] (.b 33 35 [34] [] (.e 35 [] (.e 36 [] .o)) (.e 33 [34] (.e 36 [] .o))) ([[(rb,.cells ⟨rgV R db ⟨wna,wnn,wnc,.slice none 0 0,[],[]⟩⟩ 163 (0,0))]]) ?_
  repeat' (refine iT ?_;first|refine rA ?_|((first|(refine iE ?_;refine rE ?_)|(refine iB ?_;refine rB ?_ ?_))<;>((try refine Zn ?_);(first|(refine Za (.func 87) ?_;refine qC rfl rfl (Vh _ X a nn c note (hb.mono (by assumption)) (by omega)) ?_;rintro v7 ρ7 L7 hle7 ⟨hl7,e,rfl,he,hel,hen,rfl⟩;simp only[kA])|(refine Yj ?_;try intro _))<;>((try simp only[kA]);refine Zj ?_;refine rN ?_))))
  all_goals (repeat' (first|refine zW ?_|intro _))
  all_goals
   simp only[e1,e2,e3]
   rename_i bh
   have hls:=laid_spec ρ7 (R.cutH 0 note) e.a e.n e.c (by have:=he.s;rw[hel] at this;exact this) hcl.1 hcl.2.1 hcl.2.2.1 hcl.2.2.2 (by rw[hen];omega) db k D hD
   refine tpA [0,1,2,3,4] (.e 5 [] (.f [6] .o)) ([[(bh,.cells ⟨hdV (R.cutH 0 note) e.a e.n e.c⟩ 160 (0,0))],[(rb,.cells ⟨rgV R db ⟨wna,wnn,wnc,.slice none 0 0,[],[]⟩⟩ 163 (0,0))]]) ?_
   repeat' (refine iT ?_;first|refine rA ?_|((refine iE ?_;refine rE ?_)<;>((try refine Zn ?_);(first|(refine Za (.func 76) ?_;refine qC rfl rfl hls ?_;rintro v8 ρ8 L8 hle8 ⟨rfl,hl8,k8,hD8,rfl⟩;try simp only[kA,List.append_assoc])|(refine Yj ?_;try intro _))<;>((try simp only[kA]);refine Zj ?_;refine rN ?_))))
   all_goals (repeat' (first|refine zW ?_|intro _))
   have hhe:=fun (v:Value) (sp:List Value) ho=>hcutok (Hp.le_trans hl7 hl8) (he.mono hl8) hel (v:=v) (sp:=sp) ho
   have hbk:=hbrk (Hp.le_trans hl7 hl8)
   rw[hsome]
   generalize DS.lays (Yo (R.cutH 0 note)) D=r at *
   obtain⟨D',ec⟩:=r
   dsimp only at hD8 ⊢
   by_cases hz:ec=0
   ·subst hz
    rw[show ((0:Int) != 0)=false from rfl,if_pos rfl]
    repeat' (first|refine zW ?_|intro _)
    refine tpA [0,1,2,3,4,5,6,8,11,12,13,15] (.b 7 14 [9] [16] (.b 10 14 [] [16] (.e 14 [16,17,18] (.e 19 [20,21] (.e 22 [23,24] (.e 25 [] .o)))) (.e 10 [17,18] (.e 19 [20,21] (.e 22 [23,24] (.e 25 [] .o))))) (.e 7 [9] (.e 10 [17,18] (.e 19 [20,21] (.e 22 [23,24] (.e 25 [] .o)))))) ([[(bh,.cells ⟨hdV (R.cutH 0 note) e.a e.n e.c⟩ 160 (0,0))]]) ?_
    repeat' (refine iT ?_;first|refine rA ?_|((first|(refine iE ?_;refine rE ?_)|(refine iB ?_;refine rB ?_ ?_))<;>((try refine Zn ?_);(first|(refine Za (.func 91) ?_;refine qC rfl rfl (clone2_nil _ _ _) ?_;rintro v9 ρ9 L9 hle9 ⟨rfl,rfl,rfl⟩;try simp only[kA])|(refine i_qq ?_;refine qQ ?_)|(refine Yj ?_;try intro _))<;>((try simp only[kA]);refine Zj ?_;refine rN ?_))))
    all_goals (repeat' (first|refine zW ?_|intro _))
    all_goals simp only[e4]
    all_goals exact qE (L':=ZT rb db ⟨R.cutH 0 note,R.ents.drop 0,R.used-Yy (R.ents.take 0),false⟩ ⟨e.a,e.n,e.c,.slice none 0 0,[].drop 0,[]⟩++(Zt db k8 D'++L7)) ⟨rfl,Hp.le_trans hl7 hl8,k8,_,hD8,hhe _ [] (OwnS.nil 1),rfl⟩
   ·have hcb:(ec != 0)=true:=by simpa using hz
    rw[hcb,if_neg hz]
    repeat' (first|refine zW ?_|intro _)
    exact qE (L':=ZT rb db { R with broken:=true } ⟨wna,wnn,wnc,.slice none 0 0,[],[]⟩++(Zt db k8 D'++L7)) ⟨rfl,Hp.le_trans hl7 hl8,k8,_,hD8,hbk,rfl⟩
 ·obtain⟨wna,wnn,wnc,wev,els,sp⟩:=w
  dsimp only at hev g1 g2 g3 hlen hall hcutok hbrk hw0 ⊢
  subst hev
  simp only[ZT,Zz]
  refine Zb Tryz.func18 rfl rfl rfl fun u R0=>?_
  simp only[Zd,kA,List.append_assoc]
  repeat' (first|(refine Za (.func 82) ?_;refine qC rfl rfl (hw0) ?_;rintro v ρ' L' hle ⟨rfl,rfl,rfl⟩<;>(try simp only[kA]))|refine zW ?_|intro _)
  refine Zi [(0,_),(1,_),(2,_),(6,_),(7,_),(47,_),(48,_)] (fun (ζ:(Nat))=>[(49,.int .i64 ζ),(8,.int .i64 (Yy (R.ents.take ζ):Nat))]) (fun (ζ:(Nat))=>ρ') (fun (ζ:(Nat))=>[[(bx,.cells ⟨els.map slv++sp⟩ 22 (0,0))]]) (fun (ζ:(Nat))=>ζ≤m) (fun (ζ:(Nat))=>m-ζ) (0) (Nat.zero_le _) Zc Zc rfl tk ?_
  rintro j hI
  try simp only[kA,List.append_assoc] at hI ⊢
  try dsimp only at hI ⊢
  by_cases hlt:j<m
  ·obtain⟨q1,q2,q3⟩:=hall (show j<els.length by omega)
   have hts:=usedL_take_succ R.ents j (by omega)
   have hq2:=q2.s.len
   have hget:(els.map slv++sp)[0+j*1]?=some (slv els[j]):=by
    rw[Nat.zero_add,Nat.mul_one,List.getElem?_append_left (by simp;omega)];simp[show j<els.length by omega]
   have hle:Yy (R.ents.take j)≤Yy R.ents:=by have:=WX R.ents j;omega
   have hsc:=sects_le q3
   rw[←q1,hq2] at hts
   repeat' (first|(refine Za (.func 83) ?_;refine qC rfl rfl (sects_nat _ (els[j]).n (by omega)) ?_;rintro v ρ' L' hle ⟨rfl,rfl,rfl⟩<;>(try simp only[kA]))|refine zW ?_|intro _)
   rw[show ((Yy (R.ents.take j):Nat):Int)+((ZD (els[j]).n:Nat):Int)=((Yy (R.ents.take (j+1)):Nat):Int) by rw[hts];omega]
   refine Ze (j+1) (hlt) Zc Zc rfl tk inferInstance (by first|omega|(dsimp only;omega))
  ·have hjm:j=m:=by omega
   subst hjm
   repeat' (first|refine zW ?_|intro _)
   refine tpA [0,1,2,3,4,5,6,7,8,9,10,11,12,13,14,15,16,17,18,19,20,21,22,23,24,25,26,27,28,29,30,31,32] (.b 33 35 [34] [] (.e 35 [] (.e 36 [] .o)) (.e 33 [34] (.e 36 [] .o))) ([[(rb,.cells ⟨rgV R db ⟨wna,wnn,wnc,.slice (some ⟨bx,0,none⟩) els.length cap,els,sp⟩⟩ 163 (0,0))]]) ?_
   repeat' (refine iT ?_;first|refine rA ?_|((first|(refine iE ?_;refine rE ?_)|(refine iB ?_;refine rB ?_ ?_))<;>((try refine Zn ?_);(first|(refine Za (.func 87) ?_;refine qC rfl rfl (Vh _ X a nn c note (hb.mono (by assumption)) (by omega)) ?_;rintro v7 ρ7 L7 hle7 ⟨hl7,e,rfl,he,hel,hen,rfl⟩;simp only[kA])|(refine Yj ?_;try intro _))<;>((try simp only[kA]);refine Zj ?_;refine rN ?_))))
   all_goals (repeat' (first|refine zW ?_|intro _))
   all_goals
    simp only[e1,e2,e3]
    rename_i bh
    have hls:=laid_spec ρ7 (R.cutH j note) e.a e.n e.c (by have:=he.s;rw[hel] at this;exact this) hcl.1 hcl.2.1 hcl.2.2.1 hcl.2.2.2 (by rw[hen];omega) db k D hD
    refine tpA [0,1,2,3,4] (.e 5 [] (.f [6] .o)) ([[(bh,.cells ⟨hdV (R.cutH j note) e.a e.n e.c⟩ 160 (0,0))],[(rb,.cells ⟨rgV R db ⟨wna,wnn,wnc,.slice (some ⟨bx,0,none⟩) els.length cap,els,sp⟩⟩ 163 (0,0))]]) ?_
    repeat' (refine iT ?_;first|refine rA ?_|((refine iE ?_;refine rE ?_)<;>((try refine Zn ?_);(first|(refine Za (.func 76) ?_;refine qC rfl rfl hls ?_;rintro v8 ρ8 L8 hle8 ⟨rfl,hl8,k8,hD8,rfl⟩;try simp only[kA,List.append_assoc])|(refine Yj ?_;try intro _))<;>((try simp only[kA]);refine Zj ?_;refine rN ?_))))
    all_goals (repeat' (first|refine zW ?_|intro _))
    have hhe:=fun (v:Value) (sp:List Value) ho=>hcutok (Hp.le_trans hl7 hl8) (he.mono hl8) hel (v:=v) (sp:=sp) ho
    have hbk:=hbrk (Hp.le_trans hl7 hl8)
    rw[hsome]
    generalize DS.lays (Yo (R.cutH j note)) D=r at *
    obtain⟨D',ec⟩:=r
    dsimp only at hD8 ⊢
    by_cases hz:ec=0
    ·subst hz
     rw[show ((0:Int) != 0)=false from rfl,if_pos rfl]
     repeat' (first|refine zW ?_|intro _)
     obtain⟨off,hval,hxx⟩:∃off,(if cap=j then some (⟨bx,0,none⟩:Addr) else some ⟨bx,0+j*1,none⟩)=some ⟨bx,off,none⟩∧((els.map slv++sp).drop off).take (els.length-j)=(els.drop j).map slv:=by
      by_cases hcap:cap=j
      ·refine⟨0,by rw[if_pos hcap], ?_⟩
       have:els.length-j=0:=by omega
       have h2:els.drop j=[]:=List.drop_eq_nil_of_le (by omega)
       rw[this,h2];simp
      ·refine⟨j,by rw[if_neg hcap];simp, ?_⟩
       rw[List.drop_append_of_le_length (by simp;omega),List.take_append_of_le_length (by simp),List.take_of_length_le (by simp),List.map_drop]
     refine tpA [0,1,2,3,4,5,6,8,11,12,13,15] (.b 7 14 [9] [16] (.b 10 14 [] [16] (.e 14 [16,17,18] (.e 19 [20,21] (.e 22 [23,24] (.e 25 [] .o)))) (.e 10 [17,18] (.e 19 [20,21] (.e 22 [23,24] (.e 25 [] .o))))) (.e 7 [9] (.e 10 [17,18] (.e 19 [20,21] (.e 22 [23,24] (.e 25 [] .o)))))) ([[(bh,.cells ⟨hdV (R.cutH j note) e.a e.n e.c⟩ 160 (0,0))]]) ?_
     repeat' (refine iT ?_;first|refine rA ?_|((first|(refine iE ?_;refine rE ?_)|(refine iB ?_;refine rB ?_ ?_))<;>((try refine Zn ?_);(first|(simp only[Int.toNat_natCast,Option.map_some,YX,hval];refine Za (.func 91) ?_;refine qC rfl rfl (clone2_spec _ _ (els.length-j) _ off 22 (els.map slv++sp) sp _ bx cap (els.drop j) (by omega) (by simp) rfl rfl hxx) ?_;rintro v9 ρ9 L9 hle9 ⟨rfl,sp9,hown9,rfl⟩;obtain⟨a9,c9,rfl,_⟩:=hown9.slice;simp only[kA])|(refine i_qq ?_;refine qQ ?_)|(refine Yj ?_;try intro _))<;>((try simp only[kA]);refine Zj ?_;refine rN ?_))))
     all_goals (repeat' (first|refine zW ?_|intro _))
     all_goals simp only[e4]
     all_goals exact qE (L':=ZT rb db ⟨R.cutH j note,R.ents.drop j,R.used-Yy (R.ents.take j),false⟩ ⟨e.a,e.n,e.c,_,els.drop j,sp9⟩++(Zt db k8 D'++L7)) ⟨rfl,Hp.le_trans hl7 hl8,k8,_,hD8,hhe _ sp9 hown9,rfl⟩
    ·have hcb:(ec != 0)=true:=by simpa using hz
     rw[hcb,if_neg hz]
     repeat' (first|refine zW ?_|intro _)
     exact qE (L':=ZT rb db { R with broken:=true } ⟨wna,wnn,wnc,.slice (some ⟨bx,0,none⟩) els.length cap,els,sp⟩++(Zt db k8 D'++L7)) ⟨rfl,Hp.le_trans hl7 hl8,k8,_,hD8,hbk,rfl⟩
theorem noughtsL_64 {n:Nat}:∀p∈ZN n,p.2.length=64:=fun p hp=>by
 simp only[ZN,List.mem_map] at hp
 obtain⟨k,_,rfl⟩:=hp;rfl
theorem fresh_rok {n:Nat}(h0:4≤n)(h1:n≤1000):RgS.Ok ⟨ZF n,[],0,false⟩:=
 ⟨by simp[ZF],⟨h0,h1⟩,by simp[ZF],by simp[RgS.next,ZF],by simp only[ZF];omega,by simp[ZF],rfl,Nat.zero_le _,by simp⟩
theorem fresh_rin {ρ:Hp}{n:Nat}(h0:4≤n)(h1:n≤1000):RIn ρ ⟨ZF n,[],0,false⟩ ⟨none,0,0,.slice none 0 0,[],[]⟩:=
 ⟨fresh_rok h0 h1,SIn.nil,Nat.le_refl _,OwnS.nil 1,rfl,by simp⟩
def ringAns (ρ':Hp)(db:Nat)(r:Option RgS×DS×Int)(v:Value)(L':SH):Prop:=
 ∃k',DOk k' r.2.1∧match r.1 with
  | none=>v=.tuple ⟨[.pointer none,.int .i64 r.2.2]⟩∧L'=Zt db k' r.2.1
  | some R=>∃rb w,v=.tuple ⟨[.pointer (some ⟨rb,0,none⟩),.int .i64 0]⟩∧RIn ρ' R w∧L'=ZT rb db R w++Zt db k' r.2.1
theorem format_spec (ρ:Hp)(db:Nat)(k:DK)(D:DS)(hD:DOk k D)(size:Int)(hs:-9223372036854775808≤size∧size≤9223372036854775807) :
  Spec Tryz.prog 13 [.pointer (some ⟨db,0,none⟩),.int .i64 size] ρ (Zt db k D) (fun v ρ' L'=>ρ.le ρ'∧ringAns ρ' db (WK size D) v L'):=by
 by_cases h1:size<4
 ·have he:WK size D=(none,D,2):=by unfold WK;rw[if_pos (.inl h1)]
  rw[he]
  refine Zb Tryz.func13 rfl rfl rfl fun u R=>?_
  simp only[Zd,kA]
  repeat' (first|refine zW ?_|intro _)
  rename_i b3
  refine tpA [0,1,2,3,4,5,6,7,9,10] (.e 8 [] (.f [11,12] .o)) ([[(b3,.cells ⟨[.int .i64 size]⟩ 3 (0,0))]]) ?_
  repeat' (refine iT ?_;first|refine rA ?_|((refine iE ?_;refine rE ?_)<;>((try refine Zn ?_);(first|(refine Za (.func 73) ?_;refine qR rfl rfl (klen _ db k D) ?_;try simp only[kA])|(refine Yj ?_;try intro _))<;>((try simp only[kA]);refine Zj ?_;refine rN ?_))))
  all_goals (repeat' (first|refine zW ?_|intro _))
  all_goals exact qE ⟨Hp.le_refl _,k,hD,rfl,rfl⟩
 ·by_cases h2:1000<size
  ·have he:WK size D=(none,D,2):=by unfold WK;rw[if_pos (.inr (.inl h2))]
   rw[he]
   refine Zb Tryz.func13 rfl rfl rfl fun u R=>?_
   simp only[Zd,kA]
   repeat' (first|refine zW ?_|intro _)
   rename_i b3
   refine tpA [0,1,2,3,4,5,6,7,9,10] (.e 8 [] (.f [11,12] .o)) ([[(b3,.cells ⟨[.int .i64 size]⟩ 3 (0,0))]]) ?_
   repeat' (refine iT ?_;first|refine rA ?_|((refine iE ?_;refine rE ?_)<;>((try refine Zn ?_);(first|(refine Za (.func 73) ?_;refine qR rfl rfl (klen _ db k D) ?_;try simp only[kA])|(refine Yj ?_;try intro _))<;>((try simp only[kA]);refine Zj ?_;refine rN ?_))))
   all_goals (repeat' (first|refine zW ?_|intro _))
   all_goals exact qE ⟨Hp.le_refl _,k,hD,rfl,rfl⟩
  ·by_cases h3:(D.secs.length:Int)<size+2
   ·have he:WK size D=(none,D,2):=by unfold WK;rw[if_pos (.inr (.inr h3))]
    rw[he]
    refine Zb Tryz.func13 rfl rfl rfl fun u R=>?_
    simp only[Zd,kA]
    repeat' (first|refine zW ?_|intro _)
    rename_i b3
    refine tpA [0,1,2,3,4,5,6,7,9,10] (.e 8 [] (.f [11,12] .o)) ([[(b3,.cells ⟨[.int .i64 size]⟩ 3 (0,0))]]) ?_
    repeat' (refine iT ?_;first|refine rA ?_|((refine iE ?_;refine rE ?_)<;>((try refine Zn ?_);(first|(refine Za (.func 73) ?_;refine qR rfl rfl (klen _ db k D) ?_;try simp only[kA])|(refine Yj ?_;try intro _))<;>((try simp only[kA]);refine Zj ?_;refine rN ?_))))
    all_goals (repeat' (first|refine zW ?_|intro _))
    all_goals exact qE ⟨Hp.le_refl _,k,hD,rfl,rfl⟩
   ·obtain⟨n,rfl⟩:∃n:Nat,size=n:=⟨size.toNat,by omega⟩
    have hn0:4≤n:=by omega
    have hn1:n≤1000:=by omega
    have he:WK n D=if (DS.lays (ZN n) D).2=0 then
      if (DS.lays (Yo (ZF n)) (DS.lays (ZN n) D).1).2=0 then (some ⟨ZF n,[],0,false⟩,DS.lays (Yo (ZF n)) (DS.lays (ZN n) D).1) else (none,DS.lays (Yo (ZF n)) (DS.lays (ZN n) D).1)
     else (none,DS.lays (ZN n) D):=by unfold WK;rw[if_neg (by omega)];simp only[Int.toNat_natCast]
    rw[he]
    refine Zb Tryz.func13 rfl rfl rfl fun u R=>?_
    simp only[Zd,kA]
    repeat' (first|refine zW ?_|intro _)
    rename_i b3
    refine tpA [0,1,2,3,4,5,6,7,9,10] (.e 8 [] (.f [11,12] .o)) ([[(b3,.cells ⟨[.int .i64 n]⟩ 3 (0,0))]]) ?_
    repeat' (refine iT ?_;first|refine rA ?_|((refine iE ?_;refine rE ?_)<;>((try refine Zn ?_);(first|(refine Za (.func 73) ?_;refine qR rfl rfl (klen _ db k D) ?_;try simp only[kA])|(refine Yj ?_;try intro _))<;>((try simp only[kA]);refine Zj ?_;refine rN ?_))))
    all_goals (repeat' (first|(refine Za (.func 74) ?_;refine qC rfl rfl (lays_spec _ _ 75 [.pointer (some ⟨b3,0,none⟩)] [[(b3,.cells ⟨[.int .i64 n]⟩ 3 (0,0))]] (ZN n) (Hp.le_refl _) (noughts_iter _ b3 n (by omega)) noughtsL_64 db k D hD) ?_;rintro v6 ρ6 L6 hle6 ⟨rfl,hl6,k6,hD6,rfl⟩;simp only[kA,List.append_assoc])|refine zW ?_|intro _))
    all_goals generalize DS.lays (ZN n) D=r at *
    all_goals obtain⟨D',ec⟩:=r
    all_goals dsimp only at hD6 ⊢
    all_goals
     by_cases hz:ec=0
     ·subst hz
      have hrd:=fun ρ=>laid_spec ρ (ZF n) none 0 0 SIn.nil (by simp[ZF]) (by simp[ZF]) (by simp only[ZF];omega) (by simp[ZF]) (by omega) db k6 D' hD6
      rw[show ((0:Int) == 0)=true from rfl,if_pos rfl]
      repeat' (first|(refine Za (.func 76) ?_;refine qC rfl rfl (hrd _) ?_;rintro v8 ρ8 L8 hle8 ⟨rfl,hl8,k8,hD8,rfl⟩;try simp only[kA,List.append_assoc])|refine zW ?_|intro _)
      generalize DS.lays (Yo (ZF n)) D'=r at *
      obtain⟨D'',ec⟩:=r
      dsimp only at hD8 ⊢
      by_cases hz:ec=0
      ·subst hz
       rw[show ((0:Int) != 0)=false from rfl,if_pos rfl]
       repeat' (first|refine zW ?_|intro _)
       rename_i rb
       exact qE (L':=ZT rb db ⟨ZF n,[],0,false⟩ ⟨none,0,0,.slice none 0 0,[],[]⟩++Zt db k8 D'') ⟨Hp.le_trans hl6 hl8,k8,hD8,rb,_,rfl,fresh_rin hn0 hn1,rfl⟩
      ·have hcb:(ec != 0)=true:=by simpa using hz
       rw[hcb,if_neg hz]
       repeat' (first|refine zW ?_|intro _)
       exact qE (L':=Zt db k8 D'') ⟨Hp.le_trans hl6 hl8,k8,hD8,rfl,rfl⟩
     ·have hcb:(ec == 0)=false:=by simpa using hz
      have hcb2:(ec != 0)=true:=by simpa using hz
      rw[hcb,if_neg hz]
      repeat' (first|refine zW ?_|intro _)
      exact qE (L':=Zt db k6 D') ⟨hl6,k6,hD6,rfl,rfl⟩
theorem first_spec (ρ:Hp)(rb db:Nat)(R:RgS)(w:RW):Spec Tryz.prog 95 [.pointer (some ⟨rb,0,none⟩)] ρ [[(rb,.cells ⟨rgV R db w⟩ 163 (0,0))]] (fun v ρ' L'=>v=.int .u64 (R.h.first:Nat)∧ρ'=ρ∧L'=[[(rb,.cells ⟨rgV R db w⟩ 163 (0,0))]]):=by
 refine Zb Tryz.func95 rfl rfl rfl fun u R0=>?_
 simp only[Zd,kA]
 repeat' (first|refine zW ?_|intro _)
 exact qE ⟨rfl,rfl,rfl⟩
theorem broken_spec (ρ:Hp)(rb db:Nat)(R:RgS)(w:RW):Spec Tryz.prog 105 [.pointer (some ⟨rb,0,none⟩)] ρ [[(rb,.cells ⟨rgV R db w⟩ 163 (0,0))]] (fun v ρ' L'=>v=.bool R.broken∧ρ'=ρ∧L'=[[(rb,.cells ⟨rgV R db w⟩ 163 (0,0))]]):=by
 refine Zb Tryz.func105 rfl rfl rfl fun u R0=>?_
 simp only[Zd,kA]
 repeat' (first|refine zW ?_|intro _)
 exact qE ⟨rfl,rfl,rfl⟩
theorem note_spec (ρ:Hp)(rb db:Nat)(R:RgS)(w:RW)(h:RIn ρ R w):Spec Tryz.prog 97 [.pointer (some ⟨rb,0,none⟩)] ρ [[(rb,.cells ⟨rgV R db w⟩ 163 (0,0))]] (fun v ρ' L'=>ρ.le ρ'∧∃e:BSl,v=slv e∧BIn ρ' e∧e.l=R.h.note∧L'=[[(rb,.cells ⟨rgV R db w⟩ 163 (0,0))]]):=by
 have hn:=h.ok.note
 have hl:=h.note.len
 refine Zb Tryz.func97 rfl rfl rfl fun u R0=>?_
 simp only[Zd,kA]
 repeat' (first|(refine Za (.func 87) ?_;refine qC rfl rfl (Vh _ [] w.na w.nn w.nc R.h.note h.note.rd (by omega)) ?_;rintro v7 ρ7 L7 hle7 ⟨hl7,e,rfl,he,hel,hen,rfl⟩;simp only[kA])|refine zW ?_|intro _)
 exact qE ⟨hl7,e,rfl,he,hel,rfl⟩
end Go.Proofs.E
namespace Go.Proofs.E
open Go
set_option linter.unusedVariables false
set_option linter.unusedSimpArgs false
set_option linter.unusedSectionVars false
set_option maxRecDepth 4000
set_option maxHeartbeats 1000000
attribute [local irreducible] Yl TL TC TE Spec ZI R1 Hp.le EnvLe TS TR YS Zp
theorem all_spec (ρ:Hp)(rb db:Nat)(R:RgS)(w:RW)(h:RIn ρ R w) :
  Spec Tryz.prog 19 [.pointer (some ⟨rb,0,none⟩)] ρ (ZT rb db R w) (fun v ρ' L'=>ρ.le ρ'∧∃(els':List BSl) (sp':List Value),OwnS v els'.length (els'.map slv) sp' 1∧(∀e∈els',BIn ρ' e)∧els'.map BSl.l=R.ents∧L'=ZT rb db R w++[Zz v (els'.map slv) sp' 22]):=by
 have hlen:=h.len
 have hfit:=h.ok.fit
 have hsz:=h.ok.size
 have hus:=h.ok.used
 have hul:=usedL_len R.ents
 have hall:=fun {j:Nat} (hj:j<w.els.length)=>h.at hj
 rcases h.own.out with⟨hev,h0,h1,h2⟩|⟨bx,cap,hev,g1,g2,g3⟩
 ·have he:R.ents=[]:=List.eq_nil_of_length_eq_zero (by omega)
  obtain⟨wna,wnn,wnc,wev,els,sp⟩:=w
  dsimp only at hev h0 h1 h2 ⊢
  subst hev
  subst h2
  have hels:els=[]:=List.eq_nil_of_length_eq_zero h0
  subst hels
  refine Zb Tryz.func19 rfl rfl rfl fun u R0=>?_
  simp only[Zd,kA]
  repeat' (first|refine zW ?_|intro _)
  refine Zi [(2,_),(11,_),(12,_)] (fun (ζ:(Nat))=>[(13,.int .i64 ζ),(3,.slice none 0 0)]) (fun (ζ:(Nat))=>ρ) (fun (ζ:(Nat))=>[]) (fun (ζ:(Nat))=>ζ=0) (fun (ζ:(Nat))=>0) (0) (rfl) Zc Zc rfl tk ?_
  rintro j hI
  try simp only[kA,List.append_assoc] at hI ⊢
  try dsimp only at hI ⊢
  subst hI
  repeat' (first|refine zW ?_|intro _)
  exact qE (L':=ZT rb db R ⟨wna,wnn,wnc,.slice none 0 0,[],[]⟩++[[]]) ⟨Hp.le_refl _,[],[],OwnS.nil 1,fun x hx=>(by cases hx),he.symm,rfl⟩
 ·obtain⟨wna,wnn,wnc,wev,els,sp⟩:=w
  dsimp only at hev g1 g2 g3 hlen hall ⊢
  subst hev
  simp only[ZT,Zz]
  refine Zb Tryz.func19 rfl rfl rfl fun u R0=>?_
  simp only[Zd,kA]
  repeat' (first|refine zW ?_|intro _)
  refine Zi [(2,_),(11,_),(12,_)] (fun (ζ:(Nat)×(Hp)×(Value)×(List BSl)×(List Value))=>[(13,.int .i64 ζ.1),(3,ζ.2.2.1)]) (fun (ζ:(Nat)×(Hp)×(Value)×(List BSl)×(List Value))=>ζ.2.1) (fun (ζ:(Nat)×(Hp)×(Value)×(List BSl)×(List Value))=>[[(bx,.cells ⟨els.map slv++sp⟩ 22 (0,0))],Zz ζ.2.2.1 (ζ.2.2.2.1.map slv) ζ.2.2.2.2 22]) (fun (ζ:(Nat)×(Hp)×(Value)×(List BSl)×(List Value))=>ζ.1≤els.length∧ρ.le ζ.2.1∧OwnS ζ.2.2.1 ζ.2.2.2.1.length (ζ.2.2.2.1.map slv) ζ.2.2.2.2 1∧(∀e∈ζ.2.2.2.1,BIn ζ.2.1 e)∧ζ.2.2.2.1.map BSl.l=R.ents.take ζ.1) (fun (ζ:(Nat)×(Hp)×(Value)×(List BSl)×(List Value))=>els.length-ζ.1) ((0,ρ,.slice none 0 0,[],[])) (⟨Nat.zero_le _,Hp.le_refl _,OwnS.nil 1,by simp,rfl⟩) Zc Zc rfl tk ?_
  rintro⟨j,ρ1,v,els2,sp2⟩ hI
  try simp only[kA,List.append_assoc] at hI ⊢
  try dsimp only at hI ⊢
  obtain⟨hj,hle1,hown,hbin,hl⟩:=hI
  by_cases hlt:j<els.length
  ·obtain⟨q1,q2,q3⟩:=hall hlt
   have hget:(els.map slv++sp)[0+j*1]?=some (slv els[j]):=by
    rw[Nat.zero_add,Nat.mul_one,List.getElem?_append_left (by simp;omega)];simp[hlt]
   have hl2:els2.length=j:=by have:=congrArg List.length hl;simp at this;omega
   repeat' (first|(refine Za (.func 87) ?_;refine qC rfl rfl (Vh _ [] (els[j]).a (els[j]).n (els[j]).c (els[j]).l (q2.mono hle1).s.rd (by omega)) ?_;rintro v7 ρ7 L7 hle7 ⟨hl7,e,rfl,he,hel,hen,rfl⟩;try simp only[kA])|(refine Zm rfl rfl rfl rfl (by simp) rfl rfl (fun _=>?_))|(refine ZK (ys:=[slv e]) (m:=1) (sz:=1) rfl rfl hown (hR:=by infer_instance) SrcV.lit rfl rfl (by decide) rfl (by omega) (by omega) rfl (fun v2 sp3 hown2=>?_);rw[show els2.map slv++[slv e]=(els2++[e]).map slv by simp] at hown2 ⊢)|refine zW ?_|intro _)
   rw[show els2.length+1=(els2++[e]).length by simp] at hown2
   refine Ze (j+1,ρ7,v2,els2++[e],sp3) (⟨hlt,Hp.le_trans hle1 hl7,hown2,fun x hx=>(by rcases List.mem_append.1 hx with hx|hx<;>first|exact (hbin x hx).mono hl7|(rw[List.mem_singleton.1 hx];exact he)),by dsimp only;rw[List.map_append,hl,List.take_succ_eq_append_getElem (by omega),←q1,←hel];rfl⟩) Zc Zc rfl tk inferInstance (by first|omega|(dsimp only;omega))
  ·have hk:j=els.length:=by omega
   rw[hk,hlen,List.take_of_length_le (Nat.le_refl _)] at hl
   repeat' (first|refine zW ?_|intro _)
   exact qE (L':=ZT rb db R ⟨wna,wnn,wnc,.slice (some ⟨bx,0,none⟩) els.length cap,els,sp⟩++[Zz v (els2.map slv) sp2 22]) ⟨hle1,els2,sp2,hown,hbin,hl,rfl⟩
structure Good (R:RgS)(D:DS):Prop where
 ro:RO R D
 frs:Frs R D
 calm:D.Calm
theorem calm_pair {r:DS×Int}(h:r.2=0):r=(r.1,0):=Prod.ext rfl h
theorem Good.append {R:RgS}{D:DS}{b:Bs}(h:Good R D)(hb:b.length≤8000)(hn:R.next<1099511627776)(hfit:ZD b.length≤R.h.size-R.used):∃D',R.append b D=(R.plus b,D',0)∧Good (R.plus b) D':=by
 have hsz:=h.ro.ok.size
 have hlen:=h.ro.len
 have hidx:∀p∈Yu R.h R.next b (R.h.place+R.used),p.1<D.secs.length:=fun p hp=>by
  obtain⟨k,hk,rfl⟩:=partsL_mem.1 hp
  have:=Nat.mod_lt (R.h.place+R.used+k) (show 0<R.h.size by omega)
  dsimp only;omega
 obtain⟨l0,l1,l2⟩:=Calm_lays (Yu R.h R.next b (R.h.place+R.used)) D h.calm hidx
 have ha:=(h.ro.append h.frs hb hfit hn).1 l0
 refine⟨(DS.lays (Yu R.h R.next b (R.h.place+R.used)) D).1, ?_,ha.1,ha.2,l1⟩
 unfold RgS.append
 rw[h.ro.live,if_neg (by simp),if_neg (by omega),if_neg (by omega),if_pos l0,calm_pair l0]
 rfl
theorem Good.full {R:RgS}{D:DS}{b:Bs}(h:Good R D)(hb:b.length≤8000)(hfit:¬ZD b.length≤R.h.size-R.used):R.append b D=(R,D,6):=by
 unfold RgS.append
 rw[h.ro.live,if_neg (by simp),if_neg (by omega),if_pos (by omega)]
theorem Good.cut {R:RgS}{D:DS}{n:Nat}{note:Bs}(h:Good R D)(hn:n≤R.ents.length)(ht:R.h.turn<1073741824)(hnote:note.length≤32)(hnum:R.next<1099511627776):∃D',R.cut n note D=(R.minus n note,D',0)∧Good (R.minus n note) D':=by
 have hsz:=h.ro.ok.size
 have hlen:=h.ro.len
 have hidx:∀p∈Yo (R.cutH n note),p.1<D.secs.length:=fun p hp=>by rw[(Xh hp).1];omega
 obtain⟨l0,l1,l2⟩:=Calm_lays (Yo (R.cutH n note)) D h.calm hidx
 have ha:=(h.ro.cut hn ht hnote hnum).1 l0
 refine⟨(DS.lays (Yo (R.cutH n note)) D).1, ?_,ha.1,ha.2,l1⟩
 unfold RgS.cut
 rw[h.ro.live,if_neg (by simp),if_neg (by omega),if_neg (by omega)]
 simp only[Int.toNat_natCast]
 rw[if_pos l0,calm_pair l0]
 rfl
theorem z8_take (n m:Nat):ZY ((z8 n).take m)=0:=by
 have:∀k,ZY (z8 k)=0:=fun k=>by
  induction k with
  | zero=>rfl
  | succ k ih=>simp only[z8,List.replicate_succ] at ih ⊢;rw[unbe_cons,ih];simp
 simp only[z8,List.take_replicate]
 exact this _
theorem zblk_z:zblk=z8 64:=rfl
theorem turn_zblk:YE zblk=0:=by unfold YE;rw[zblk_z,z8_take]
theorem num_zblk:numOf zblk=0:=by
 unfold numOf;rw[zblk_z];simp only[z8,List.drop_replicate];exact z8_take _ _
theorem read_zblk:(XK zblk).2=false:=by
 have h:¬(headOf zblk).Right (zblk.getD 21 0).toNat:=fun h=>by
  have h1:=h.1
  have:(headOf zblk).turn=0:=by
   simp only[headOf,zblk_z,z8,List.drop_replicate];exact z8_take _ _
  omega
 unfold XK
 rw[if_neg h]
theorem Good.format {D:DS}{n:Nat}(hok:D.Ok)(hc:D.Calm)(h0:4≤n)(h1:n≤1000)(hl:n+2≤D.secs.length)(he:WZ D.secs):∃D',WK n D=(some ⟨ZF n,[],0,false⟩,D',0)∧Good ⟨ZF n,[],0,false⟩ D':=by
 have hidx:∀p∈ZN n,p.1<D.secs.length:=fun p hp=>by
  simp only[ZN,List.mem_map,List.mem_range] at hp
  obtain⟨k,hk,rfl⟩:=hp
  dsimp only;omega
 obtain⟨l0,l1,l2⟩:=Calm_lays (ZN n) D hc hidx
 have hok1:=hok.lays (l:=ZN n) noughtsL_64
 have hlen1:=Wh (ZN n) D
 have hemp1:WZ (DS.lays (ZN n) D).1.secs:=by rw[l2];exact XD
 have hidx2:∀p∈Yo (ZF n),p.1<(DS.lays (ZN n) D).1.secs.length:=fun p hp=>by
  rw[(Xh hp).1,hlen1];simp only[ZF];omega
 obtain⟨m0,m1,m2⟩:=Calm_lays (Yo (ZF n)) (DS.lays (ZN n) D).1 l1 hidx2
 have hok2:=hok1.lays (l:=Yo (ZF n)) (fun p hp=>by rw[(Xh hp).2];exact headB_len _)
 have hlen2:=Wh (Yo (ZF n)) (DS.lays (ZN n) D).1
 have himg1:∀i,i<n+2→img (DS.lays (ZN n) D).1 i=zblk:=fun i hi=>by
  rcases img_all he l2 D rfl (i:=i) (by omega) with⟨_,hno⟩|⟨p,hp,h1,h2⟩
  ·exact absurd rfl (hno (i,zblk) (by simp only[ZN,List.mem_map,List.mem_range];exact⟨i,hi,rfl⟩))
  ·simp only[ZN,List.mem_map,List.mem_range] at hp
   obtain⟨k,hk,rfl⟩:=hp
   exact h2
 have himg2:img (DS.lays (Yo (ZF n)) (DS.lays (ZN n) D).1).1 1=Xy (ZF n):=by
  rcases img_all hemp1 m2 (DS.lays (ZN n) D).1 rfl (i:=1) (by omega) with⟨_,hno⟩|⟨p,hp,_,h2⟩
  ·exact absurd rfl (hno (1,Xy (ZF n)) (List.mem_singleton.2 rfl))
  ·rw[h2,(Xh hp).2]
 have himg3:∀i,i<n+2→i≠1→img (DS.lays (Yo (ZF n)) (DS.lays (ZN n) D).1).1 i=zblk:=fun i hi hne=>by
  rcases WE hemp1 m2 (DS.lays (ZN n) D).1 rfl i with e|⟨p,hp,h1,_⟩
  ·rw[e];exact himg1 i hi
  ·exact absurd (by rw[←h1,(Xh hp).1];rfl) hne
 refine⟨(DS.lays (Yo (ZF n)) (DS.lays (ZN n) D).1).1, ?_,⟨fresh_rok h0 h1,rfl,by simp[ZF],hok2,m1.dead,by rw[m2];exact XD, ?_, ?_, ?_,trivial, ?_, ?_⟩, ?_,m1⟩
 ·unfold WK
  rw[if_neg (by omega)]
  simp only[Int.toNat_natCast]
  rw[if_pos l0,if_pos m0,calm_pair m0]
 ·show n+2≤_
  omega
 ·exact himg2
 ·rw[show (({ h:=ZF n,ents:=[],used:=0,broken:=false }:RgS).h.turn+1) % 2=0 from (by simp[ZF]),himg3 0 (by omega) (by omega),read_zblk]
  intro h;cases h
 ·intro _ t b ht ht2 _ _
  refine⟨0,WM _,fun hx=>?_⟩
  have:=congrArg YE hx
  rw[himg3 _ (by have:=Nat.mod_lt ((ZF n).place+0+0) (show 0<(ZF n).size by simp only[ZF];omega);simp only[ZF] at this ⊢;omega) (by omega),turn_zblk,partB_turn (by omega)] at this
  omega
 ·intro q hq
  have hq2:q<n:=hq
  rw[himg3 _ (by omega) (by omega),turn_zblk,num_zblk]
  exact⟨Nat.zero_le _,Nat.zero_le _⟩
 ·intro q hq hc
  have hq2:q<n:=hq
  rw[himg3 _ (by omega) (by omega),turn_zblk] at hc
  exact absurd hc.1 (by simp[ZF])
theorem new_good {n:Nat}(h0:4≤n)(h1:n≤1000):∃D',WK n (DS.new (n+2))=(some ⟨ZF n,[],0,false⟩,D',0)∧Good ⟨ZF n,[],0,false⟩ D':=
 Good.format (new_okD (by omega) (by omega)) new_calm h0 h1 (by simp[DS.new,fresh]) fresh_empty
end Go.Proofs.E
namespace Go.Proofs.E
open Go Go.RowKit
set_option linter.unusedVariables false
set_option linter.unusedSimpArgs false
set_option linter.unusedSectionVars false
set_option maxRecDepth 8000
theorem opn_u8K {H:Type}{enc:TypeId×Value→H}{w:World}:Opn enc Tryz.prog w 5 (fun cs (b:UInt8)=>cs=[Zo b]):=fun fuel cs x h=>by
 obtain⟨n,rfl,h1,h2⟩:=Xd Tryz.underlying5 fuel cs x h
 simp only[lo,hi] at h1 h2
 refine⟨UInt8.ofNat n.toNat, ?_⟩
 have:((UInt8.ofNat n.toNat).toNat:Int)=n:=by simp[UInt8.toNat_ofNat];omega
 simp only[Zo,this]
theorem sIn_ofK {ρ:Hp}{cs:List Value}{s:Option Addr×Nat×Nat×List UInt8}(h:RS ρ 1 (fun cs (b:UInt8)=>cs=[Zo b]) cs s):SIn ρ Zo s.1 s.2.1 s.2.2.2∧s.2.1≤s.2.2.1∧s.2.1≤9223372036854775807:=by
 obtain⟨a,n,c,ks⟩:=s
 obtain⟨h1,h2,h3,h4,h5⟩:=h
 dsimp only at h1 h2 h3 h4 h5 ⊢
 refine⟨⟨h4, ?_⟩,h2,by omega⟩
 by_cases h0:n=0
 ·exact .inl h0
 ·right
  obtain⟨b,off,C,T,fr,e1,e2,e3,e4⟩:=h5 0 (by omega)
  have same:∀i (h:i<ks.length),off+i*1+1≤C.length∧(C.drop (off+i*1)).take 1=[Zo ks[i]]:=fun i hi=>by
   obtain⟨b',off',C',T',fr',f1,f2,f3,f4⟩:=h5 i hi
   rw[e1] at f1
   cases f1
   rw[e2] at f2
   cases f2
   exact⟨f3,f4⟩
  refine⟨b,off,C,T,fr,e1,e2, ?_⟩
  apply List.ext_getElem
  ·have:=(same (n-1) (by omega)).1
   simp;omega
  ·intro i h1 h2
   have hi:i<ks.length:=by simpa using h2
   have h3:=(same i hi).2
   have h4:=congrArg (fun l:List Value=>l[0]?) h3
   simp only[List.getElem?_cons_zero] at h4
   rw[List.getElem?_take_of_lt (by omega),List.getElem?_drop] at h4
   have h5:C[off+i]?=some (Zo ks[i]):=by simpa using h4
   simp only[List.getElem_take,List.getElem_drop,List.getElem_map]
   exact (List.getElem?_eq_some_iff.1 h5).2
theorem Opn.mono {H:Type}{enc:TypeId×Value→H}{P:Program}{w:World}{t:TypeId}{α β:Type}{R:List Value→α→Prop}{R':List Value→β→Prop}(h:Opn enc P w t R)(k:∀cs a,R cs a→∃b,R' cs b):Opn enc P w t R':=fun fuel cs x hx=>by
 obtain⟨a,ha⟩:=h fuel cs x hx
 exact k cs a ha
theorem sIn_of1 {ρ:Hp}{α:Type}{g:α→Value}{a:Option Addr}{n:Nat}{l:List α}(h:AIn ρ 1 (fun x=>[g x]) a n l):SIn ρ g a n l:=by
 refine⟨h.len, ?_⟩
 rcases h.out with h0|⟨b,off,C,T,fr,h1,h2,h3,h4⟩
 ·exact .inl h0
 ·right
  refine⟨b,off,C,T,fr,h1,h2, ?_⟩
  rw[Nat.mul_one] at h4
  rw[h4]
  clear h h4 h3
  induction l with
  | nil=>rfl
  | cons x r ih=>simp[ih]
end Go.Proofs.E
namespace Go.Proofs.E
open Go
set_option linter.unusedVariables false
set_option linter.unusedSimpArgs false
set_option linter.unusedSectionVars false
set_option maxRecDepth 4000
set_option maxHeartbeats 1000000
attribute [local irreducible] Yl TL TC TE Spec ZI R1 Hp.le EnvLe TS TR YS Zp
theorem knew (ρ:Hp)(n:Nat)(h0:0<n)(h1:n≤2048):Spec Tryz.prog 12 [.int .i64 n] ρ [] (fun v ρ' L'=>ρ'=ρ∧∃b k,v=.tuple ⟨[.pointer (some ⟨b,0,none⟩),.int .i64 0]⟩∧DOk k (DS.new n)∧L'=Zt b k (DS.new n)):=
 (new_spec ρ n h0 h1).mono (fun v ρ' L' _ ⟨h1',b,hb,mb,ck,h2,h3⟩=>⟨h1',b,⟨hb,mb,[],ck⟩,h2,⟨new_okD h0 h1,MapOk.empty fresh_empty⟩,h3⟩)
theorem WT {ρ:Hp}{b:Nat}{s:Bs}{T:TypeId}{fr:Nat×Nat}(h:ρ b=some (.cells ⟨s.map Zo⟩ T fr))(lo' n:Nat)(hn:lo'+n≤s.length):SIn ρ Zo (some ⟨b,lo',none⟩) n ((s.drop lo').take n):=by
 refine⟨by simp;omega,.inr ⟨b,lo',_,_,_,rfl,h,by rw[List.map_take,List.map_drop]⟩⟩
end Go.Proofs.E
namespace Go.Proofs.E
open Go
set_option linter.unusedVariables false
set_option linter.unusedSimpArgs false
set_option linter.unusedSectionVars false
set_option maxRecDepth 4000
set_option maxHeartbeats 1000000
attribute [local irreducible] Yl TL TC TE Spec ZI R1 Hp.le EnvLe TS TR YS Zp TP QP
abbrev RR:=RV×Rc
abbrev rrV (x:RR):List Value:=YV x.1 x.2
abbrev Xr (l:List RR):List Value:=(l.map rrV).flatten
theorem flatL_len (l:List RR):(Xr l).length=l.length*10:=by
 induction l with
 | nil=>rfl
 | cons x r ih=>simp only[Xr,List.map_cons,List.flatten_cons,List.length_append] at ih ⊢;rw[ih];simp[rrV];omega
theorem flatL_add (l m:List RR):Xr (l++m)=Xr l++Xr m:=by simp[Xr]
structure LgS where
 R:RgS
 base:Nat
 fl:Nat
 ma:Nat
 nx:Int
 recs:List RR
def Yh (l:List RR):Nat:=(l.map fun x=>Wb x.2).sum
theorem usedR_add (l m:List RR):Yh (l++m)=Yh l+Yh m:=by simp[Yh]
def LgS.next (S:LgS):Nat:=S.base+S.recs.length
def LgS.more (S:LgS)(x:RR):LgS:={ S with recs:=S.recs++[x] }
abbrev lgV (rb:Nat)(S:LgS)(v:Value):List Value:=[.pointer (some ⟨rb,0,none⟩),.int .u64 S.base,.int .u64 S.fl,.int .u64 S.ma,.int .i64 S.nx,v,.int .i64 (Yh S.recs:Nat)]
abbrev Ym (lb rb:Nat)(S:LgS)(v:Value):List (Nat×Obj):=[(lb,.cells ⟨lgV rb S v⟩ 193 (0,0))]
abbrev XQ (S:LgS)(v:Value)(sp:List Value):List (Nat×Obj):=Zz v (Xr S.recs) sp 39
structure LgIn (ρ:Hp)(S:LgS)(v:Value)(sp:List Value):Prop where
 own:OwnS v S.recs.length (Xr S.recs) sp 10
 rin:∀x∈S.recs,RcIn ρ x.1 x.2
 ok:∀x∈S.recs,Yt x.2=true
 used:Yh S.recs≤1000000
 base:S.base≤1099511627777
theorem costN_le (r:Rc):Wb r≤100:=by
 unfold Wb
 split
 ·rename_i h
  have:=recB_le (Wv h)
  unfold sectsB;omega
 ·omega
theorem costN_pos {r:Rc}(h:Yt r=true):1≤Wb r:=by
 unfold Wb;rw[if_pos h];unfold sectsB;omega
theorem usedR_len {l:List RR}(h:∀x∈l,Yt x.2=true):l.length≤Yh l:=by
 induction l with
 | nil=>exact Nat.zero_le _
 | cons x r ih=>
  have h1:=costN_pos (h x (by simp))
  have h2:=ih (fun y hy=>h y (by simp[hy]))
  simp only[Yh,List.map_cons,List.sum_cons,List.length_cons] at h2 ⊢
  omega
theorem LgIn.mono {ρ ρ' S v sp}(h:LgIn ρ S v sp)(hle:ρ.le ρ'):LgIn ρ' S v sp:=⟨h.own,fun x hx=>(h.rin x hx).mono hle,h.ok,h.used,h.base⟩
theorem LgIn.len {ρ S v sp}(h:LgIn ρ S v sp):S.recs.length≤1000000:=Nat.le_trans (usedR_len h.ok) h.used
theorem LgIn.next {ρ S v sp}(h:LgIn ρ S v sp):S.next<2000000000000:=by
 have h1:=h.len
 have h2:=h.base
 unfold LgS.next;omega
theorem Wi (ρ:Hp)(lb rb:Nat)(S:LgS)(v:Value)(sp:List Value)(h:LgIn ρ S v sp) :
  Spec Tryz.prog 26 [.pointer (some ⟨lb,0,none⟩)] ρ [Ym lb rb S v] (fun z ρ' L'=>z=.int .u64 (S.next:Nat)∧ρ'=ρ∧L'=[Ym lb rb S v]):=by
 have h1:=h.len
 have h2:=h.base
 obtain⟨a,c,rfl,_⟩:=h.own.len
 have e:((S.base:Nat):Int)+((S.recs.length:Nat):Int)=((S.next:Nat):Int):=by unfold LgS.next;omega
 refine Zb Tryz.func26 rfl rfl rfl fun u R=>?_
 simp only[Zd,kA]
 repeat' (first|refine zW ?_|intro _)
 refine tpZ [0] (.f [1,2,3,4,5,6,7,8,9,10,11] .o) ?_
 repeat' (refine iT ?_;first|refine rA ?_)
 all_goals (repeat' (first|refine zW ?_|intro _))
 all_goals rw[e]
 all_goals exact qE (L':=[Ym lb rb S (.slice a S.recs.length c)]) ⟨rfl,rfl,rfl⟩
theorem flushed16_spec (ρ:Hp)(lb rb:Nat)(S:LgS)(v:Value) :
  Spec Tryz.prog 31 [.pointer (some ⟨lb,0,none⟩)] ρ [Ym lb rb S v] (fun z ρ' L'=>z=.int .u64 (S.fl:Nat)∧ρ'=ρ∧L'=[Ym lb rb S v]):=by
 refine Zb Tryz.func31 rfl rfl rfl fun u R=>?_
 simp only[Zd,kA]
 repeat' (first|refine zW ?_|intro _)
 exact qE (L':=[Ym lb rb S v]) ⟨rfl,rfl,rfl⟩
theorem used16_spec (ρ:Hp)(lb rb:Nat)(S:LgS)(v:Value) :
  Spec Tryz.prog 28 [.pointer (some ⟨lb,0,none⟩)] ρ [Ym lb rb S v] (fun z ρ' L'=>z=.int .i64 (Yh S.recs:Nat)∧ρ'=ρ∧L'=[Ym lb rb S v]):=by
 refine Zb Tryz.func28 rfl rfl rfl fun u R=>?_
 simp only[Zd,kA]
 repeat' (first|refine zW ?_|intro _)
 exact qE (L':=[Ym lb rb S v]) ⟨rfl,rfl,rfl⟩
theorem takes_spec16 (ρ:Hp)(lb rb:Nat)(S:LgS)(v:Value)(sp:List Value)(h:LgIn ρ S v sp)(x:RR)(hx:RcIn ρ x.1 x.2)(hok:Yt x.2=true)(hu:Yh S.recs+Wb x.2≤1000000) :
  Spec Tryz.prog 100 [.pointer (some ⟨lb,0,none⟩),.agg ⟨YV x.1 x.2⟩] ρ [Ym lb rb S v,XQ S v sp]
   (fun z ρ' L'=>z=.tuple ⟨[]⟩∧ρ.le ρ'∧∃v' sp',LgIn ρ' (S.more x) v' sp'∧L'=[Ym lb rb (S.more x) v',XQ (S.more x) v' sp']):=by
 have h1:=h.len
 have hc:=rcost_spec ρ x.1 x.2 hx
 have hcl:=costN_le x.2
 have hown:=h.own
 obtain⟨va,vc,rfl,_⟩:=hown.len
 have e1:((Yh S.recs:Nat):Int)+((Wb x.2:Nat):Int)=((Yh (S.recs++[x]):Nat):Int):=by rw[usedR_add];simp[Yh]
 refine Zb Tryz.func100 rfl rfl rfl fun u R=>?_
 simp only[Zd,kA]
 repeat' (first|(refine Za (.func 107) ?_;refine qC rfl rfl (hc) ?_;rintro v ρ' L' hle ⟨hle1,rfl,rfl⟩<;>(try simp only[kA]))|refine zW ?_|intro _)
 rename_i xb
 refine tpA [0,1,2,3,4,6,9,10,11,13] (.c 5 7 12 [] [] [14] (.b 7 12 [] [14] (.b 8 12 [] [14] (.e 12 [14,15,16] (.e 17 [18,19] (.e 20 [] .o))) (.e 8 [15,16] (.e 17 [18,19] (.e 20 [] .o)))) (.e 7 [] (.e 8 [15,16] (.e 17 [18,19] (.e 20 [] .o))))) (.b 5 12 [] [14] (.b 8 12 [] [14] (.e 12 [14,15,16] (.e 17 [18,19] (.e 20 [] .o))) (.e 8 [15,16] (.e 17 [18,19] (.e 20 [] .o)))) (.e 5 [] (.e 8 [15,16] (.e 17 [18,19] (.e 20 [] .o))))) (.b 5 7 [] [] (.e 7 [] (.e 8 [15,16] (.e 17 [18,19] (.e 20 [] .o)))) (.e 5 [] (.e 8 [15,16] (.e 17 [18,19] (.e 20 [] .o)))))) ([[(xb,.cells ⟨YV x.1 x.2⟩ 39 (0,0))]]) ?_
 repeat' (refine iT ?_;first|refine rA ?_|((first|(refine iE ?_;refine rE ?_)|(refine iB ?_;refine rB ?_ ?_)|(refine iC ?_;refine rC ?_ ?_ ?_))<;>((try refine Zn ?_);(first|(refine Zv (css:=[YV x.1 x.2]) (sz:=10) rfl rfl rfl rfl (by simp) (by simp) rfl (fun bs=>?_);simp only[List.flatten_cons,List.flatten_nil,List.append_nil])|(refine ZK (ys:=YV x.1 x.2) (m:=1) (sz:=10) rfl rfl hown (hR:=by repeat (first|exact Zq|apply Zs)) SrcV.lit rfl rfl (by decide) rfl (by omega) (by omega) rfl (fun v' sp' hown'=>?_);obtain⟨va2,vc2,rfl,hvc2⟩:=hown'.slice)|(refine i_qq ?_;refine qQ ?_)|(refine Yj ?_;try intro _))<;>((try simp only[kA]);refine Zj ?_;refine rN ?_))))
 all_goals (repeat' (first|refine zW ?_|intro _))
 all_goals
  have hfl:Xr S.recs++YV x.1 x.2=Xr (S.recs++[x]):=by rw[flatL_add];simp[Xr]
  simp only[e1]
  rw[hfl] at hown' ⊢
  refine qE (L':=[Ym lb rb (S.more x) (.slice va2 (S.recs.length+1) vc2),XQ (S.more x) (.slice va2 (S.recs.length+1) vc2) sp']) ⟨rfl,hle1,_,sp',⟨by simpa [LgS.more] using hown', ?_, ?_, ?_,h.base⟩,rfl⟩
  ·intro y hy
   rcases List.mem_append.1 hy with hy|hy
   ·exact (h.rin y hy).mono hle1
   ·rw[List.mem_singleton.1 hy];exact hx.mono hle1
  ·intro y hy
   rcases List.mem_append.1 hy with hy|hy
   ·exact h.ok y hy
   ·rw[List.mem_singleton.1 hy];exact hok
  ·show Yh (S.recs++[x])≤1000000
   rw[usedR_add];simpa [Yh] using hu
def appE (S:LgS)(r:Rc)(res:Int):Int:=
 if Yt r=false then 220 else if r.lsn≠S.next∨res<0∨400<res then 2
 else if 400<(Yh S.recs:Int)+(Wb r:Int)+res∨S.next=1099511627776 then 261 else 0
theorem append16_no (ρ:Hp)(lb rb:Nat)(S:LgS)(v:Value)(sp:List Value)(h:LgIn ρ S v sp)(x:RR)(hx:RcIn ρ x.1 x.2)(res:Int)(hno:appE S x.2 res≠0) :
  Spec Tryz.prog 27 [.pointer (some ⟨lb,0,none⟩),.agg ⟨YV x.1 x.2⟩,.int .i64 res] ρ [Ym lb rb S v,XQ S v sp]
   (fun z ρ' L'=>z=.int .i64 (appE S x.2 res)∧ρ.le ρ'∧L'=[Ym lb rb S v,XQ S v sp]):=by
 have h1:=h.len
 have hc:=rcost_spec ρ x.1 x.2 hx
 have hcl:=costN_le x.2
 have hus:=h.used
 have hn:=fun ρ=>Wi ρ lb rb S v sp
 have hown:=h.own
 obtain⟨va,vc,rfl,_⟩:=hown.len
 unfold appE at hno ⊢
 unfold errN at hc
 refine Zb Tryz.func27 rfl rfl rfl fun u R=>?_
 simp only[Zd,kA]
 cases hok:Yt x.2
 ·rw[hok] at hc
  simp only[Bool.false_eq_true,if_false] at hc
  rw[if_pos rfl]
  repeat' (first|(refine Za (.func 107) ?_;refine qC rfl rfl (hc) ?_;rintro v ρ' L' hle ⟨hle1,rfl,rfl⟩<;>(try simp only[kA]))|refine zW ?_|intro _)
  exact qE (L':=[Ym lb rb S (.slice va S.recs.length vc),XQ S (.slice va S.recs.length vc) sp]) ⟨rfl,hle1,rfl⟩
 ·rw[hok] at hc hno
  simp only[if_true,Bool.true_eq_false,if_false] at hc hno
  rw[if_neg (by simp)]
  by_cases h2:x.2.lsn≠S.next∨res<0∨400<res
  ·rw[if_pos h2]
   repeat' (first|(refine Za (.func 107) ?_;refine qC rfl rfl (hc) ?_;rintro v ρ' L' hle ⟨hle1,rfl,rfl⟩<;>(try simp only[kA]))|refine zW ?_|intro _)
   rename_i xb
   have hn1:=hn _ (h.mono hle1)
   by_cases a1:x.2.lsn=S.next
   ·by_cases a2:res<0
    ·refine tpA [0,1,2] (.e 3 [] (.f [4,5,6,7,8,9,10,11,12,13] .o)) ([[(xb,.cells ⟨YV x.1 x.2⟩ 39 (0,0))]]) ?_
     repeat' (refine iT ?_;first|refine rA ?_|((refine iE ?_;refine rE ?_)<;>((try refine Zn ?_);(first|(refine Za (.func 26) ?_;refine qR rfl rfl (hn1) ?_;try simp only[kA])|(refine Yj ?_;try intro _))<;>((try simp only[kA]);refine Zj ?_;refine rN ?_))))
     all_goals (repeat' (first|refine zW ?_|intro _))
     all_goals exact qE (L':=[Ym lb rb S (.slice va S.recs.length vc),XQ S (.slice va S.recs.length vc) sp]) ⟨rfl,hle1,rfl⟩
    ·have a3:400<res:=by omega
     refine tpA [0,1,2] (.e 3 [] (.f [4,5,6,7,8,9,10,11,12,13] .o)) ([[(xb,.cells ⟨YV x.1 x.2⟩ 39 (0,0))]]) ?_
     repeat' (refine iT ?_;first|refine rA ?_|((refine iE ?_;refine rE ?_)<;>((try refine Zn ?_);(first|(refine Za (.func 26) ?_;refine qR rfl rfl (hn1) ?_;try simp only[kA])|(refine Yj ?_;try intro _))<;>((try simp only[kA]);refine Zj ?_;refine rN ?_))))
     all_goals (repeat' (first|refine zW ?_|intro _))
     all_goals exact qE (L':=[Ym lb rb S (.slice va S.recs.length vc),XQ S (.slice va S.recs.length vc) sp]) ⟨rfl,hle1,rfl⟩
   ·refine tpA [0,1,2] (.e 3 [] (.f [4,5,6,7,8,9,10,11,12,13] .o)) ([[(xb,.cells ⟨YV x.1 x.2⟩ 39 (0,0))]]) ?_
    repeat' (refine iT ?_;first|refine rA ?_|((refine iE ?_;refine rE ?_)<;>((try refine Zn ?_);(first|(refine Za (.func 26) ?_;refine qR rfl rfl (hn1) ?_;try simp only[kA])|(refine Yj ?_;try intro _))<;>((try simp only[kA]);refine Zj ?_;refine rN ?_))))
    all_goals (repeat' (first|refine zW ?_|intro _))
    all_goals exact qE (L':=[Ym lb rb S (.slice va S.recs.length vc),XQ S (.slice va S.recs.length vc) sp]) ⟨rfl,hle1,rfl⟩
  ·rw[if_neg h2] at hno ⊢
   have h3:400<(Yh S.recs:Int)+(Wb x.2:Int)+res∨S.next=1099511627776:=by
    by_cases h3:400<(Yh S.recs:Int)+(Wb x.2:Int)+res∨S.next=1099511627776
    ·exact h3
    ·rw[if_neg h3] at hno;exact absurd rfl hno
   rw[if_pos h3]
   obtain⟨a1,a2⟩:=not_or.1 h2
   have a1:x.2.lsn=S.next:=Classical.not_not.1 a1
   have a3:¬res<0:=by omega
   have a4:¬400<res:=by omega
   repeat' (first|(refine Za (.func 107) ?_;refine qC rfl rfl (hc) ?_;rintro v ρ' L' hle ⟨hle1,rfl,rfl⟩<;>(try simp only[kA]))|refine zW ?_|intro _)
   rename_i xb
   have hn1:=hn _ (h.mono hle1)
   refine tpA [0,1,2] (.e 3 [] (.f [4,5,6,7,8,9,10,11,12,13] .o)) ([[(xb,.cells ⟨YV x.1 x.2⟩ 39 (0,0))]]) ?_
   repeat' (refine iT ?_;first|refine rA ?_|((refine iE ?_;refine rE ?_)<;>((try refine Zn ?_);(first|(refine Za (.func 26) ?_;refine qR rfl rfl (hn1) ?_;try simp only[kA])|(refine Yj ?_;try intro _))<;>((try simp only[kA]);refine Zj ?_;refine rN ?_))))
   by_cases a5:400<(Yh S.recs:Int)+(Wb x.2:Int)+res
   ·all_goals (repeat' (first|refine zW ?_|intro _))
    all_goals exact qE (L':=[Ym lb rb S (.slice va S.recs.length vc),XQ S (.slice va S.recs.length vc) sp]) ⟨rfl,hle1,rfl⟩
   ·have a6:S.next=1099511627776:=by omega
    all_goals (repeat' (first|(refine Za (.func 26) ?_;refine qR rfl rfl (hn1) ?_;try simp only[kA])|refine zW ?_|intro _))
    all_goals exact qE (L':=[Ym lb rb S (.slice va S.recs.length vc),XQ S (.slice va S.recs.length vc) sp]) ⟨rfl,hle1,rfl⟩
theorem append16_yes (ρ:Hp)(lb rb:Nat)(S:LgS)(v:Value)(sp:List Value)(h:LgIn ρ S v sp)(x:RR)(hx:RcIn ρ x.1 x.2)(res:Int)(hyes:appE S x.2 res=0) :
  Spec Tryz.prog 27 [.pointer (some ⟨lb,0,none⟩),.agg ⟨YV x.1 x.2⟩,.int .i64 res] ρ [Ym lb rb S v,XQ S v sp]
   (fun z ρ' L'=>z=.int .i64 0∧ρ.le ρ'∧∃v' sp',LgIn ρ' (S.more x) v' sp'∧L'=[Ym lb rb (S.more x) v',XQ (S.more x) v' sp']):=by
 have h1:=h.len
 have hc:=rcost_spec ρ x.1 x.2 hx
 have hcl:=costN_le x.2
 have hus:=h.used
 have hn:=fun ρ=>Wi ρ lb rb S v sp
 have hown:=h.own
 have ht:=fun ρ hin=>takes_spec16 ρ lb rb S v sp hin x
 obtain⟨va,vc,rfl,_⟩:=hown.len
 unfold appE at hyes
 unfold errN at hc
 cases hok:Yt x.2
 ·rw[hok,if_pos rfl] at hyes;omega
 ·rw[hok] at hc
  simp only[if_true] at hc
  rw[hok,if_neg (by simp)] at hyes
  by_cases h2:x.2.lsn≠S.next∨res<0∨400<res
  ·rw[if_pos h2] at hyes;omega
  ·rw[if_neg h2] at hyes
   by_cases h3:400<(Yh S.recs:Int)+(Wb x.2:Int)+res∨S.next=1099511627776
   ·rw[if_pos h3] at hyes;omega
   ·obtain⟨a1,a2⟩:=not_or.1 h2
    have a1:x.2.lsn=S.next:=Classical.not_not.1 a1
    have a3:¬res<0:=by omega
    have a4:¬400<res:=by omega
    have a5:¬400<(Yh S.recs:Int)+(Wb x.2:Int)+res:=by omega
    have a6:¬((S.next:Nat):Int)=1099511627776:=by omega
    refine Zb Tryz.func27 rfl rfl rfl fun u R=>?_
    simp only[Zd,kA]
    repeat' (first|(refine Za (.func 107) ?_;refine qC rfl rfl (hc) ?_;rintro v ρ' L' hle ⟨hle1,rfl,rfl⟩<;>(try simp only[kA]))|refine zW ?_|intro _)
    rename_i xb
    have hn1:=hn _ (h.mono hle1)
    refine tpA [0,1,2] (.e 3 [] (.f [4,5,6,7,8,9,10,11,12,13] .o)) ([[(xb,.cells ⟨YV x.1 x.2⟩ 39 (0,0))]]) ?_
    repeat' (refine iT ?_;first|refine rA ?_|((refine iE ?_;refine rE ?_)<;>((try refine Zn ?_);(first|(refine Za (.func 26) ?_;refine qR rfl rfl (hn1) ?_;try simp only[kA])|(refine Yj ?_;try intro _))<;>((try simp only[kA]);refine Zj ?_;refine rN ?_))))
    all_goals (repeat' (first|(refine Za (.func 26) ?_;refine qR rfl rfl (hn1) ?_;try simp only[kA])|(refine Za (.func 100) ?_;refine qC rfl rfl ((ht _ (h.mono hle1) (hx.mono hle1) hok (by omega))) ?_;rintro v ρ' L' hle ⟨rfl,hle2,v',sp',hin,rfl⟩<;>(try simp only[kA]))|refine zW ?_|intro _))
    all_goals exact qE (L':=[Ym lb rb (S.more x) v',XQ (S.more x) v' sp']) ⟨rfl,Hp.le_trans hle1 hle2,v',sp',hin,rfl⟩
end Go.Proofs.E
