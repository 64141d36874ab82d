/- Laws of LogReads. Part 27 of 28. -/
import Derived.Test.YtpcfmhifkkpjpaaGreatC26
namespace Go.Proofs.E
open Go
set_option linter.unusedVariables false
set_option linter.unusedSimpArgs false
set_option linter.unusedSectionVars false
set_option maxRecDepth 4000
set_option maxHeartbeats 1000000
attribute [local irreducible] Yl TL TC TE Spec ZI R1 Hp.le EnvLe TS TR YS Zp TP QP
abbrev mdQ (mb ob:Nat)(q:List Value):List (Nat×Obj):=[(mb,.cells ⟨.pointer (some ⟨ob,0,none⟩)::q⟩ 51 (0,0))]
theorem ok_of_plain {m:List RR}{ents:List Bs}{f:Nat}(hp:plL m=ents.map XC)(he:EntsOk f ents):(∀x∈m,Yt x.2=true)∧Nmb f m:=by
 have hl:m.length=ents.length:=by have:=congrArg List.length hp;rw[plL,List.length_map,List.length_map] at this;exact this
 have hi:∀i (h:i<m.length),(m[i]).2.plain=XC (ents[i]'(by omega)):=fun i h=>by
  have g1:(plL m)[i]?=some (m[i]).2.plain:=by simp[plL,h]
  have g2:(ents.map XC)[i]?=some (XC (ents[i]'(by omega))):=by simp[show i<ents.length by omega]
  rw[hp,g2] at g1
  exact (Option.some.inj g1).symm
 refine⟨fun x hx=>?_,fun i h=>?_⟩
 ·obtain⟨i,h,rfl⟩:=List.getElem_of_mem hx
  rw[←Vj,hi i h]
  exact (enc_dec (he i (by omega)).1).1
 ·have:=congrArg Rc.lsn (hi i h)
  exact this.trans (he i (by omega)).2
theorem mopen_good (ρ:Hp)(mb ob:Nat)(q1 q2 q3 q4 q5 q6:Value)(k:DK)(D D':DS)(R:RgS)(hop:Spec Tryz.prog 94 [.pointer (some ⟨ob,0,none⟩)] ρ (Zt ob k D) (fun v ρ' L'=>ρ.le ρ'∧∃rb w k',v=.tuple ⟨[.pointer (some ⟨rb,0,none⟩),.int .i64 0]⟩∧DOk k' D'∧RIn ρ' R w∧L'=ZT rb ob R w++Zt ob k' D'))
  (ma nx:Nat) (hn:noteR R.h.note=some (ma,nx)) (hen:EntsOk R.h.first R.ents) (hma:ma<R.h.first+R.ents.length) :
  Spec Tryz.prog 22 [.pointer (some ⟨mb,0,none⟩)] ρ (mdQ mb ob [q1,q2,q3,q4,q5,q6]::Zt ob k D) (fun z ρ' L'=>z=.int .i64 0∧ρ.le ρ'∧∃rb2 w2 k2 ra rc m,DOk k2 D'∧RIn ρ' R w2∧MlI ρ' ra R.ents.length rc m∧plL m=R.ents.map XC ∧
   L'=mdC mb ob rb2 R.h.first ma (R.h.first+R.ents.length-1) nx (.slice ra R.ents.length rc)::(ZT rb2 ob R w2++Zt ob k2 D')):=by
 refine Zb Tryz.func22 rfl rfl rfl fun u R'=>?_
 simp only[Zd,kA]
 repeat' (first|(refine Za (.func 94) ?_;refine qC rfl rfl hop ?_;rintro v1 ρ1 L1 hle1 ⟨hl1,rb,w,k1,rfl,hD1,hR1,rfl⟩;try simp only[kA,List.append_assoc])|(refine Za (.func 95) ?_;refine qR rfl rfl (first_spec _ rb ob R w) ?_;try simp only[kA])|(refine Za (.func 97) ?_;refine qC rfl rfl (note_spec _ rb ob R w hR1) ?_;rintro v2 ρ2 L2 hle2 ⟨hl2,e,rfl,hbe,hel,rfl⟩;try simp only[kA])|(refine Za (.func 19) ?_;refine qC rfl rfl (all_spec _ rb ob R w (hR1.mono hl2)) ?_;rintro v4 ρ4 L4 hle4 ⟨hl4,els,sp4,hown4,hbi,hels,rfl⟩;try simp only[kA,List.append_assoc];refine ZS (Zz v4 (els.map slv) sp4 22) (fun ρ5 hl5 hfz5=>?_);obtain⟨ea,ec,rfl,hec,hE⟩:=hown4.sIn hfz5)|refine zV ?_|intro _)
 have hen0:els.length=R.ents.length:=by rw[←hels];simp
 have hfi:=hR1.ok.first
 have hnx:=hR1.ok.next
 have hnr:R.next=R.h.first+R.ents.length:=rfl
 have hlong:=hR1.ok.long
 have hfew:=hR1.ok.fit
 have hsz:=hR1.ok.size
 have hus:=hR1.ok.used
 have hul:=usedL_len R.ents
 have hno:=hR1.ok.note
 have hbl:=hbe.s.len
 rw[←hel] at hn
 have hEI:ElsI ρ5 ea els.length els:=⟨hE,fun e he=>(hbi e he).mono hl5,fun e he=>hlong _ (by rw[←hels];exact List.mem_map_of_mem he),by omega⟩
 have hbe5:=((hbe.s.mono hl4).mono hl5)
 have hrd:=read16_note ρ5 R.h.first e.a e.n e.c e.l hbe5 hbe.le ea els.length ec els hEI ⟨hfi,by omega⟩ ma nx hn
 rw[hels,hen0] at hrd
 rw[hen0]
 repeat' (first|(refine Za (.func 101) ?_;refine qC rfl rfl hrd ?_;rintro v6 ρ6 L6 hle6 ⟨hl6,rfl,⟨_,_,ra,rc,m,rfl,hrc,hmA,hmR,hmP⟩|⟨hno2,_⟩⟩;rotate_left;exact absurd (hno2 hen) (by omega);try simp only[kA])|refine zV ?_|intro _)
 rename_i b5
 refine tpA [0,1,2,3,4,5] (.e 6 [7,8] (.e 9 [] .o)) ([[(b5,.cells ⟨mlV R.h.first ma (R.h.first+R.ents.length-1) nx (.slice ra R.ents.length rc)⟩ 49 (0,0))]]) ?_
 repeat' (refine iT ?_;first|refine rA ?_|((refine iE ?_;refine rE ?_)<;>((try refine Zn ?_);(first|(refine Yj ?_;try intro _))<;>((try simp only[kA]);refine Zj ?_;refine rN ?_))))
 repeat' (first|refine zV ?_|intro _)
 have hl56:=Hp.le_trans hl5 hl6
 have hl16:=Hp.le_trans hl2 (Hp.le_trans hl4 hl56)
 exact qE (L':=mdC mb ob rb R.h.first ma (R.h.first+R.ents.length-1) nx (.slice ra R.ents.length rc)::(ZT rb ob R w++Zt ob k1 D')) ⟨rfl,Hp.le_trans hl1 hl16,rb,w,k1,ra,rc,m,hD1,hR1.mono hl16,⟨hmA,hrc,by omega,hmR,(ok_of_plain hmP hen).1⟩,hmP,rfl⟩
theorem mopen_bad (ρ:Hp)(mb ob:Nat)(q1 q2 q3 q4 q5 q6:Value)(k:DK)(D D':DS)(R:RgS)(hop:Spec Tryz.prog 94 [.pointer (some ⟨ob,0,none⟩)] ρ (Zt ob k D) (fun v ρ' L'=>ρ.le ρ'∧∃rb w k',v=.tuple ⟨[.pointer (some ⟨rb,0,none⟩),.int .i64 0]⟩∧DOk k' D'∧RIn ρ' R w∧L'=ZT rb ob R w++Zt ob k' D'))
  (hbad:∀ma nx,¬LgOk R.h.first R.h.note R.ents ma nx) :
  Spec Tryz.prog 22 [.pointer (some ⟨mb,0,none⟩)] ρ (mdQ mb ob [q1,q2,q3,q4,q5,q6]::Zt ob k D) (fun z ρ' L'=>z=.int .i64 260∧ρ.le ρ'∧∃k2,DOk k2 D'∧L'=mdQ mb ob [q1,q2,q3,q4,q5,q6]::Zt ob k2 D'):=by
 refine Zb Tryz.func22 rfl rfl rfl fun u R'=>?_
 simp only[Zd,kA]
 repeat' (first|(refine Za (.func 94) ?_;refine qC rfl rfl hop ?_;rintro v1 ρ1 L1 hle1 ⟨hl1,rb,w,k1,rfl,hD1,hR1,rfl⟩;try simp only[kA,List.append_assoc])|(refine Za (.func 95) ?_;refine qR rfl rfl (first_spec _ rb ob R w) ?_;try simp only[kA])|(refine Za (.func 97) ?_;refine qC rfl rfl (note_spec _ rb ob R w hR1) ?_;rintro v2 ρ2 L2 hle2 ⟨hl2,e,rfl,hbe,hel,rfl⟩;try simp only[kA])|(refine Za (.func 19) ?_;refine qC rfl rfl (all_spec _ rb ob R w (hR1.mono hl2)) ?_;rintro v4 ρ4 L4 hle4 ⟨hl4,els,sp4,hown4,hbi,hels,rfl⟩;try simp only[kA,List.append_assoc];refine ZS (Zz v4 (els.map slv) sp4 22) (fun ρ5 hl5 hfz5=>?_);obtain⟨ea,ec,rfl,hec,hE⟩:=hown4.sIn hfz5)|refine zV ?_|intro _)
 have hen0:els.length=R.ents.length:=by rw[←hels];simp
 have hfi:=hR1.ok.first
 have hnx:=hR1.ok.next
 have hnr:R.next=R.h.first+R.ents.length:=rfl
 have hlong:=hR1.ok.long
 have hfew:=hR1.ok.fit
 have hsz:=hR1.ok.size
 have hus:=hR1.ok.used
 have hul:=usedL_len R.ents
 have hno:=hR1.ok.note
 have hbl:=hbe.s.len
 have hEI:ElsI ρ5 ea els.length els:=⟨hE,fun e he=>(hbi e he).mono hl5,fun e he=>hlong _ (by rw[←hels];exact List.mem_map_of_mem he),by omega⟩
 have hbe5:=((hbe.s.mono hl4).mono hl5)
 have hl16:=fun {ρ6} (h:ρ5.le ρ6)=>Hp.le_trans hl1 (Hp.le_trans hl2 (Hp.le_trans hl4 (Hp.le_trans hl5 h)))
 cases hn:noteR R.h.note with
 | none=>
  rw[←hel] at hn
  have hen2:e.n≤1000:=by rw[←hbl,hel];omega
  have hrd:=read16_bad ρ5 R.h.first e.a e.n e.c e.l hbe5 hbe.le hen2 ea els.length ec ⟨hfi,by omega⟩ hn
  repeat' (first|(refine Za (.func 101) ?_;refine qC rfl rfl hrd ?_;rintro v6 ρ6 L6 hle6 ⟨rfl,rfl,rfl⟩;try simp only[kA])|refine zV ?_|intro _)
  exact qE (L':=mdQ mb ob [q1,q2,q3,q4,q5,q6]::Zt ob k1 D') ⟨rfl,hl16 (Hp.le_refl _),k1,hD1,rfl⟩
 | some p=>
  obtain⟨ma,nx⟩:=p
  have hb:=hbad ma nx
  have hn0:=hn
  rw[←hel] at hn
  have hrd:=read16_note ρ5 R.h.first e.a e.n e.c e.l hbe5 hbe.le ea els.length ec els hEI ⟨hfi,by omega⟩ ma nx hn
  rw[hels] at hrd
  repeat' (first|(refine Za (.func 101) ?_;refine qC rfl rfl hrd ?_;rintro v6 ρ6 L6 hle6 ⟨hl6,rfl,⟨hq1,hq2,_⟩|⟨_,rfl⟩⟩;exact (hb ⟨hn0,hq1,by omega⟩).elim;try simp only[kA])|refine zV ?_|intro _)
  exact qE (L':=mdQ mb ob [q1,q2,q3,q4,q5,q6]::Zt ob k1 D') ⟨rfl,hl16 hl6,k1,hD1,rfl⟩
end Go.Proofs.E
namespace Go.Proofs.E
open Go
set_option linter.unusedVariables false
set_option linter.unusedSimpArgs false
set_option linter.unusedSectionVars false
set_option maxRecDepth 4000
set_option maxHeartbeats 1000000
attribute [local irreducible] Yl TL TC TE Spec ZI R1 Hp.le EnvLe TS TR YS Zp
theorem fewF16_spec (ρ:Hp)(v:RV)(r:Rc)(h:RcW ρ v r):Spec Tryz.prog 14 [.agg ⟨YV v r⟩] ρ [] (fun z ρ' L'=>(ρ.le ρ'∧∃v' r',z=.agg ⟨YV v' r'⟩∧RcIn ρ' v' r')∧L'=[]):=by
 refine Spec.freeze (Post2:=fun z ρ'=>ρ.le ρ'∧∃v' r',z=.agg ⟨YV v' r'⟩∧RcIn ρ' v' r') (few16_spec ρ v r h) ?_
 rintro z ρ1 L1 _ ⟨hl1,v',r',s1,s2,rfl,hO,_,rfl⟩ ρ2 hl2 hz
 have hz1:=fun p hp=>hz p (by simp only[List.flatten_cons,List.mem_append];exact .inl hp)
 have hz2:=fun p hp=>hz p (by simp only[List.flatten_cons,List.mem_append];exact .inr (.inl hp))
 obtain⟨ta,tc,e1,htc,hT⟩:=hO.t.aIn (g:=YM) (l:=r'.txns) rfl (fun _ _=>rfl) hz1
 obtain⟨da,dc,e2,hdc,hD⟩:=hO.d.aIn (g:=Xq) (l:=r'.dirty) rfl (fun _ _=>rfl) hz2
 have htb:=hO.tb
 have hdb:=hO.db
 have htn:=hO.tn
 have hdn:=hO.dn
 have hi:=hO.i.mono hl2
 have him:=fun x hx=>(hO.im x hx).mono hl2
 have hs:=hO.s.mono hl2
 have hsf:=hO.sf
 clear hO hz hz1 hz2
 obtain⟨vi,vs,⟨vta,vtn,vtc⟩,⟨vda,vdn,vdc⟩⟩:=v'
 dsimp only at *
 cases e1
 cases e2
 exact⟨Hp.le_trans hl1 hl2,_,r',rfl,⟨hi,him,hs,⟨hT,by dsimp only;omega,htc⟩,⟨hD,by dsimp only;omega,hdc⟩,hsf⟩⟩
structure FilI (ρ:Hp)(R:RgS)(w:RW)(k:DK)(D:DS)(q:Nat):Prop where
 dk:DOk k D
 rg:RIn ρ R w
 good:Good R D
 hd:R.h=ZF 60
 len:R.ents.length≤q
theorem FilI.mono {ρ ρ' R w k D q}(h:FilI ρ R w k D q)(hl:ρ.le ρ'):FilI ρ' R w k D q:=⟨h.dk,h.rg.mono hl,h.good,h.hd,h.len⟩
theorem FilI.up {ρ R w k D q q'}(h:FilI ρ R w k D q)(hl:q≤q'):FilI ρ R w k D q':=⟨h.dk,h.rg,h.good,h.hd,Nat.le_trans h.len hl⟩
theorem fil_append (ρ:Hp)(rb db:Nat)(R:RgS)(w:RW)(k:DK)(D:DS)(q:Nat)(hq:q≤100)(h:FilI ρ R w k D q)(a:Option Addr)(n c:Nat)(b:Bs)(hb:SIn ρ Zo a n b)(hc:n≤c)(hn:n≤8000) :
  Spec Tryz.prog 16 [.pointer (some ⟨rb,0,none⟩),.slice a n c] ρ (ZT rb db R w++Zt db k D)
   (fun v ρ' L'=>ρ.le ρ'∧∃e R' k' D' w',v=.int .i64 e∧(e=0∨e=6)∧FilI ρ' R' w' k' D' (q+1)∧L'=ZT rb db R' w'++Zt db k' D'):=by
 have hnx:R.next<1099511627776:=by
  have e:R.next=R.h.first+R.ents.length:=rfl
  have:=h.len
  rw[e,h.hd];simp only[ZF];omega
 by_cases hf:ZD n≤R.h.size-R.used
 ·have hA:=gappend ρ rb db R w h.rg k D h.dk h.good [] a n c b hb.rd hc hn hf hnx
  simp only[List.append_nil] at hA
  refine hA.mono ?_
  rintro v ρ' L' _ ⟨rfl,hl,k',D',w',h1,h2,h3,rfl⟩
  exact⟨hl,0,R.plus b,k',D',w',rfl,.inl rfl,⟨h1,h2,h3,h.hd,by have:=h.len;simp only[RgS.plus,List.length_append,List.length_singleton];omega⟩,rfl⟩
 ·have hA:=gfull ρ rb db R w h.rg k D h.dk h.good [] a n c b hb.rd hc hn hf
  simp only[List.append_nil] at hA
  refine hA.mono ?_
  rintro v ρ' L' _ ⟨rfl,hl,k',w',h1,h2,rfl⟩
  exact⟨hl,6,R,k',D,w',rfl,.inr rfl,⟨h1,h2,h.good,h.hd,by have:=h.len;omega⟩,rfl⟩
theorem copyK16 (ρ:Hp)(db:Nat)(k:DK)(D:DS)(hD:DOk k D):Spec Tryz.prog 20 [.pointer (some ⟨db,0,none⟩)] ρ (Zt db k D) (fun v ρ' L'=>ρ'=ρ∧∃ob k',v=.pointer (some ⟨ob,0,none⟩)∧DOk k' D∧L'=Zt db k D++Zt ob k' D):=by
 refine (copy_spec ρ db k.hb k.mb k.es k.ck D hD.ok).mono ?_
 rintro v ρ' L' _ ⟨rfl,ob,hb',mb',rfl,rfl⟩
 exact⟨rfl,ob,{ k with hb:=hb',mb:=mb' },rfl,⟨hD.ok,hD.map⟩,rfl⟩
theorem lopen_bad (ρ:Hp)(db:Nat)(k:DK)(D D':DS)(R:RgS)(hop:Spec Tryz.prog 94 [.pointer (some ⟨db,0,none⟩)] ρ (Zt db k D) (fun v ρ' L'=>ρ.le ρ'∧∃rb w k',v=.tuple ⟨[.pointer (some ⟨rb,0,none⟩),.int .i64 0]⟩∧DOk k' D'∧RIn ρ' R w∧L'=ZT rb db R w++Zt db k' D'))
  (hbad:∀ma nx,¬LgOk R.h.first R.h.note R.ents ma nx) (hn:R.ents.length≤1000) :
  Spec Tryz.prog 21 [.pointer (some ⟨db,0,none⟩)] ρ (Zt db k D) (fun v ρ' L'=>ρ.le ρ'∧∃k',v=.tuple ⟨[.pointer none,.int .i64 260]⟩∧DOk k' D'∧L'=Zt db k' D'):=by
 cases hno:noteR R.h.note with
 | none=>exact lopen_bad1 ρ db k D D' R hop hno hn
 | some p=>
  obtain⟨ma,nx⟩:=p
  refine lopen_bad2 ρ db k D D' R hop ma nx hno (fun he=>?_) hn
  rcases Nat.lt_or_ge ma (R.h.first+R.ents.length) with h|h
  ·exact absurd ⟨hno,he,h⟩ (hbad ma nx)
  ·exact h
theorem reads16Law_spec (ρ:Hp)(a0:Option Addr)(n0 c0:Nat)(nb:Bs)(h0:SIn ρ Zo a0 n0 nb)(hc0:n0≤c0)(hn0:n0≤9223372036854775807)(a1:Option Addr)(n1 c1:Nat)(rs:List RR)(h1:AIn ρ 10 rrV a1 n1 rs)(hw1:∀x∈rs,RcW ρ x.1 x.2)(hn1:n1≤9223372036854775807)
  (a2:Option Addr) (n2 c2:Nat) (bs:List BSl) (h2:SIn ρ slv a2 n2 bs) (hw2:∀e∈bs,BIn ρ e∧e.n≤9223372036854775807) (hn2:n2≤9223372036854775807) :
  Spec Tryz.prog 3 [.slice a0 n0 c0,.slice a1 n1 c1,.slice a2 n2 c2] ρ [] (fun z ρ' L'=>z=.bool true∧ρ.le ρ'∧L'=[]):=by
 have hl0:=h0.len
 have hl1:=h1.len
 have hl2:=h2.len
 refine Zb Tryz.func3 rfl rfl rfl fun u R0=>?_
 simp only[Zd,kA]
 repeat' (first|(refine Za (.func 11) ?_;refine qC rfl rfl (wakes16_spec _) ?_;rintro v ρ' L' hle ⟨rfl,hz1,rfl⟩<;>(try simp only[kA]))|(refine Za (.func 12) ?_;refine qC rfl rfl (knew _ 62 (by omega) (by omega)) ?_;rintro v ρ' L' hle ⟨rfl,db,k0,rfl,hk0,rfl⟩<;>(try simp only[kA]))|(refine Za (.func 13) ?_;refine qC rfl rfl (kformat _ 60 (by omega) (by omega) db k0 hk0) ?_;rintro v2 ρ2 L2 hle2 ⟨hz2,rb,w2,k2,D2,rfl,hk2,hr2,g2,rfl⟩;try simp only[kA,List.append_assoc])|refine zV ?_|intro _)
 have hfi:FilI ρ2 ⟨ZF 60,[],0,false⟩ w2 k2 D2 0:=⟨hk2,hr2,g2,rfl,Nat.le_refl _⟩
 have hl02:=Hp.le_trans hz1 hz2
 refine Zi [(0,_),(2,_),(7,_),(8,_),(9,_),(37,_),(38,_)] (fun (ζ:(Nat)×(Hp)×(RgS)×(RW)×(DK)×(DS))=>[(39,.int .i64 ζ.1),(6,.bool false)]) (fun (ζ:(Nat)×(Hp)×(RgS)×(RW)×(DK)×(DS))=>ζ.2.1) (fun (ζ:(Nat)×(Hp)×(RgS)×(RW)×(DK)×(DS))=>ZT rb db ζ.2.2.1 ζ.2.2.2.1++Zt db ζ.2.2.2.2.1 ζ.2.2.2.2.2) (fun (ζ:(Nat)×(Hp)×(RgS)×(RW)×(DK)×(DS))=>ζ.1≤n1∧ρ2.le ζ.2.1∧FilI ζ.2.1 ζ.2.2.1 ζ.2.2.2.1 ζ.2.2.2.2.1 ζ.2.2.2.2.2 (min ζ.1 6)) (fun (ζ:(Nat)×(Hp)×(RgS)×(RW)×(DK)×(DS))=>n1-ζ.1) ((0,ρ2,⟨ZF 60,[],0,false⟩,w2,k2,D2)) (⟨Nat.zero_le _,Hp.le_refl _,hfi⟩) Zc Zc rfl tk ?_
 rintro⟨i,ρ3,Rg,w,k,D⟩ hI
 try simp only[kA,List.append_assoc] at hI ⊢
 try dsimp only at hI ⊢
 obtain⟨hi,hl3,hF⟩:=hI
 by_cases hlt:i<n1
 ·have hil:i<rs.length:=by omega
  obtain⟨b,off,C,T,fr,e1,hb,hfit,hc⟩:=(h1.mono (Hp.le_trans hl02 hl3)).get hil
  have hy:=(hw1 _ (List.getElem_mem hil)).mono (Hp.le_trans hl02 hl3)
  generalize rs[i]=y at *
  obtain⟨yv,yr⟩:=y
  dsimp only at hy hc
  subst e1
  have hfw:=fewF16_spec ρ3 yv yr hy
  by_cases h6:6≤i
  ·repeat' (first|(refine Za (.func 14) ?_;refine qC rfl rfl hfw ?_;rintro v4 ρ4 L4 hle4 ⟨⟨hl4,rv,rr,rfl,hrin⟩,rfl⟩;try simp only[kA])|refine zV ?_|intro _)
   refine Ze (i+1,ρ4,Rg,w,k,D) (⟨hlt,Hp.le_trans hl3 hl4,(hF.mono hl4).up (by dsimp only;omega)⟩) Zc Zc rfl tk inferInstance (by first|omega|(dsimp only;omega))
  ·repeat' (first|(refine Za (.func 14) ?_;refine qC rfl rfl hfw ?_;rintro v4 ρ4 L4 hle4 ⟨⟨hl4,rv,rr,rfl,hrin⟩,rfl⟩;have hri:=Wo ρ4 rv rr hrin;try simp only[kA])|refine zV ?_|intro _)
   cases hok:Yt rr
   ·rw[hok] at hri
    repeat' (first|(refine Za (.func 15) ?_;refine qC rfl rfl (hri) ?_;rintro v ρ' L' hle ⟨rfl,rfl,rfl⟩<;>(try simp only[kA]))|refine zV ?_|intro _)
    refine Ze (i+1,_,Rg,w,k,D) (⟨hlt,Hp.le_trans hl3 hl4,(hF.mono hl4).up (by first|omega|(dsimp only;omega))⟩) Zc Zc rfl tk inferInstance (by first|omega|(dsimp only;omega))
   ·rw[hok] at hri
    have hby:=bytes12_spec ρ4 rv rr hrin (Wv hok)
    have hle:=recB_le (Wv hok)
    generalize YF rr=bb at *
    repeat' (first|(refine Za (.func 15) ?_;refine qC rfl rfl (hri) ?_;rintro v ρ' L' hle ⟨rfl,rfl,rfl⟩<;>(try simp only[kA]))|(refine Za (.func 17) ?_;refine qC rfl rfl hby ?_;rintro v5 ρ5 L5 hle5 ⟨hl5,ba,bc,rfl,hbc,hbS,rfl⟩;try simp only[kA])|refine zV ?_|intro _)
    refine Za (.func 16) ?_
    refine qC rfl rfl (fil_append ρ5 rb db Rg w k D (min i 6) (by omega) ((hF.mono hl4).mono hl5) ba bb.length bc bb hbS hbc (by omega)) ?_
    rintro v6 ρ6 L6 hle6 ⟨hl6,e6,R6,k6,D6,w6,rfl,he6,hF6,rfl⟩
    try simp only[kA]
    have hq:=Hp.le_trans hl3 (Hp.le_trans hl4 (Hp.le_trans hl5 hl6))
    rcases he6 with rfl|rfl
    all_goals
     repeat' (first|refine zV ?_|intro _)
     refine Ze (i+1,ρ6,R6,w6,k6,D6) (⟨hlt,hq,hF6.up (by dsimp only;omega)⟩) Zc Zc rfl tk inferInstance (by first|omega|(dsimp only;omega))
 have hF:=hF.up (Nat.min_le_right i 6)
 have hl03:=Hp.le_trans hl02 hl3
 repeat' (first|refine zV ?_|intro _)
 refine Zi [(0,_),(7,_),(8,_),(9,_),(63,_),(64,_)] (fun (ζ:(Nat)×(Hp)×(RgS)×(RW)×(DK)×(DS))=>[(65,.int .i64 ζ.1),(6,.bool false)]) (fun (ζ:(Nat)×(Hp)×(RgS)×(RW)×(DK)×(DS))=>ζ.2.1) (fun (ζ:(Nat)×(Hp)×(RgS)×(RW)×(DK)×(DS))=>ZT rb db ζ.2.2.1 ζ.2.2.2.1++Zt db ζ.2.2.2.2.1 ζ.2.2.2.2.2) (fun (ζ:(Nat)×(Hp)×(RgS)×(RW)×(DK)×(DS))=>ζ.1≤n2∧ρ3.le ζ.2.1∧FilI ζ.2.1 ζ.2.2.1 ζ.2.2.2.1 ζ.2.2.2.2.1 ζ.2.2.2.2.2 (6+min ζ.1 3)) (fun (ζ:(Nat)×(Hp)×(RgS)×(RW)×(DK)×(DS))=>n2-ζ.1) ((0,ρ3,Rg,w,k,D)) (⟨Nat.zero_le _,Hp.le_refl _,hF⟩) Zc Zc rfl tk ?_
 rintro⟨j,ρ7,R7,w7,k7,D7⟩ hI
 try simp only[kA,List.append_assoc] at hI ⊢
 try dsimp only at hI ⊢
 obtain⟨hj,hl7,hF7⟩:=hI
 have hl07:=Hp.le_trans hl03 hl7
 by_cases hlt2:j<n2
 ·have hjl:j<bs.length:=by omega
  obtain⟨b,off,C,T,fr,e1,hb,hc⟩:=(h2.mono hl07).get hjl
  obtain⟨hbi,hbn⟩:=hw2 _ (List.getElem_mem hjl)
  have hbi:=hbi.mono hl07
  generalize bs[j]=y at *
  obtain⟨ya,yn,yc,yl⟩:=y
  subst e1
  have hys:=hbi.s
  have hyc:=hbi.le
  dsimp only at hys hyc hbn
  simp only[slv] at hc
  obtain⟨m,hm⟩:∃m,m=min yn 100:=⟨_,rfl⟩
  have hmm:(min (yn:Int) 100).toNat=m:=by omega
  have hyt:=hys.take (hi':=m) (by omega)
  by_cases h3:3≤j
  ·repeat' (first|refine zV ?_|intro _)
   refine Ze (j+1,ρ7,R7,w7,k7,D7) (⟨hlt2,hl7,hF7.up (by dsimp only;omega)⟩) Zc Zc rfl tk inferInstance (by first|omega|(dsimp only;omega))
  ·repeat' (first|refine zV ?_|intro _)
   simp only[hmm]
   refine Za (.func 16) ?_
   refine qC rfl rfl (fil_append ρ7 rb db R7 w7 k7 D7 (6+min j 3) (by omega) hF7 ya m yc (yl.take m) hyt (by omega) (by omega)) ?_
   rintro v8 ρ8 L8 hle8 ⟨hl8,e8,R8,k8,D8,w8,rfl,he8,hF8,rfl⟩
   try simp only[kA]
   rcases he8 with rfl|rfl
   all_goals
    repeat' (first|refine zV ?_|intro _)
    refine Ze (j+1,ρ8,R8,w8,k8,D8) (⟨hlt2,Hp.le_trans hl7 hl8,hF8.up (by dsimp only;omega)⟩) Zc Zc rfl tk inferInstance (by first|omega|(dsimp only;omega))
 have hF7:=hF7.up (Nat.add_le_add_left (Nat.min_le_right j 3) 6)
 obtain⟨mn,hmn⟩:∃m,m=min n0 32:=⟨_,rfl⟩
 have hmm:(min (n0:Int) 32).toNat=mn:=by omega
 have hnt:=(h0.mono hl07).take (hi':=mn) (by omega)
 have hntl:=hnt.len
 generalize nb.take mn=nt at *
 repeat' (first|refine zV ?_|intro _)
 simp only[hmm]
 refine ZK (n:=0) (xs:=[]) (sp:=[]) (ys:=nt.map Zo) (m:=mn) (sz:=1) rfl rfl (OwnS.zero _ 1) (hR:=by repeat (first|exact Zq|apply Zs)) (SIn.srcV hnt) (by rw[List.length_map,hntl,Nat.mul_one]) (Yn nt) (by decide) rfl (by omega) (by omega) rfl (fun v8 sp8 hown8=>?_)
 simp only[Nat.zero_add,List.nil_append] at hown8 ⊢
 refine ZS _ (h:=Rem.here) (fun ρ8 hl8 hfz8=>?_)
 obtain⟨na,nc,rfl,hnc,hnS⟩:=hown8.sIn hfz8
 have hF8:=hF7.mono hl8
 have hl08:=Hp.le_trans hl07 hl8
 obtain⟨hk7,hr7,hg7,hh7,hq7⟩:=hF8
 have hnx7:R7.next<1099511627776:=by
  have e:R7.next=R7.h.first+R7.ents.length:=rfl
  rw[e,hh7];simp only[ZF];omega
 by_cases hm0:mn=0
 case' pos=>
  have ht7:R7.h.turn<1073741824:=by rw[hh7];simp only[ZF];omega
  repeat' (first|refine zV ?_|intro _)
 case' neg=>
  obtain⟨m,hm⟩:∃m,m=mn % (R7.ents.length+1):=⟨_,rfl⟩
  have hml:m≤R7.ents.length:=by rw[hm];have:=Nat.mod_lt mn (show 0<R7.ents.length+1 by omega);omega
  have htm:((mn:Nat):Int).tmod ((R7.ents.length:Nat)+1:Int)=((m:Nat):Int):=by rw[hm];exact (Int.ofNat_tmod _ _).symm
  repeat' (first|(refine Za (.func 19) ?_;refine qC rfl rfl (all_spec _ rb db R7 w7 hr7) ?_;rintro v9 ρ9 L9 hle9 ⟨hl9,els,sp9,hown9,hbi9,hels9,rfl⟩;have hel9:els.length=R7.ents.length:=(by rw[←hels9];simp);obtain⟨ea9,ec9,rfl,_⟩:=hown9.slice;try simp only[kA,List.append_assoc])|refine zV ?_|intro _)
  rw[show ((mn:Nat):Int).tmod ((els.length:Nat)+1:Int)=((m:Nat):Int) by rw[hel9];exact htm]
  have hCu:=gcut ρ9 rb db R7 w7 (hr7.mono hl9) k7 D7 hk7 hg7 [] na mn nc nt ((hnS.mono hl9).rd) m hml (by rw[hh7];simp only[ZF];omega) (by omega) hnx7
  simp only[List.append_nil] at hCu
  have ht7:(R7.minus m nt).h.turn<1073741824:=by
   have e:(R7.minus m nt).h.turn=R7.h.turn+1:=rfl
   rw[e,hh7];simp only[ZF];omega
  generalize R7.minus m nt=R7' at *
  refine Za (.func 18) ?_
  refine qC rfl rfl hCu ?_
  clear hk7 hr7 hg7 hh7 hq7 hnx7
  rintro v8 ρ8' L8 hle8 ⟨rfl,hl8',k7',D7',w7',hk7,hr7,hg7,rfl⟩
  have hl08:=Hp.le_trans hl08 (Hp.le_trans hl9 hl8')
  clear hm hml htm hCu hel9 hfz8 hnS hF7 hl8 hl9
  generalize R7'=R7 at *
  generalize w7'=w7 at *
  generalize k7'=k7 at *
  generalize D7'=D7 at *
  generalize ρ8'=ρ8 at *
  try simp only[kA]
  repeat' (first|refine zV ?_|intro _)
 all_goals
  have hRok:=hg7.ro.ok
  have hful:=usedL_len R7.ents
  have hfit7:=hRok.fit
  have hsz7:=hRok.size
  have hus7:=hRok.used
  have hnx8:=hRok.next
  have hfr7:=hRok.first
  have hnr7:R7.next=R7.h.first+R7.ents.length:=rfl
  obtain⟨Da,hga,hopa⟩:=gopen2 ρ8 db k7 D7 hk7 R7 hg7.ro hg7.calm ht7
  have hopb:=fun ρ' ob kb (hkb:DOk kb D7)=>gopen2 ρ' ob kb D7 hkb R7 hg7.ro hg7.calm ht7
  by_cases hg:∃ma nx,LgOk R7.again.h.first R7.again.h.note R7.again.ents ma nx
  ·obtain⟨ma,nx,hgn,hge,hgm⟩:=hg
   have hnl:=noteR_len hgn
   have hnb:=hRok.note
   have hlo:=lopen_spec ρ8 db k7 D7 Da R7.again hopa ma nx (fun S _ q1 q2=>noteR_some hgn S q1 q2) (show R7.h.first≤_ by omega) hgm hge (show R7.ents.length≤_ by omega)
   repeat' (first|(refine Za (.func 20) ?_;refine qC rfl rfl (copyK16 _ db k7 D7 hk7) ?_;rintro v9 ρ9 L9 hle9 ⟨rfl,ob,kb,rfl,hkb,rfl⟩;try simp only[kA,List.append_assoc])|refine zV ?_|intro _)
   rename_i mb
   refine Za (.func 21) ?_
   refine qC rfl rfl hlo ?_
   rintro v10 ρ10 L10 hle10 ⟨hl10,lb,rb2,w10,k10,l,v11,sp11,rfl,hk10,hr10,hlg,hlp,rfl⟩
   try simp only[kA,List.append_assoc]
   obtain⟨Db,hgb,hop2⟩:=hopb ρ10 ob kb hkb
   have hmo:=mopen_good ρ10 mb ob (.pointer none) (.int .u64 0) (.int .u64 0) (.int .u64 0) (.int .i64 0) (.slice none 0 0) kb D7 Db R7.again hop2 ma nx hgn hge hgm
   repeat' (first|refine zV ?_|intro _)
   refine Za (.func 22) ?_
   refine qC rfl rfl hmo ?_
   rintro v12 ρ12 L12 hle12 ⟨rfl,hl12,rb3,w12,k12,ra,rc,m,hk12,hr12,hM,hmp,rfl⟩
   try simp only[kA,List.append_assoc]
   have hok:=ok_of_plain hlp hge
   have hb8:ma<18446744073709551616:=by
    have:R7.again.h.first+R7.again.ents.length=R7.next:=rfl
    omega
   have hfl:R7.again.h.first+R7.again.ents.length-1<18446744073709551616:=by
    have:R7.again.h.first+R7.again.ents.length=R7.next:=rfl
    omega
   have hsy:=says16_spec ρ12 lb rb2 db mb ob rb3 ⟨R7.again,R7.again.h.first,R7.again.h.first+R7.again.ents.length-1,ma,nx,l⟩ v11 sp11 (hlg.mono hl12) w10 R7.again w12 rfl nx rfl (by omega) ra R7.again.ents.length rc m hM (hlp.trans hmp.symm) hok.2 (show 1≤R7.h.first by omega) (show R7.h.first≤_ by omega) hb8 hfl
   have hfin:=fun {ρ13} (h:ρ12.le ρ13)=>Hp.le_trans hl08 (Hp.le_trans hl10 (Hp.le_trans hl12 h))
   repeat' (first|(refine Za (.func 23) ?_;refine qC rfl rfl hsy ?_;rintro v13 ρ13 L13 hle13 ⟨rfl,hl13,rfl⟩;try simp only[kA,List.append_assoc])|refine zV ?_|intro _)
   exact qE (L':=[]) ⟨rfl,hfin hl13,rfl⟩
  ·have hbad:∀ma nx,¬LgOk R7.again.h.first R7.again.h.note R7.again.ents ma nx:=fun ma nx h=>hg ⟨ma,nx,h⟩
   have hlo:=lopen_bad ρ8 db k7 D7 Da R7.again hopa hbad (show R7.ents.length≤_ by omega)
   repeat' (first|(refine Za (.func 20) ?_;refine qC rfl rfl (copyK16 _ db k7 D7 hk7) ?_;rintro v9 ρ9 L9 hle9 ⟨rfl,ob,kb,rfl,hkb,rfl⟩;try simp only[kA,List.append_assoc])|refine zV ?_|intro _)
   rename_i mb
   refine Za (.func 21) ?_
   refine qC rfl rfl hlo ?_
   rintro v10 ρ10 L10 hle10 ⟨hl10,k10,rfl,hk10,rfl⟩
   try simp only[kA,List.append_assoc]
   obtain⟨Db,hgb,hop2⟩:=hopb ρ10 ob kb hkb
   have hmo:=mopen_bad ρ10 mb ob (.pointer none) (.int .u64 0) (.int .u64 0) (.int .u64 0) (.int .i64 0) (.slice none 0 0) kb D7 Db R7.again hop2 hbad
   repeat' (first|refine zV ?_|intro _)
   refine Za (.func 22) ?_
   refine qC rfl rfl hmo ?_
   rintro v12 ρ12 L12 hle12 ⟨rfl,hl12,k12,hk12,rfl⟩
   try simp only[kA,List.append_assoc]
   repeat' (first|refine zV ?_|intro _)
   exact qE (L':=[]) ⟨rfl,Hp.le_trans hl08 (Hp.le_trans hl10 hl12),rfl⟩
end Go.Proofs.E
namespace Go.Proofs.E
open Go Go.RowKit
set_option linter.unusedVariables false
set_option linter.unusedSimpArgs false
set_option linter.unusedSectionVars false
set_option maxRecDepth 8000
theorem rsw_flat {α:Type}{sz:Nat}{g:α→List Value}{C:List Value}{off:Nat}:∀(l:List α) (k:Nat),k≤l.length→(∀i (h:i<l.length),(C.drop (off+i*sz)).take sz=g l[i])→(C.drop off).take (k*sz)=((l.take k).map g).flatten
 | l,0,_,_=>by simp
 | l,k+1,hk,h=>by
  have ih:=rsw_flat l k (by omega) h
  rw[show l.take (k+1)=l.take k++[l[k]'(by omega)] from List.take_succ_eq_append_getElem (by omega),Nat.add_mul,Nat.one_mul,List.take_add,ih,List.drop_drop,h k (by omega)]
  simp only[List.map_append,List.flatten_append,List.map_cons,List.map_nil,List.flatten_cons,List.flatten_nil,List.append_nil]
theorem aIn_ofW {ρ:Hp}{α:Type}{sz:Nat}{g:α→List Value}{P:α→Prop}{cs:List Value}{s:Option Addr×Nat×Nat×List α}(hg:∀x,(g x).length=sz)(h:RS ρ sz (fun cs x=>cs=g x∧P x) cs s):AIn ρ sz g s.1 s.2.1 s.2.2.2∧(∀x∈s.2.2.2,P x)∧s.2.1≤s.2.2.1∧s.2.1≤9223372036854775807:=by
 obtain⟨a,n,c,ks⟩:=s
 obtain⟨h1,h2,h3,h4,h5⟩:=h
 dsimp only at h1 h2 h3 h4 h5 ⊢
 refine⟨⟨h4, ?_,fun x _=>hg x⟩,fun x hx=>?_,h2,by omega⟩
 ·by_cases h0:n=0
  ·exact .inl h0
  ·right
   obtain⟨b,off,C,T,fr,e1,e2,e3,e4⟩:=h5 0 (by omega)
   have same:∀i (h:i<ks.length),off+i*sz+sz≤C.length∧(C.drop (off+i*sz)).take sz=g ks[i]:=fun i hi=>by
    obtain⟨b',off',C',T',fr',f1,f2,f3,f4⟩:=h5 i hi
    rw[e1] at f1
    cases f1
    rw[e2] at f2
    cases f2
    exact⟨f3,f4.1⟩
   refine⟨b,off,C,T,fr,e1,e2, ?_, ?_⟩
   ·have:=(same (n-1) (by omega)).1
    have e:n*sz=(n-1)*sz+sz:=by
     obtain⟨m,rfl⟩:∃m,n=m+1:=⟨n-1,by omega⟩
     rw[Nat.add_mul];simp
    omega
   ·have:=rsw_flat (sz:=sz) (g:=g) ks n (by omega) (fun i hi=>(same i hi).2)
    rw[this,List.take_of_length_le (by omega)]
 ·obtain⟨i,hi,rfl⟩:=List.mem_iff_getElem.1 hx
  obtain⟨_,_,_,_,_,_,_,_,f⟩:=h5 i hi
  exact f.2
section
variable {H:Type}{enc:TypeId×Value→H}{w:World}
theorem opnS_str:OpnS enc Tryz.prog w 9 (fun cs (l:List UInt8)=>cs=[strV l]):=Opn.sized (fun fuel cs x h=>by
 obtain⟨s,rfl,_,_⟩:=DataW.trod_string Tryz.underlying9 h
 obtain⟨⟨l⟩⟩:=s
 exact⟨l,rfl⟩)
theorem opnS_key:OpnS enc Tryz.prog w 169 (fun cs (k:Int×Nat)=>cs=keyV k.1 k.2∧k.2<65536):=Opn.sized (fun fuel cs x h=>by
 obtain⟨hl,hf⟩:=opn_fields Tryz.underlying169 h
 have hl:cs.length=2:=by rw[hl];kernel_rfl
 obtain⟨c0,c1,rfl⟩:∃c0 c1,cs=[c0,c1]:=by
  match cs,hl with
  | [c0,c1],_=>exact⟨c0,c1,rfl⟩
 obtain⟨t,h0,_⟩:=opn_field h Tryz.underlying169 0 0 1 rfl rfl rfl (by kernel_rfl) (Xd Tryz.underlying3)
 obtain⟨i,h1,i0,i1⟩:=opn_field h Tryz.underlying169 1 1 1 rfl rfl rfl (by kernel_rfl) (Xd Tryz.underlying167)
 simp only[List.drop_zero,List.drop_succ_cons,List.take_succ_cons,List.take_zero,List.cons.injEq,and_true] at h0 h1
 subst h0;subst h1
 simp only[lo,hi] at i0 i1
 refine⟨(t,i.toNat), ?_,by dsimp only;omega⟩
 have:((i.toNat:Nat):Int)=i:=by omega
 simp only[keyV,this])
theorem opnS_row:OpnS enc Tryz.prog w 171 (fun cs (r:Row)=>cs=Yq r∧Yx r):=fun fuel cs x h hw=>by
 obtain⟨hl,hf⟩:=XP Tryz.underlying171 h hw
 have hl:cs.length=4:=by rw[hl];kernel_rfl
 obtain⟨c0,c1,c2,c3,rfl⟩:∃c0 c1 c2 c3,cs=[c0,c1,c2,c3]:=by
  match cs,hl with
  | [c0,c1,c2,c3],_=>exact⟨c0,c1,c2,c3,rfl⟩
 obtain⟨⟨t,i⟩,h0,hi0⟩:=ZL h hw Tryz.underlying171 0 0 2 rfl rfl rfl (by kernel_rfl) opnS_key
 obtain⟨v,h1,v0,v1⟩:=ZL h hw Tryz.underlying171 1 2 1 rfl rfl rfl (by kernel_rfl) (Xd Tryz.underlying2).sized
 obtain⟨s,h2⟩:=ZL h hw Tryz.underlying171 2 3 1 rfl rfl rfl (by kernel_rfl) opnS_str
 simp only[List.drop_zero,List.drop_succ_cons,List.take_succ_cons,List.take_zero,List.cons.injEq,and_true,keyV] at h0 h1 h2
 obtain⟨rfl,rfl⟩:=h0
 subst h1;subst h2
 simp only[lo,hi] at v0 v1
 exact⟨⟨t,i,v,s⟩,rfl,⟨hi0,v0,v1⟩⟩
theorem opnS_kid:OpnS enc Tryz.prog w 238 (fun cs (k:Kid)=>cs=Xl k∧k.id<65536):=fun fuel cs x h hw=>by
 obtain⟨hl,hf⟩:=XP Tryz.underlying238 h hw
 have hl:cs.length=3:=by rw[hl];kernel_rfl
 obtain⟨c0,c1,c2,rfl⟩:∃c0 c1 c2,cs=[c0,c1,c2]:=by
  match cs,hl with
  | [c0,c1,c2],_=>exact⟨c0,c1,c2,rfl⟩
 obtain⟨⟨t,i⟩,h0,hi0⟩:=ZL h hw Tryz.underlying238 0 0 2 rfl rfl rfl (by kernel_rfl) opnS_key
 obtain⟨v,h1,_⟩:=ZL h hw Tryz.underlying238 1 2 1 rfl rfl rfl (by kernel_rfl) (Xd Tryz.underlying3).sized
 simp only[List.drop_zero,List.drop_succ_cons,List.take_succ_cons,List.take_zero,List.cons.injEq,and_true,keyV] at h0 h1
 obtain⟨rfl,rfl⟩:=h0
 subst h1
 exact⟨⟨t,i,v⟩,rfl,hi0⟩
theorem opnS_cont:OpnS enc Tryz.prog w 112 (fun cs (x:CV×Wq)=>cs=XI x.2.kind x.1∧CW (hpOf w) x.1 x.2):=fun fuel cs x h hw=>by
 obtain⟨hl,hf⟩:=XP Tryz.underlying112 h hw
 have hl:cs.length=3:=by rw[hl];kernel_rfl
 obtain⟨c0,c1,c2,rfl⟩:∃c0 c1 c2,cs=[c0,c1,c2]:=by
  match cs,hl with
  | [c0,c1,c2],_=>exact⟨c0,c1,c2,rfl⟩
 obtain⟨k,h0,_⟩:=ZL h hw Tryz.underlying112 0 0 1 rfl rfl rfl (by kernel_rfl) (Xd Tryz.underlying3).sized
 obtain⟨⟨ra,rn,rc,rows⟩,h1,w1⟩:=ZL h hw Tryz.underlying112 1 1 1 rfl rfl rfl (by kernel_rfl) (XU (sz:=4) (by':=40) Tryz.underlying109 (by kernel_rfl) (by decide) (by kernel_rfl) opnS_row)
 obtain⟨⟨ka,kn,kc,kids⟩,h2,w2⟩:=ZL h hw Tryz.underlying112 2 2 1 rfl rfl rfl (by kernel_rfl) (XU (sz:=3) (by':=24) Tryz.underlying110 (by kernel_rfl) (by decide) (by kernel_rfl) opnS_kid)
 obtain⟨g1,g2,g3,_⟩:=aIn_ofW rowV_len h1
 obtain⟨k1,k2,k3,_⟩:=aIn_ofW kidV_len h2
 simp only[reachBytes] at w1 w2
 replace h1:=h1.cells
 replace h2:=h2.cells
 simp only[List.drop_zero,List.drop_succ_cons,List.take_succ_cons,List.take_zero,List.cons.injEq,and_true] at h0 h1 h2
 subst h0;subst h1;subst h2
 exact⟨(⟨ra,rn,rc,ka,kn,kc⟩,⟨k,rows,kids⟩),rfl,⟨g1,k1,by dsimp only;omega,by dsimp only;omega,g3,k3,g2,k2⟩⟩
theorem opnS_image:OpnS enc Tryz.prog w 165 (fun cs (x:Im)=>cs=imV x∧(CW (hpOf w) x.bv x.b∧CW (hpOf w) x.av x.a)):=fun fuel cs x h hw=>by
 obtain⟨hl,hf⟩:=XP Tryz.underlying165 h hw
 have hl:cs.length=7:=by rw[hl];kernel_rfl
 obtain⟨c0,c1,c2,c3,c4,c5,c6,rfl⟩:∃c0 c1 c2 c3 c4 c5 c6,cs=[c0,c1,c2,c3,c4,c5,c6]:=by
  match cs,hl with
  | [c0,c1,c2,c3,c4,c5,c6],_=>exact⟨c0,c1,c2,c3,c4,c5,c6,rfl⟩
 obtain⟨k,h0,_⟩:=ZL h hw Tryz.underlying165 0 0 1 rfl rfl rfl (by kernel_rfl) (Xd Tryz.underlying3).sized
 obtain⟨⟨bv,b⟩,h1,w1⟩:=ZL h hw Tryz.underlying165 1 1 3 rfl rfl rfl (by kernel_rfl) opnS_cont
 obtain⟨⟨av,a⟩,h2,w2⟩:=ZL h hw Tryz.underlying165 2 4 3 rfl rfl rfl (by kernel_rfl) opnS_cont
 simp only[List.drop_zero,List.drop_succ_cons,List.take_succ_cons,List.take_zero,List.cons.injEq,and_true,XI] at h0 h1 h2
 obtain⟨rfl,rfl,rfl⟩:=h1
 obtain⟨rfl,rfl,rfl⟩:=h2
 subst h0
 exact⟨⟨k,bv,b,av,a⟩,rfl,w1,w2⟩
theorem opnS_step:OpnS enc Tryz.prog w 173 (fun cs (x:Stp)=>cs=YK x∧Yx x.row):=fun fuel cs x h hw=>by
 obtain⟨hl,hf⟩:=XP Tryz.underlying173 h hw
 have hl:cs.length=6:=by rw[hl];kernel_rfl
 obtain⟨c0,c1,c2,c3,c4,c5,rfl⟩:∃c0 c1 c2 c3 c4 c5,cs=[c0,c1,c2,c3,c4,c5]:=by
  match cs,hl with
  | [c0,c1,c2,c3,c4,c5],_=>exact⟨c0,c1,c2,c3,c4,c5,rfl⟩
 obtain⟨k,h0,_⟩:=ZL h hw Tryz.underlying173 0 0 1 rfl rfl rfl (by kernel_rfl) (Xd Tryz.underlying3).sized
 obtain⟨r,h1,w1⟩:=ZL h hw Tryz.underlying173 1 1 4 rfl rfl rfl (by kernel_rfl) opnS_row
 obtain⟨b,h2,_⟩:=ZL h hw Tryz.underlying173 2 5 1 rfl rfl rfl (by kernel_rfl) (Xd Tryz.underlying2).sized
 simp only[List.drop_zero,List.drop_succ_cons,List.take_succ_cons,List.take_zero,List.cons.injEq,and_true,Yq] at h0 h1 h2
 obtain⟨rfl,rfl,rfl,rfl⟩:=h1
 subst h0;subst h2
 exact⟨⟨k,r,b⟩,rfl,w1⟩
theorem u64_back {i:Int}(h:lo .u64≤i):((i.toNat:Nat):Int)=i:=by simp only[lo] at h;omega
theorem opnS_ckt:OpnS enc Tryz.prog w 187 (fun cs (x:CkT)=>cs=YM x∧True):=fun fuel cs x h hw=>by
 obtain⟨hl,hf⟩:=XP Tryz.underlying187 h hw
 have hl:cs.length=5:=by rw[hl];kernel_rfl
 obtain⟨c0,c1,c2,c3,c4,rfl⟩:∃c0 c1 c2 c3 c4,cs=[c0,c1,c2,c3,c4]:=by
  match cs,hl with
  | [c0,c1,c2,c3,c4],_=>exact⟨c0,c1,c2,c3,c4,rfl⟩
 obtain⟨k,h0,_⟩:=ZL h hw Tryz.underlying187 0 0 1 rfl rfl rfl (by kernel_rfl) (Xd Tryz.underlying3).sized
 obtain⟨f,h1,f0,f1⟩:=ZL h hw Tryz.underlying187 1 1 1 rfl rfl rfl (by kernel_rfl) (Xd Tryz.underlying33).sized
 obtain⟨l,h2,l0,l1⟩:=ZL h hw Tryz.underlying187 2 2 1 rfl rfl rfl (by kernel_rfl) (Xd Tryz.underlying33).sized
 obtain⟨u,h3,u0,u1⟩:=ZL h hw Tryz.underlying187 3 3 1 rfl rfl rfl (by kernel_rfl) (Xd Tryz.underlying33).sized
 obtain⟨s,h4,_⟩:=ZL h hw Tryz.underlying187 4 4 1 rfl rfl rfl (by kernel_rfl) (Xd Tryz.underlying3).sized
 simp only[List.drop_zero,List.drop_succ_cons,List.take_succ_cons,List.take_zero,List.cons.injEq,and_true] at h0 h1 h2 h3 h4
 subst h0;subst h1;subst h2;subst h3;subst h4
 refine⟨⟨k,f.toNat,l.toNat,u.toNat,s⟩, ?_,trivial⟩
 simp only[YM,u64_back f0,u64_back l0,u64_back u0]
theorem opnS_ckp:OpnS enc Tryz.prog w 108 (fun cs (x:CkP)=>cs=Xq x∧True):=fun fuel cs x h hw=>by
 obtain⟨hl,hf⟩:=XP Tryz.underlying108 h hw
 have hl:cs.length=2:=by rw[hl];kernel_rfl
 obtain⟨c0,c1,rfl⟩:∃c0 c1,cs=[c0,c1]:=by
  match cs,hl with
  | [c0,c1],_=>exact⟨c0,c1,rfl⟩
 obtain⟨k,h0,_⟩:=ZL h hw Tryz.underlying108 0 0 1 rfl rfl rfl (by kernel_rfl) (Xd Tryz.underlying3).sized
 obtain⟨f,h1,f0,f1⟩:=ZL h hw Tryz.underlying108 1 1 1 rfl rfl rfl (by kernel_rfl) (Xd Tryz.underlying33).sized
 simp only[List.drop_zero,List.drop_succ_cons,List.take_succ_cons,List.take_zero,List.cons.injEq,and_true] at h0 h1
 subst h0;subst h1
 refine⟨⟨k,f.toNat⟩, ?_,trivial⟩
 simp only[Xq,u64_back f0]
theorem opnS_rec:OpnS enc Tryz.prog w 39 (fun cs (x:RV×Rc)=>cs=YV x.1 x.2∧RcW (hpOf w) x.1 x.2):=fun fuel cs x h hw=>by
 obtain⟨hl,hf⟩:=XP Tryz.underlying39 h hw
 have hl:cs.length=10:=by rw[hl];kernel_rfl
 obtain⟨c0,c1,c2,c3,c4,c5,c6,c7,c8,c9,rfl⟩:∃c0 c1 c2 c3 c4 c5 c6 c7 c8 c9,cs=[c0,c1,c2,c3,c4,c5,c6,c7,c8,c9]:=by
  match cs,hl with
  | [c0,c1,c2,c3,c4,c5,c6,c7,c8,c9],_=>exact⟨c0,c1,c2,c3,c4,c5,c6,c7,c8,c9,rfl⟩
 obtain⟨k,h0,_⟩:=ZL h hw Tryz.underlying39 0 0 1 rfl rfl rfl (by kernel_rfl) (Xd Tryz.underlying3).sized
 obtain⟨l,h1,l0,_⟩:=ZL h hw Tryz.underlying39 1 1 1 rfl rfl rfl (by kernel_rfl) (Xd Tryz.underlying33).sized
 obtain⟨t,h2,_⟩:=ZL h hw Tryz.underlying39 2 2 1 rfl rfl rfl (by kernel_rfl) (Xd Tryz.underlying3).sized
 obtain⟨p,h3,p0,_⟩:=ZL h hw Tryz.underlying39 3 3 1 rfl rfl rfl (by kernel_rfl) (Xd Tryz.underlying33).sized
 obtain⟨n,h4,n0,_⟩:=ZL h hw Tryz.underlying39 4 4 1 rfl rfl rfl (by kernel_rfl) (Xd Tryz.underlying33).sized
 obtain⟨⟨ia,inn,ic,ims⟩,h5,w5⟩:=ZL h hw Tryz.underlying39 5 5 1 rfl rfl rfl (by kernel_rfl) (XU (sz:=7) (by':=120) Tryz.underlying34 (by kernel_rfl) (by decide) (by kernel_rfl) opnS_image)
 obtain⟨⟨sa,sn,sc,steps⟩,h6,w6⟩:=ZL h hw Tryz.underlying39 6 6 1 rfl rfl rfl (by kernel_rfl) (XU (sz:=6) (by':=56) Tryz.underlying35 (by kernel_rfl) (by decide) (by kernel_rfl) opnS_step)
 obtain⟨x7,h7,_⟩:=ZL h hw Tryz.underlying39 7 7 1 rfl rfl rfl (by kernel_rfl) (Xd Tryz.underlying3).sized
 obtain⟨⟨ta,tn,tc,txns⟩,h8,w8⟩:=ZL h hw Tryz.underlying39 8 8 1 rfl rfl rfl (by kernel_rfl) (XU (sz:=5) (by':=40) Tryz.underlying36 (by kernel_rfl) (by decide) (by kernel_rfl) opnS_ckt)
 obtain⟨⟨da,dn,dc,dirty⟩,h9,w9⟩:=ZL h hw Tryz.underlying39 9 9 1 rfl rfl rfl (by kernel_rfl) (XU (sz:=2) (by':=16) Tryz.underlying37 (by kernel_rfl) (by decide) (by kernel_rfl) opnS_ckp)
 obtain⟨i1,i2,i3,_⟩:=aIn_ofW imV_len h5
 obtain⟨s1,s2,s3,_⟩:=aIn_ofW stpV_len h6
 obtain⟨t1,t2,t3,_⟩:=aIn_ofW ckTV_len h8
 obtain⟨d1,d2,d3,_⟩:=aIn_ofW ckPV_len h9
 simp only[reachBytes] at w5 w6 w8 w9
 replace h5:=h5.cells
 replace h6:=h6.cells
 replace h8:=h8.cells
 replace h9:=h9.cells
 simp only[List.drop_zero,List.drop_succ_cons,List.take_succ_cons,List.take_zero,List.cons.injEq,and_true] at h0 h1 h2 h3 h4 h5 h6 h7 h8 h9
 subst h0;subst h1;subst h2;subst h3;subst h4;subst h5;subst h6;subst h7;subst h8;subst h9
 refine⟨(⟨⟨ia,inn,ic⟩,⟨sa,sn,sc⟩,⟨ta,tn,tc⟩,⟨da,dn,dc⟩⟩,⟨k,l.toNat,t,p.toNat,n.toNat,ims,steps,x7,txns,dirty⟩), ?_,⟨⟨i1,by dsimp only;omega,i3⟩,i2,⟨s1,by dsimp only;omega,s3⟩,⟨t1,by dsimp only;omega,t3⟩,⟨d1,by dsimp only;omega,d3⟩,s2⟩⟩
 simp only[YV,u64_back l0,u64_back p0,u64_back n0]
end
section
variable {H:Type}{enc:TypeId×Value→H}{w:World}
theorem opnS_bslS:OpnS enc Tryz.prog w 22 (fun cs (e:BSl)=>cs=[slv e]∧(BIn (hpOf w) e∧e.n≤9223372036854775807)):=fun fuel cs x h hw=>by
 obtain⟨⟨a,n,c,l⟩,h1,w1⟩:=(XU (sz:=1) (by':=1) Tryz.underlying22 (by kernel_rfl) (by decide) (by kernel_rfl) opn_u8K.sized) fuel cs x h hw
 obtain⟨g1,g3,g4⟩:=sIn_ofK h1
 replace h1:=h1.cells
 subst h1
 exact⟨⟨a,n,c,l⟩,rfl,⟨g1,g3⟩,g4⟩
end
end Go.Proofs.E
