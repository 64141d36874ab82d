/- Laws of LogDoes. Part 25 of 30. -/
import Derived.Test.YthjhjmnmnbcioaaGreatD24
set_option linter.unusedVariables false
set_option linter.unusedSimpArgs false
set_option linter.unusedSectionVars false
namespace Go.Proofs.E
open Go Tryz
set_option maxRecDepth 4000
set_option maxHeartbeats 1000000
attribute [local irreducible] Yl TL TC TE Spec YL R1 Hp.le EnvLe TS TR YS Zt TP QP
theorem stepped_spec (ρ:Hp)(s:Stp)(hs:YR s=true)(hf:Ys s.row) :
  Spec prog 116 [.agg ⟨YJ s⟩] ρ [] (λ v ρ' L'=>ρ.le ρ'/\∃a c,v=.slice a (XE s).length c/\(XE s).length<=c/\SIn ρ' Zk a (XE s).length (XE s)/\L'=[]):=by
 obtain⟨hk4,hr23,hkt⟩:=step_kinds hs
 have hid:=hf.id
 have hkB:=tB_eq (t:=s.kind) (by omega) (by omega)
 refine Zb func116 rfl rfl rfl λ u R=>?_
 simp only[Zc,kA]
 by_cases h23:s.kind=2\/s.kind=3
 ·have hst:XE s=[tB s.kind]++ZE s.row:=by unfold XE;rw[if_pos h23];rfl
  have hrr:=λ ρ=>rowR6_spec ρ s.row (hr23 h23) hid
  have hrl:=rowB_le (hr23 h23)
  rcases h23 with e|e
  all_goals (repeat' (first|(refine Zg rfl rfl rfl rfl (by simp) rfl rfl (λ bs=>?_);simp only[hkB])|refine zV ?_|intro _))
  all_goals rename_i b1
  all_goals rw[show ([(bs,Obj.cells ⟨[Zk (tB s.kind)]⟩ 5 (0,0))]:List (Nat×Obj))=Zq (.slice (some ⟨bs,0,none⟩) 1 1) ([tB s.kind].map Zk) [] 5 from rfl]
  all_goals have hown:WN (.slice (some ⟨bs,0,none⟩) 1 1) [tB s.kind] []:=⟨.inr ⟨bs,1,rfl,rfl,rfl,aR _⟩⟩
  all_goals generalize Value.slice (some ⟨bs,0,none⟩) 1 1=w0 at *
  all_goals obtain⟨X0,hX0⟩:∃X0,[tB s.kind]=X0:=⟨_,rfl⟩
  all_goals have hX0l:X0.length=1:=by rw[<-hX0];rfl
  all_goals rw[hX0] at hown ⊢
  all_goals obtain⟨va,vc,rfl,_⟩:=hown.slice
  all_goals (repeat' (first|(refine Za (.func 179) ?_;refine qC rfl rfl (hrr _) ?_;rintro v2 ρ2 L2 hle0 ⟨hle2,sp2,hown2,rfl⟩;simp only[kA];refine ZL _ (h:=Rem.here) (λ ρ3 hle3 hfz=>?_);obtain⟨a3,c3,rfl,hc3,hs3⟩:=hown2.sIn hfz;clear hfz)|(refine Xx (Y:=ZE s.row) rfl rfl hown (by first|exact hs3|exact SIn.mono hs3 (by assumption)) (by (try simp[Zd])<;>omega) rfl (λ va vc sp' hown=>?_))|refine zV ?_|intro _))
  all_goals rw[hst,hX0]
  all_goals (refine ZB (Xe (.slice va (X0++ZE s.row).length vc) (X0++ZE s.row) sp') (h:=by repeat (first|exact Zl|apply Zn)) (λ ρ6 hle6 hfz=>?_))
  all_goals obtain⟨a6,c6,e6,hc6,hs6⟩:=hown.sIn hfz
  all_goals cases e6
  all_goals exact qE (L':=[]) ⟨Hp.le_trans hle2 (Hp.le_trans hle3 hle6),va,vc,rfl,hc6,hs6,rfl⟩
 ·have hkt:=hkt h23
  have htB:=tB_eq (t:=s.row.t) (by omega) (by omega)
  have hst:XE s=[tB s.kind]++[tB s.row.t]++be 2 s.row.id++(if s.kind=1 then be 8 (vN s.by') else []):=by unfold XE;rw[if_neg h23];simp
  have hvl:=vN_lt s.by'
  repeat' (first|(refine Zg rfl rfl rfl rfl (by simp) rfl rfl (λ bs=>?_);simp only[hkB])|refine zV ?_|intro _)
  rename_i b1
  rw[show ([(bs,Obj.cells ⟨[Zk (tB s.kind)]⟩ 5 (0,0))]:List (Nat×Obj))=Zq (.slice (some ⟨bs,0,none⟩) 1 1) ([tB s.kind].map Zk) [] 5 from rfl]
  have hown:WN (.slice (some ⟨bs,0,none⟩) 1 1) [tB s.kind] []:=⟨.inr ⟨bs,1,rfl,rfl,rfl,aR _⟩⟩
  generalize Value.slice (some ⟨bs,0,none⟩) 1 1=w0 at *
  obtain⟨X0,hX0⟩:∃X0,[tB s.kind]=X0:=⟨_,rfl⟩
  have hX0l:X0.length=1:=by rw[<-hX0];rfl
  rw[hX0] at hown ⊢
  obtain⟨va,vc,rfl,_⟩:=hown.slice
  repeat' (first|refine zV ?_|intro _)
  refine ctG (Hp×Value×(List Value)) R [] (λ z=>[(1,.pointer (some ⟨b1,0,none⟩)),(2,.slice none 0 0),(3,z.2.1)]) (λ z=>z.1) (λ z=>[Xe z.2.1 (X0++[tB s.row.t]++be 2 s.row.id) z.2.2,[(b1,.cells ⟨YJ s⟩ 183 (0,0))]]) (λ z=>ρ.le z.1/\WN z.2.1 (X0++[tB s.row.t]++be 2 s.row.id) z.2.2) ?_ ?_
  ·refine tpA [0,1,2,3,4,5,8,9,10,11,12] (.e 6 [] (.e 7 [] (.e 13 [] (.e 14 [] (.f [15] .o))))) ([[(b1,.cells ⟨YJ s⟩ 183 (0,0))]]) ?_
   repeat' (refine iT ?_;first|refine rA ?_|(refine rE ?_<;>((first|(refine Zg rfl rfl rfl rfl (by simp) rfl rfl (λ bs=>?_);simp only[htB])|(refine tl_appL (b:=tB s.row.t) rfl rfl hown SrcV.lit (by (try simp[Zd])<;>omega) rfl (λ va vc sp' hown=>?_))|(refine Za (.func 114) ?_;refine qC rfl rfl (high_spec _ (s.row.id:Int) 2 (by omega) (by omega) (by decide)) ?_;rintro v ρ' L' hle ⟨hl2,a2,c2,rfl,hc2,hs2,rfl⟩<;>(try simp only[kA]);(simp only[Int.toNat_natCast] at hs2))|(refine Xx (Y:=be 2 s.row.id) rfl rfl hown (by first|exact hs2|exact SIn.mono hs2 (by assumption)) (by (try simp[Zd])<;>omega) rfl (λ va vc sp' hown=>?_))|(refine qEf ?_;try intro _))<;>(try simp only[kA])<;>refine zN ?_)))
   all_goals refine jnG ((_,_,_)) (⟨hl2,hown⟩)
  ·rintro⟨ρ1,w,sp⟩ ⟨hle1,hown⟩
   simp only[kA] at hle1 ⊢
   dsimp only at hown
   obtain⟨va,vc,rfl,_⟩:=hown.slice
   by_cases h1:s.kind=1
   ·rw[if_pos h1] at hst
    repeat' (first|(simp only[vN_eq];refine Za (.func 114) ?_;refine qC rfl rfl (high_spec _ (vN s.by':Int) 8 (by omega) (by omega) (by decide)) ?_;rintro v3 ρ3 L3 hle0 ⟨hl3,a3,c3,rfl,hc3,hs3,rfl⟩;simp only[Int.toNat_natCast] at hs3;simp only[kA])|(refine Xx (Y:=be 8 (vN s.by')) rfl rfl hown (by first|exact hs3|exact SIn.mono hs3 (by assumption)) (by (try simp[Zd])<;>omega) rfl (λ va vc sp' hown=>?_))|refine zV ?_|intro _)
    rw[hst,hX0]
    refine ZB (Xe (.slice va (X0++[tB s.row.t]++be 2 s.row.id++be 8 (vN s.by')).length vc) (X0++[tB s.row.t]++be 2 s.row.id++be 8 (vN s.by')) sp') (h:=by repeat (first|exact Zl|apply Zn)) (λ ρ6 hle6 hfz=>?_)
    obtain⟨a6,c6,e6,hc6,hs6⟩:=hown.sIn hfz
    cases e6
    exact qE (L':=[]) ⟨Hp.le_trans hle1 (Hp.le_trans hl3 hle6),va,vc,rfl,hc6,hs6,rfl⟩
   ·rw[if_neg h1,aN] at hst
    repeat' (first|refine zV ?_|intro _)
    rw[hst,hX0]
    refine ZB (Xe (.slice va (X0++[tB s.row.t]++be 2 s.row.id).length vc) (X0++[tB s.row.t]++be 2 s.row.id) sp) (h:=by repeat (first|exact Zl|apply Zn)) (λ ρ6 hle6 hfz=>?_)
    obtain⟨a6,c6,e6,hc6,hs6⟩:=hown.sIn hfz
    cases e6
    exact qE (L':=[]) ⟨Hp.le_trans hle1 hle6,va,vc,rfl,hc6,hs6,rfl⟩
theorem Wh (ρ:Hp)(x:Nat)(n:Nat)(hz:x<18446744073709551616)(hn:n<=8) :
  Spec prog 114 [.int .u64 (x:Int),.int .i64 n] ρ [] (λ v ρ' L'=>ρ.le ρ'/\∃a c,v=.slice a n c/\n<=c/\SIn ρ' Zk a n (be n x)/\L'=[]):=by
 have:=high_spec ρ (x:Int) n (by omega) (by omega) hn
 rwa [Int.toNat_natCast] at this
theorem bytes12_spec (ρ:Hp)(v:RV)(r:Rc)(h:RcIn ρ v r)(hL:LayOk r) :
  Spec prog 52 [.agg ⟨Yu v r⟩] ρ [] (λ z ρ' L'=>ρ.le ρ'/\∃a c,z=.slice a (Yv r).length c/\(Yv r).length<=c/\SIn ρ' Zk a (Yv r).length (Yv r)/\L'=[]):=by
 have g1:=hL.kind
 have g2:=hL.lsn
 have g3:=hL.txn
 have g4:=hL.next
 have g5:=hL.nextTxn
 have g6:=hL.prev
 have hkB:=tB_eq (t:=r.kind) (by omega) (by omega)
 have hil:=h.i.at'.len
 have hsl:=h.s.at'.len
 have htl:=h.t.at'.len
 have hdl:=h.d.at'.len
 have li:=hL.il
 have ls:=hL.sl
 have lt':=hL.tl
 have ld:=hL.dl
 have hbi:=lenB (n:=v.i.n) (by omega)
 have hbs:=lenB (n:=v.s.n) (by omega)
 have hbt:=lenB (n:=v.t.n) (by omega)
 have hbd:=lenB (n:=v.d.n) (by omega)
 refine Zb func52 rfl rfl rfl λ u R=>?_
 simp only[Zc,kA]
 obtain⟨X0,hX0⟩:∃X0,[tB r.kind]=X0:=⟨_,rfl⟩
 have hX0l:X0.length=1:=by rw[<-hX0];rfl
 repeat' (first|refine zV ?_|intro _)
 rename_i rb
 refine ctG (Hp×Value×(List Value)) R [] (λ z=>[(1,.pointer (some ⟨rb,0,none⟩)),(2,.slice none 0 0),(3,z.2.1)]) (λ z=>z.1) (λ z=>[Xe z.2.1 (X0++be 8 r.lsn) z.2.2,[(rb,.cells ⟨Yu v r⟩ 47 (0,0))]]) (λ z=>ρ.le z.1/\WN z.2.1 (X0++be 8 r.lsn) z.2.2) ?_ ?_
 ·refine tpA [0,1,2,4,5] (.b 3 6 [] [] (.e 6 [] (.e 7 [] (.f [8] .o))) (.e 3 [] (.e 7 [] (.f [8] .o)))) ([[(rb,.cells ⟨Yu v r⟩ 47 (0,0))]]) ?_
  repeat' (refine iT ?_;first|refine rA ?_|((first|(refine iE ?_;refine rE ?_)|(refine iB ?_;refine rB ?_ ?_))<;>((first|(refine Zg rfl rfl rfl rfl (by simp) rfl rfl (λ bs=>?_);simp only[hkB];rw[show ([(bs,Obj.cells ⟨[Zk (tB r.kind)]⟩ 5 (0,0))]:List (Nat×Obj))=Zq (.slice (some ⟨bs,0,none⟩) 1 1) ([tB r.kind].map Zk) [] 5 from rfl];have hown:WN (.slice (some ⟨bs,0,none⟩) 1 1) [tB r.kind] []:=⟨.inr ⟨bs,1,rfl,rfl,rfl,aR _⟩⟩;rw[hX0] at hown ⊢)|(refine Za (.func 114) ?_;refine qC rfl rfl (Wh _ (r.lsn) 8 (by omega) (by decide)) ?_;rintro v ρ' L' hle ⟨hl1,a1,c1,rfl,hc1,hs1,rfl⟩<;>(try simp only[kA]))|(refine Xx (Y:=be 8 r.lsn) rfl rfl hown (by first|exact hs1|exact SIn.mono hs1 (by assumption)) (by (try simp[Zd])<;>omega) rfl (λ va vc sp' hown=>?_))|(refine qEf ?_;try intro _))<;>(try simp only[kA])<;>refine zN ?_)))
  all_goals refine jnG ((_,_,_)) (⟨hl1,hown⟩)
 rintro⟨ρ1,w,sp⟩ ⟨hle1,hown⟩
 simp only[kA] at hle1 ⊢
 dsimp only at hown
 obtain⟨va,vc,rfl,_⟩:=hown.slice
 refine tc_seq ?_
 refine ctG (Hp×Value×(List Value)) R [] (λ z=>[(1,.pointer (some ⟨rb,0,none⟩)),(2,.slice none 0 0),(3,z.2.1)]) (λ z=>z.1) (λ z=>[Xe z.2.1 (X0++be 8 r.lsn++be 4 r.txn.toNat++be 8 r.prev) z.2.2,[(rb,.cells ⟨Yu v r⟩ 47 (0,0))]]) (λ z=>ρ1.le z.1/\WN z.2.1 (X0++be 8 r.lsn++be 4 r.txn.toNat++be 8 r.prev) z.2.2) ?_ ?_
 ·refine tpA [0,1,2,3,6,7] (.e 4 [] (.e 5 [] (.e 8 [] (.e 9 [] (.f [10] .o))))) ([[(rb,.cells ⟨Yu v r⟩ 47 (0,0))]]) ?_
  repeat' (refine iT ?_;first|refine rA ?_|(refine rE ?_<;>((first|(refine Za (.func 114) ?_;refine qC rfl rfl (high_spec _ (r.txn) 4 (by omega) (by omega) (by decide)) ?_;rintro v ρ' L' hle ⟨hl2,a2,c2,rfl,hc2,hs2,rfl⟩<;>(try simp only[kA]))|(refine Za (.func 114) ?_;refine qC rfl rfl (Wh _ (r.prev) 8 (by omega) (by decide)) ?_;rintro v ρ' L' hle ⟨hl3,a3,c3,rfl,hc3,hs3,rfl⟩<;>(try simp only[kA]))|(refine Xx (Y:=be 4 r.txn.toNat) rfl rfl hown (by first|exact hs2|exact SIn.mono hs2 (by assumption)) (by (try simp[Zd])<;>omega) rfl (λ va vc sp' hown=>?_))|(refine Xx (Y:=be 8 r.prev) rfl rfl hown (by first|exact hs3|exact SIn.mono hs3 (by assumption)) (by (try simp[Zd])<;>omega) rfl (λ va vc sp' hown=>?_))|(refine qEf ?_;try intro _))<;>(try simp only[kA])<;>refine zN ?_)))
  all_goals refine jnG ((_,_,_)) (⟨Hp.le_trans hl2 hl3,hown⟩)
 rintro⟨ρ2,w,sp⟩ ⟨hle2,hown⟩
 simp only[kA] at hle2 ⊢
 dsimp only at hown
 obtain⟨H,hH⟩:∃H,X0++be 8 r.lsn++be 4 r.txn.toNat++be 8 r.prev=H:=⟨_,rfl⟩
 have hHl:H.length=21:=by rw[<-hH];simp[Zd,hX0l]
 have hHB:H=recHB r:=by rw[<-hH,<-hX0];simp[recHB]
 rw[hH] at hown ⊢
 obtain⟨va,vc,rfl,_⟩:=hown.slice
 have hρ:=Hp.le_trans hle1 hle2
 have hNX:r.next<18446744073709551616:=by omega
 by_cases k3:r.kind=3
 ·have hfin:Yv r=H++be 8 r.next:=by unfold Yv recTB;rw[hHB,if_neg (by omega),if_pos k3]
  rw[hfin]
  repeat' (first|(refine Za (.func 114) ?_;refine qC rfl rfl (Wh _ (r.next) 8 (by omega) (by decide)) ?_;rintro v ρ' L' hle ⟨hl4,a4,c4,rfl,hc4,hs4,rfl⟩<;>(try simp only[kA]))|(refine Xx (Y:=be 8 r.next) rfl rfl hown (by first|exact hs4|exact SIn.mono hs4 (by assumption)) (by (try simp[Zd])<;>omega) rfl (λ va vc sp' hown=>?_))|refine zV ?_|intro _)
  refine ZB (Xe (.slice va (H++be 8 r.next).length vc) (H++be 8 r.next) sp') (h:=by repeat (first|exact Zl|apply Zn)) (λ ρ6 hle6 hfz=>?_)
  obtain⟨a6,c6,e6,hc6,hs6⟩:=hown.sIn hfz
  cases e6
  exact qE (L':=[]) ⟨Hp.le_trans (Hp.le_trans hρ hl4) hle6,va,vc,rfl,hc6,hs6,rfl⟩
 by_cases k4:r.kind=4
 ·repeat' (first|(refine Za (.func 114) ?_;refine qC rfl rfl (Wh _ (r.next) 8 (by omega) (by decide)) ?_;rintro v ρ' L' hle ⟨hl4,a4,c4,rfl,hc4,hs4,rfl⟩<;>(try simp only[kA]))|(refine Xx (Y:=be 8 r.next) rfl rfl hown (by first|exact hs4|exact SIn.mono hs4 (by assumption)) (by (try simp[Zd])<;>omega) rfl (λ va vc sp' hown=>?_))|(refine Zg rfl rfl rfl rfl (by simp) rfl rfl (λ bs=>?_);simp only[hbs];refine tl_appL (b:=UInt8.ofNat v.s.n) rfl rfl hown SrcV.lit (by (try simp[Zd])<;>omega) rfl (λ va vc sp' hown=>?_))|refine zV ?_|intro _)
  obtain⟨B,hB⟩:∃B,H++be 8 r.next++[UInt8.ofNat v.s.n]=B:=⟨_,rfl⟩
  rw[hB] at hown ⊢
  have hBl:B.length=30:=by rw[<-hB];simp[Zd,hHl]
  have hfin:B++r.steps.flatMap XE=Yv r:=by rw[<-hB];unfold Yv recTB Xt;rw[hHB,if_neg (by omega),if_neg (by omega),if_pos k4,hsl];simp
  have hρ:=Hp.le_trans hρ hl4
  rw[show Zq (.slice va B.length vc) (B.map Zk) sp' 5=Zq (.slice va B.length vc) ((B++(r.steps.take 0).flatMap XE).map Zk) sp' 5 by simp]
  refine lpG (Nat×Hp×Value×(List Value)) [1,2,49,97,98] (λ z=>[(99,.int .i64 z.1),(3,z.2.2.1)]) (λ z=>z.2.1) (λ z=>[Xe z.2.2.1 (B++(r.steps.take z.1).flatMap XE) z.2.2.2,[(rb,.cells ⟨Yu v r⟩ 47 (0,0))]]) (λ z=>z.1<=v.s.n/\ρ.le z.2.1/\WN z.2.2.1 (B++(r.steps.take z.1).flatMap XE) z.2.2.2) (λ z=>v.s.n-z.1) (0,ρ',.slice va B.length vc,sp') ⟨aZ _,hρ,by simpa using hown⟩ ?_
  rintro⟨k,ρ1,w2,sp2⟩ hI
  try simp only[kB] at hI ⊢
  try dsimp only at hI ⊢
  obtain⟨hk,hle7,hown⟩:=hI
  clear hρ
  by_cases hlt:k<v.s.n
  ·obtain⟨b,off,C,T,fr,e1,hbb,hfit,hcc⟩:=(h.s.at'.mono hle7).get (show k<r.steps.length by omega)
   have hts:=Xz XE r.steps k (by omega)
   have hmem:=aM (show k<r.steps.length by omega)
   have hfl:=ZW XE 21 (r.steps.take k) (λ x hx=>stpB_len (hL.st x (List.mem_of_mem_take hx)))
   have htk:(r.steps.take k).length<=64:=by simp;omega
   have hst:=hL.st _ hmem
   have hsf:=h.sf _ hmem
   generalize r.steps[k]'(by omega)=x at *
   have hxl:(B++(r.steps.take k).flatMap XE).length<=20000:=by simp only[aL];omega
   have hmm:B++(r.steps.take k).flatMap XE++XE x=B++(r.steps.take (k+1)).flatMap XE:=by rw[hts];simp
   generalize hX:B++(r.steps.take k).flatMap XE=X at *
   obtain⟨va,vc,rfl,_⟩:=hown.slice
   rw[e1]
   have hln:=stpB_len hst
   repeat' (first|(refine Za (.func 116) ?_;refine qC rfl rfl (stepped_spec _ x hst hsf) ?_;rintro v ρ' L' hle ⟨hl5,a5,c5,rfl,hc5,hs5,rfl⟩<;>(try simp only[kA]))|(refine Xx (Y:=XE x) rfl rfl hown (by first|exact hs5|exact SIn.mono hs5 (by assumption)) (by (try simp[Zd])<;>omega) rfl (λ va vc sp' hown=>?_))|refine zV ?_|intro _)
   rw[<-e1]
   rw[hmm] at hown ⊢
   refine rnG (k+1,_,_,sp') (⟨hlt,Hp.le_trans hle7 hl5,hown⟩)
  ·rw[show r.steps.take k=r.steps by rw[show k=r.steps.length by omega,List.take_length]] at hown ⊢
   have hρ:=hle7
   rw[hfin] at hown ⊢
   obtain⟨va,vc,rfl,_⟩:=hown.slice
   repeat' (first|refine zV ?_|intro _)
   refine ZB (Xe (.slice va (Yv r).length vc) (Yv r) sp2) (h:=by repeat (first|exact Zl|apply Zn)) (λ ρ6 hle6 hfz=>?_)
   obtain⟨a6,c6,e6,hc6,hs6⟩:=hown.sIn hfz
   cases e6
   exact qE (L':=[]) ⟨Hp.le_trans hρ hle6,va,vc,rfl,hc6,hs6,rfl⟩
 by_cases k2:r.kind=2
 ·repeat' (first|(refine Zg rfl rfl rfl rfl (by simp) rfl rfl (λ bs=>?_);simp only[hbi];refine tl_appL (b:=UInt8.ofNat v.i.n) rfl rfl hown SrcV.lit (by (try simp[Zd])<;>omega) rfl (λ va vc sp' hown=>?_))|refine zV ?_|intro _)
  obtain⟨B,hB⟩:∃B,H++[UInt8.ofNat v.i.n]=B:=⟨_,rfl⟩
  rw[hB] at hown ⊢
  have hBl:B.length<=30:=by rw[<-hB];simp[hHl]
  have hfin:B++r.ims.flatMap (imB true)=Yv r:=by rw[<-hB];unfold Yv recTB imsB Xt;rw[hHB,if_pos k2,decide_eq_true k2,hil];simp
  rw[show Zq (.slice va B.length vc) (B.map Zk) sp' 5=Zq (.slice va B.length vc) ((B++(r.ims.take 0).flatMap (imB true)).map Zk) sp' 5 by simp]
  refine lpG (Nat×Hp×Value×(List Value)) [1,2,49,61,62] (λ z=>[(63,.int .i64 z.1),(3,z.2.2.1)]) (λ z=>z.2.1) (λ z=>[Xe z.2.2.1 (B++(r.ims.take z.1).flatMap (imB true)) z.2.2.2,[(rb,.cells ⟨Yu v r⟩ 47 (0,0))]]) (λ z=>z.1<=v.i.n/\ρ.le z.2.1/\WN z.2.2.1 (B++(r.ims.take z.1).flatMap (imB true)) z.2.2.2) (λ z=>v.i.n-z.1) (0,ρ2,.slice va B.length vc,sp') ⟨aZ _,hρ,by simpa using hown⟩ ?_
  rintro⟨k,ρ1,w2,sp2⟩ hI
  try simp only[kB] at hI ⊢
  try dsimp only at hI ⊢
  obtain⟨hk,hle7,hown⟩:=hI
  clear hρ
  by_cases hlt:k<v.i.n
  ·obtain⟨b,off,C,T,fr,e1,hbb,hfit,hcc⟩:=(h.i.at'.mono hle7).get (show k<r.ims.length by omega)
   have hts:=Xz (imB true) r.ims k (by omega)
   have hmem:=aM (show k<r.ims.length by omega)
   have hfl:=ZW (imB true) 165 (r.ims.take k) (λ x hx=>imB_len (hL.im x (List.mem_of_mem_take hx)).2.1 (hL.im x (List.mem_of_mem_take hx)).2.2)
   have htk:(r.ims.take k).length<=64:=by simp;omega
   have hin:=h.im _ hmem
   obtain⟨hp,ha,hb⟩:=hL.im _ hmem
   generalize r.ims[k]'(by omega)=x at *
   have hxl:(B++(r.ims.take k).flatMap (imB true)).length<=20000:=by simp only[aL];omega
   have hmm:B++(r.ims.take k).flatMap (imB true)++(imB true) x=B++(r.ims.take (k+1)).flatMap (imB true):=by rw[hts];simp
   generalize hX:B++(r.ims.take k).flatMap (imB true)=X at *
   obtain⟨va,vc,rfl,_⟩:=hown.slice
   rw[e1]
   have hpg:=tB_eq (t:=x.page) (by omega) (by omega)
   have h82:=WH hb
   have h83:=WH ha
   have hcb:=bytesR_spec ρ1 x.bv x.b (hin.b.cin.mono hle7) hb (λ r hr=>(hin.b.row r hr).id) hin.b.kid
   have hca:=λ ρ (hle:ρ1.le ρ)=>bytesR_spec ρ x.av x.a ((hin.a.cin.mono hle7).mono hle) ha (λ r hr=>(hin.a.row r hr).id) hin.a.kid
   have hρ:=Hp.le_refl ρ1
   repeat' (first|(refine Zg rfl rfl rfl rfl (by simp) rfl rfl (λ bs=>?_);simp only[hpg];refine tl_appL (b:=tB x.page) rfl rfl hown SrcV.lit (by (try simp[Zd])<;>omega) rfl (λ va vc sp' hown=>?_))|(refine Za (.func 115) ?_;refine qC rfl rfl (hcb) ?_;rintro v ρ' L' hle ⟨hl5,a5,n5,c5,rfl,hc5,hs5,rfl⟩<;>(try simp only[kA]);have hρ:=hl5)|(refine Xx (Y:=Ya x.b) rfl rfl hown (by first|exact hs5|exact SIn.mono hs5 (by assumption)) (by (try simp[Zd])<;>omega) rfl (λ va vc sp' hown=>?_))|(refine Za (.func 115) ?_;refine qC rfl rfl (hca _ hρ) ?_;rintro v ρ' L' hle ⟨hl6,a6,n6,c6,rfl,hc6,hs6,rfl⟩<;>(try simp only[kA]);have hρ:=Hp.le_trans hρ hl6)|(refine Xx (Y:=Ya x.a) rfl rfl hown (by first|exact hs6|exact SIn.mono hs6 (by assumption)) (by (try simp[Zd])<;>omega) rfl (λ va vc sp' hown=>?_))|refine zV ?_|intro _)
   rw[<-e1]
   have e2:X++[tB x.page]++Ya x.b++Ya x.a=B++(r.ims.take (k+1)).flatMap (imB true):=by rw[<-hmm];simp[imB]
   rw[e2] at hown ⊢
   refine rnG (k+1,_,_,sp') (⟨hlt,Hp.le_trans hle7 hρ,hown⟩)
  ·rw[show r.ims.take k=r.ims by rw[show k=r.ims.length by omega,List.take_length]] at hown ⊢
   have hρ:=hle7
   rw[hfin] at hown ⊢
   obtain⟨va,vc,rfl,_⟩:=hown.slice
   repeat' (first|refine zV ?_|intro _)
   refine ZB (Xe (.slice va (Yv r).length vc) (Yv r) sp2) (h:=by repeat (first|exact Zl|apply Zn)) (λ ρ6 hle6 hfz=>?_)
   obtain⟨a6,c6,e6,hc6,hs6⟩:=hown.sIn hfz
   cases e6
   exact qE (L':=[]) ⟨Hp.le_trans hρ hle6,va,vc,rfl,hc6,hs6,rfl⟩
 by_cases k5:r.kind=5
 ·repeat' (first|(refine Za (.func 114) ?_;refine qC rfl rfl (Wh _ (r.next) 8 (by omega) (by decide)) ?_;rintro v ρ' L' hle ⟨hl4,a4,c4,rfl,hc4,hs4,rfl⟩<;>(try simp only[kA]))|(refine Xx (Y:=be 8 r.next) rfl rfl hown (by first|exact hs4|exact SIn.mono hs4 (by assumption)) (by (try simp[Zd])<;>omega) rfl (λ va vc sp' hown=>?_))|(refine Zg rfl rfl rfl rfl (by simp) rfl rfl (λ bs=>?_);simp only[hbi];refine tl_appL (b:=UInt8.ofNat v.i.n) rfl rfl hown SrcV.lit (by (try simp[Zd])<;>omega) rfl (λ va vc sp' hown=>?_))|refine zV ?_|intro _)
  obtain⟨B,hB⟩:∃B,H++be 8 r.next++[UInt8.ofNat v.i.n]=B:=⟨_,rfl⟩
  rw[hB] at hown ⊢
  have hBl:B.length<=30:=by rw[<-hB];simp[Zd,hHl]
  have hfin:B++r.ims.flatMap (imB false)=Yv r:=by rw[<-hB];unfold Yv recTB imsB Xt;rw[hHB,if_neg (by omega),if_neg (by omega),if_neg (by omega),if_pos k5,decide_eq_false (by omega),hil];simp
  have hρ:=Hp.le_trans hρ hl4
  rw[show Zq (.slice va B.length vc) (B.map Zk) sp' 5=Zq (.slice va B.length vc) ((B++(r.ims.take 0).flatMap (imB false)).map Zk) sp' 5 by simp]
  refine lpG (Nat×Hp×Value×(List Value)) [1,2,49,61,62] (λ z=>[(63,.int .i64 z.1),(3,z.2.2.1)]) (λ z=>z.2.1) (λ z=>[Xe z.2.2.1 (B++(r.ims.take z.1).flatMap (imB false)) z.2.2.2,[(rb,.cells ⟨Yu v r⟩ 47 (0,0))]]) (λ z=>z.1<=v.i.n/\ρ.le z.2.1/\WN z.2.2.1 (B++(r.ims.take z.1).flatMap (imB false)) z.2.2.2) (λ z=>v.i.n-z.1) (0,ρ',.slice va B.length vc,sp') ⟨aZ _,hρ,by simpa using hown⟩ ?_
  rintro⟨k,ρ1,w2,sp2⟩ hI
  try simp only[kB] at hI ⊢
  try dsimp only at hI ⊢
  obtain⟨hk,hle7,hown⟩:=hI
  clear hρ
  by_cases hlt:k<v.i.n
  ·obtain⟨b,off,C,T,fr,e1,hbb,hfit,hcc⟩:=(h.i.at'.mono hle7).get (show k<r.ims.length by omega)
   have hts:=Xz (imB false) r.ims k (by omega)
   have hmem:=aM (show k<r.ims.length by omega)
   have hfl:=ZW (imB false) 165 (r.ims.take k) (λ x hx=>imB_len (hL.im x (List.mem_of_mem_take hx)).2.1 (hL.im x (List.mem_of_mem_take hx)).2.2)
   have htk:(r.ims.take k).length<=64:=by simp;omega
   have hin:=h.im _ hmem
   obtain⟨hp,ha,hb⟩:=hL.im _ hmem
   generalize r.ims[k]'(by omega)=x at *
   have hxl:(B++(r.ims.take k).flatMap (imB false)).length<=20000:=by simp only[aL];omega
   have hmm:B++(r.ims.take k).flatMap (imB false)++(imB false) x=B++(r.ims.take (k+1)).flatMap (imB false):=by rw[hts];simp
   generalize hX:B++(r.ims.take k).flatMap (imB false)=X at *
   obtain⟨va,vc,rfl,_⟩:=hown.slice
   rw[e1]
   have hpg:=tB_eq (t:=x.page) (by omega) (by omega)
   have h82:=WH hb
   have h83:=WH ha
   have hcb:=bytesR_spec ρ1 x.bv x.b (hin.b.cin.mono hle7) hb (λ r hr=>(hin.b.row r hr).id) hin.b.kid
   have hca:=λ ρ (hle:ρ1.le ρ)=>bytesR_spec ρ x.av x.a ((hin.a.cin.mono hle7).mono hle) ha (λ r hr=>(hin.a.row r hr).id) hin.a.kid
   have hρ:=Hp.le_refl ρ1
   repeat' (first|(refine Zg rfl rfl rfl rfl (by simp) rfl rfl (λ bs=>?_);simp only[hpg];refine tl_appL (b:=tB x.page) rfl rfl hown SrcV.lit (by (try simp[Zd])<;>omega) rfl (λ va vc sp' hown=>?_))|(refine Za (.func 115) ?_;refine qC rfl rfl (hca _ hρ) ?_;rintro v ρ' L' hle ⟨hl6,a6,n6,c6,rfl,hc6,hs6,rfl⟩<;>(try simp only[kA]);have hρ:=Hp.le_trans hρ hl6)|(refine Xx (Y:=Ya x.a) rfl rfl hown (by first|exact hs6|exact SIn.mono hs6 (by assumption)) (by (try simp[Zd])<;>omega) rfl (λ va vc sp' hown=>?_))|refine zV ?_|intro _)
   rw[<-e1]
   have e2:X++[tB x.page]++Ya x.a=B++(r.ims.take (k+1)).flatMap (imB false):=by rw[<-hmm];simp[imB]
   rw[e2] at hown ⊢
   refine rnG (k+1,_,_,sp') (⟨hlt,Hp.le_trans hle7 hρ,hown⟩)
  ·rw[show r.ims.take k=r.ims by rw[show k=r.ims.length by omega,List.take_length]] at hown ⊢
   have hρ:=hle7
   rw[hfin] at hown ⊢
   obtain⟨va,vc,rfl,_⟩:=hown.slice
   repeat' (first|refine zV ?_|intro _)
   refine ZB (Xe (.slice va (Yv r).length vc) (Yv r) sp2) (h:=by repeat (first|exact Zl|apply Zn)) (λ ρ6 hle6 hfz=>?_)
   obtain⟨a6,c6,e6,hc6,hs6⟩:=hown.sIn hfz
   cases e6
   exact qE (L':=[]) ⟨Hp.le_trans hρ hle6,va,vc,rfl,hc6,hs6,rfl⟩
 by_cases k9:r.kind=9
 ·repeat' (first|refine zV ?_|intro _)
  refine ctG (Hp×Value×(List Value)) R [] (λ z=>[(1,.pointer (some ⟨rb,0,none⟩)),(2,.slice none 0 0),(3,z.2.1)]) (λ z=>z.1) (λ z=>[Xe z.2.1 (H++be 4 r.nextTxn.toNat++[UInt8.ofNat v.t.n]) z.2.2,[(rb,.cells ⟨Yu v r⟩ 47 (0,0))]]) (λ z=>ρ2.le z.1/\WN z.2.1 (H++be 4 r.nextTxn.toNat++[UInt8.ofNat v.t.n]) z.2.2) ?_ ?_
  ·refine tpA [0,1,2,3,6,7,8,9] (.b 4 10 [] [] (.b 5 10 [] [] (.e 10 [] (.e 11 [] (.f [12] .o))) (.e 5 [] (.e 11 [] (.f [12] .o)))) (.e 4 [] (.e 5 [] (.e 11 [] (.f [12] .o))))) ([[(rb,.cells ⟨Yu v r⟩ 47 (0,0))]]) ?_
   repeat' (refine iT ?_;first|refine rA ?_|((first|(refine iE ?_;refine rE ?_)|(refine iB ?_;refine rB ?_ ?_))<;>((first|(refine Za (.func 114) ?_;refine qC rfl rfl (high_spec _ (r.nextTxn) 4 (by omega) (by omega) (by decide)) ?_;rintro v ρ' L' hle ⟨hl5,a5,c5,rfl,hc5,hs5,rfl⟩<;>(try simp only[kA]))|(refine Xx (Y:=be 4 r.nextTxn.toNat) rfl rfl hown (by first|exact hs5|exact SIn.mono hs5 (by assumption)) (by (try simp[Zd])<;>omega) rfl (λ va vc sp' hown=>?_))|(refine Zg rfl rfl rfl rfl (by simp) rfl rfl (λ bs=>?_);simp only[hbt])|(refine tl_appL (b:=UInt8.ofNat v.t.n) rfl rfl hown SrcV.lit (by (try simp[Zd])<;>omega) rfl (λ va vc sp' hown=>?_))|(refine qEf ?_;try intro _))<;>(try simp only[kA])<;>refine zN ?_)))
   all_goals refine jnG ((_,_,_)) (⟨hl5,hown⟩)
  rintro⟨ρ3,w,sp⟩ ⟨hle3,hown⟩
  simp only[kA] at hle3 ⊢
  dsimp only at hown
  obtain⟨va,vc,rfl,_⟩:=hown.slice
  obtain⟨B,hB⟩:∃B,H++be 4 r.nextTxn.toNat++[UInt8.ofNat v.t.n]=B:=⟨_,rfl⟩
  rw[hB] at hown ⊢
  have hBl:B.length=26:=by rw[<-hB];simp[Zd,hHl]
  have hfin:B++r.txns.flatMap XW++[UInt8.ofNat v.d.n]++r.dirty.flatMap Wy=Yv r:=by rw[<-hB];unfold Yv recTB Xt;rw[hHB,if_neg (by omega),if_neg (by omega),if_neg (by omega),if_neg (by omega),if_pos k9,htl,hdl];simp
  have hρ:=Hp.le_trans hρ hle3
  repeat' (first|refine zV ?_|intro _)
  rw[show Xe (.slice va B.length vc) B sp=Zq (.slice va B.length vc) (B.map Zk) sp 5 from rfl]
  rw[show Zq (.slice va B.length vc) (B.map Zk) sp 5=Zq (.slice va B.length vc) ((B++(r.txns.take 0).flatMap XW).map Zk) sp 5 by simp]
  refine lpG (Nat×Hp×Value×(List Value)) [1,2,123,124] (λ z=>[(125,.int .i64 z.1),(3,z.2.2.1)]) (λ z=>z.2.1) (λ z=>[Xe z.2.2.1 (B++(r.txns.take z.1).flatMap XW) z.2.2.2,[(rb,.cells ⟨Yu v r⟩ 47 (0,0))]]) (λ z=>z.1<=v.t.n/\ρ.le z.2.1/\WN z.2.2.1 (B++(r.txns.take z.1).flatMap XW) z.2.2.2) (λ z=>v.t.n-z.1) (0,ρ3,.slice va B.length vc,sp) ⟨aZ _,hρ,by simpa using hown⟩ ?_
  rintro⟨k,ρ1,w2,sp2⟩ hI
  try simp only[kB] at hI ⊢
  try dsimp only at hI ⊢
  obtain⟨hk,hle7,hown⟩:=hI
  clear hρ
  by_cases hlt:k<v.t.n
  ·obtain⟨b,off,C,T,fr,e1,hbb,hfit,hcc⟩:=(h.t.at'.mono hle7).get (show k<r.txns.length by omega)
   have hts:=Xz XW r.txns k (by omega)
   have hmem:=aM (show k<r.txns.length by omega)
   have hfl:=ZW XW 29 (r.txns.take k) (λ x hx=>Nat.le_of_eq (ckTB_len x))
   have htk:(r.txns.take k).length<=64:=by simp;omega
   obtain⟨q1,q2,q3,q4,q5⟩:=hL.tx _ hmem
   generalize r.txns[k]'(by omega)=x at *
   have hxl:(B++(r.txns.take k).flatMap XW).length<=20000:=by simp only[aL];omega
   have hmm:B++(r.txns.take k).flatMap XW++XW x=B++(r.txns.take (k+1)).flatMap XW:=by rw[hts];simp
   generalize hX:B++(r.txns.take k).flatMap XW=X at *
   obtain⟨va,vc,rfl,_⟩:=hown.slice
   rw[e1]
   have hst:=tB_eq (t:=x.state) (by omega) (by omega)
   repeat' (first|refine zV ?_|intro _)
   refine tpA [0,1,2,3,6,7] (.e 4 [] (.e 5 [] (.e 8 [] (.e 9 [] (.f [10] .o))))) ([[(_,.cells ⟨Yh x⟩ 116 (0,0))]]) ?_
   repeat' (refine iT ?_;first|refine rA ?_|(refine rE ?_<;>((first|(refine Za (.func 114) ?_;refine qC rfl rfl (high_spec _ (x.txn) 4 (by omega) (by omega) (by decide)) ?_;rintro v ρ' L' hle ⟨hl5,a5,c5,rfl,hc5,hs5,rfl⟩<;>(try simp only[kA]))|(refine Za (.func 114) ?_;refine qC rfl rfl (Wh _ (x.first) 8 (by omega) (by decide)) ?_;rintro v ρ' L' hle ⟨hl6,a6,c6,rfl,hc6,hs6,rfl⟩<;>(try simp only[kA]))|(refine Xx (Y:=be 4 x.txn.toNat) rfl rfl hown (by first|exact hs5|exact SIn.mono hs5 (by assumption)) (by (try simp[Zd])<;>omega) rfl (λ va vc sp' hown=>?_))|(refine Xx (Y:=be 8 x.first) rfl rfl hown (by first|exact hs6|exact SIn.mono hs6 (by assumption)) (by (try simp[Zd])<;>omega) rfl (λ va vc sp' hown=>?_))|(refine qEf ?_;try intro _))<;>(try simp only[kA])<;>refine zN ?_)))
   all_goals (repeat' (first|refine zV ?_|intro _))
   all_goals refine tpA [0,1,2,5,6,9,10,11] (.b 3 12 [] [] (.b 4 12 [] [] (.b 7 12 [] [] (.b 8 12 [] [] (.e 12 [] (.e 13 [] (.f [14] .o))) (.e 8 [] (.e 13 [] (.f [14] .o)))) (.e 7 [] (.e 8 [] (.e 13 [] (.f [14] .o))))) (.e 4 [] (.e 7 [] (.e 8 [] (.e 13 [] (.f [14] .o)))))) (.e 3 [] (.e 4 [] (.e 7 [] (.e 8 [] (.e 13 [] (.f [14] .o))))))) ([[(_,.cells ⟨Yh x⟩ 116 (0,0))]]) ?_
   all_goals (repeat' (refine iT ?_;first|refine rA ?_|((first|(refine iE ?_;refine rE ?_)|(refine iB ?_;refine rB ?_ ?_))<;>((first|(refine Za (.func 114) ?_;refine qC rfl rfl (Wh _ (x.last) 8 (by omega) (by decide)) ?_;rintro v ρ' L' hle ⟨hl7,a7,c7,rfl,hc7,hs7,rfl⟩<;>(try simp only[kA]))|(refine Za (.func 114) ?_;refine qC rfl rfl (Wh _ (x.undo) 8 (by omega) (by decide)) ?_;rintro v ρ' L' hle ⟨hl8,a8,c8,rfl,hc8,hs8,rfl⟩<;>(try simp only[kA]))|(refine Xx (Y:=be 8 x.last) rfl rfl hown (by first|exact hs7|exact SIn.mono hs7 (by assumption)) (by (try simp[Zd])<;>omega) rfl (λ va vc sp' hown=>?_))|(refine Xx (Y:=be 8 x.undo) rfl rfl hown (by first|exact hs8|exact SIn.mono hs8 (by assumption)) (by (try simp[Zd])<;>omega) rfl (λ va vc sp' hown=>?_))|(refine Zg rfl rfl rfl rfl (by simp) rfl rfl (λ bs=>?_);simp only[hst])|(refine tl_appL (b:=tB x.state) rfl rfl hown SrcV.lit (by (try simp[Zd])<;>omega) rfl (λ va vc sp' hown=>?_))|(refine qEf ?_;try intro _))<;>(try simp only[kA])<;>refine zN ?_))))
   all_goals (repeat' (first|refine zV ?_|intro _))
   all_goals rw[<-e1]
   all_goals have e2:X++be 4 x.txn.toNat++be 8 x.first++be 8 x.last++be 8 x.undo++[tB x.state]=B++(r.txns.take (k+1)).flatMap XW:=by rw[<-hmm];simp[XW]
   all_goals rw[e2] at hown ⊢
   all_goals refine rnG (k+1,_,_,sp') (⟨hlt,Hp.le_trans hle7 (Hp.le_trans hl5 (Hp.le_trans hl6 (Hp.le_trans hl7 hl8))),hown⟩)
  ·rw[show r.txns.take k=r.txns by rw[show k=r.txns.length by omega,List.take_length]] at hown ⊢
   have hρ:=hle7
   obtain⟨C1,hC1⟩:∃C1,B++r.txns.flatMap XW=C1:=⟨_,rfl⟩
   rw[hC1] at hown hfin ⊢
   have hC1l:C1.length<=300:=by
    have:=ZW XW 29 r.txns (λ x hx=>Nat.le_of_eq (ckTB_len x))
    rw[<-hC1,aL];omega
   obtain⟨va,vc,rfl,_⟩:=hown.slice
   repeat' (first|(refine Zg rfl rfl rfl rfl (by simp) rfl rfl (λ bs=>?_);simp only[hbd];refine tl_appL (b:=UInt8.ofNat v.d.n) rfl rfl hown SrcV.lit (by (try simp[Zd])<;>omega) rfl (λ va vc sp' hown=>?_))|refine zV ?_|intro _)
   obtain⟨B2,hB2⟩:∃B2,C1++[UInt8.ofNat v.d.n]=B2:=⟨_,rfl⟩
   rw[hB2] at hown hfin ⊢
   have hfin2:=hfin
   have hB2l:B2.length<=400:=by rw[<-hB2];simp;omega
   rw[show Zq (.slice va B2.length vc) (B2.map Zk) sp' 5=Zq (.slice va B2.length vc) ((B2++(r.dirty.take 0).flatMap Wy).map Zk) sp' 5 by simp]
   refine lpG (Nat×Hp×Value×(List Value)) [2,162,163] (λ z=>[(164,.int .i64 z.1),(3,z.2.2.1)]) (λ z=>z.2.1) (λ z=>[Xe z.2.2.1 (B2++(r.dirty.take z.1).flatMap Wy) z.2.2.2,[(rb,.cells ⟨Yu v r⟩ 47 (0,0))]]) (λ z=>z.1<=v.d.n/\ρ.le z.2.1/\WN z.2.2.1 (B2++(r.dirty.take z.1).flatMap Wy) z.2.2.2) (λ z=>v.d.n-z.1) (0,ρ1,.slice va B2.length vc,sp') ⟨aZ _,hρ,by simpa using hown⟩ ?_
   rintro⟨k,ρ9,w2,sp2⟩ hI
   try simp only[kB] at hI ⊢
   try dsimp only at hI ⊢
   obtain⟨hk,hle7,hown⟩:=hI
   clear hρ
   by_cases hlt:k<v.d.n
   ·obtain⟨b,off,C,T,fr,e1,hbb,hfit,hcc⟩:=(h.d.at'.mono hle7).get (show k<r.dirty.length by omega)
    have hts:=Xz Wy r.dirty k (by omega)
    have hmem:=aM (show k<r.dirty.length by omega)
    have hfl:=ZW Wy 9 (r.dirty.take k) (λ x hx=>Nat.le_of_eq (ckPB_len x))
    have htk:(r.dirty.take k).length<=64:=by simp;omega
    obtain⟨q1,q2⟩:=hL.di _ hmem
    generalize r.dirty[k]'(by omega)=x at *
    have hxl:(B2++(r.dirty.take k).flatMap Wy).length<=20000:=by simp only[aL];omega
    have hmm:B2++(r.dirty.take k).flatMap Wy++Wy x=B2++(r.dirty.take (k+1)).flatMap Wy:=by rw[hts];simp
    generalize hX:B2++(r.dirty.take k).flatMap Wy=X at *
    obtain⟨va,vc,rfl,_⟩:=hown.slice
    rw[e1]
    have hpg:=tB_eq (t:=x.page) (by omega) (by omega)
    repeat' (first|refine zV ?_|intro _)
    refine tpA [0,1,2,3,6,7] (.e 4 [] (.e 5 [] (.e 8 [] (.e 9 [] (.f [10] .o))))) ([[(_,.cells ⟨YB x⟩ 118 (0,0))]]) ?_
    repeat' (refine iT ?_;first|refine rA ?_|(refine rE ?_<;>((first|(refine Zg rfl rfl rfl rfl (by simp) rfl rfl (λ bs=>?_);simp only[hpg])|(refine tl_appL (b:=tB x.page) rfl rfl hown SrcV.lit (by (try simp[Zd])<;>omega) rfl (λ va vc sp' hown=>?_))|(refine Za (.func 114) ?_;refine qC rfl rfl (Wh _ (x.since) 8 (by omega) (by decide)) ?_;rintro v ρ' L' hle ⟨hl8,a8,c8,rfl,hc8,hs8,rfl⟩<;>(try simp only[kA]))|(refine Xx (Y:=be 8 x.since) rfl rfl hown (by first|exact hs8|exact SIn.mono hs8 (by assumption)) (by (try simp[Zd])<;>omega) rfl (λ va vc sp' hown=>?_))|(refine qEf ?_;try intro _))<;>(try simp only[kA])<;>refine zN ?_)))
    all_goals (repeat' (first|refine zV ?_|intro _))
    all_goals rw[<-e1]
    all_goals have e2:X++[tB x.page]++be 8 x.since=B2++(r.dirty.take (k+1)).flatMap Wy:=by rw[<-hmm];simp[Wy]
    all_goals rw[e2] at hown ⊢
    all_goals refine rnG (k+1,_,_,sp') (⟨hlt,Hp.le_trans hle7 hl8,hown⟩)
   ·rw[show r.dirty.take k=r.dirty by rw[show k=r.dirty.length by omega,List.take_length]] at hown ⊢
    have hρ:=hle7
    rw[hfin2] at hown ⊢
    obtain⟨va,vc,rfl,_⟩:=hown.slice
    repeat' (first|refine zV ?_|intro _)
    refine ZB (Xe (.slice va (Yv r).length vc) (Yv r) sp2) (h:=by repeat (first|exact Zl|apply Zn)) (λ ρ6 hle6 hfz=>?_)
    obtain⟨a6,c6,e6,hc6,hs6⟩:=hown.sIn hfz
    cases e6
    exact qE (L':=[]) ⟨Hp.le_trans hρ hle6,va,vc,rfl,hc6,hs6,rfl⟩
 have hfin:H=Yv r:=by unfold Yv recTB;rw[hHB,if_neg k2,if_neg k3,if_neg k4,if_neg k5,if_neg k9,aN]
 rw[hfin] at hown ⊢
 repeat' (first|refine zV ?_|intro _)
 refine ZB (Xe (.slice va (Yv r).length vc) (Yv r) sp) (h:=by repeat (first|exact Zl|apply Zn)) (λ ρ6 hle6 hfz=>?_)
 obtain⟨a6,c6,e6,hc6,hs6⟩:=hown.sIn hfz
 cases e6
 exact qE (L':=[]) ⟨Hp.le_trans hρ hle6,va,vc,rfl,hc6,hs6,rfl⟩
theorem sects04_spec (ρ:Hp)(n:Nat)(hn:n<=4611686018427387904):Spec prog 107 [.int .i64 n] ρ [] (λ v ρ' L'=>v=.int .i64 (sectsB n:Nat)/\ρ'=ρ/\L'=[]):=by
 refine Zb func107 rfl rfl rfl λ u R=>?_
 simp only[Zc,kA]
 have e:max 1 (IntKind.i64.wrap (((n:Int)+51).tdiv 52))=((sectsB n:Nat):Int):=by
  rw[Int.tdiv_eq_ediv_of_nonneg (by omega),Ww (by simp only[lo,hi];omega)]
  unfold sectsB;omega
 repeat' (first|refine zV ?_|intro _)
 rw[e]
 exact qE ⟨rfl,rfl,rfl⟩
theorem cost12_spec (ρ:Hp)(v:RV)(r:Rc)(h:RcIn ρ v r)(hL:LayOk r):Spec prog 48 [.agg ⟨Yu v r⟩] ρ []
  (λ z ρ' L'=>ρ.le ρ'/\z=.int .i64 (sectsB (Yv r).length:Nat)/\L'=[]):=by
 have hb:=recB_le hL
 have hB:=bytes12_spec ρ v r h hL
 refine Zb func48 rfl rfl rfl λ u R=>?_
 simp only[Zc,kA]
 repeat' (first|(refine Za (.func 52) ?_;refine qC rfl rfl (hB) ?_;rintro v ρ' L' hle ⟨hl1,a,c,rfl,hc,hs,rfl⟩<;>(try simp only[kA]))|(refine Za (.func 107) ?_;refine qR rfl rfl (sects04_spec _ _ (by omega)) ?_;try simp only[kA])|refine zV ?_|intro _)
 exact qE ⟨hl1,rfl,rfl⟩
theorem take_ext {α:Type}{l m:List α}(hl:l.length=m.length)(k:Nat)(h:l.length<=k)(e:l.take k=m.take k):l=m:=by
 rwa [aT h,aT (by omega)] at e
theorem get_ext {α:Type}{l m:List α}(k:Nat)(h:k<l.length)(h':k<m.length)(e:l=m):l[k]=m[k]:=by subst e;rfl
theorem same12G_spec (ρ:Hp)(v v':RV)(x y:Rc)(h:RcIn ρ v x)(h':RcIn ρ v' y):Spec prog 74 [.agg ⟨Yu v x⟩,.agg ⟨Yu v' y⟩] ρ [] (λ z ρ' L'=>(∃b,z=.bool b/\(b=true↔x.plain=y.plain))/\ρ'=ρ/\L'=[]):=by
 obtain⟨⟨ia,inn,ic⟩,⟨sa,sn,sc⟩,⟨ta,tn,tc⟩,⟨da,dn,dc⟩⟩:=v
 obtain⟨⟨ja,jn,jc⟩,⟨ra,rn,rc⟩,⟨ua,un,uc⟩,⟨ea,en,ec⟩⟩:=v'
 have hvi:=h.i.at'
 have hvs:=h.s.at'
 have hvt:=h.t.at'
 have hvd:=h.d.at'
 have hwi:=h'.i.at'
 have hws:=h'.s.at'
 have hwt:=h'.t.at'
 have hwd:=h'.d.at'
 have n1:=h.i.at'.len
 have n2:=h'.i.at'.len
 have n3:=h.s.at'.len
 have n4:=h'.s.at'.len
 have n5:=h.t.at'.len
 have n6:=h'.t.at'.len
 have n7:=h.d.at'.len
 have n8:=h'.d.at'.len
 have b1:=h.i.big
 have b3:=h.s.big
 have b5:=h.t.big
 have b7:=h.d.big
 dsimp only at n1 n2 n3 n4 n5 n6 n7 n8 b1 b3 b5 b7 hvi hvs hvt hvd hwi hws hwt hwd
 simp only[Yu]
 refine Zb func74 rfl rfl rfl λ u R=>?_
 simp only[Zc,kA]
 by_cases e:x.kind=y.kind/\x.lsn=y.lsn/\x.txn=y.txn/\x.prev=y.prev/\x.next=y.next/\x.nextTxn=y.nextTxn
 ·have hp:=plain_eq e
  obtain⟨e1,e2,e3,e4,e5,e6⟩:=e
  by_cases hn:inn=jn/\sn=rn/\tn=un/\dn=en
  ·obtain⟨m1,m2,m3,m4⟩:=hn
   repeat' (first|refine zV ?_|intro _)
   rename_i b2 b3
   refine lpG Nat [2,3,87] (λ z=>[(88,.int .i64 z),(4,.bool false)]) (λ z=>ρ) (λ z=>[[(b3,.cells ⟨[.int .i64 y.kind,.int .u64 y.lsn,.int .i64 y.txn,.int .u64 y.prev,.int .u64 y.next,.slice ja jn jc,.slice ra rn rc,.int .i64 y.nextTxn,.slice ua un uc,.slice ea en ec]⟩ 47 (0,0))],[(b2,.cells ⟨[.int .i64 x.kind,.int .u64 x.lsn,.int .i64 x.txn,.int .u64 x.prev,.int .u64 x.next,.slice ia inn ic,.slice sa sn sc,.int .i64 x.nextTxn,.slice ta tn tc,.slice da dn dc]⟩ 47 (0,0))]]) (λ z=>z<=inn/\(x.ims.map Im.plain).take z=(y.ims.map Im.plain).take z) (λ z=>inn-z) 0 ⟨aZ _,rfl⟩ ?_
   rintro k hI
   try simp only[kB] at hI ⊢
   try dsimp only at hI ⊢
   obtain⟨hk,hpre⟩:=hI
   by_cases hlt:k<inn
   ·obtain⟨b,off,C,T,fr,rfl,hb,hfit,hc⟩:=hvi.get (show k<x.ims.length by omega)
    obtain⟨bb,off2,C2,T2,fr2,rfl,hb2,hfit2,hc2⟩:=hwi.get (show k<y.ims.length by omega)
    have ht1:=map_take_succ Im.plain x.ims k (by omega)
    have ht2:=map_take_succ Im.plain y.ims k (by omega)
    have hf:x.plain=y.plain->(x.ims[k]'(by omega)).plain=(y.ims[k]'(by omega)).plain:=λ e=>by
     have g0:=(hp.1 e).2.2.2
     have g1:(x.ims.map Im.plain)[k]?=some (x.ims[k]'(by omega)).plain:=by simp[show k<x.ims.length by omega]
     have g2:(y.ims.map Im.plain)[k]?=some (y.ims[k]'(by omega)).plain:=by simp[show k<y.ims.length by omega]
     rw[g0,g2] at g1
     exact (Option.some.inj g1).symm
    have hs:=h.im _ (aM (show k<x.ims.length by omega))
    have hs':=h'.im _ (aM (show k<y.ims.length by omega))
    generalize x.ims[k]'(by omega)=xi at *
    generalize y.ims[k]'(by omega)=yi at *
    have q1:=sameR_spec ρ xi.bv yi.bv xi.b yi.b hs.b.cin hs'.b.cin
    have q2:=sameR_spec ρ xi.av yi.av xi.a yi.a hs.a.cin hs'.a.cin
    have hq:imEq xi yi=true↔_:=imEq_iff
    unfold imEq at hq
    by_cases c1:xi.page=yi.page
    ·rw[decide_eq_true c1,Bool.true_and] at hq
     by_cases c2:xi.b=yi.b
     ·rw[decide_eq_true c2] at q1 hq
      rw[Bool.true_and] at hq
      by_cases c3:xi.a=yi.a
      ·rw[decide_eq_true c3] at q2 hq
       have hpre2:(x.ims.map Im.plain).take (k+1)=(y.ims.map Im.plain).take (k+1):=by rw[ht1,ht2,hpre,hq.1 rfl]
       repeat' (first|refine zV ?_|intro _)
       refine tpZ [0,1,2,3,4,5,6,7,8,9] (.b 10 11 [] [] (.e 11 [] (.e 12 [] (.e 13 [] .o))) (.e 10 [] (.e 12 [] (.e 13 [] .o)))) ?_
       repeat' (refine iT ?_;first|refine rA ?_|((first|(refine iE ?_;refine rE ?_)|(refine iB ?_;refine rB ?_ ?_))<;>(refine qEf ?_;try intro _)<;>(try simp only[kA])<;>refine zN ?_))
       all_goals (repeat' (first|(refine Za (.func 81) ?_;refine qR rfl rfl (q1) ?_;try simp only[kA])|(refine Za (.func 81) ?_;refine qR rfl rfl (q2) ?_;try simp only[kA])|refine zV ?_|intro _))
       all_goals refine rnG (k+1) (⟨hlt,hpre2⟩)
      ·rw[decide_eq_false c3] at q2 hq
       have hne:x.plain≠y.plain:=λ e=>by have:=hq.2 (hf e);cases this
       repeat' (first|refine zV ?_|intro _)
       refine tpZ [0,1,2,3,4,5,6,7,8,9] (.b 10 11 [] [] (.e 11 [] (.e 12 [] (.e 13 [] .o))) (.e 10 [] (.e 12 [] (.e 13 [] .o)))) ?_
       repeat' (refine iT ?_;first|refine rA ?_|((first|(refine iE ?_;refine rE ?_)|(refine iB ?_;refine rB ?_ ?_))<;>(refine qEf ?_;try intro _)<;>(try simp only[kA])<;>refine zN ?_))
       all_goals (repeat' (first|(refine Za (.func 81) ?_;refine qR rfl rfl (q1) ?_;try simp only[kA])|(refine Za (.func 81) ?_;refine qR rfl rfl (q2) ?_;try simp only[kA])|refine zV ?_|intro _))
       all_goals exact qE (L':=[]) ⟨⟨false,rfl,by simp,λ e=>absurd e hne⟩,rfl,rfl⟩
     ·rw[decide_eq_false c2] at q1 hq
      have hne:x.plain≠y.plain:=λ e=>by have:=hq.2 (hf e);cases this
      repeat' (first|refine zV ?_|intro _)
      refine tpZ [0,1,2,3,4,5,6,7,8,9] (.b 10 11 [] [] (.e 11 [] (.e 12 [] (.e 13 [] .o))) (.e 10 [] (.e 12 [] (.e 13 [] .o)))) ?_
      repeat' (refine iT ?_;first|refine rA ?_|((first|(refine iE ?_;refine rE ?_)|(refine iB ?_;refine rB ?_ ?_))<;>(refine qEf ?_;try intro _)<;>(try simp only[kA])<;>refine zN ?_))
      all_goals (repeat' (first|(refine Za (.func 81) ?_;refine qR rfl rfl (q1) ?_;try simp only[kA])|refine zV ?_|intro _))
      all_goals exact qE (L':=[]) ⟨⟨false,rfl,by simp,λ e=>absurd e hne⟩,rfl,rfl⟩
    ·rw[decide_eq_false c1] at hq
     have hne:x.plain≠y.plain:=λ e=>by have:=hq.2 (hf e);cases this
     repeat' (first|refine zV ?_|intro _)
     refine tpZ [0,1,2,3,4,5,6,7,8,9] (.b 10 11 [] [] (.e 11 [] (.e 12 [] (.e 13 [] .o))) (.e 10 [] (.e 12 [] (.e 13 [] .o)))) ?_
     repeat' (refine iT ?_;first|refine rA ?_|((first|(refine iE ?_;refine rE ?_)|(refine iB ?_;refine rB ?_ ?_))<;>(refine qEf ?_;try intro _)<;>(try simp only[kA])<;>refine zN ?_))
     all_goals (repeat' (first|refine zV ?_|intro _))
     all_goals exact qE (L':=[]) ⟨⟨false,rfl,by simp,λ e=>absurd e hne⟩,rfl,rfl⟩
   ·have hI:=take_ext (by simp;omega) k (by simp;omega) hpre
    repeat' (first|refine zV ?_|intro _)
    refine lpG Nat [2,3,125] (λ z=>[(126,.int .i64 z),(4,.bool false)]) (λ z=>ρ) (λ z=>[[(b3,.cells ⟨[.int .i64 y.kind,.int .u64 y.lsn,.int .i64 y.txn,.int .u64 y.prev,.int .u64 y.next,.slice ja jn jc,.slice ra rn rc,.int .i64 y.nextTxn,.slice ua un uc,.slice ea en ec]⟩ 47 (0,0))],[(b2,.cells ⟨[.int .i64 x.kind,.int .u64 x.lsn,.int .i64 x.txn,.int .u64 x.prev,.int .u64 x.next,.slice ia inn ic,.slice sa sn sc,.int .i64 x.nextTxn,.slice ta tn tc,.slice da dn dc]⟩ 47 (0,0))]]) (λ z=>z<=sn/\x.steps.take z=y.steps.take z) (λ z=>sn-z) 0 ⟨aZ _,rfl⟩ ?_
    rintro k1 hI
    try simp only[kB] at hI ⊢
    try dsimp only at hI ⊢
    obtain⟨hk,hpre⟩:=hI
    by_cases hlt:k1<sn
    ·obtain⟨b,off,C,T,fr,rfl,hb,hfit,hc⟩:=hvs.get (show k1<x.steps.length by omega)
     obtain⟨bb,off2,C2,T2,fr2,rfl,hb2,hfit2,hc2⟩:=hws.get (show k1<y.steps.length by omega)
     have ht1:=aG (show k1<x.steps.length by omega)
     have ht2:=aG (show k1<y.steps.length by omega)
     have hf:=get_ext k1 (show k1<x.steps.length by omega) (show k1<y.steps.length by omega)
     generalize x.steps[k1]'(by omega)=xi at *
     generalize y.steps[k1]'(by omega)=yi at *
     by_cases c:xi=yi
     ·have hd:decide (xi=yi)=true:=decide_eq_true c
      repeat' (first|refine zV ?_|intro _)
      refine tpZ [0] (.f [1,2,3,4,5,6,7,8,9,10] .o) ?_
      repeat' (refine iT ?_;first|refine rA ?_)
      all_goals (repeat' (first|refine zV ?_|intro _))
      all_goals refine rnG (k1+1) (⟨hlt,by rw[ht1,ht2,hpre,c]⟩)
     ·have hd:decide (xi=yi)=false:=decide_eq_false c
      repeat' (first|refine zV ?_|intro _)
      refine tpZ [0] (.f [1,2,3,4,5,6,7,8,9,10] .o) ?_
      repeat' (refine iT ?_;first|refine rA ?_)
      all_goals (repeat' (first|refine zV ?_|intro _))
      all_goals exact qE (L':=[]) ⟨⟨false,rfl,by simp,λ e=>absurd (hf (hp.1 e).1) c⟩,rfl,rfl⟩
    ·have hS:=take_ext (by omega) k1 (by omega) hpre
     repeat' (first|refine zV ?_|intro _)
     refine lpG Nat [2,3,143] (λ z=>[(144,.int .i64 z),(4,.bool false)]) (λ z=>ρ) (λ z=>[[(b3,.cells ⟨[.int .i64 y.kind,.int .u64 y.lsn,.int .i64 y.txn,.int .u64 y.prev,.int .u64 y.next,.slice ja jn jc,.slice ra rn rc,.int .i64 y.nextTxn,.slice ua un uc,.slice ea en ec]⟩ 47 (0,0))],[(b2,.cells ⟨[.int .i64 x.kind,.int .u64 x.lsn,.int .i64 x.txn,.int .u64 x.prev,.int .u64 x.next,.slice ia inn ic,.slice sa sn sc,.int .i64 x.nextTxn,.slice ta tn tc,.slice da dn dc]⟩ 47 (0,0))]]) (λ z=>z<=tn/\x.txns.take z=y.txns.take z) (λ z=>tn-z) 0 ⟨aZ _,rfl⟩ ?_
     rintro k2 hI
     try simp only[kB] at hI ⊢
     try dsimp only at hI ⊢
     obtain⟨hk,hpre⟩:=hI
     by_cases hlt:k2<tn
     ·obtain⟨b,off,C,T,fr,rfl,hb,hfit,hc⟩:=hvt.get (show k2<x.txns.length by omega)
      obtain⟨bb,off2,C2,T2,fr2,rfl,hb2,hfit2,hc2⟩:=hwt.get (show k2<y.txns.length by omega)
      have ht1:=aG (show k2<x.txns.length by omega)
      have ht2:=aG (show k2<y.txns.length by omega)
      have hf:=get_ext k2 (show k2<x.txns.length by omega) (show k2<y.txns.length by omega)
      generalize x.txns[k2]'(by omega)=xi at *
      generalize y.txns[k2]'(by omega)=yi at *
      by_cases c:xi=yi
      ·have hd:decide (xi=yi)=true:=decide_eq_true c
       repeat' (first|refine zV ?_|intro _)
       refine tpZ [0] (.f [1,2,3,4,5,6,7,8,9,10] .o) ?_
       repeat' (refine iT ?_;first|refine rA ?_)
       all_goals (repeat' (first|refine zV ?_|intro _))
       all_goals refine rnG (k2+1) (⟨hlt,by rw[ht1,ht2,hpre,c]⟩)
      ·have hd:decide (xi=yi)=false:=decide_eq_false c
       repeat' (first|refine zV ?_|intro _)
       refine tpZ [0] (.f [1,2,3,4,5,6,7,8,9,10] .o) ?_
       repeat' (refine iT ?_;first|refine rA ?_)
       all_goals (repeat' (first|refine zV ?_|intro _))
       all_goals exact qE (L':=[]) ⟨⟨false,rfl,by simp,λ e=>absurd (hf (hp.1 e).2.1) c⟩,rfl,rfl⟩
     ·have hT:=take_ext (by omega) k2 (by omega) hpre
      repeat' (first|refine zV ?_|intro _)
      refine lpG Nat [2,3,161] (λ z=>[(162,.int .i64 z),(4,.bool false)]) (λ z=>ρ) (λ z=>[[(b3,.cells ⟨[.int .i64 y.kind,.int .u64 y.lsn,.int .i64 y.txn,.int .u64 y.prev,.int .u64 y.next,.slice ja jn jc,.slice ra rn rc,.int .i64 y.nextTxn,.slice ua un uc,.slice ea en ec]⟩ 47 (0,0))],[(b2,.cells ⟨[.int .i64 x.kind,.int .u64 x.lsn,.int .i64 x.txn,.int .u64 x.prev,.int .u64 x.next,.slice ia inn ic,.slice sa sn sc,.int .i64 x.nextTxn,.slice ta tn tc,.slice da dn dc]⟩ 47 (0,0))]]) (λ z=>z<=dn/\x.dirty.take z=y.dirty.take z) (λ z=>dn-z) 0 ⟨aZ _,rfl⟩ ?_
      rintro k3 hI
      try simp only[kB] at hI ⊢
      try dsimp only at hI ⊢
      obtain⟨hk,hpre⟩:=hI
      by_cases hlt:k3<dn
      ·obtain⟨b,off,C,T,fr,rfl,hb,hfit,hc⟩:=hvd.get (show k3<x.dirty.length by omega)
       obtain⟨bb,off2,C2,T2,fr2,rfl,hb2,hfit2,hc2⟩:=hwd.get (show k3<y.dirty.length by omega)
       have ht1:=aG (show k3<x.dirty.length by omega)
       have ht2:=aG (show k3<y.dirty.length by omega)
       have hf:=get_ext k3 (show k3<x.dirty.length by omega) (show k3<y.dirty.length by omega)
       generalize x.dirty[k3]'(by omega)=xi at *
       generalize y.dirty[k3]'(by omega)=yi at *
       by_cases c:xi=yi
       ·have hd:decide (xi=yi)=true:=decide_eq_true c
        repeat' (first|refine zV ?_|intro _)
        refine tpZ [0] (.f [1,2,3,4,5,6,7,8,9,10] .o) ?_
        repeat' (refine iT ?_;first|refine rA ?_)
        all_goals (repeat' (first|refine zV ?_|intro _))
        all_goals refine rnG (k3+1) (⟨hlt,by rw[ht1,ht2,hpre,c]⟩)
       ·have hd:decide (xi=yi)=false:=decide_eq_false c
        repeat' (first|refine zV ?_|intro _)
        refine tpZ [0] (.f [1,2,3,4,5,6,7,8,9,10] .o) ?_
        repeat' (refine iT ?_;first|refine rA ?_)
        all_goals (repeat' (first|refine zV ?_|intro _))
        all_goals exact qE (L':=[]) ⟨⟨false,rfl,by simp,λ e=>absurd (hf (hp.1 e).2.2.1) c⟩,rfl,rfl⟩
      ·have hD:=take_ext (by omega) k3 (by omega) hpre
       repeat' (first|refine zV ?_|intro _)
       exact qE (L':=[]) ⟨⟨true,rfl,λ _=>hp.2 ⟨hS,hT,hD,hI⟩,λ _=>rfl⟩,rfl,rfl⟩
  ·have hne:x.plain≠y.plain:=λ e=>by
    obtain⟨g1,g2,g3,g4⟩:=hp.1 e
    have g4:=congrArg List.length g4
    simp only[List.length_map] at g4
    rw[g1] at n3;rw[g2] at n5;rw[g3] at n7
    exact hn (by omega)
   repeat' (first|refine zV ?_|(refine zG (λ hb=>?_) (λ hb=>?_)<;>(try simp only[kH,kI] at hb))|intro _)
   all_goals first|(exfalso;omega)|skip
   all_goals (refine qF (L':=[]) ?_;exact⟨⟨false,YK (by (try simp[*]);first|done|omega|(intros;omega)|(constructor<;>intros<;>(try simp_all)<;>omega)),by simp,λ h=>absurd h hne⟩,rfl,rfl⟩)
 ·have hne:x.plain≠y.plain:=λ h=>e (by
   injection h with a1 a2 a3 a4 a5 a6 a7 a8 a9 a10
   exact⟨a1,a2,a3,a4,a5,a8⟩)
  repeat' (first|refine zV ?_|(refine zG (λ hb=>?_) (λ hb=>?_)<;>(try simp only[kH,kI] at hb))|intro _)
  all_goals first|(exfalso;omega)|skip
  all_goals (refine qF (L':=[]) ?_;exact⟨⟨false,YK (by (try simp[*]);first|done|omega|(intros;omega)|(constructor<;>intros<;>(try simp_all)<;>omega)),by simp,λ h=>absurd h hne⟩,rfl,rfl⟩)
end Go.Proofs.E
