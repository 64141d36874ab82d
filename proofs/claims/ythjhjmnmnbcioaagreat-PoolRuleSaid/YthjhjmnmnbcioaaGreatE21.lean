/- Laws of PoolRule. Part 21 of 26. -/
import Derived.Test.YthjhjmnmnbcioaaGreatE20
set_option linter.unusedVariables false
set_option linter.unusedSimpArgs false
set_option linter.unusedSectionVars false
namespace Go.Proofs.E
open Go Tryz
set_option maxRecDepth 4000
set_option maxHeartbeats 1000000
attribute [local irreducible] Yl TL TC TE Spec YW R1 Hp.le EnvLe TS TR YS Zv TP QP
abbrev RdP (ρ:Hp)(tb br:Nat)(ra:Option Addr)(rn rc:Nat)(Rs:List UInt8)(y:Rc×Yu)(z:Value)(ρ':Hp)(L':SH):Prop:=
 z=.tuple ⟨[]⟩/\ρ.le ρ'/\∃v' r' a' n' c',RcIn ρ' v' r'/\r'.plain=y.1/\RdAt ρ' a' n' c' ra rn rc Rs y.2/\L'=rdL tb br a' n' c' ra rn rc v' r' y.2
theorem rchange_spec (ρ:Hp)(tb br:Nat)(v:RV)(r:Rc)(hr:RcIn ρ v r)(s:Yu){a n c ra rn rc Rs}(h:RdAt ρ a n c ra rn rc Rs s) :
  Spec prog 127 [.pointer (some ⟨tb,0,none⟩)] ρ (rdL tb br a n c ra rn rc v r s) (RdP ρ tb br ra rn rc Rs (chD r.plain s)):=by
 unfold chD
 have hm:=λ ρ cb (h:RdAt ρ a n c ra rn rc Rs s)=>rmanyIm_spec ρ tb br cb v r s h
 dsimp only[Rc.plain]
 generalize YR (imD (decide (r.kind=2))) s=q at *
 obtain⟨xs,s2⟩:=q
 dsimp only at hm ⊢
 refine Za func127 rfl rfl rfl λ u R=>?_
 simp only[Zc,kA]
 repeat' (first|refine zV ?_|intro _)
 refine Yt [0,1,2] (.e 3 [4,5,6] (.e 7 [] .o)) ([[(_,.cells ⟨[.pointer (some ⟨tb,0,none⟩)]⟩ 205 (0,0))]]) ?_
 repeat' (refine iT ?_;first|refine rA ?_|(refine rE ?_<;>((first|(refine Zb (.func 188) ?_;refine qC rfl rfl (hm _ _ h) ?_;rintro v ρ' L' hle ⟨hl1,sa,sn,sc,acc,a1,n1,c1,rfl,hsc,hs255,hA,hP,hM,h1,rfl⟩<;>(try simp only[kA]))|refine qEf ?_)<;>(try simp only[kA])<;>refine zN ?_)))
 all_goals (repeat' (first|refine zV ?_|intro _))
 all_goals exact qE ⟨rfl,hl1,{ v with i:=⟨sa,sn,sc⟩ },{ r with ims:=acc },a1,n1,c1,⟨⟨hA,by dsimp only;omega,hsc⟩,hP,hr.s.mono hl1,hr.t.mono hl1,hr.d.mono hl1,hr.sf⟩,by rw[<-hM],h1,rfl⟩
theorem rnested_spec (ρ:Hp)(tb br:Nat)(v:RV)(r:Rc)(hr:RcIn ρ v r)(s:Yu){a n c ra rn rc Rs}(h:RdAt ρ a n c ra rn rc Rs s) :
  Spec prog 128 [.pointer (some ⟨tb,0,none⟩)] ρ (rdL tb br a n c ra rn rc v r s) (RdP ρ tb br ra rn rc Rs (neD r.plain s)):=by
 unfold neD
 have h8:=n64_spec ρ br h
 dsimp only[Rc.plain]
 rw[show rdL tb br a n c ra rn rc v r s=[reC tb br ra rn rc v r (rdN 8 s).2.2.2,rdC br a n c s.2.1] from rfl]
 generalize rdN 8 s=p at *
 obtain⟨x1,s1⟩:=p
 dsimp only at h8 ⊢
 refine Za func128 rfl rfl rfl λ u R=>?_
 simp only[Zc,kA]
 repeat' (first|(refine Zb (.func 125) ?_;refine qC rfl rfl (h8) ?_;rintro v ρ' L' hle ⟨rfl,rfl,a1,n1,c1,h1,rfl⟩<;>(try simp only[kA]))|refine zV ?_|intro _)
 exact qE ⟨rfl,Hp.le_refl _,v,{ r with next:=x1 },a1,n1,c1,⟨hr.i,hr.im,hr.s,hr.t,hr.d,hr.sf⟩,rfl,h1,rfl⟩
theorem rundone_spec (ρ:Hp)(tb br:Nat)(v:RV)(r:Rc)(hr:RcIn ρ v r)(s:Yu){a n c ra rn rc Rs}(h:RdAt ρ a n c ra rn rc Rs s) :
  Spec prog 130 [.pointer (some ⟨tb,0,none⟩)] ρ (rdL tb br a n c ra rn rc v r s) (RdP ρ tb br ra rn rc Rs (thenD neD chD r.plain s)):=by
 have h1:=rnested_spec ρ tb br v r hr s h
 unfold thenD
 generalize neD r.plain s=p at *
 obtain⟨r1,s1⟩:=p
 dsimp only at h1 ⊢
 refine Za func130 rfl rfl rfl λ u R=>?_
 simp only[Zc,kA]
 repeat' (first|(refine Zb (.func 128) ?_;refine qC rfl rfl (h1) ?_;rintro v ρ' L' hle ⟨rfl,hl1,v1,q1,a1,n1,c1,hr1,hq1,g1,rfl⟩<;>(try simp only[kA]))|refine zV ?_|intro _)
 have h2:=rchange_spec _ tb br v1 q1 hr1 s1 g1
 rw[hq1] at h2
 repeat' (first|(refine Zb (.func 127) ?_;refine qC rfl rfl (h2) ?_;rintro v ρ' L' hle ⟨rfl,hl2,v2,q2,a2,n2,c2,hr2,hq2,g2,rfl⟩<;>(try simp only[kA]))|refine zV ?_|intro _)
 exact qE ⟨rfl,Hp.le_trans hl1 hl2,v2,q2,a2,n2,c2,hr2,hq2,g2,rfl⟩
theorem rdone_spec (ρ:Hp)(tb br:Nat)(v:RV)(r:Rc)(hr:RcIn ρ v r)(s:Yu){a n c ra rn rc Rs}(h:RdAt ρ a n c ra rn rc Rs s) :
  Spec prog 129 [.pointer (some ⟨tb,0,none⟩)] ρ (rdL tb br a n c ra rn rc v r s) (RdP ρ tb br ra rn rc Rs (thenD neD doD r.plain s)):=by
 have h1:=rnested_spec ρ tb br v r hr s h
 unfold thenD
 generalize neD r.plain s=p at *
 obtain⟨r1,s1⟩:=p
 dsimp only at h1 ⊢
 refine Za func129 rfl rfl rfl λ u R=>?_
 simp only[Zc,kA]
 repeat' (first|(refine Zb (.func 128) ?_;refine qC rfl rfl (h1) ?_;rintro v ρ' L' hle ⟨rfl,hl1,v1,q1,a1,n1,c1,hr1,hq1,g1,rfl⟩<;>(try simp only[kA]))|refine zV ?_|intro _)
 have hm:=λ ρ cb (h:RdAt ρ a1 n1 c1 ra rn rc Rs s1)=>rmanyStp_spec ρ tb br cb v1 q1 s1 h
 unfold doD
 dsimp only at hq1
 rw[<-hq1]
 generalize YR stpD s1=q at *
 obtain⟨xs,s2⟩:=q
 dsimp only at hm ⊢
 refine Yt [0,1,2] (.e 3 [4,5,6] (.e 7 [] .o)) ([[(_,.cells ⟨[.pointer (some ⟨tb,0,none⟩)]⟩ 205 (0,0))]]) ?_
 repeat' (refine iT ?_;first|refine rA ?_|(refine rE ?_<;>((first|(refine Zb (.func 192) ?_;refine qC rfl rfl (hm _ _ g1) ?_;rintro v ρ' L' hle ⟨hl2,sa,sn,sc,acc,a2,n2,c2,rfl,hsc,hs255,hA,hP,hM,g2,rfl⟩<;>(try simp only[kA]))|refine qEf ?_)<;>(try simp only[kA])<;>refine zN ?_)))
 all_goals (repeat' (first|refine zV ?_|intro _))
 all_goals exact qE ⟨rfl,Hp.le_trans hl1 hl2,{ v1 with s:=⟨sa,sn,sc⟩ },{ q1 with steps:=acc },a2,n2,c2,⟨hr1.i.mono hl2,λ x hx=>(hr1.im x hx).mono hl2,⟨hA,by dsimp only;omega,hsc⟩,hr1.t.mono hl2,hr1.d.mono hl2,hP⟩,by rw[<-hM],g2,rfl⟩
theorem rckpt_spec (ρ:Hp)(tb br:Nat)(v:RV)(r:Rc)(hr:RcIn ρ v r)(s:Yu){a n c ra rn rc Rs}(h:RdAt ρ a n c ra rn rc Rs s) :
  Spec prog 131 [.pointer (some ⟨tb,0,none⟩)] ρ (rdL tb br a n c ra rn rc v r s) (RdP ρ tb br ra rn rc Rs (thenD (thenD cxD ctD) cdD r.plain s)):=by
 unfold thenD cxD ctD cdD
 have h8:=λ ρ (h:RdAt ρ a n c ra rn rc Rs s)=>n32_spec ρ br h
 have hlt:=Wn 4 s
 dsimp only[Rc.plain]
 rw[show rdL tb br a n c ra rn rc v r s=[reC tb br ra rn rc v r (rdN 4 s).2.2.2,rdC br a n c s.2.1] from rfl]
 generalize rdN 4 s=p at *
 obtain⟨x1,s1⟩:=p
 dsimp only at h8 hlt ⊢
 have hm:=λ ρ a n c cb v q (h:RdAt ρ a n c ra rn rc Rs s1)=>rmanyCkT_spec ρ tb br cb v q s1 h
 generalize YR ckTD s1=p2 at *
 obtain⟨xs,s2⟩:=p2
 dsimp only at hm ⊢
 have hm2:=λ ρ a n c cb v q (h:RdAt ρ a n c ra rn rc Rs s2)=>rmanyCkP_spec ρ tb br cb v q s2 h
 generalize YR ckPD s2=p3 at *
 obtain⟨ys,s3⟩:=p3
 dsimp only at hm2 ⊢
 refine Za func131 rfl rfl rfl λ u R=>?_
 simp only[Zc,kA]
 repeat' (first|refine zV ?_|intro _)
 refine Yt [0,1,2,3] (.e 4 [] (.e 5 [6,7,8,9] (.e 10 [] .o))) ([[(_,.cells ⟨[.pointer (some ⟨tb,0,none⟩)]⟩ 205 (0,0))]]) ?_
 repeat' (refine iT ?_;first|refine rA ?_|(refine rE ?_<;>((first|(refine Zb (.func 126) ?_;refine qC rfl rfl (h8 _ h) ?_;rintro v ρ' L' hle ⟨rfl,rfl,a1,n1,c1,h1,rfl⟩<;>(try simp only[kA]))|(refine i_qq ?_;refine qQ ?_)|refine qEf ?_)<;>(try simp only[kA])<;>refine zN ?_)))
 all_goals (repeat' (first|refine zV ?_|intro _))
 all_goals refine Yt [0,1,2] (.e 3 [4,5,6] (.e 7 [] .o)) ([[(_,.cells ⟨[.pointer (some ⟨tb,0,none⟩)]⟩ 205 (0,0))]]) ?_
 all_goals (repeat' (refine iT ?_;first|refine rA ?_|(refine rE ?_<;>((first|(refine Zb (.func 197) ?_;refine qC rfl rfl (hm _ _ _ _ _ v { r with nextTxn:=x1 } h1) ?_;rintro v ρ' L' hle ⟨hl1,sa,sn,sc,acc,a2,n2,c2,rfl,hsc,hs255,hA,hP,hM,h2,rfl⟩<;>(try simp only[kA]))|refine qEf ?_)<;>(try simp only[kA])<;>refine zN ?_))))
 all_goals (repeat' (first|refine zV ?_|intro _))
 all_goals refine Yt [0,1,2] (.e 3 [4,5,6] (.e 7 [] .o)) ([[(_,.cells ⟨[.pointer (some ⟨tb,0,none⟩)]⟩ 205 (0,0))]]) ?_
 all_goals (repeat' (refine iT ?_;first|refine rA ?_|(refine rE ?_<;>((first|(refine Zb (.func 199) ?_;refine qC rfl rfl (hm2 _ _ _ _ _ { v with t:=⟨sa,sn,sc⟩ } { r with nextTxn:=x1,txns:=acc } h2) ?_;rintro v ρ' L' hle ⟨hl3,sa3,sn3,sc3,acc3,a3,n3,c3,rfl,hsc3,hs3255,hA3,hP3,hM3,h3,rfl⟩<;>(try simp only[kA]))|refine qEf ?_)<;>(try simp only[kA])<;>refine zN ?_))))
 all_goals (repeat' (first|refine zV ?_|intro _))
 all_goals exact qE ⟨rfl,Hp.le_trans hl1 hl3,{ v with t:=⟨sa,sn,sc⟩,d:=⟨sa3,sn3,sc3⟩ },{ r with nextTxn:=x1,txns:=acc,dirty:=acc3 },a3,n3,c3,⟨hr.i.mono (Hp.le_trans hl1 hl3),λ x hx=>(hr.im x hx).mono (Hp.le_trans hl1 hl3),hr.s.mono (Hp.le_trans hl1 hl3),⟨hA.mono hl3,by dsimp only;omega,hsc⟩,⟨hA3,by dsimp only;omega,hsc3⟩,hr.sf⟩,by rw[<-hM,<-hM3],h3,rfl⟩
def takF (k:Int):Nat:=if k=2 then 127 else if k=3 then 128 else if k=4 then 129 else if k=5 then 130 else 131
theorem tak_spec (tb br:Nat)(v:RV)(r:Rc)(hk:r.kind=2\/r.kind=3\/r.kind=4\/r.kind=5\/r.kind=9)(s:Yu)(ra:Option Addr)(rn rc:Nat)(Rs:List UInt8):Zz prog (takF r.kind)/\∀(ρ:Hp) a n c,RdAt ρ a n c ra rn rc Rs s->RcIn ρ v r ->
  Spec prog (takF r.kind) [.pointer (some ⟨tb,0,none⟩)] ρ (rdL tb br a n c ra rn rc v r s) (RdP ρ tb br ra rn rc Rs (tailD r.plain s)):=by
 unfold takF tailD
 dsimp only[Rc.plain]
 rcases hk with e|e|e|e|e
 ·rw[if_pos e,if_pos e]
  exact⟨inferInstance,λ ρ a n c h hr=>rchange_spec ρ tb br v r hr s h⟩
 ·rw[if_neg (by omega),if_pos e,if_neg (by omega),if_pos e]
  exact⟨inferInstance,λ ρ a n c h hr=>rnested_spec ρ tb br v r hr s h⟩
 ·rw[if_neg (by omega),if_neg (by omega),if_pos e,if_neg (by omega),if_neg (by omega),if_pos e]
  exact⟨inferInstance,λ ρ a n c h hr=>rdone_spec ρ tb br v r hr s h⟩
 ·rw[if_neg (by omega),if_neg (by omega),if_neg (by omega),if_pos e,if_neg (by omega),if_neg (by omega),if_neg (by omega),if_pos e]
  exact⟨inferInstance,λ ρ a n c h hr=>rundone_spec ρ tb br v r hr s h⟩
 ·rw[if_neg (by omega),if_neg (by omega),if_neg (by omega),if_neg (by omega),if_neg (by omega),if_neg (by omega),if_neg (by omega),if_neg (by omega),if_pos e]
  exact⟨inferInstance,λ ρ a n c h hr=>rckpt_spec ρ tb br v r hr s h⟩
theorem takF_chain {f:Nat->Option Value}{k:Int}(hk:k=2\/k=3\/k=4\/k=5\/k=9):(if k=9 then f 131 else if k=5 then f 130 else if k=4 then f 129 else if k=3 then f 128 else if k=2 then f 127 else none)=f (takF k):=by
 unfold takF
 rcases hk with e|e|e|e|e<;>subst e<;>rfl
theorem tailD_none {r:Rc}{s:Yu}(hk:¬(r.kind=2\/r.kind=3\/r.kind=4\/r.kind=5\/r.kind=9)):tailD r s=(r,s):=by
 unfold tailD
 rw[if_neg (by omega),if_neg (by omega),if_neg (by omega),if_neg (by omega),if_neg (by omega)]
def nilRV:RV:=⟨⟨none,0,0⟩,⟨none,0,0⟩,⟨none,0,0⟩,⟨none,0,0⟩⟩
theorem nilRV_in {ρ:Hp}(k:Int)(l:Nat)(t:Int)(p:Nat):RcIn ρ nilRV ⟨k,l,t,p,0,[],[],0,[],[]⟩:=⟨AS.nil,by simp,AS.nil,AS.nil,AS.nil,by simp⟩
theorem rdecode_spec (ρ:Hp)(a:Option Addr)(n c:Nat)(l:List UInt8)(h:SIn ρ Zk a n l)(hc:n<=c)(hn:n<=1000000):Spec prog 65 [.slice a n c] ρ []
  (λ z ρ' L'=>ρ.le ρ'/\∃v r,z=.tuple ⟨[.agg ⟨recV v r⟩,.int .i64 (if decOk l then 0 else 161)]⟩/\RcIn ρ' v r/\r.plain=decR l/\L'=[]):=by
 have hnil:ZP .i64 []:=by intro e he;simp at he
 have hg0:∀k:Int,Ym [] k=none:=λ _=>rfl
 have hrd:=read_spec ρ a n c l h hn
 have hDR:decR l=if decOk l then (decD l).1 else zeroRc:=rfl
 have hDO:decOk l=(okS (decD l).2 && (decide ((decD l).2.1.length=0) && Xh (decD l).1)):=rfl
 generalize decR l=dr at *
 generalize decOk l=dk at *
 obtain⟨s0,hs0⟩:∃s0:Yu,(l,0,false)=s0:=⟨_,rfl⟩
 have h00:(0:Int)=s0.2.1:=by rw[<-hs0]
 have hf0:false=s0.2.2:=by rw[<-hs0]
 have hl0:l=s0.1:=by rw[<-hs0]
 unfold decD at hDR hDO
 rw[hs0] at hDR hDO
 unfold headD hdL hdT hdP at hDR hDO
 have k1:=λ ρ br {a n c ra rn rc Rs} (h:RdAt ρ a n c ra rn rc Rs s0)=>n8_spec ρ br h
 have b1:=Wn 1 s0
 have f1:=rdN_bad 1 s0
 generalize rdN 1 s0=p1 at *
 obtain⟨x1,s1⟩:=p1
 have k2:=λ ρ br {a n c ra rn rc Rs} (h:RdAt ρ a n c ra rn rc Rs s1)=>n64_spec ρ br h
 have f2:=rdN_bad 8 s1
 dsimp only at k1 b1 f1 hDR hDO
 generalize rdN 8 s1=p2 at *
 obtain⟨x2,s2⟩:=p2
 have k3:=λ ρ br {a n c ra rn rc Rs} (h:RdAt ρ a n c ra rn rc Rs s2)=>n32_spec ρ br h
 have b3:=Wn 4 s2
 have f3:=rdN_bad 4 s2
 dsimp only at k2 f2 hDR hDO
 generalize rdN 4 s2=p3 at *
 obtain⟨x3,s3⟩:=p3
 have k4:=λ ρ br {a n c ra rn rc Rs} (h:RdAt ρ a n c ra rn rc Rs s3)=>n64_spec ρ br h
 have f4:=rdN_bad 8 s3
 dsimp only at k3 b3 f3 hDR hDO
 generalize rdN 8 s3=p4 at *
 obtain⟨x4,s4⟩:=p4
 dsimp only at k4 f4 hDR hDO
 have hbad:s4.2.2=false:=by rw[f4,f3,f2,f1,<-hf0]
 have hra:∀{ρ} {a':Option Addr} {c':Nat},SIn ρ Zk a n l->SIn ρ Zk a' n l->n<=c'->RdAt ρ a' n c' a n c l s0:=λ h1 h2 h3=>⟨by rw[<-hl0];exact h2,h3,h1,hc,hn,[],by rw[<-hl0];rfl⟩
 refine Za func65 rfl rfl rfl λ u R=>?_
 simp only[Zc,kA]
 repeat' (first|(refine Zb (.func 123) ?_;refine qC rfl rfl (hrd) ?_;rintro v ρ' L' hle ⟨hl1,br,a0,c0,rfl,hc0,hsq,rfl⟩<;>(try simp only[kA]);rw[show rdC br a0 n c0 0=rdC br a0 n c0 s0.2.1 by rw[<-h00]];have h0:=hra (h.mono hl1) hsq hc0)|(refine Zb (.func 124) ?_;refine qC rfl rfl (k1 _ br h0) ?_;rintro v ρ' L' hle ⟨rfl,rfl,a1,n1,c1,g1,rfl⟩<;>(try simp only[kA]);rename_i tb hlx)|(refine Zb (.func 125) ?_;refine qC rfl rfl (k2 _ br g1) ?_;rintro v ρ' L' hle ⟨rfl,rfl,a2,n2,c2,g2,rfl⟩<;>(try simp only[kA]))|(refine Zb (.func 126) ?_;refine qC rfl rfl (k3 _ br g2) ?_;rintro v ρ' L' hle ⟨rfl,rfl,a3,n3,c3,g3,rfl⟩<;>(try simp only[kA]))|(refine Zb (.func 125) ?_;refine qC rfl rfl (k4 _ br g3) ?_;rintro v ρ' L' hle ⟨rfl,rfl,a4,n4,c4,g4,rfl⟩<;>(try simp only[kA]))|(rename_i mb;refine ZV rfl rfl rfl hnil (λ es1 ck1 i1 j1=>?_))|(refine ZV rfl rfl rfl i1 (λ es2 ck2 i2 j2=>?_))|(refine ZV rfl rfl rfl i2 (λ es3 ck3 i3 j3=>?_))|(refine ZV rfl rfl rfl i3 (λ es4 ck4 i4 j4=>?_))|refine zV ?_|intro _)
 refine ZV rfl rfl rfl i4 (λ es5 ck5 i5 j5=>?_)
 have hg:=j5 (x1:Int)
 rw[j4,j3,j2,j1,hg0] at hg
 clear j1 j2 j3 j4 j5 i1 i2 i3 i4 k1 k2 k3 k4 hra
 obtain⟨r0,hr0⟩:∃r0:Rc,(⟨x1,x2,x3,x4,0,[],[],0,[],[]⟩:Rc)=r0:=⟨_,rfl⟩
 obtain⟨l4,st4,bd4⟩:=s4
 dsimp only at hbad
 subst hbad
 by_cases hk:(x1:Int)=2\/(x1:Int)=3\/(x1:Int)=4\/(x1:Int)=5\/(x1:Int)=9
 ·obtain⟨hF,hS⟩:=tak_spec tb br nilRV r0 (by rw[<-hr0];exact hk) (l4,st4,false) a n c l
  have hS:=λ ρ (h:RdAt ρ a4 n4 c4 a n c l (l4,st4,false))=>hS ρ a4 n4 c4 h (by rw[<-hr0];exact nilRV_in _ _ _ _)
  have hkk:r0.kind=(x1:Int):=by rw[<-hr0]
  have hpl:r0.plain=r0:=by rw[<-hr0];rfl
  rw[hkk] at hF hS
  rw[hpl] at hS
  rw[hr0] at hDR hDO
  have hgF:Ym es5 (x1:Int)=some (Value.func (.func (takF (x1:Int))) ⟨[.pointer (some ⟨tb,0,none⟩)]⟩ ⟨[]⟩):=by
   rw[hg]
   exact takF_chain (f:=λ F=>some (Value.func (.func F) ⟨[.pointer (some ⟨tb,0,none⟩)]⟩ ⟨[]⟩)) hk
  clear hg
  generalize takF (x1:Int)=F at *
  generalize tailD r0 (l4,st4,false)=y at *
  subst hr0
  repeat' (first|(refine Zb (.tmp 71) ?_;refine qC rfl rfl (hS _ g4) ?_;rintro v ρ' L' hle ⟨rfl,hl2,v2,q2,a5,n5,c5,hr2,hq2,g5,rfl⟩<;>(try simp only[kA]))|refine zV ?_|intro _)
  have hro:Xh q2=Xh y.1:=by rw[<-hq2,recOk_plain]
  have hn5:=g5.at'.len
  have hck:=rcheck_spec ρ' v2 q2 hr2
  have hokS:=rok_spec ρ' tb br a5 n5 c5 a n c v2 q2 y.2
  have hlf:=Vg ρ' br a5 n5 c5 y.2.2.1
  rw[hn5,<-hro] at hDO
  cases ho:okS y.2
  ·rw[ho] at hokS hDO
   rw[Bool.false_and] at hDO
   subst hDO
   rw[if_neg (by simp)] at hDR
   repeat' (first|(refine Zb (.func 132) ?_;refine qC rfl rfl (hokS) ?_;rintro v ρ' L' hle ⟨rfl,rfl,rfl⟩<;>(try simp only[kA]))|refine zV ?_|intro _)
   exact qE (L':=[]) ⟨Hp.le_trans hl1 hl2,nilRV,zeroRc,rfl,nilRV_in _ _ _ _,hDR.symm,rfl⟩
  ·rw[ho] at hokS hDO
   rw[Bool.true_and] at hDO
   by_cases hz:n5=0
   ·rw[decide_eq_true hz,Bool.true_and] at hDO
    cases hrk:Xh q2
    ·rw[hrk] at hDO hck
     subst hDO
     rw[if_neg (by simp)] at hDR
     repeat' (first|(refine Zb (.func 132) ?_;refine qC rfl rfl (hokS) ?_;rintro v ρ' L' hle ⟨rfl,rfl,rfl⟩<;>(try simp only[kA]))|(refine Zb (.func 133) ?_;refine qC rfl rfl (hlf) ?_;rintro v ρ' L' hle ⟨rfl,rfl,rfl⟩<;>(try simp only[kA]))|(refine Zb (.func 100) ?_;refine qC rfl rfl (hck) ?_;rintro v ρ' L' hle ⟨rfl,rfl,rfl⟩<;>(try simp only[kA,if_false,aB]))|refine zV ?_|intro _)
     exact qE (L':=[]) ⟨Hp.le_trans hl1 hl2,nilRV,zeroRc,rfl,nilRV_in _ _ _ _,hDR.symm,rfl⟩
    ·rw[hrk] at hDO hck
     subst hDO
     rw[if_pos rfl] at hDR
     repeat' (first|(refine Zb (.func 132) ?_;refine qC rfl rfl (hokS) ?_;rintro v ρ' L' hle ⟨rfl,rfl,rfl⟩<;>(try simp only[kA]))|(refine Zb (.func 133) ?_;refine qC rfl rfl (hlf) ?_;rintro v ρ' L' hle ⟨rfl,rfl,rfl⟩<;>(try simp only[kA]))|(refine Zb (.func 100) ?_;refine qC rfl rfl (hck) ?_;rintro v ρ' L' hle ⟨rfl,rfl,rfl⟩<;>(try simp only[kA,if_true]))|refine zV ?_|intro _)
     exact qE (L':=[]) ⟨Hp.le_trans hl1 hl2,v2,q2,rfl,hr2,hq2.trans hDR.symm,rfl⟩
   ·rw[decide_eq_false hz,Bool.false_and] at hDO
    subst hDO
    rw[if_neg (by simp)] at hDR
    repeat' (first|(refine Zb (.func 132) ?_;refine qC rfl rfl (hokS) ?_;rintro v ρ' L' hle ⟨rfl,rfl,rfl⟩<;>(try simp only[kA]))|(refine Zb (.func 133) ?_;refine qC rfl rfl (hlf) ?_;rintro v ρ' L' hle ⟨rfl,rfl,rfl⟩<;>(try simp only[kA]))|refine zV ?_|intro _)
    exact qE (L':=[]) ⟨Hp.le_trans hl1 hl2,nilRV,zeroRc,rfl,nilRV_in _ _ _ _,hDR.symm,rfl⟩
 ·have hgN:Ym es5 (x1:Int)=none:=by
   rw[hg]
   simp only[show ¬(x1:Int)=9 by omega,show ¬(x1:Int)=5 by omega,show ¬(x1:Int)=4 by omega,show ¬(x1:Int)=3 by omega,show ¬(x1:Int)=2 by omega,if_false]
  clear hg
  rw[tailD_none hk] at hDR hDO
  dsimp only at hDR hDO
  obtain⟨v2,hv2⟩:∃v,v=nilRV:=⟨_,rfl⟩
  have hr2:RcIn ρ' v2 ⟨x1,x2,x3,x4,0,[],[],0,[],[]⟩:=by rw[hv2];exact nilRV_in _ _ _ _
  have hpl:r0.plain=r0:=by rw[<-hr0];rfl
  rw[hr0] at hDR hDO hr2
  have hn5:=g4.at'.len
  dsimp only at hn5
  have hck:=rcheck_spec ρ' v2 r0 hr2
  have hokS:Spec prog 132 [.pointer (some ⟨tb,0,none⟩)] ρ' [reC tb br a n c v2 r0 false,rdC br a4 n4 c4 st4] (λ z ρ2 L'=>z=.bool (okS (l4,st4,false))/\ρ2=ρ'/\L'=[reC tb br a n c v2 r0 false,rdC br a4 n4 c4 st4]):=rok_spec ρ' tb br a4 n4 c4 a n c v2 r0 (l4,st4,false)
  have hlf:=Vg ρ' br a4 n4 c4 st4
  rw[hn5] at hDO
  have hre:[(tb,Obj.cells ⟨[Value.pointer (some ⟨br,0,none⟩),.slice a n c,.int .i64 (x1:Int),.int .u64 (x2:Int),.int .i64 (x3:Int),.int .u64 (x4:Int),.int .u64 0,.slice none 0 0,.slice none 0 0,.int .i64 0,.slice none 0 0,.slice none 0 0,.bool false]⟩ 209 (0,0))]=reC tb br a n c v2 r0 false:=by rw[hv2,<-hr0];rfl
  repeat' (first|refine zV ?_|intro _)
  rw[hre]
  cases ho:okS (l4,st4,false)
  ·rw[ho] at hokS hDO
   rw[Bool.false_and] at hDO
   subst hDO
   rw[if_neg (by simp)] at hDR
   repeat' (first|(refine Zb (.func 132) ?_;refine qC rfl rfl (hokS) ?_;rintro v ρ' L' hle ⟨rfl,rfl,rfl⟩<;>(try simp only[kA]))|refine zV ?_|intro _)
   exact qE (L':=[]) ⟨hl1,nilRV,zeroRc,rfl,nilRV_in _ _ _ _,hDR.symm,rfl⟩
  ·rw[ho] at hokS hDO
   rw[Bool.true_and] at hDO
   by_cases hz:n4=0
   ·rw[decide_eq_true hz,Bool.true_and] at hDO
    cases hrk:Xh r0
    ·rw[hrk] at hDO hck
     subst hDO
     rw[if_neg (by simp)] at hDR
     repeat' (first|(refine Zb (.func 132) ?_;refine qC rfl rfl (hokS) ?_;rintro v ρ' L' hle ⟨rfl,rfl,rfl⟩<;>(try simp only[kA]))|(refine Zb (.func 133) ?_;refine qC rfl rfl (hlf) ?_;rintro v ρ' L' hle ⟨rfl,rfl,rfl⟩<;>(try simp only[kA]))|(refine Zb (.func 100) ?_;refine qC rfl rfl (hck) ?_;rintro v ρ' L' hle ⟨rfl,rfl,rfl⟩<;>(try simp only[kA,if_false,aB]))|refine zV ?_|intro _)
     exact qE (L':=[]) ⟨hl1,nilRV,zeroRc,rfl,nilRV_in _ _ _ _,hDR.symm,rfl⟩
    ·rw[hrk] at hDO hck
     subst hDO
     rw[if_pos rfl] at hDR
     repeat' (first|(refine Zb (.func 132) ?_;refine qC rfl rfl (hokS) ?_;rintro v ρ' L' hle ⟨rfl,rfl,rfl⟩<;>(try simp only[kA]))|(refine Zb (.func 133) ?_;refine qC rfl rfl (hlf) ?_;rintro v ρ' L' hle ⟨rfl,rfl,rfl⟩<;>(try simp only[kA]))|(refine Zb (.func 100) ?_;refine qC rfl rfl (hck) ?_;rintro v ρ' L' hle ⟨rfl,rfl,rfl⟩<;>(try simp only[kA,if_true]))|refine zV ?_|intro _)
     exact qE (L':=[]) ⟨hl1,v2,r0,rfl,hr2,hpl.trans hDR.symm,rfl⟩
   ·rw[decide_eq_false hz,Bool.false_and] at hDO
    subst hDO
    rw[if_neg (by simp)] at hDR
    repeat' (first|(refine Zb (.func 132) ?_;refine qC rfl rfl (hokS) ?_;rintro v ρ' L' hle ⟨rfl,rfl,rfl⟩<;>(try simp only[kA]))|(refine Zb (.func 133) ?_;refine qC rfl rfl (hlf) ?_;rintro v ρ' L' hle ⟨rfl,rfl,rfl⟩<;>(try simp only[kA]))|refine zV ?_|intro _)
    exact qE (L':=[]) ⟨hl1,nilRV,zeroRc,rfl,nilRV_in _ _ _ _,hDR.symm,rfl⟩
def takeOk (S:LgS)(b:Bs):Bool:=decOk b && decide ((decR b).lsn=S.next)
theorem take16_spec (ρ:Hp)(lb rb pb:Nat)(S:LgS)(v:Value)(sp:List Value)(h:LgIn ρ S v sp)(a:Option Addr)(n c:Nat)(b:Bs)(hb:SIn ρ Zk a n b)(hc:n<=c)(hn:n<=1000000)(hu:XB S.recs+100<=1000000) :
  Spec prog 64 [.slice a n c,.pointer (some ⟨pb,0,none⟩)] ρ [b2C pb lb,ZW lb rb S v,YK S v sp]
   (λ z ρ' L'=>z=.bool (takeOk S b)/\ρ.le ρ'/\∃S' v' sp',LgIn ρ' S' v' sp'/\(if takeOk S b=true then ∃x:RR,x.2.plain=decR b/\S'=S.more x else S'=S)/\L'=[b2C pb lb,ZW lb rb S' v',YK S' v' sp']):=by
 have hnb:=h.next
 refine Za func64 rfl rfl rfl λ u R=>?_
 simp only[Zc,kA]
 repeat' (first|(refine Zb (.func 65) ?_;refine qC rfl rfl (rdecode_spec _ a n c b hb hc hn) ?_;rintro z ρ1 L1 hle1 ⟨hl1,vv,r,rfl,hr,hpl,rfl⟩;simp only[kA])|refine zW ?_|intro _)
 rename_i b4
 have hls:(decR b).lsn=r.lsn:=by rw[<-hpl]
 have hn1:=λ ρ'=>Vh ρ' lb rb S v sp
 cases hdo:decOk b
 ·have e:takeOk S b=false:=by unfold takeOk;rw[hdo,Bool.false_and]
  rw[e,show (if false=true then (0:Int) else 161)=161 from rfl]
  refine Yt [0,1,2,3,4,5] (.e 6 [] (.f [7,8] .o)) ([[(b4,.cells ⟨recV vv r⟩ 47 (0,0))],b2C pb lb]) ?_
  repeat' (refine iT ?_;first|refine rA ?_|(refine rE ?_<;>((try refine ZX ?_);(first|(refine Zb (.func 36) ?_;refine qC rfl rfl (hn1 _ (h.mono hl1)) ?_;rintro v ρ' L' hle ⟨rfl,rfl,rfl⟩<;>(try simp only[kA])))<;>(try simp only[kA])<;>refine zN ?_)))
  repeat' (first|refine zW ?_|intro _)
  exact qE ⟨rfl,hl1,S,v,sp,h.mono hl1,rfl,rfl⟩
 ·rw[show (if true=true then (0:Int) else 161)=0 from rfl]
  by_cases hq:r.lsn=S.next
  ·have e:takeOk S b=true:=by unfold takeOk;rw[hdo,hls,hq];simp
   have hqb:((r.lsn:Nat):Int)=(S.next:Nat):=by omega
   rw[e]
   have hok:Xh r=true:=by rw[<-recOk_plain,hpl];exact (enc_dec hdo).1
   have hcost:=costN_le r
   refine Yt [0,1,2,3,4,5] (.e 6 [] (.f [7,8] .o)) ([[(b4,.cells ⟨recV vv r⟩ 47 (0,0))],b2C pb lb]) ?_
   repeat' (refine iT ?_;first|refine rA ?_|(refine rE ?_<;>((try refine ZX ?_);(first|(refine Zb (.func 36) ?_;refine qC rfl rfl (hn1 _ (h.mono hl1)) ?_;rintro v ρ' L' hle ⟨rfl,rfl,rfl⟩<;>(try simp only[kA])))<;>(try simp only[kA])<;>refine zN ?_)))
   have hnb2:(((r.lsn:Nat):Int) != ((S.next:Nat):Int))=false:=by simp;omega
   repeat' (first|(refine Zb (.func 45) ?_;refine qC rfl rfl (takes_spec16 _ lb rb S v sp (h.mono hl1) (vv,r) hr hok (by dsimp only;omega)) ?_;rintro v9 ρ9 L9 hle9 ⟨rfl,hl9,v10,sp10,hL9,rfl⟩;simp only[kA])|refine zW ?_|intro _)
   exact qE ⟨rfl,Hp.le_trans hl1 hl9,S.more (vv,r),v10,sp10,hL9,⟨(vv,r),hpl,rfl⟩,rfl⟩
  ·have e:takeOk S b=false:=by unfold takeOk;rw[hdo,hls];simp[hq]
   rw[e]
   have hqb:¬((r.lsn:Nat):Int)=(S.next:Nat):=by omega
   refine Yt [0,1,2,3,4,5] (.e 6 [] (.f [7,8] .o)) ([[(b4,.cells ⟨recV vv r⟩ 47 (0,0))],b2C pb lb]) ?_
   repeat' (refine iT ?_;first|refine rA ?_|(refine rE ?_<;>((try refine ZX ?_);(first|(refine Zb (.func 36) ?_;refine qC rfl rfl (hn1 _ (h.mono hl1)) ?_;rintro v ρ' L' hle ⟨rfl,rfl,rfl⟩<;>(try simp only[kA])))<;>(try simp only[kA])<;>refine zN ?_)))
   repeat' (first|refine zW ?_|intro _)
   exact qE ⟨rfl,hl1,S,v,sp,h.mono hl1,rfl,rfl⟩
theorem usedR_100 (l:List RR):XB l<=100*l.length:=by
 induction l with
 | nil=>exact aR _
 | cons x r ih=>
  have:=costN_le x.2
  simp only[XB,List.map_cons,List.sum_cons,aC] at ih ⊢;omega
theorem lopen_spec (ρ:Hp)(db:Nat)(k:DK)(D D':DS)(R:RgS)(hop:Spec prog 60 [.pointer (some ⟨db,0,none⟩)] ρ (Zg db k D) (λ v ρ' L'=>ρ.le ρ'/\∃rb w k',v=.tuple ⟨[.pointer (some ⟨rb,0,none⟩),.int .i64 0]⟩/\DOk k' D'/\RIn ρ' R w/\L'=Yb rb db R w++Zg db k' D'))
  (ma:Nat) (nx:Int) (hno:∀S:LgS,S.R=R->S.ma=0->S.nx=1->notedS S R.h.note=({ S with ma:=ma,nx:=nx },true)) (hf:R.h.first<=1099511627776) (hma:ma<R.h.first+R.ents.length)
  (hen:∀i (hi:i<R.ents.length),decOk (R.ents[i])=true/\(decR (R.ents[i])).lsn=R.h.first+i) (hn:R.ents.length<=1000) :
  Spec prog 24 [.pointer (some ⟨db,0,none⟩)] ρ (Zg db k D) (λ v ρ' L'=>ρ.le ρ'/\∃lb rb w k' l v' sp',v=.tuple ⟨[.pointer (some ⟨lb,0,none⟩),.int .i64 0]⟩/\DOk k' D'/\RIn ρ' R w /\
   LgIn ρ' ⟨R,R.h.first,R.h.first+R.ents.length-1,ma,nx,l⟩ v' sp'/\l.map (λ x=>x.2.plain)=R.ents.map decR /\
   L'=ZW lb rb ⟨R,R.h.first,R.h.first+R.ents.length-1,ma,nx,l⟩ v'::YK ⟨R,R.h.first,R.h.first+R.ents.length-1,ma,nx,l⟩ v' sp'::(Yb rb db R w++Zg db k' D')):=by
 refine Za func24 rfl rfl rfl λ u R'=>?_
 simp only[Zc,kA]
 repeat' (first|(refine Zb (.func 60) ?_;refine qC rfl rfl hop ?_;rintro v1 ρ1 L1 hle1 ⟨hl1,rb,w,k1,rfl,hD1,hR1,rfl⟩;simp only[kB])|(refine Zb (.func 61) ?_;refine qC rfl rfl (first_spec _ rb db R w) ?_;rintro v ρ' L' hle ⟨rfl,rfl,rfl⟩<;>(try simp only[kA]))|refine zW ?_|intro _)
 rename_i lb pb
 rw[show [Value.pointer (some ⟨rb,0,none⟩),.int .u64 (R.h.first:Nat),.int .u64 0,.int .u64 0,.int .i64 1,.slice none 0 0,.int .i64 0]=lgV rb ⟨R,R.h.first,0,0,1,[]⟩ (.slice none 0 0) from rfl]
 have hno0:=hno ⟨R,R.h.first,0,0,1,[]⟩ rfl rfl rfl
 have hfd:decide (((R.h.first:Nat):Int)<=1099511627776)=true:=by simp;omega
 refine Yt [0,1] (.e 2 [] (.e 3 [] (.f [4,5,6,7,8,9,10,11] .o))) ([b2C pb lb]) ?_
 repeat' (refine iT ?_;first|refine rA ?_|(refine rE ?_<;>((first|(refine Zb (.func 63) ?_;refine qC rfl rfl (note_spec _ rb db R w (hR1.mono (by first|assumption|exact Hp.le_refl _))) ?_;rintro v2 ρ2 L2 hle2 ⟨hl2,e,rfl,hbe,hel,rfl⟩;simp only[kA])|(refine Zb (.func 62) ?_;refine qC rfl rfl (noted_spec _ lb rb ⟨R,R.h.first,0,0,1,[]⟩ _ _ _ _ e.l hbe.s hbe.le) ?_;rw[hel,hno0];rintro v3 ρ3 L3 hle3 ⟨rfl,rfl,rfl⟩;simp only[kA]))<;>(try simp only[kA])<;>refine zN ?_)))
 repeat' (first|(refine Zb (.func 66) ?_;refine qC rfl rfl (all_spec _ rb db R w (hR1.mono (by first|assumption|exact Hp.le_refl _))) ?_;rintro v4 ρ4 L4 hle4 ⟨hl4,els,sp4,hown4,hbi,hels,rfl⟩;simp only[kB];refine Zt (ZG v4 (els.map slv) sp4 107) (λ ρ5 hl5 hfz5=>?_);obtain⟨ea,ec,rfl,hec,hE⟩:=hown4.sIn hfz5)|refine zW ?_|intro _)
 have hen0:els.length=R.ents.length:=by rw[<-hels];simp
 refine lpG (Nat×Hp×(List RR)×Value×(List Value)) [2,3,6,8,37,38] (λ z=>[(39,.int .i64 z.1),(7,.bool true)]) (λ z=>z.2.1) (λ z=>b2C pb lb::ZW lb rb ⟨R,R.h.first,0,ma,nx,z.2.2.1⟩ z.2.2.2.1::YK ⟨R,R.h.first,0,ma,nx,z.2.2.1⟩ z.2.2.2.1 z.2.2.2.2::(Yb rb db R w++Zg db k1 D')) (λ z=>z.1<=els.length/\ρ5.le z.2.1/\LgIn z.2.1 ⟨R,R.h.first,0,ma,nx,z.2.2.1⟩ z.2.2.2.1 z.2.2.2.2/\z.2.2.1.map (λ x=>x.2.plain)=(R.ents.take z.1).map decR) (λ z=>els.length-z.1) (0,ρ5,[],.slice none 0 0,[]) (⟨aZ _,Hp.le_refl _,⟨OwnS.nil 10,λ _ hx=>by simp at hx,λ _ hx=>by simp at hx,by simp[XB],by dsimp only;omega⟩,rfl⟩) ?_
 rintro⟨i,ρ8,l8,v8,sp8⟩ hI
 try simp only[kB] at hI ⊢
 try dsimp only at hI ⊢
 obtain⟨hi,hl8,hL8,hmp⟩:=hI
 have hl8len:l8.length=i:=by have:=congrArg List.length hmp;simpa [Nat.min_eq_left (show i<=R.ents.length by omega)] using this
 by_cases hlt:i<els.length
 ·obtain⟨hd1,hd2⟩:=hen i (by omega)
  have hb8:=((hbi _ (aM hlt)).mono hl5).mono hl8
  have hEe:(els[i]).l=R.ents[i]'(by omega):=by
   have:=List.getElem_of_eq hels (i:=i) (by simp;omega)
   rw[<-this,List.getElem_map]
  have hts:(R.ents.take (i+1)).map decR=(R.ents.take i).map decR++[decR (R.ents[i]'(by omega))]:=by
   rw[aG (show i<R.ents.length by omega),List.map_append];rfl
  have hrl:=recB_le (Vi (enc_dec hd1).1)
  rw[(enc_dec hd1).2.1] at hrl
  obtain⟨b,off,C,T,frr,rfl,hbx,hcx⟩:=(hE.mono hl8).get hlt
  rw[<-hEe] at hd1 hd2 hts hrl
  have hu:=usedR_100 l8
  have hus:XB (LgS.mk R R.h.first 0 ma nx l8).recs+100<=1000000:=by dsimp only;omega
  generalize els[i]=e8 at *
  have hbn:=hb8.s.len
  have htk:takeOk ⟨R,R.h.first,0,ma,nx,l8⟩ e8.l=true:=by unfold takeOk;rw[hd1,hd2];simp[LgS.next,hl8len]
  repeat' (first|(refine Zb (.tmp 45) ?_;refine qC rfl rfl (take16_spec _ lb rb pb _ _ _ hL8 e8.a e8.n e8.c e8.l hb8.s hb8.le (by omega) hus) ?_;rintro v9 ρ9 L9 hle9 ⟨rfl,hl9,S9,v10,sp10,hL9,hcs,rfl⟩;rw[if_pos htk] at hcs;obtain⟨x9,hx9,rfl⟩:=hcs;rw[htk];simp only[kA])|refine zW ?_|intro _)
  refine rnG (i+1,ρ9,l8++[x9],v10,sp10) (⟨hlt,Hp.le_trans hl8 hl9,hL9,by dsimp only;rw[hts,List.map_append,hmp,List.map_cons,hx9];rfl⟩)
 ·have hie:i=R.ents.length:=by omega
  rw[hie,aT (aR _)] at hmp
  have hfi:=hR1.ok.first
  have hnxt:(LgS.mk R R.h.first 0 ma nx l8).next=R.h.first+R.ents.length:=by simp[LgS.next,hl8len,hie]
  have hn1:=λ ρ'=>Vh ρ' lb rb ⟨R,R.h.first,0,ma,nx,l8⟩ v8 sp8
  simp only[hnxt] at hn1
  have hge:decide (((ma:Nat):Int)≥((R.h.first+R.ents.length:Nat):Int))=false:=by simp;omega
  have hsb:((R.h.first+R.ents.length:Nat):Int)-1=((R.h.first+R.ents.length-1:Nat):Int):=by omega
  repeat' (first|refine zW ?_|intro _)
  refine Yt [0,1,2,3,4,5,6,7] (.e 8 [] (.f [9,10] .o)) ([b2C pb lb,ZW lb rb ⟨R,R.h.first,0,ma,nx,l8⟩ v8]) ?_
  repeat' (refine iT ?_;first|refine rA ?_|(refine rE ?_<;>((try refine ZX ?_);(first|(refine Zb (.func 36) ?_;refine qC rfl rfl (hn1 _ hL8) ?_;rintro v ρ' L' hle ⟨rfl,rfl,rfl⟩<;>(try simp only[kA])))<;>(try simp only[kA])<;>refine zN ?_)))
  repeat' (first|refine zW ?_|intro _)
  refine Yt [0,1] (.e 2 [3,4,5] (.e 6 [] .o)) ([b2C pb lb]) ?_
  repeat' (refine iT ?_;first|refine rA ?_|(refine rE ?_<;>((first|(refine Zb (.func 36) ?_;refine qC rfl rfl (hn1 _ hL8) ?_;rintro v ρ' L' hle ⟨rfl,rfl,rfl⟩<;>(try simp only[kA]))|refine qEf ?_)<;>(try simp only[kA])<;>refine zN ?_)))
  repeat' (first|refine zW ?_|intro _)
  rw[hsb]
  have hla:=Hp.le_trans hl2 (Hp.le_trans hl4 (Hp.le_trans hl5 hl8))
  exact qE (L':=ZW lb rb ⟨R,R.h.first,R.h.first+R.ents.length-1,ma,nx,l8⟩ v8::YK ⟨R,R.h.first,R.h.first+R.ents.length-1,ma,nx,l8⟩ v8 sp8::(Yb rb db R w++Zg db k1 D')) ⟨Hp.le_trans hl1 hla,lb,rb,w,k1,l8,v8,sp8,rfl,hD1,hR1.mono hla,⟨hL8.own,hL8.rin,hL8.ok,hL8.used,hL8.base⟩,hmp,rfl⟩
theorem sector_spec (ρ:Hp)(rb rbx db:Nat)(R:RgS)(w:RW)(k:DK)(D:DS)(hD:DOk k D)(place:Int)(h0:0<=place)(h1:place<=1000000) :
  Spec prog 184 [.int .i64 place,.pointer (some ⟨rbx,0,none⟩)] ρ ([[(rbx,.cells ⟨[.pointer (some ⟨rb,0,none⟩)]⟩ 31 (0,0))],[(rb,.cells ⟨rgV R db w⟩ 113 (0,0))]]++Zg db k D)
   (λ v ρ' L'=>v=.tuple ⟨[bv (D.read (2+place)).2.1,.int .i64 (D.read (2+place)).2.2]⟩/\ρ'=ρ/\DOk k (D.read (2+place)).1/\L'=[[(rbx,.cells ⟨[.pointer (some ⟨rb,0,none⟩)]⟩ 31 (0,0))],[(rb,.cells ⟨rgV R db w⟩ 113 (0,0))]]++Zg db k (D.read (2+place)).1):=by
 have h64:=read_len hD.ok (2+place)
 have hpl:((D.read (2+place)).2.1.map Zk).length=64:=by simpa using h64
 have hp1:=ZH (D.read (2+place)).2.1
 refine Za func184 rfl rfl rfl λ u R0=>?_
 simp only[Zc,kA]
 repeat' (first|(refine Zb (.func 119) ?_;refine qC rfl rfl (kread _ db k D _ hD) ?_;rintro v ρ' L' hle ⟨rfl,rfl,hD2,rfl⟩<;>(try simp only[kA]))|refine zW ?_|intro _)
 exact qE (L':=[[(rbx,.cells ⟨[.pointer (some ⟨rb,0,none⟩)]⟩ 31 (0,0))],[(rb,.cells ⟨rgV R db w⟩ 113 (0,0))]]++Zg db k (D.read (2+place)).1) ⟨rfl,rfl,hD2,rfl⟩
theorem fit_copy {size k:Nat}{acc s:Bs}(hl:acc.length=52*k)(hk:52*k<=size)(hs:s.length=52):stc ((Xp size acc).map Zk) (52*k) ((s.map Zk).take (size-52*k))=(Xp size (acc++s)).map Zk:=by
 have e1:Xp size acc=acc++z8 (size-52*k):=by
  unfold Xp z8
  rw[List.take_append,aT (by omega),List.take_replicate,hl]
  congr 2;omega
 have e2:Xp size (acc++s)=acc++(s.take (size-52*k)++z8 (size-52*k-52)):=by
  unfold Xp z8
  rw[aA,List.take_append,aT (by omega),hl,List.take_append,List.take_replicate,hs]
  congr 3;omega
 rw[e1,e2]
 unfold stc
 simp only[List.map_append,List.map_take]
 rw[List.take_left' (by simpa using hl),<-List.drop_drop,List.drop_left' (by simpa using hl),aA]
 congr 2
 simp only[z8,List.map_replicate,List.drop_replicate,List.length_take,List.length_map,hs]
 congr 1;omega
abbrev secS (rb rbx db:Nat)(R:RgS)(w:RW):SH:=[[(rbx,.cells ⟨[.pointer (some ⟨rb,0,none⟩)]⟩ 31 (0,0))],[(rb,.cells ⟨rgV R db w⟩ 113 (0,0))]]
def entAns (ρ':Hp)(r:Option Bs×DS×Int)(v:Value):Prop:=match r.1 with
 | none=>v=.tuple ⟨[.slice none 0 0,.bool false,.int .i64 r.2.2]⟩
 | some b=>∃e:BSl,v=.tuple ⟨[slv e,.bool true,.int .i64 0]⟩/\BIn ρ' e/\e.l=b
theorem entry_spec (ρ:Hp)(rb rbx db:Nat)(R:RgS)(w:RW)(k:DK)(D:DS)(hD:DOk k D)(h:Hd)(na:Option Addr)(nn nc n at' left:Nat)(hsz:0<h.size)(hsz2:h.size<=1000)(hat:at'<=1000000)(ht:h.turn<=1073741824)(hn:n<=1099511627776)(hlf:left<=1000) :
  Spec prog 185 [.agg ⟨hdV h na nn nc⟩,.int .u64 n,.int .i64 at',.int .i64 left,.func (.func 184) ⟨[]⟩ ⟨[.pointer (some ⟨rbx,0,none⟩)]⟩] ρ (secS rb rbx db R w++Zg db k D)
   (λ v ρ' L'=>ρ.le ρ'/\entAns ρ' (entryR h n at' left D) v/\DOk k (entryR h n at' left D).2.1/\L'=secS rb rbx db R w++Zg db k (entryR h n at' left D).2.1):=by
 by_cases hl0:left=0
 ·have he:entryR h n at' left D=(none,D,0):=by unfold entryR;rw[if_pos hl0]
  rw[he]
  refine Za func185 rfl rfl rfl λ u R0=>?_
  simp only[Zc,kA]
  repeat' (first|refine zW ?_|intro _)
  exact qE (L':=secS rb rbx db R w++Zg db k D) ⟨Hp.le_refl _,rfl,hD,rfl⟩
 ·refine Za func185 rfl rfl rfl λ u R0=>?_
  simp only[Zc,kA]
  generalize hRES:entryR h n at' left D=RES at *
  repeat' (first|refine zW ?_|intro _)
  rename_i hb
  refine lpG (Nat×Nat×Nat×Hp×Value×(List (Nat×Obj))×Bs×DS) [1,2,3,4,5,10,11,12] (λ z=>[(16,.int .i64 z.1),(14,.int .i64 z.2.2.1),(15,.int .u64 z.2.1),(13,z.2.2.2.2.1)]) (λ z=>z.2.2.2.1) (λ z=>[z.2.2.2.2.2.1,[(hb,.cells ⟨hdV h na nn nc⟩ 109 (0,0))]]++(secS rb rbx db R w++Zg db k z.2.2.2.2.2.2.2)) (λ z=>ρ.le z.2.2.2.1/\DOk k z.2.2.2.2.2.2.2/\((z.1=0/\z.2.1=0/\z.2.2.1=0/\z.2.2.2.2.1=.slice none 0 0/\z.2.2.2.2.2.1=[]/\z.2.2.2.2.2.2.2=D)\/(1<=z.1/\z.1<=Zs z.2.2.1/\z.2.2.2.2.2.2.1.length=52*z.1/\z.2.2.1<=8000/\z.2.1<=1073741824/\entGo h n at' z.2.1 z.2.2.1 (Zs z.2.2.1-z.1) z.1 z.2.2.2.2.2.2.1 z.2.2.2.2.2.2.2=RES/\∃bb,z.2.2.2.2.1=.slice (some ⟨bb,0,none⟩) z.2.2.1 z.2.2.1/\z.2.2.2.2.2.1=[(bb,.cells ⟨(Xp z.2.2.1 z.2.2.2.2.2.2.1).map Zk⟩ 5 (0,0))]))) (λ z=>200-z.1) (0,0,0,ρ,.slice none 0 0,[],[],D) (⟨Hp.le_refl _,hD,.inl ⟨rfl,rfl,rfl,rfl,rfl,rfl⟩⟩) ?_
  rintro⟨k0,turn,size,ρ1,vb,c,acc,D1⟩ hI
  try simp only[kB] at hI ⊢
  try dsimp only at hI ⊢
  obtain⟨hle1,hD1,hor⟩:=hI
  have hrm:((at':Int)+(k0:Int)).tmod (h.size:Int)=(((at'+k0) % h.size:Nat):Int):=by
   rw[Int.tmod_eq_emod_of_nonneg (by omega),Int.natCast_emod,Int.natCast_add]
  have hml:=Nat.mod_lt (at'+k0) hsz
  have hsec:=sector_spec ρ1 rb rbx db R w k D1 hD1 (((at'+k0) % h.size:Nat):Int) (by omega) (by omega)
  have hidx:(2:Int)+(((at'+k0) % h.size:Nat):Int)=((2+(at'+k0) % h.size:Nat):Int):=by omega
  rw[hidx] at hsec
  have h64:=read_len hD1.ok ((2+(at'+k0) % h.size:Nat):Int)
  rcases hor with⟨hk0,rfl,rfl,rfl,rfl,rfl⟩|⟨hk0,hk1,hacc,hs8,ht8,hgo,bb,rfl,rfl⟩
  ·have hE:RES=if (D1.read ((2+(at'+k0) % h.size:Nat):Int)).2.2≠0 then (none,(D1.read ((2+(at'+k0) % h.size:Nat):Int)).1,(D1.read ((2+(at'+k0) % h.size:Nat):Int)).2.2) else entGo0 h n at' left (D1.read ((2+(at'+k0) % h.size:Nat):Int)).2.1 (D1.read ((2+(at'+k0) % h.size:Nat):Int)).1:=by
    rw[<-hRES];unfold entryR;rw[if_neg hl0,hk0,Nat.add_zero]
   generalize D1.read ((2+(at'+k0) % h.size:Nat):Int)=r at *
   obtain⟨D2,s,ec⟩:=r
   dsimp only at hsec h64 hE
   have hpl:(s.map Zk).length=64:=by simpa using h64
   have hp1:=ZH s
   repeat' (first|(simp only[hrm];refine Zb (.tmp 32) ?_;refine qC rfl rfl hsec ?_;rintro v2 ρ2 L2 hle2 ⟨rfl,rfl,hD2,rfl⟩;simp only[kB])|refine zW ?_|intro _)
   by_cases hec:ec=0
   ·subst hec
    rw[show ((0:Int) != 0)=false from rfl]
    rename_i bs
    refine Vn [(bs,.cells ⟨s.map Zk⟩ 105 (0,0))] (h:=Rem.here) (λ ρ3 hle3 hfz=>?_)
    rw[if_neg (by simp)] at hE
    have hs4:SIn ρ3 Zk (some ⟨bs,0,none⟩) 4 (s.take 4):=by have:=XR (hfz _ (List.mem_singleton.2 rfl)) 0 4 (by omega);rwa [List.drop_zero] at this
    have hs2:SIn ρ3 Zk (some ⟨bs,0+9*1,none⟩) 2 ((s.drop 9).take 2):=XR (hfz _ (List.mem_singleton.2 rfl)) 9 2 (by omega)
    have hn4:=numb_spec ρ3 (some ⟨bs,0,none⟩) 4 64 _ hs4 (by omega)
    have hn2:=numb_spec ρ3 (some ⟨bs,0+9*1,none⟩) 2 55 _ hs2 (by omega)
    have hb4:YE s<4294967296:=by have:=XT (s.take 4);rw[show (s.take 4).length=4 by simp;omega] at this;exact this
    have hb2:Zu s<65536:=by have:=XT ((s.drop 9).take 2);rw[show ((s.drop 9).take 2).length=2 by simp;omega] at this;exact this
    change Spec _ _ _ _ _ (λ v ρ' L'=>v=.int .u64 (YE s:Nat)/\ρ'=ρ3/\L'=[]) at hn4
    change Spec _ _ _ _ _ (λ v ρ' L'=>v=.int .u64 (Zu s:Nat)/\ρ'=ρ3/\L'=[]) at hn2
    repeat' (first|refine zW ?_|intro _)
    refine Yt [0,2] (.e 1 [] (.e 3 [] (.f [4,5,6] .o))) ([]) ?_
    repeat' (refine iT ?_;first|refine rA ?_|(refine rE ?_<;>((first|(refine Zb (.func 237) ?_;refine qC rfl rfl (hn4) ?_;rintro v ρ' L' hle ⟨rfl,rfl,rfl⟩<;>(try simp only[kA]))|(refine Zb (.func 237) ?_;refine qC rfl rfl (hn2) ?_;rintro v ρ' L' hle ⟨rfl,rfl,rfl⟩<;>(try simp only[kA])))<;>(try simp only[kA])<;>refine zN ?_)))
    all_goals have hss:=sects_spec ρ' (Zu s) (by omega)
    all_goals by_cases hbad:YE s<1\/h.turn<YE s\/8000<Zu s\/left<Zs (Zu s)
    ·have hEb:RES=(none,D2,0):=by rw[hE];unfold entGo0;rw[if_pos hbad]
     by_cases h1:YE s<1
     ·repeat' (first|(refine Zb (.func 101) ?_;refine qC rfl rfl (hss) ?_;rintro v ρ' L' hle ⟨rfl,rfl,rfl⟩<;>(try simp only[kA]))|refine zW ?_|intro _)
      all_goals rw[hEb]
      all_goals exact qE (L':=secS rb rbx db R w++Zg db k D2) ⟨Hp.le_trans hle1 ‹_›,rfl,hD2,rfl⟩
     ·by_cases h2:h.turn<YE s
      ·repeat' (first|(refine Zb (.func 101) ?_;refine qC rfl rfl (hss) ?_;rintro v ρ' L' hle ⟨rfl,rfl,rfl⟩<;>(try simp only[kA]))|refine zW ?_|intro _)
       all_goals rw[hEb]
       all_goals exact qE (L':=secS rb rbx db R w++Zg db k D2) ⟨Hp.le_trans hle1 ‹_›,rfl,hD2,rfl⟩
      ·by_cases h3:8000<Zu s
       ·repeat' (first|(refine Zb (.func 101) ?_;refine qC rfl rfl (hss) ?_;rintro v ρ' L' hle ⟨rfl,rfl,rfl⟩<;>(try simp only[kA]))|refine zW ?_|intro _)
        all_goals rw[hEb]
        all_goals exact qE (L':=secS rb rbx db R w++Zg db k D2) ⟨Hp.le_trans hle1 ‹_›,rfl,hD2,rfl⟩
       ·have h4:left<Zs (Zu s):=by omega
        repeat' (first|(refine Zb (.func 101) ?_;refine qC rfl rfl (hss) ?_;rintro v ρ' L' hle ⟨rfl,rfl,rfl⟩<;>(try simp only[kA]))|refine zW ?_|intro _)
        all_goals rw[hEb]
        all_goals exact qE (L':=secS rb rbx db R w++Zg db k D2) ⟨Hp.le_trans hle1 ‹_›,rfl,hD2,rfl⟩
    ·have hEg:RES=if Yg (YE s) n (Xp (Zu s) (s.drop 12)) 0=s then entGo h n at' (YE s) (Zu s) (Zs (Zu s)-1) 1 (s.drop 12) D2 else (none,D2,0):=by rw[hE];unfold entGo0;rw[if_neg hbad]
     have g1:1<=YE s:=by omega
     have g2:YE s<=h.turn:=by omega
     have g3:Zu s<=8000:=by omega
     have g4:Zs (Zu s)<=left:=by omega
     clear hbad
     repeat' (first|(refine Zb (.func 101) ?_;refine qC rfl rfl (hss) ?_;rintro v ρ' L' hle ⟨rfl,rfl,rfl⟩<;>(try simp only[kA]))|(refine WK rfl rfl (by omega) (by omega) (by omega) (by omega) rfl (λ bb=>?_);simp only[Nat.mul_one,made_z8,Int.toNat_natCast])|refine zW ?_|intro _)
     rw[show z8 (Zu s)=Xp (Zu s) [] by simp[Xp,z8]]
     have hacc1:([]:Bs).length=52*k0:=by simp[hk0]
     have hk52:52*k0<=Zu s:=by omega
     have hkk:k0<Zs (Zu s):=by have:=WJ (Zu s);omega
     have hrem:Yg (YE s) n (Xp (Zu s) (([]:Bs)++s.drop 12)) k0≠s->RES=(none,D2,0):=λ hp=>by
      rw[hk0,List.nil_append] at hp;rw[hEg,if_neg hp]
     have hgo:Yg (YE s) n (Xp (Zu s) (([]:Bs)++s.drop 12)) k0=s->entGo h n at' (YE s) (Zu s) (Zs (Zu s)-(k0+1)) (k0+1) (([]:Bs)++s.drop 12) D2=RES:=λ hp=>by
      rw[hk0,List.nil_append] at hp ⊢;rw[hEg,if_pos hp]
     have hst:=fit_copy (size:=(Zu s)) (k:=k0) (acc:=([]:Bs)) (s:=s.drop 12) (by simpa using hacc1) hk52 (by simp;omega)
     have hsn:SIn _ Zk (some ⟨bs,0+12*1,none⟩) 52 ((s.drop 12).take 52):=XR (hfz _ (List.mem_singleton.2 rfl)) 12 52 (by omega)
     rw[aT (by simp;omega)] at hsn
     have hdst:(if (Zu s)=52*k0 then some (⟨bb,0,none⟩:Addr) else some ⟨bb,0+52*k0*1,none⟩)=some ⟨bb,52*k0,none⟩:=by
      by_cases hx:(Zu s)=52*k0
      ·rw[if_pos hx];have:k0=0:=by rcases sects_mul hkk with h|h<;>omega
       rw[this]
      ·rw[if_neg hx];simp
     have hton:(52*(k0:Int)).toNat=52*k0:=by omega
     refine Yt [0,1,2,3,4] (.e 5 [] .o) ([]) ?_
     repeat' (refine iT ?_;first|refine rA ?_|(refine rE ?_<;>((first|(simp only[hton,Option.map_some,YY,hdst];refine tl_copy (ys:=(s.drop 12).map Zk) rfl rfl (SIn.srcV hsn) (by simp;omega) (ZH _) (by simp[Wq];omega) rfl ?_;simp only[hst])|(refine qEf ?_;try intro _))<;>(try simp only[kA])<;>refine zN ?_)))
     all_goals (repeat' (first|refine zW ?_|intro _))
     have hown:OwnS (.slice (some ⟨bb,0,none⟩) (Zu s) (Zu s)) (Zu s) ((Xp (Zu s) (([]:Bs)++s.drop 12)).map Zk) [] 1:=⟨.inr ⟨bb,(Zu s),rfl,by simp[Wq],by simp[Wq],aR _⟩⟩
     have hrd:=hown.rd (ρ:=ρ') (T:=5)
     rw[show ZG (.slice (some ⟨bb,0,none⟩) (Zu s) (Zu s)) ((Xp (Zu s) (([]:Bs)++s.drop 12)).map Zk) [] 5=[(bb,.cells ⟨(Xp (Zu s) (([]:Bs)++s.drop 12)).map Zk⟩ 5 (0,0))] by simp[ZG]] at hrd
     have hbs:=hfz _ (List.mem_singleton.2 rfl)
     dsimp only at hbs
     have hld:List.take 64 (List.drop 0 (s.map Zk))=s.map Zk:=by rw[List.drop_zero,aT (by omega)]
     have hpt:=part_spec ρ' _ (YE s) n _ (Zu s) (Zu s) _ hrd (aR _) k0 (by omega) hn (by omega) hkk
     have hpl2:((Yg (YE s) n (Xp (Zu s) (([]:Bs)++s.drop 12)) k0).map Zk).length=64:=by simp[partB_len]
     by_cases hp:Yg (YE s) n (Xp (Zu s) (([]:Bs)++s.drop 12)) k0=s
     ·rw[hp] at hpt
      refine Yt [0,1,2,3,5] (.e 4 [] (.f [6] .o)) ([]) ?_
      repeat' (refine iT ?_;first|refine rA ?_|(refine rE ?_<;>(refine Zb (.func 178) ?_;refine qC rfl rfl hpt ?_;rintro v4 ρ4 L4 hle4 ⟨rfl,rfl,rfl⟩;try simp only[kA])<;>(try simp only[kA])<;>refine zN ?_))
      all_goals (repeat' (first|refine zW ?_|intro _))
      all_goals refine rnG (k0+1,(YE s),(Zu s),_,_,_,([]:Bs)++s.drop 12,D2) (⟨Hp.le_trans hle1 hle3,hD2,.inr ⟨by dsimp only;omega,hkk,by simp[hacc1];omega,by dsimp only;omega,by dsimp only;omega,hgo hp,bb,rfl,rfl⟩⟩)
     ·have hlm1:(Yg (YE s) n (Xp (Zu s) (([]:Bs)++s.drop 12)) k0).length=64:=partB_len _ _ _ _
      refine Yt [0,1,2,3,5] (.e 4 [] (.f [6] .o)) ([]) ?_
      repeat' (refine iT ?_;first|refine rA ?_|(refine rE ?_<;>(refine Zb (.func 178) ?_;refine qC rfl rfl hpt ?_;rintro v4 ρ4 L4 hle4 ⟨rfl,rfl,rfl⟩;try simp only[kA])<;>(try simp only[kA])<;>refine zN ?_))
      all_goals (repeat' (first|refine zW ?_|intro _))
      all_goals rw[hrem hp]
      all_goals exact qE (L':=secS rb rbx db R w++Zg db k D2) ⟨Hp.le_trans hle1 hle3,rfl,hD2,rfl⟩
   ·have hcb:(ec != 0)=true:=by simpa using hec
    rw[hcb]
    rw[if_pos hec] at hE
    repeat' (first|refine zW ?_|intro _)
    rw[hE]
    exact qE (L':=secS rb rbx db R w++Zg db k D2) ⟨hle1,rfl,hD2,rfl⟩
  ·have hss:=sects_spec ρ1 size (by omega)
   have h154:=sects_le hs8
   by_cases hlt:k0<Zs size
   ·obtain⟨j,hj⟩:∃j,Zs size-k0=j+1:=⟨Zs size-k0-1,by omega⟩
    have hj2:Zs size-(k0+1)=j:=by omega
    have hE:=hgo
    rw[hj] at hE
    simp only[entGo] at hE
    generalize D1.read ((2+(at'+k0) % h.size:Nat):Int)=r at *
    obtain⟨D2,s,ec⟩:=r
    dsimp only at hsec h64 hE
    have hpl:(s.map Zk).length=64:=by simpa using h64
    have hp1:=ZH s
    repeat' (first|(refine Zb (.func 101) ?_;refine qC rfl rfl (hss) ?_;rintro v ρ' L' hle ⟨rfl,rfl,rfl⟩<;>(try simp only[kA]))|(simp only[hrm];refine Zb (.tmp 32) ?_;refine qC rfl rfl hsec ?_;rintro v2 ρ2 L2 hle2 ⟨rfl,rfl,hD2,rfl⟩;simp only[kB])|refine zW ?_|intro _)
    by_cases hec:ec=0
    ·subst hec
     rw[show ((0:Int) != 0)=false from rfl]
     rename_i bs
     refine Vn [(bs,.cells ⟨s.map Zk⟩ 105 (0,0))] (h:=Rem.here) (λ ρ3 hle3 hfz=>?_)
     rw[if_neg (by simp)] at hE
     repeat' (first|refine zW ?_|intro _)
     have hacc1:acc.length=52*k0:=hacc
     have hk52:52*k0<=size:=by rcases sects_mul hlt with h|h<;>omega
     have hkk:k0<Zs size:=hlt
     have hb4:turn<=1073741824:=ht8
     have hrem:Yg turn n (Xp size (acc++s.drop 12)) k0≠s->RES=(none,D2,0):=λ hp=>by
      rw[<-hE,if_neg hp]
     have hgo2:Yg turn n (Xp size (acc++s.drop 12)) k0=s->entGo h n at' turn size (Zs size-(k0+1)) (k0+1) (acc++s.drop 12) D2=RES:=λ hp=>by
      rw[hj2,<-hE,if_pos hp]
     have hst:=fit_copy (size:=size) (k:=k0) (acc:=acc) (s:=s.drop 12) (by simpa using hacc1) hk52 (by simp;omega)
     have hsn:SIn _ Zk (some ⟨bs,0+12*1,none⟩) 52 ((s.drop 12).take 52):=XR (hfz _ (List.mem_singleton.2 rfl)) 12 52 (by omega)
     rw[aT (by simp;omega)] at hsn
     have hdst:(if size=52*k0 then some (⟨bb,0,none⟩:Addr) else some ⟨bb,0+52*k0*1,none⟩)=some ⟨bb,52*k0,none⟩:=by
      by_cases hx:size=52*k0
      ·rw[if_pos hx];have:k0=0:=by rcases sects_mul hkk with h|h<;>omega
       rw[this]
      ·rw[if_neg hx];simp
     have hton:(52*(k0:Int)).toNat=52*k0:=by omega
     refine Yt [0,1,2,3,4] (.e 5 [] .o) ([]) ?_
     repeat' (refine iT ?_;first|refine rA ?_|(refine rE ?_<;>((first|(simp only[hton,Option.map_some,YY,hdst];refine tl_copy (ys:=(s.drop 12).map Zk) rfl rfl (SIn.srcV hsn) (by simp;omega) (ZH _) (by simp[Wq];omega) rfl ?_;simp only[hst])|(refine qEf ?_;try intro _))<;>(try simp only[kA])<;>refine zN ?_)))
     all_goals (repeat' (first|refine zW ?_|intro _))
     have hown:OwnS (.slice (some ⟨bb,0,none⟩) size size) size ((Xp size (acc++s.drop 12)).map Zk) [] 1:=⟨.inr ⟨bb,size,rfl,by simp[Wq],by simp[Wq],aR _⟩⟩
     have hrd:=hown.rd (ρ:=ρ3) (T:=5)
     rw[show ZG (.slice (some ⟨bb,0,none⟩) size size) ((Xp size (acc++s.drop 12)).map Zk) [] 5=[(bb,.cells ⟨(Xp size (acc++s.drop 12)).map Zk⟩ 5 (0,0))] by simp[ZG]] at hrd
     have hbs:=hfz _ (List.mem_singleton.2 rfl)
     dsimp only at hbs
     have hld:List.take 64 (List.drop 0 (s.map Zk))=s.map Zk:=by rw[List.drop_zero,aT (by omega)]
     have hpt:=part_spec ρ3 _ turn n _ size size _ hrd (aR _) k0 (by omega) hn (by omega) hkk
     have hpl2:((Yg turn n (Xp size (acc++s.drop 12)) k0).map Zk).length=64:=by simp[partB_len]
     by_cases hp:Yg turn n (Xp size (acc++s.drop 12)) k0=s
     ·rw[hp] at hpt
      refine Yt [0,1,2,3,5] (.e 4 [] (.f [6] .o)) ([]) ?_
      repeat' (refine iT ?_;first|refine rA ?_|(refine rE ?_<;>(refine Zb (.func 178) ?_;refine qC rfl rfl hpt ?_;rintro v4 ρ4 L4 hle4 ⟨rfl,rfl,rfl⟩;try simp only[kA])<;>(try simp only[kA])<;>refine zN ?_))
      all_goals (repeat' (first|refine zW ?_|intro _))
      all_goals refine rnG (k0+1,turn,size,_,_,_,acc++s.drop 12,D2) (⟨Hp.le_trans hle1 hle3,hD2,.inr ⟨by dsimp only;omega,hkk,by simp[hacc1];omega,by dsimp only;omega,by dsimp only;omega,hgo2 hp,bb,rfl,rfl⟩⟩)
     ·have hlm1:(Yg turn n (Xp size (acc++s.drop 12)) k0).length=64:=partB_len _ _ _ _
      refine Yt [0,1,2,3,5] (.e 4 [] (.f [6] .o)) ([]) ?_
      repeat' (refine iT ?_;first|refine rA ?_|(refine rE ?_<;>(refine Zb (.func 178) ?_;refine qC rfl rfl hpt ?_;rintro v4 ρ4 L4 hle4 ⟨rfl,rfl,rfl⟩;try simp only[kA])<;>(try simp only[kA])<;>refine zN ?_))
      all_goals (repeat' (first|refine zW ?_|intro _))
      all_goals rw[hrem hp]
      all_goals exact qE (L':=secS rb rbx db R w++Zg db k D2) ⟨Hp.le_trans hle1 hle3,rfl,hD2,rfl⟩
    ·have hcb:(ec != 0)=true:=by simpa using hec
     rw[hcb]
     rw[if_pos hec] at hE
     repeat' (first|refine zW ?_|intro _)
     rw[<-hE]
     exact qE (L':=secS rb rbx db R w++Zg db k D2) ⟨hle1,rfl,hD2,rfl⟩
   ·have hks:k0=Zs size:=by omega
    rw[show Zs size-k0=0 by omega] at hgo
    simp only[entGo] at hgo
    repeat' (first|(refine Zb (.func 101) ?_;refine qC rfl rfl (hss) ?_;rintro v ρ' L' hle ⟨rfl,rfl,rfl⟩<;>(try simp only[kA]))|refine zW ?_|intro _)
    refine ZB [(bb,.cells ⟨(Xp size acc).map Zk⟩ 5 (0,0))] (h:=Rem.here) (λ ρ3 hle3 hfz=>?_)
    have hbb:=hfz _ (List.mem_singleton.2 rfl)
    dsimp only at hbb
    have hsi:SIn ρ3 Zk (some ⟨bb,0,none⟩) size (Xp size acc):=by have:=XR hbb 0 size (by simp[Wq]);rwa [List.drop_zero,aT (by simp[Wq])] at this
    rw[<-hgo]
    exact qE (L':=secS rb rbx db R w++Zg db k D1) ⟨Hp.le_trans hle1 hle3,⟨⟨some ⟨bb,0,none⟩,size,size,Xp size acc⟩,rfl,⟨hsi,aR _⟩,rfl⟩,hD1,rfl⟩
theorem entGo_some {h:Hd}{n at' turn size:Nat}:∀(j k:Nat) (acc:Bs) (D:DS) {b:Bs} {D':DS} {e:Int},entGo h n at' turn size j k acc D=(some b,D',e)->b.length=size/\e=0
 | 0,k,acc,D,b,D',e,hh=>by
  simp only[entGo,Prod.mk.injEq,Option.some.injEq] at hh
  exact⟨by rw[<-hh.1,Wq],hh.2.2.symm⟩
 | j+1,k,acc,D,b,D',e,hh=>by
  simp only[entGo] at hh
  split at hh
  ·cases hh
  ·split at hh
   ·exact entGo_some j _ _ _ hh
   ·cases hh
theorem entryR_some {h:Hd}{n at' left:Nat}{D D':DS}{b:Bs}{e:Int}(hh:entryR h n at' left D=(some b,D',e)):b.length<=8000/\Zs b.length<=left/\e=0:=by
 unfold entryR at hh
 split at hh
 ·cases hh
 ·split at hh
  ·cases hh
  ·unfold entGo0 at hh
   split at hh
   ·cases hh
   ·rename_i hc
    split at hh
    ·obtain⟨h1,h2⟩:=entGo_some _ _ _ _ hh
     rw[h1];exact⟨by omega,by omega,h2⟩
    ·cases hh
theorem found_spec (ρ:Hp)(rb db:Nat)(R0:RgS)(w0:RW)(hR0:RIn ρ R0 w0)(k:DK)(D:DS)(hD:DOk k D) :
  Spec prog 121 [.pointer (some ⟨rb,0,none⟩)] ρ (Yb rb db R0 w0++Zg db k D)
   (λ v ρ' L'=>v=.int .i64 (Xa (R0.h.size+1) R0 D).2.2/\ρ.le ρ'/\DOk k (Xa (R0.h.size+1) R0 D).2.1/\∃w',RIn ρ' (Xa (R0.h.size+1) R0 D).1 w'/\L'=Yb rb db (Xa (R0.h.size+1) R0 D).1 w'++Zg db k (Xa (R0.h.size+1) R0 D).2.1):=by
 generalize hRES:Xa (R0.h.size+1) R0 D=RES at *
 refine Za func121 rfl rfl rfl λ u RR=>?_
 simp only[Zc,kA]
 repeat' (first|refine zW ?_|intro _)
 rename_i rbx
 refine lpG (Nat×RgS×RW×Hp×DS) [1,3] (λ z=>[(2,.int .i64 0)]) (λ z=>z.2.2.2.1) (λ z=>[[(rbx,.cells ⟨[.pointer (some ⟨rb,0,none⟩)]⟩ 31 (0,0))]]++(Yb rb db z.2.1 z.2.2.1++Zg db k z.2.2.2.2)) (λ z=>ρ.le z.2.2.2.1/\RIn z.2.2.2.1 z.2.1 z.2.2.1/\DOk k z.2.2.2.2/\Xa z.1 z.2.1 z.2.2.2.2=RES/\z.2.1.h=R0.h/\R0.h.size+1<=z.1+z.2.1.used) (λ z=>z.1) (R0.h.size+1,R0,w0,ρ,D) ⟨Hp.le_refl _,hR0,hD,hRES,rfl,by omega⟩ ?_
 rintro⟨f,R,w,ρ1,D1⟩ hI
 try simp only[kB] at hI ⊢
 try dsimp only at hI ⊢
 obtain⟨hle1,hR,hD1,hgo,hh,hf⟩:=hI
 have hok:=hR.ok
 have hfit:=hok.fit
 have hsz:=hok.size
 have hpl:=hok.place
 have htu:=hok.turn
 have hsz0:R.h.size=R0.h.size:=by rw[hh]
 obtain⟨f',rfl⟩:∃f',f=f'+1:=⟨f-1,by omega⟩
 have hnx:=next_spec ρ1 rb db R w hR
 by_cases hn:R.next<1099511627776
 ·simp only[Xa,if_pos hn] at hgo
  have hent:=entry_spec ρ1 rb rbx db R w k D1 hD1 R.h w.na w.nn w.nc R.next (R.h.place+R.used) (R.h.size-R.used) (by omega) (by omega) (by omega) (by omega) (by omega) (by omega)
  have hsome:=@entryR_some R.h R.next (R.h.place+R.used) (R.h.size-R.used) D1
  generalize entryR R.h R.next (R.h.place+R.used) (R.h.size-R.used) D1=r at *
  obtain⟨ob,D2,e⟩:=r
  simp only[secS,kA,Int.natCast_add,Int.natCast_sub hfit] at hent
  have hn':((R.next:Nat):Int)<1099511627776:=by omega
  generalize hnxe:((R.next:Nat):Int)=nx at *
  repeat' (first|(refine Zb (.func 110) ?_;refine qR rfl rfl (hnx) ?_;try simp only[kA])|refine zW ?_|intro _)
  cases ob with
  | none=>
   by_cases he:e=0
   ·subst he
    refine Yt [0,1,2,3,4,6,7,8,9,10,11,12,13,14,15,16,17,18,19,20,21,22,23,24,25,26] (.e 5 [] (.e 27 [] (.f [28,29,30,31,32,33,34] .o))) ([[(rb,.cells ⟨rgV R db w⟩ 113 (0,0))],[(rbx,.cells ⟨[.pointer (some ⟨rb,0,none⟩)]⟩ 31 (0,0))]]) ?_
    repeat' (refine iT ?_;first|refine rA ?_|(refine rE ?_<;>((first|(refine Zb (.func 110) ?_;refine qR rfl rfl (hnx) ?_;try simp only[kA])|(refine Zb (.func 185) ?_;refine qC rfl rfl hent ?_;rintro v4 ρ4 L4 hle4 ⟨hl4,hans,hD2,rfl⟩;obtain rfl:=hans;try simp only[kA]))<;>(try simp only[kA])<;>refine zN ?_)))
    all_goals (repeat' (first|refine zW ?_|intro _))
    all_goals rw[<-hgo]
    all_goals exact qE (L':=Yb rb db R w++Zg db k D2) ⟨rfl,Hp.le_trans hle1 hl4,hD2,w,hR.mono hl4,rfl⟩
   ·have hcb:(e != 0)=true:=by simpa using he
    refine Yt [0,1,2,3,4,6,7,8,9,10,11,12,13,14,15,16,17,18,19,20,21,22,23,24,25,26] (.e 5 [] (.e 27 [] (.f [28,29,30,31,32,33,34] .o))) ([[(rb,.cells ⟨rgV R db w⟩ 113 (0,0))],[(rbx,.cells ⟨[.pointer (some ⟨rb,0,none⟩)]⟩ 31 (0,0))]]) ?_
    repeat' (refine iT ?_;first|refine rA ?_|(refine rE ?_<;>((first|(refine Zb (.func 110) ?_;refine qR rfl rfl (hnx) ?_;try simp only[kA])|(refine Zb (.func 185) ?_;refine qC rfl rfl hent ?_;rintro v4 ρ4 L4 hle4 ⟨hl4,hans,hD2,rfl⟩;obtain rfl:=hans;try simp only[kA]))<;>(try simp only[kA])<;>refine zN ?_)))
    all_goals (repeat' (first|refine zW ?_|intro _))
    all_goals rw[<-hgo]
    all_goals exact qE (L':=Yb rb db R w++Zg db k D2) ⟨rfl,Hp.le_trans hle1 hl4,hD2,w,hR.mono hl4,rfl⟩
  | some b=>
   obtain⟨hb8,hbs,he0⟩:=hsome rfl
   simp only[he0,if_true] at hgo
   refine Yt [0,1,2,3,4,6,7,8,9,10,11,12,13,14,15,16,17,18,19,20,21,22,23,24,25,26] (.e 5 [] (.e 27 [] (.f [28,29,30,31,32,33,34] .o))) ([[(rb,.cells ⟨rgV R db w⟩ 113 (0,0))],[(rbx,.cells ⟨[.pointer (some ⟨rb,0,none⟩)]⟩ 31 (0,0))]]) ?_
   repeat' (refine iT ?_;first|refine rA ?_|(refine rE ?_<;>((first|(refine Zb (.func 110) ?_;refine qR rfl rfl (hnx) ?_;try simp only[kA])|(refine Zb (.func 185) ?_;refine qC rfl rfl hent ?_;rintro v4 ρ4 L4 hle4 ⟨hl4,hans,hD2,rfl⟩;obtain⟨e4,rfl,hb4,hbl⟩:=hans;try simp only[kA]))<;>(try simp only[kA])<;>refine zN ?_)))
   all_goals have hR4:=hR.mono hl4
   all_goals have hbl2:=hb4.s.len
   all_goals have had:=adds_spec ρ4 rb db R w hR4 e4 hb4 (by rw[<-hbl2,hbl];omega) (by rw[<-hbl2,hbl];omega) hn
   all_goals simp only[hbl] at had
   all_goals (repeat' (first|(refine Zb (.func 112) ?_;refine qC rfl rfl (had) ?_;rintro v ρ' L' hle ⟨rfl,rfl,ev',sp',hR',rfl⟩<;>(try simp only[kA]))|refine zW ?_|intro _))
   all_goals have hu2:R0.h.size+1<=f'+(R.adds b).used:=by have:=WJ b.length;simp only[RgS.adds];omega
   all_goals refine rnG (f',R.adds b,⟨w.na,w.nn,w.nc,ev',w.els++[e4],sp'⟩,_,D2) (⟨Hp.le_trans hle1 hl4,hR',hD2,hgo,hh,hu2⟩)
 ·simp only[Xa,if_neg hn] at hgo
  have hn':¬((R.next:Nat):Int)<1099511627776:=by omega
  generalize hnxe:((R.next:Nat):Int)=nx at *
  repeat' (first|(refine Zb (.func 110) ?_;refine qR rfl rfl (hnx) ?_;try simp only[kA])|refine zW ?_|intro _)
  rw[<-hgo]
  exact qE (L':=Yb rb db R w++Zg db k D1) ⟨rfl,hle1,hD1,w,hR,rfl⟩
end Go.Proofs.E
