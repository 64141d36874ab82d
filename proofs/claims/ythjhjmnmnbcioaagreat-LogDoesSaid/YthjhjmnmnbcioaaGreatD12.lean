/- Laws of LogDoes. Part 12 of 30. -/
import Derived.Test.YthjhjmnmnbcioaaGreatD11
set_option linter.unusedVariables false
set_option linter.unusedSimpArgs false
set_option linter.unusedSectionVars false
namespace Go.Proofs.E
open Go Tryz
set_option maxRecDepth 4000
set_option maxHeartbeats 1000000
attribute [local irreducible] Yl TL TC TE Spec YL R1 Hp.le EnvLe TS TR YS Zt TP QP
abbrev StpFt (_:Hp)(x:Stp):Prop:=Ys x.row
abbrev AnyF {α:Type}(_:Hp)(_:α):Prop:=True
theorem rmanyIm_spec (ρ:Hp)(tb br cb:Nat)(v:RV)(r:Rc)(s:Yg){a n c ra rn rc Rs}(h:RdAt ρ a n c ra rn rc Rs s) :
  Spec prog 188 [.pointer (some ⟨tb,0,none⟩),.func (.func 189) ⟨[]⟩ ⟨[.pointer (some ⟨cb,0,none⟩)]⟩] ρ (cbC cb tb::rdL tb br a n c ra rn rc v r s)
   (λ z ρ' L'=>ρ.le ρ'/\∃(sa:Option Addr) (sn sc:Nat) (acc:List Im) (a':Option Addr) (n' c':Nat),z=.slice sa sn sc/\sn<=sc/\sn<=255/\AIn ρ' 7 imV sa sn acc/\(∀x∈acc,Im.In ρ' x)/\acc.map Im.plain=(Yw (imD (decide (r.kind=2))) s).1/\RdAt ρ' a' n' c' ra rn rc Rs (Yw (imD (decide (r.kind=2))) s).2/\L'=cbC cb tb::rdL tb br a' n' c' ra rn rc v r (Yw (imD (decide (r.kind=2))) s).2):=by
 have h8:=n8_spec ρ br h
 have hlt0:=Wj 1 s
 generalize hq:Yw (imD (decide (r.kind=2))) s=q
 unfold Yw at hq
 rw[show rdL tb br a n c ra rn rc v r s=[reC tb br ra rn rc v r (Zy 1 s).2.2.2,rdC br a n c s.2.1] from rfl]
 generalize Zy 1 s=p at *
 obtain⟨x1,s1⟩:=p
 dsimp only at h8 hlt0 hq ⊢
 refine Zb func188 rfl rfl rfl λ u R=>?_
 simp only[Zc,kA]
 repeat' (first|(refine Za (.func 124) ?_;refine qC rfl rfl (h8) ?_;rintro v ρ' L' hle ⟨rfl,rfl,a1,n1,c1,h1,rfl⟩<;>(try simp only[kA]))|refine zV ?_|intro _)
 refine lpG (Nat×Hp×Value×(List Value)×(List Im)×(Option Addr)×Nat×Nat×Yg) [0,1,4,6] (λ z=>[(7,.int .i64 z.1),(5,z.2.2.1)]) (λ z=>z.2.1) (λ z=>[Zq z.2.2.1 ((z.2.2.2.2.1.map imV).flatten) z.2.2.2.1 180,cbC cb tb,reC tb br ra rn rc v r z.2.2.2.2.2.2.2.2.2.2,rdC br z.2.2.2.2.2.1 z.2.2.2.2.2.2.1 z.2.2.2.2.2.2.2.1 z.2.2.2.2.2.2.2.2.2.1]) (λ z=>z.1<=x1/\ρ'.le z.2.1/\OwnS z.2.2.1 z.1 ((z.2.2.2.2.1.map imV).flatten) z.2.2.2.1 7/\z.2.2.2.2.1.length=z.1/\RdAt z.2.1 z.2.2.2.2.2.1 z.2.2.2.2.2.2.1 z.2.2.2.2.2.2.2.1 ra rn rc Rs z.2.2.2.2.2.2.2.2/\(∀x∈z.2.2.2.2.1,Im.In z.2.1 x)/\q=(z.2.2.2.2.1.map Im.plain++(ZP (imD (decide (r.kind=2))) (x1-z.1) z.2.2.2.2.2.2.2.2).1,(ZP (imD (decide (r.kind=2))) (x1-z.1) z.2.2.2.2.2.2.2.2).2)) (λ z=>x1-z.1) (0,ρ',.slice none 0 0,[],[],a1,n1,c1,s1) ⟨aZ _,Hp.le_refl _,OwnS.nil 7,rfl,h1,by simp,by simp[<-hq]⟩ ?_
 rintro⟨i,ρ1,vv,sp,acc,a2,n2,c2,s2⟩ hI
 try simp only[kB] at hI ⊢
 try dsimp only at hI ⊢
 obtain⟨hi,hle1,hown,hal,h2,hP,hq2⟩:=hI
 obtain⟨va,vc,rfl,_⟩:=hown.slice
 have hg:∀x∈acc,(imV x).length=7:=λ x _=>rfl
 have hok:=rok_spec ρ1 tb br a2 n2 c2 ra rn rc v r s2
 by_cases hlt:i<x1
 ·cases ho:okS s2
  ·have hm0:ZP (imD (decide (r.kind=2))) (x1-i) s2=([],s2):=by
    rw[show x1-i=(x1-(i+1))+1 by omega,ZP,ho];rfl
   rw[hm0] at hq2
   simp only[aN] at hq2
   rw[ho] at hok
   subst hq2
   repeat' (first|(refine Za (.func 132) ?_;refine qC rfl rfl (hok) ?_;rintro v ρ' L' hle ⟨rfl,rfl,rfl⟩<;>(try simp only[kA]))|refine zV ?_|intro _)
   refine ZB (Zq (.slice va i vc) ((acc.map imV).flatten) sp 180) (λ ρ3 hle3 hfz=>?_)
   obtain⟨sa,sc,e1,hsc,hA⟩:=hown.aIn hal hg hfz
   cases e1
   exact qE ⟨Hp.le_trans hle1 hle3,_,_,_,acc,a2,n2,c2,rfl,hsc,by omega,hA,(λ x hx=>(hP x hx).mono hle3),rfl,h2.mono hle3,rfl⟩
  ·rw[show x1-i=(x1-(i+1))+1 by omega,ZP,if_pos ho] at hq2
   rw[ho] at hok
   have hrow:=λ ρ (h:RdAt ρ a2 n2 c2 ra rn rc Rs s2)=>rchange1_spec ρ tb br cb v r s2 h
   skip
   generalize (imD (decide (r.kind=2))) s2=y at *
   obtain⟨x,s3⟩:=y
   dsimp only at hq2 hrow
   repeat' (first|(refine Za (.func 132) ?_;refine qC rfl rfl (hok) ?_;rintro v ρ' L' hle ⟨rfl,rfl,rfl⟩<;>(try simp only[kA]))|(refine Za (.tmp 24) ?_;refine qC rfl rfl (hrow _ h2) ?_;rintro v ρ' L' hle ⟨hle3,y,a3,n3,c3,rfl,hxi,hxp,h3,rfl⟩<;>(try simp only[kA]))|refine zV ?_|intro _)
   refine Zp (css:=[imV y]) (sz:=7) rfl rfl rfl rfl (by simp) (by simp) rfl (λ bs=>?_)
   simp only[aF,List.flatten_nil,aN]
   refine ZH (ys:=imV y) (m:=1) rfl rfl hown (hR:=by infer_instance) (SrcV.lit) rfl rfl (by decide) rfl (by omega) (by omega) rfl (λ v' sp' hown'=>?_)
   have hm:(acc.map imV).flatten++imV y=((acc++[y]).map imV).flatten:=by simp
   rw[hm] at hown' ⊢
   repeat' (first|refine zV ?_|intro _)
   have hPn:∀z∈acc++[y],Im.In ρ' z:=λ z hz=>by
    rcases List.mem_append.1 hz with hz|hz
    ·exact (hP z hz).mono hle3
    ·rw[List.mem_singleton.1 hz];exact hxi
   refine rnG (i+1,_,v',sp',acc++[y],a3,n3,c3,s3) (⟨hlt,Hp.le_trans hle1 hle3,hown',by simp[hal],h3,hPn,by rw[hq2];simp[hxp]⟩)
 ·have hi2:i=x1:=by omega
  subst hi2
  rw[Nat.sub_self,ZP] at hq2
  simp only[aN] at hq2
  subst hq2
  repeat' (first|refine zV ?_|intro _)
  refine ZB (Zq (.slice va i vc) ((acc.map imV).flatten) sp 180) (λ ρ3 hle3 hfz=>?_)
  obtain⟨sa,sc,e1,hsc,hA⟩:=hown.aIn hal hg hfz
  cases e1
  exact qE ⟨Hp.le_trans hle1 hle3,_,_,_,acc,a2,n2,c2,rfl,hsc,by omega,hA,(λ x hx=>(hP x hx).mono hle3),rfl,h2.mono hle3,rfl⟩
theorem rmanyStp_spec (ρ:Hp)(tb br cb:Nat)(v:RV)(r:Rc)(s:Yg){a n c ra rn rc Rs}(h:RdAt ρ a n c ra rn rc Rs s) :
  Spec prog 192 [.pointer (some ⟨tb,0,none⟩),.func (.func 193) ⟨[]⟩ ⟨[.pointer (some ⟨cb,0,none⟩)]⟩] ρ (cbC cb tb::rdL tb br a n c ra rn rc v r s)
   (λ z ρ' L'=>ρ.le ρ'/\∃(sa:Option Addr) (sn sc:Nat) (acc:List Stp) (a':Option Addr) (n' c':Nat),z=.slice sa sn sc/\sn<=sc/\sn<=255/\AIn ρ' 6 YJ sa sn acc/\(∀x∈acc,StpFt ρ' x)/\acc=(Yw Wx s).1/\RdAt ρ' a' n' c' ra rn rc Rs (Yw Wx s).2/\L'=cbC cb tb::rdL tb br a' n' c' ra rn rc v r (Yw Wx s).2):=by
 have h8:=n8_spec ρ br h
 have hlt0:=Wj 1 s
 generalize hq:Yw Wx s=q
 unfold Yw at hq
 rw[show rdL tb br a n c ra rn rc v r s=[reC tb br ra rn rc v r (Zy 1 s).2.2.2,rdC br a n c s.2.1] from rfl]
 generalize Zy 1 s=p at *
 obtain⟨x1,s1⟩:=p
 dsimp only at h8 hlt0 hq ⊢
 refine Zb func192 rfl rfl rfl λ u R=>?_
 simp only[Zc,kA]
 repeat' (first|(refine Za (.func 124) ?_;refine qC rfl rfl (h8) ?_;rintro v ρ' L' hle ⟨rfl,rfl,a1,n1,c1,h1,rfl⟩<;>(try simp only[kA]))|refine zV ?_|intro _)
 refine lpG (Nat×Hp×Value×(List Value)×(List Stp)×(Option Addr)×Nat×Nat×Yg) [0,1,4,6] (λ z=>[(7,.int .i64 z.1),(5,z.2.2.1)]) (λ z=>z.2.1) (λ z=>[Zq z.2.2.1 ((z.2.2.2.2.1.map YJ).flatten) z.2.2.2.1 183,cbC cb tb,reC tb br ra rn rc v r z.2.2.2.2.2.2.2.2.2.2,rdC br z.2.2.2.2.2.1 z.2.2.2.2.2.2.1 z.2.2.2.2.2.2.2.1 z.2.2.2.2.2.2.2.2.2.1]) (λ z=>z.1<=x1/\ρ'.le z.2.1/\OwnS z.2.2.1 z.1 ((z.2.2.2.2.1.map YJ).flatten) z.2.2.2.1 6/\z.2.2.2.2.1.length=z.1/\RdAt z.2.1 z.2.2.2.2.2.1 z.2.2.2.2.2.2.1 z.2.2.2.2.2.2.2.1 ra rn rc Rs z.2.2.2.2.2.2.2.2/\(∀x∈z.2.2.2.2.1,StpFt z.2.1 x)/\q=(z.2.2.2.2.1++(ZP Wx (x1-z.1) z.2.2.2.2.2.2.2.2).1,(ZP Wx (x1-z.1) z.2.2.2.2.2.2.2.2).2)) (λ z=>x1-z.1) (0,ρ',.slice none 0 0,[],[],a1,n1,c1,s1) ⟨aZ _,Hp.le_refl _,OwnS.nil 6,rfl,h1,by simp,by simp[<-hq]⟩ ?_
 rintro⟨i,ρ1,vv,sp,acc,a2,n2,c2,s2⟩ hI
 try simp only[kB] at hI ⊢
 try dsimp only at hI ⊢
 obtain⟨hi,hle1,hown,hal,h2,hP,hq2⟩:=hI
 obtain⟨va,vc,rfl,_⟩:=hown.slice
 have hg:∀x∈acc,(YJ x).length=6:=λ x _=>rfl
 have hok:=rok_spec ρ1 tb br a2 n2 c2 ra rn rc v r s2
 by_cases hlt:i<x1
 ·cases ho:okS s2
  ·have hm0:ZP Wx (x1-i) s2=([],s2):=by
    rw[show x1-i=(x1-(i+1))+1 by omega,ZP,ho];rfl
   rw[hm0] at hq2
   simp only[aN] at hq2
   rw[ho] at hok
   subst hq2
   repeat' (first|(refine Za (.func 132) ?_;refine qC rfl rfl (hok) ?_;rintro v ρ' L' hle ⟨rfl,rfl,rfl⟩<;>(try simp only[kA]))|refine zV ?_|intro _)
   refine ZB (Zq (.slice va i vc) ((acc.map YJ).flatten) sp 183) (λ ρ3 hle3 hfz=>?_)
   obtain⟨sa,sc,e1,hsc,hA⟩:=hown.aIn hal hg hfz
   cases e1
   exact qE ⟨Hp.le_trans hle1 hle3,_,_,_,acc,a2,n2,c2,rfl,hsc,by omega,hA,hP,rfl,h2.mono hle3,rfl⟩
  ·rw[show x1-i=(x1-(i+1))+1 by omega,ZP,if_pos ho] at hq2
   rw[ho] at hok
   have hrow:=λ ρ (h:RdAt ρ a2 n2 c2 ra rn rc Rs s2)=>rdone1_spec ρ tb br cb v r s2 h
   skip
   generalize Wx s2=y at *
   obtain⟨x,s3⟩:=y
   dsimp only at hq2 hrow
   repeat' (first|(refine Za (.func 132) ?_;refine qC rfl rfl (hok) ?_;rintro v ρ' L' hle ⟨rfl,rfl,rfl⟩<;>(try simp only[kA]))|(refine Za (.tmp 24) ?_;refine qC rfl rfl (hrow _ h2) ?_;rintro v ρ' L' hle ⟨hle3,rfl,hxi,a3,n3,c3,h3,rfl⟩<;>(try simp only[kA]))|refine zV ?_|intro _)
   refine Zp (css:=[YJ x]) (sz:=6) rfl rfl rfl rfl (by simp) (by simp) rfl (λ bs=>?_)
   simp only[aF,List.flatten_nil,aN]
   refine ZH (ys:=YJ x) (m:=1) rfl rfl hown (hR:=by infer_instance) (SrcV.lit) rfl rfl (by decide) rfl (by omega) (by omega) rfl (λ v' sp' hown'=>?_)
   have hm:(acc.map YJ).flatten++YJ x=((acc++[x]).map YJ).flatten:=by simp
   rw[hm] at hown' ⊢
   repeat' (first|refine zV ?_|intro _)
   have hPn:∀z∈acc++[x],StpFt ρ' z:=λ z hz=>by
    rcases List.mem_append.1 hz with hz|hz
    ·exact hP z hz
    ·rw[List.mem_singleton.1 hz];exact hxi
   refine rnG (i+1,_,v',sp',acc++[x],a3,n3,c3,s3) (⟨hlt,Hp.le_trans hle1 hle3,hown',by simp[hal],h3,hPn,by rw[hq2];simp⟩)
 ·have hi2:i=x1:=by omega
  subst hi2
  rw[Nat.sub_self,ZP] at hq2
  simp only[aN] at hq2
  subst hq2
  repeat' (first|refine zV ?_|intro _)
  refine ZB (Zq (.slice va i vc) ((acc.map YJ).flatten) sp 183) (λ ρ3 hle3 hfz=>?_)
  obtain⟨sa,sc,e1,hsc,hA⟩:=hown.aIn hal hg hfz
  cases e1
  exact qE ⟨Hp.le_trans hle1 hle3,_,_,_,acc,a2,n2,c2,rfl,hsc,by omega,hA,hP,rfl,h2.mono hle3,rfl⟩
theorem rmanyCkT_spec (ρ:Hp)(tb br cb:Nat)(v:RV)(r:Rc)(s:Yg){a n c ra rn rc Rs}(h:RdAt ρ a n c ra rn rc Rs s) :
  Spec prog 197 [.pointer (some ⟨tb,0,none⟩),.func (.func 198) ⟨[]⟩ ⟨[.pointer (some ⟨cb,0,none⟩)]⟩] ρ (cbC cb tb::rdL tb br a n c ra rn rc v r s)
   (λ z ρ' L'=>ρ.le ρ'/\∃(sa:Option Addr) (sn sc:Nat) (acc:List CkT) (a':Option Addr) (n' c':Nat),z=.slice sa sn sc/\sn<=sc/\sn<=255/\AIn ρ' 5 Yh sa sn acc/\(∀x∈acc,AnyF ρ' x)/\acc=(Yw ckTD s).1/\RdAt ρ' a' n' c' ra rn rc Rs (Yw ckTD s).2/\L'=cbC cb tb::rdL tb br a' n' c' ra rn rc v r (Yw ckTD s).2):=by
 have h8:=n8_spec ρ br h
 have hlt0:=Wj 1 s
 generalize hq:Yw ckTD s=q
 unfold Yw at hq
 rw[show rdL tb br a n c ra rn rc v r s=[reC tb br ra rn rc v r (Zy 1 s).2.2.2,rdC br a n c s.2.1] from rfl]
 generalize Zy 1 s=p at *
 obtain⟨x1,s1⟩:=p
 dsimp only at h8 hlt0 hq ⊢
 refine Zb func197 rfl rfl rfl λ u R=>?_
 simp only[Zc,kA]
 repeat' (first|(refine Za (.func 124) ?_;refine qC rfl rfl (h8) ?_;rintro v ρ' L' hle ⟨rfl,rfl,a1,n1,c1,h1,rfl⟩<;>(try simp only[kA]))|refine zV ?_|intro _)
 refine lpG (Nat×Hp×Value×(List Value)×(List CkT)×(Option Addr)×Nat×Nat×Yg) [0,1,4,6] (λ z=>[(7,.int .i64 z.1),(5,z.2.2.1)]) (λ z=>z.2.1) (λ z=>[Zq z.2.2.1 ((z.2.2.2.2.1.map Yh).flatten) z.2.2.2.1 116,cbC cb tb,reC tb br ra rn rc v r z.2.2.2.2.2.2.2.2.2.2,rdC br z.2.2.2.2.2.1 z.2.2.2.2.2.2.1 z.2.2.2.2.2.2.2.1 z.2.2.2.2.2.2.2.2.2.1]) (λ z=>z.1<=x1/\ρ'.le z.2.1/\OwnS z.2.2.1 z.1 ((z.2.2.2.2.1.map Yh).flatten) z.2.2.2.1 5/\z.2.2.2.2.1.length=z.1/\RdAt z.2.1 z.2.2.2.2.2.1 z.2.2.2.2.2.2.1 z.2.2.2.2.2.2.2.1 ra rn rc Rs z.2.2.2.2.2.2.2.2/\(∀x∈z.2.2.2.2.1,AnyF z.2.1 x)/\q=(z.2.2.2.2.1++(ZP ckTD (x1-z.1) z.2.2.2.2.2.2.2.2).1,(ZP ckTD (x1-z.1) z.2.2.2.2.2.2.2.2).2)) (λ z=>x1-z.1) (0,ρ',.slice none 0 0,[],[],a1,n1,c1,s1) ⟨aZ _,Hp.le_refl _,OwnS.nil 5,rfl,h1,by simp,by simp[<-hq]⟩ ?_
 rintro⟨i,ρ1,vv,sp,acc,a2,n2,c2,s2⟩ hI
 try simp only[kB] at hI ⊢
 try dsimp only at hI ⊢
 obtain⟨hi,hle1,hown,hal,h2,hP,hq2⟩:=hI
 obtain⟨va,vc,rfl,_⟩:=hown.slice
 have hg:∀x∈acc,(Yh x).length=5:=λ x _=>rfl
 have hok:=rok_spec ρ1 tb br a2 n2 c2 ra rn rc v r s2
 by_cases hlt:i<x1
 ·cases ho:okS s2
  ·have hm0:ZP ckTD (x1-i) s2=([],s2):=by
    rw[show x1-i=(x1-(i+1))+1 by omega,ZP,ho];rfl
   rw[hm0] at hq2
   simp only[aN] at hq2
   rw[ho] at hok
   subst hq2
   repeat' (first|(refine Za (.func 132) ?_;refine qC rfl rfl (hok) ?_;rintro v ρ' L' hle ⟨rfl,rfl,rfl⟩<;>(try simp only[kA]))|refine zV ?_|intro _)
   refine ZB (Zq (.slice va i vc) ((acc.map Yh).flatten) sp 116) (λ ρ3 hle3 hfz=>?_)
   obtain⟨sa,sc,e1,hsc,hA⟩:=hown.aIn hal hg hfz
   cases e1
   exact qE ⟨Hp.le_trans hle1 hle3,_,_,_,acc,a2,n2,c2,rfl,hsc,by omega,hA,hP,rfl,h2.mono hle3,rfl⟩
  ·rw[show x1-i=(x1-(i+1))+1 by omega,ZP,if_pos ho] at hq2
   rw[ho] at hok
   have hrow:=λ ρ (h:RdAt ρ a2 n2 c2 ra rn rc Rs s2)=>rckpt1_spec ρ tb br cb v r s2 h
   skip
   generalize ckTD s2=y at *
   obtain⟨x,s3⟩:=y
   dsimp only at hq2 hrow
   repeat' (first|(refine Za (.func 132) ?_;refine qC rfl rfl (hok) ?_;rintro v ρ' L' hle ⟨rfl,rfl,rfl⟩<;>(try simp only[kA]))|(refine Za (.tmp 24) ?_;refine qC rfl rfl (hrow _ h2) ?_;rintro v ρ' L' hle ⟨hle3,rfl,hxi,a3,n3,c3,h3,rfl⟩<;>(try simp only[kA]))|refine zV ?_|intro _)
   refine Zp (css:=[Yh x]) (sz:=5) rfl rfl rfl rfl (by simp) (by simp) rfl (λ bs=>?_)
   simp only[aF,List.flatten_nil,aN]
   refine ZH (ys:=Yh x) (m:=1) rfl rfl hown (hR:=by infer_instance) (SrcV.lit) rfl rfl (by decide) rfl (by omega) (by omega) rfl (λ v' sp' hown'=>?_)
   have hm:(acc.map Yh).flatten++Yh x=((acc++[x]).map Yh).flatten:=by simp
   rw[hm] at hown' ⊢
   repeat' (first|refine zV ?_|intro _)
   have hPn:∀z∈acc++[x],AnyF ρ' z:=λ z hz=>by
    rcases List.mem_append.1 hz with hz|hz
    ·exact hP z hz
    ·rw[List.mem_singleton.1 hz];exact hxi
   refine rnG (i+1,_,v',sp',acc++[x],a3,n3,c3,s3) (⟨hlt,Hp.le_trans hle1 hle3,hown',by simp[hal],h3,hPn,by rw[hq2];simp⟩)
 ·have hi2:i=x1:=by omega
  subst hi2
  rw[Nat.sub_self,ZP] at hq2
  simp only[aN] at hq2
  subst hq2
  repeat' (first|refine zV ?_|intro _)
  refine ZB (Zq (.slice va i vc) ((acc.map Yh).flatten) sp 116) (λ ρ3 hle3 hfz=>?_)
  obtain⟨sa,sc,e1,hsc,hA⟩:=hown.aIn hal hg hfz
  cases e1
  exact qE ⟨Hp.le_trans hle1 hle3,_,_,_,acc,a2,n2,c2,rfl,hsc,by omega,hA,hP,rfl,h2.mono hle3,rfl⟩
theorem rmanyCkP_spec (ρ:Hp)(tb br cb:Nat)(v:RV)(r:Rc)(s:Yg){a n c ra rn rc Rs}(h:RdAt ρ a n c ra rn rc Rs s) :
  Spec prog 199 [.pointer (some ⟨tb,0,none⟩),.func (.func 200) ⟨[]⟩ ⟨[.pointer (some ⟨cb,0,none⟩)]⟩] ρ (cbC cb tb::rdL tb br a n c ra rn rc v r s)
   (λ z ρ' L'=>ρ.le ρ'/\∃(sa:Option Addr) (sn sc:Nat) (acc:List CkP) (a':Option Addr) (n' c':Nat),z=.slice sa sn sc/\sn<=sc/\sn<=255/\AIn ρ' 2 YB sa sn acc/\(∀x∈acc,AnyF ρ' x)/\acc=(Yw ckPD s).1/\RdAt ρ' a' n' c' ra rn rc Rs (Yw ckPD s).2/\L'=cbC cb tb::rdL tb br a' n' c' ra rn rc v r (Yw ckPD s).2):=by
 have h8:=n8_spec ρ br h
 have hlt0:=Wj 1 s
 generalize hq:Yw ckPD s=q
 unfold Yw at hq
 rw[show rdL tb br a n c ra rn rc v r s=[reC tb br ra rn rc v r (Zy 1 s).2.2.2,rdC br a n c s.2.1] from rfl]
 generalize Zy 1 s=p at *
 obtain⟨x1,s1⟩:=p
 dsimp only at h8 hlt0 hq ⊢
 refine Zb func199 rfl rfl rfl λ u R=>?_
 simp only[Zc,kA]
 repeat' (first|(refine Za (.func 124) ?_;refine qC rfl rfl (h8) ?_;rintro v ρ' L' hle ⟨rfl,rfl,a1,n1,c1,h1,rfl⟩<;>(try simp only[kA]))|refine zV ?_|intro _)
 refine lpG (Nat×Hp×Value×(List Value)×(List CkP)×(Option Addr)×Nat×Nat×Yg) [0,1,4,6] (λ z=>[(7,.int .i64 z.1),(5,z.2.2.1)]) (λ z=>z.2.1) (λ z=>[Zq z.2.2.1 ((z.2.2.2.2.1.map YB).flatten) z.2.2.2.1 118,cbC cb tb,reC tb br ra rn rc v r z.2.2.2.2.2.2.2.2.2.2,rdC br z.2.2.2.2.2.1 z.2.2.2.2.2.2.1 z.2.2.2.2.2.2.2.1 z.2.2.2.2.2.2.2.2.2.1]) (λ z=>z.1<=x1/\ρ'.le z.2.1/\OwnS z.2.2.1 z.1 ((z.2.2.2.2.1.map YB).flatten) z.2.2.2.1 2/\z.2.2.2.2.1.length=z.1/\RdAt z.2.1 z.2.2.2.2.2.1 z.2.2.2.2.2.2.1 z.2.2.2.2.2.2.2.1 ra rn rc Rs z.2.2.2.2.2.2.2.2/\(∀x∈z.2.2.2.2.1,AnyF z.2.1 x)/\q=(z.2.2.2.2.1++(ZP ckPD (x1-z.1) z.2.2.2.2.2.2.2.2).1,(ZP ckPD (x1-z.1) z.2.2.2.2.2.2.2.2).2)) (λ z=>x1-z.1) (0,ρ',.slice none 0 0,[],[],a1,n1,c1,s1) ⟨aZ _,Hp.le_refl _,OwnS.nil 2,rfl,h1,by simp,by simp[<-hq]⟩ ?_
 rintro⟨i,ρ1,vv,sp,acc,a2,n2,c2,s2⟩ hI
 try simp only[kB] at hI ⊢
 try dsimp only at hI ⊢
 obtain⟨hi,hle1,hown,hal,h2,hP,hq2⟩:=hI
 obtain⟨va,vc,rfl,_⟩:=hown.slice
 have hg:∀x∈acc,(YB x).length=2:=λ x _=>rfl
 have hok:=rok_spec ρ1 tb br a2 n2 c2 ra rn rc v r s2
 by_cases hlt:i<x1
 ·cases ho:okS s2
  ·have hm0:ZP ckPD (x1-i) s2=([],s2):=by
    rw[show x1-i=(x1-(i+1))+1 by omega,ZP,ho];rfl
   rw[hm0] at hq2
   simp only[aN] at hq2
   rw[ho] at hok
   subst hq2
   repeat' (first|(refine Za (.func 132) ?_;refine qC rfl rfl (hok) ?_;rintro v ρ' L' hle ⟨rfl,rfl,rfl⟩<;>(try simp only[kA]))|refine zV ?_|intro _)
   refine ZB (Zq (.slice va i vc) ((acc.map YB).flatten) sp 118) (λ ρ3 hle3 hfz=>?_)
   obtain⟨sa,sc,e1,hsc,hA⟩:=hown.aIn hal hg hfz
   cases e1
   exact qE ⟨Hp.le_trans hle1 hle3,_,_,_,acc,a2,n2,c2,rfl,hsc,by omega,hA,hP,rfl,h2.mono hle3,rfl⟩
  ·rw[show x1-i=(x1-(i+1))+1 by omega,ZP,if_pos ho] at hq2
   rw[ho] at hok
   have hrow:=λ ρ (h:RdAt ρ a2 n2 c2 ra rn rc Rs s2)=>rckpt2_spec ρ tb br cb v r s2 h
   skip
   generalize ckPD s2=y at *
   obtain⟨x,s3⟩:=y
   dsimp only at hq2 hrow
   repeat' (first|(refine Za (.func 132) ?_;refine qC rfl rfl (hok) ?_;rintro v ρ' L' hle ⟨rfl,rfl,rfl⟩<;>(try simp only[kA]))|(refine Za (.tmp 24) ?_;refine qC rfl rfl (hrow _ h2) ?_;rintro v ρ' L' hle ⟨hle3,rfl,hxi,a3,n3,c3,h3,rfl⟩<;>(try simp only[kA]))|refine zV ?_|intro _)
   refine Zp (css:=[YB x]) (sz:=2) rfl rfl rfl rfl (by simp) (by simp) rfl (λ bs=>?_)
   simp only[aF,List.flatten_nil,aN]
   refine ZH (ys:=YB x) (m:=1) rfl rfl hown (hR:=by infer_instance) (SrcV.lit) rfl rfl (by decide) rfl (by omega) (by omega) rfl (λ v' sp' hown'=>?_)
   have hm:(acc.map YB).flatten++YB x=((acc++[x]).map YB).flatten:=by simp
   rw[hm] at hown' ⊢
   repeat' (first|refine zV ?_|intro _)
   have hPn:∀z∈acc++[x],AnyF ρ' z:=λ z hz=>by
    rcases List.mem_append.1 hz with hz|hz
    ·exact hP z hz
    ·rw[List.mem_singleton.1 hz];exact hxi
   refine rnG (i+1,_,v',sp',acc++[x],a3,n3,c3,s3) (⟨hlt,Hp.le_trans hle1 hle3,hown',by simp[hal],h3,hPn,by rw[hq2];simp⟩)
 ·have hi2:i=x1:=by omega
  subst hi2
  rw[Nat.sub_self,ZP] at hq2
  simp only[aN] at hq2
  subst hq2
  repeat' (first|refine zV ?_|intro _)
  refine ZB (Zq (.slice va i vc) ((acc.map YB).flatten) sp 118) (λ ρ3 hle3 hfz=>?_)
  obtain⟨sa,sc,e1,hsc,hA⟩:=hown.aIn hal hg hfz
  cases e1
  exact qE ⟨Hp.le_trans hle1 hle3,_,_,_,acc,a2,n2,c2,rfl,hsc,by omega,hA,hP,rfl,h2.mono hle3,rfl⟩
end Go.Proofs.E
