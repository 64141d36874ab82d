/- Laws of PoolRule. Part 20 of 26. -/
import Derived.Test.YthjhjmnmnbcioaaGreatE19
set_option linter.unusedVariables false
set_option linter.unusedSimpArgs false
set_option linter.unusedSectionVars false
namespace Go.Proofs.E
open Go Tryz
set_option maxRecDepth 4000
set_option maxHeartbeats 1000000
attribute [local irreducible] Yl TL TC TE Spec YW R1 Hp.le EnvLe TS TR YS Zv TP QP
abbrev StpFt (_:Hp)(x:Stp):Prop:=XU x.row
abbrev AnyF {α:Type}(_:Hp)(_:α):Prop:=True
theorem rmanyIm_spec (ρ:Hp)(tb br cb:Nat)(v:RV)(r:Rc)(s:Yu){a n c ra rn rc Rs}(h:RdAt ρ a n c ra rn rc Rs s) :
  Spec prog 188 [.pointer (some ⟨tb,0,none⟩),.func (.func 189) ⟨[]⟩ ⟨[.pointer (some ⟨cb,0,none⟩)]⟩] ρ (cbC cb tb::rdL tb br a n c ra rn rc v r s)
   (λ z ρ' L'=>ρ.le ρ'/\∃(sa:Option Addr) (sn sc:Nat) (acc:List Im) (a':Option Addr) (n' c':Nat),z=.slice sa sn sc/\sn<=sc/\sn<=255/\AIn ρ' 7 imV sa sn acc/\(∀x∈acc,Im.In ρ' x)/\acc.map Im.plain=(YR (imD (decide (r.kind=2))) s).1/\RdAt ρ' a' n' c' ra rn rc Rs (YR (imD (decide (r.kind=2))) s).2/\L'=cbC cb tb::rdL tb br a' n' c' ra rn rc v r (YR (imD (decide (r.kind=2))) s).2):=by
 have h8:=n8_spec ρ br h
 have hlt0:=Wn 1 s
 generalize hq:YR (imD (decide (r.kind=2))) s=q
 unfold YR at hq
 rw[show rdL tb br a n c ra rn rc v r s=[reC tb br ra rn rc v r (rdN 1 s).2.2.2,rdC br a n c s.2.1] from rfl]
 generalize rdN 1 s=p at *
 obtain⟨x1,s1⟩:=p
 dsimp only at h8 hlt0 hq ⊢
 refine Za func188 rfl rfl rfl λ u R=>?_
 simp only[Zc,kA]
 repeat' (first|(refine Zb (.func 124) ?_;refine qC rfl rfl (h8) ?_;rintro v ρ' L' hle ⟨rfl,rfl,a1,n1,c1,h1,rfl⟩<;>(try simp only[kA]))|refine zV ?_|intro _)
 refine lpG (Nat×Hp×Value×(List Value)×(List Im)×(Option Addr)×Nat×Nat×Yu) [0,1,4,6] (λ z=>[(7,.int .i64 z.1),(5,z.2.2.1)]) (λ z=>z.2.1) (λ z=>[ZG z.2.2.1 ((z.2.2.2.2.1.map imV).flatten) z.2.2.2.1 180,cbC cb tb,reC tb br ra rn rc v r z.2.2.2.2.2.2.2.2.2.2,rdC br z.2.2.2.2.2.1 z.2.2.2.2.2.2.1 z.2.2.2.2.2.2.2.1 z.2.2.2.2.2.2.2.2.2.1]) (λ z=>z.1<=x1/\ρ'.le z.2.1/\OwnS z.2.2.1 z.1 ((z.2.2.2.2.1.map imV).flatten) z.2.2.2.1 7/\z.2.2.2.2.1.length=z.1/\RdAt z.2.1 z.2.2.2.2.2.1 z.2.2.2.2.2.2.1 z.2.2.2.2.2.2.2.1 ra rn rc Rs z.2.2.2.2.2.2.2.2/\(∀x∈z.2.2.2.2.1,Im.In z.2.1 x)/\q=(z.2.2.2.2.1.map Im.plain++(Xu (imD (decide (r.kind=2))) (x1-z.1) z.2.2.2.2.2.2.2.2).1,(Xu (imD (decide (r.kind=2))) (x1-z.1) z.2.2.2.2.2.2.2.2).2)) (λ z=>x1-z.1) (0,ρ',.slice none 0 0,[],[],a1,n1,c1,s1) ⟨aZ _,Hp.le_refl _,OwnS.nil 7,rfl,h1,by simp,by simp[<-hq]⟩ ?_
 rintro⟨i,ρ1,vv,sp,acc,a2,n2,c2,s2⟩ hI
 try simp only[kB] at hI ⊢
 try dsimp only at hI ⊢
 obtain⟨hi,hle1,hown,hal,h2,hP,hq2⟩:=hI
 obtain⟨va,vc,rfl,_⟩:=hown.slice
 have hg:∀x∈acc,(imV x).length=7:=λ x _=>rfl
 have hok:=rok_spec ρ1 tb br a2 n2 c2 ra rn rc v r s2
 by_cases hlt:i<x1
 ·cases ho:okS s2
  ·have hm0:Xu (imD (decide (r.kind=2))) (x1-i) s2=([],s2):=by
    rw[show x1-i=(x1-(i+1))+1 by omega,Xu,ho];rfl
   rw[hm0] at hq2
   simp only[aN] at hq2
   rw[ho] at hok
   subst hq2
   repeat' (first|(refine Zb (.func 132) ?_;refine qC rfl rfl (hok) ?_;rintro v ρ' L' hle ⟨rfl,rfl,rfl⟩<;>(try simp only[kA]))|refine zV ?_|intro _)
   refine ZB (ZG (.slice va i vc) ((acc.map imV).flatten) sp 180) (λ ρ3 hle3 hfz=>?_)
   obtain⟨sa,sc,e1,hsc,hA⟩:=hown.aIn hal hg hfz
   cases e1
   exact qE ⟨Hp.le_trans hle1 hle3,_,_,_,acc,a2,n2,c2,rfl,hsc,by omega,hA,(λ x hx=>(hP x hx).mono hle3),rfl,h2.mono hle3,rfl⟩
  ·rw[show x1-i=(x1-(i+1))+1 by omega,Xu,if_pos ho] at hq2
   rw[ho] at hok
   have hrow:=λ ρ (h:RdAt ρ a2 n2 c2 ra rn rc Rs s2)=>rchange1_spec ρ tb br cb v r s2 h
   skip
   generalize (imD (decide (r.kind=2))) s2=y at *
   obtain⟨x,s3⟩:=y
   dsimp only at hq2 hrow
   repeat' (first|(refine Zb (.func 132) ?_;refine qC rfl rfl (hok) ?_;rintro v ρ' L' hle ⟨rfl,rfl,rfl⟩<;>(try simp only[kA]))|(refine Zb (.tmp 24) ?_;refine qC rfl rfl (hrow _ h2) ?_;rintro v ρ' L' hle ⟨hle3,y,a3,n3,c3,rfl,hxi,hxp,h3,rfl⟩<;>(try simp only[kA]))|refine zV ?_|intro _)
   refine Ys (css:=[imV y]) (sz:=7) rfl rfl rfl rfl (by simp) (by simp) rfl (λ bs=>?_)
   simp only[aF,List.flatten_nil,aN]
   refine YA (ys:=imV y) (m:=1) rfl rfl hown (hR:=by infer_instance) (SrcV.lit) rfl rfl (by decide) rfl (by omega) (by omega) rfl (λ v' sp' hown'=>?_)
   have hm:(acc.map imV).flatten++imV y=((acc++[y]).map imV).flatten:=by simp
   rw[hm] at hown' ⊢
   repeat' (first|refine zV ?_|intro _)
   have hPn:∀z∈acc++[y],Im.In ρ' z:=λ z hz=>by
    rcases List.mem_append.1 hz with hz|hz
    ·exact (hP z hz).mono hle3
    ·rw[List.mem_singleton.1 hz];exact hxi
   refine rnG (i+1,_,v',sp',acc++[y],a3,n3,c3,s3) (⟨hlt,Hp.le_trans hle1 hle3,hown',by simp[hal],h3,hPn,by rw[hq2];simp[hxp]⟩)
 ·have hi2:i=x1:=by omega
  subst hi2
  rw[Nat.sub_self,Xu] at hq2
  simp only[aN] at hq2
  subst hq2
  repeat' (first|refine zV ?_|intro _)
  refine ZB (ZG (.slice va i vc) ((acc.map imV).flatten) sp 180) (λ ρ3 hle3 hfz=>?_)
  obtain⟨sa,sc,e1,hsc,hA⟩:=hown.aIn hal hg hfz
  cases e1
  exact qE ⟨Hp.le_trans hle1 hle3,_,_,_,acc,a2,n2,c2,rfl,hsc,by omega,hA,(λ x hx=>(hP x hx).mono hle3),rfl,h2.mono hle3,rfl⟩
theorem rmanyStp_spec (ρ:Hp)(tb br cb:Nat)(v:RV)(r:Rc)(s:Yu){a n c ra rn rc Rs}(h:RdAt ρ a n c ra rn rc Rs s) :
  Spec prog 192 [.pointer (some ⟨tb,0,none⟩),.func (.func 193) ⟨[]⟩ ⟨[.pointer (some ⟨cb,0,none⟩)]⟩] ρ (cbC cb tb::rdL tb br a n c ra rn rc v r s)
   (λ z ρ' L'=>ρ.le ρ'/\∃(sa:Option Addr) (sn sc:Nat) (acc:List Stp) (a':Option Addr) (n' c':Nat),z=.slice sa sn sc/\sn<=sc/\sn<=255/\AIn ρ' 6 stpV sa sn acc/\(∀x∈acc,StpFt ρ' x)/\acc=(YR stpD s).1/\RdAt ρ' a' n' c' ra rn rc Rs (YR stpD s).2/\L'=cbC cb tb::rdL tb br a' n' c' ra rn rc v r (YR stpD s).2):=by
 have h8:=n8_spec ρ br h
 have hlt0:=Wn 1 s
 generalize hq:YR stpD s=q
 unfold YR at hq
 rw[show rdL tb br a n c ra rn rc v r s=[reC tb br ra rn rc v r (rdN 1 s).2.2.2,rdC br a n c s.2.1] from rfl]
 generalize rdN 1 s=p at *
 obtain⟨x1,s1⟩:=p
 dsimp only at h8 hlt0 hq ⊢
 refine Za func192 rfl rfl rfl λ u R=>?_
 simp only[Zc,kA]
 repeat' (first|(refine Zb (.func 124) ?_;refine qC rfl rfl (h8) ?_;rintro v ρ' L' hle ⟨rfl,rfl,a1,n1,c1,h1,rfl⟩<;>(try simp only[kA]))|refine zV ?_|intro _)
 refine lpG (Nat×Hp×Value×(List Value)×(List Stp)×(Option Addr)×Nat×Nat×Yu) [0,1,4,6] (λ z=>[(7,.int .i64 z.1),(5,z.2.2.1)]) (λ z=>z.2.1) (λ z=>[ZG z.2.2.1 ((z.2.2.2.2.1.map stpV).flatten) z.2.2.2.1 183,cbC cb tb,reC tb br ra rn rc v r z.2.2.2.2.2.2.2.2.2.2,rdC br z.2.2.2.2.2.1 z.2.2.2.2.2.2.1 z.2.2.2.2.2.2.2.1 z.2.2.2.2.2.2.2.2.2.1]) (λ z=>z.1<=x1/\ρ'.le z.2.1/\OwnS z.2.2.1 z.1 ((z.2.2.2.2.1.map stpV).flatten) z.2.2.2.1 6/\z.2.2.2.2.1.length=z.1/\RdAt z.2.1 z.2.2.2.2.2.1 z.2.2.2.2.2.2.1 z.2.2.2.2.2.2.2.1 ra rn rc Rs z.2.2.2.2.2.2.2.2/\(∀x∈z.2.2.2.2.1,StpFt z.2.1 x)/\q=(z.2.2.2.2.1++(Xu stpD (x1-z.1) z.2.2.2.2.2.2.2.2).1,(Xu stpD (x1-z.1) z.2.2.2.2.2.2.2.2).2)) (λ z=>x1-z.1) (0,ρ',.slice none 0 0,[],[],a1,n1,c1,s1) ⟨aZ _,Hp.le_refl _,OwnS.nil 6,rfl,h1,by simp,by simp[<-hq]⟩ ?_
 rintro⟨i,ρ1,vv,sp,acc,a2,n2,c2,s2⟩ hI
 try simp only[kB] at hI ⊢
 try dsimp only at hI ⊢
 obtain⟨hi,hle1,hown,hal,h2,hP,hq2⟩:=hI
 obtain⟨va,vc,rfl,_⟩:=hown.slice
 have hg:∀x∈acc,(stpV x).length=6:=λ x _=>rfl
 have hok:=rok_spec ρ1 tb br a2 n2 c2 ra rn rc v r s2
 by_cases hlt:i<x1
 ·cases ho:okS s2
  ·have hm0:Xu stpD (x1-i) s2=([],s2):=by
    rw[show x1-i=(x1-(i+1))+1 by omega,Xu,ho];rfl
   rw[hm0] at hq2
   simp only[aN] at hq2
   rw[ho] at hok
   subst hq2
   repeat' (first|(refine Zb (.func 132) ?_;refine qC rfl rfl (hok) ?_;rintro v ρ' L' hle ⟨rfl,rfl,rfl⟩<;>(try simp only[kA]))|refine zV ?_|intro _)
   refine ZB (ZG (.slice va i vc) ((acc.map stpV).flatten) sp 183) (λ ρ3 hle3 hfz=>?_)
   obtain⟨sa,sc,e1,hsc,hA⟩:=hown.aIn hal hg hfz
   cases e1
   exact qE ⟨Hp.le_trans hle1 hle3,_,_,_,acc,a2,n2,c2,rfl,hsc,by omega,hA,hP,rfl,h2.mono hle3,rfl⟩
  ·rw[show x1-i=(x1-(i+1))+1 by omega,Xu,if_pos ho] at hq2
   rw[ho] at hok
   have hrow:=λ ρ (h:RdAt ρ a2 n2 c2 ra rn rc Rs s2)=>rdone1_spec ρ tb br cb v r s2 h
   skip
   generalize stpD s2=y at *
   obtain⟨x,s3⟩:=y
   dsimp only at hq2 hrow
   repeat' (first|(refine Zb (.func 132) ?_;refine qC rfl rfl (hok) ?_;rintro v ρ' L' hle ⟨rfl,rfl,rfl⟩<;>(try simp only[kA]))|(refine Zb (.tmp 24) ?_;refine qC rfl rfl (hrow _ h2) ?_;rintro v ρ' L' hle ⟨hle3,rfl,hxi,a3,n3,c3,h3,rfl⟩<;>(try simp only[kA]))|refine zV ?_|intro _)
   refine Ys (css:=[stpV x]) (sz:=6) rfl rfl rfl rfl (by simp) (by simp) rfl (λ bs=>?_)
   simp only[aF,List.flatten_nil,aN]
   refine YA (ys:=stpV x) (m:=1) rfl rfl hown (hR:=by infer_instance) (SrcV.lit) rfl rfl (by decide) rfl (by omega) (by omega) rfl (λ v' sp' hown'=>?_)
   have hm:(acc.map stpV).flatten++stpV x=((acc++[x]).map stpV).flatten:=by simp
   rw[hm] at hown' ⊢
   repeat' (first|refine zV ?_|intro _)
   have hPn:∀z∈acc++[x],StpFt ρ' z:=λ z hz=>by
    rcases List.mem_append.1 hz with hz|hz
    ·exact hP z hz
    ·rw[List.mem_singleton.1 hz];exact hxi
   refine rnG (i+1,_,v',sp',acc++[x],a3,n3,c3,s3) (⟨hlt,Hp.le_trans hle1 hle3,hown',by simp[hal],h3,hPn,by rw[hq2];simp⟩)
 ·have hi2:i=x1:=by omega
  subst hi2
  rw[Nat.sub_self,Xu] at hq2
  simp only[aN] at hq2
  subst hq2
  repeat' (first|refine zV ?_|intro _)
  refine ZB (ZG (.slice va i vc) ((acc.map stpV).flatten) sp 183) (λ ρ3 hle3 hfz=>?_)
  obtain⟨sa,sc,e1,hsc,hA⟩:=hown.aIn hal hg hfz
  cases e1
  exact qE ⟨Hp.le_trans hle1 hle3,_,_,_,acc,a2,n2,c2,rfl,hsc,by omega,hA,hP,rfl,h2.mono hle3,rfl⟩
theorem rmanyCkT_spec (ρ:Hp)(tb br cb:Nat)(v:RV)(r:Rc)(s:Yu){a n c ra rn rc Rs}(h:RdAt ρ a n c ra rn rc Rs s) :
  Spec prog 197 [.pointer (some ⟨tb,0,none⟩),.func (.func 198) ⟨[]⟩ ⟨[.pointer (some ⟨cb,0,none⟩)]⟩] ρ (cbC cb tb::rdL tb br a n c ra rn rc v r s)
   (λ z ρ' L'=>ρ.le ρ'/\∃(sa:Option Addr) (sn sc:Nat) (acc:List CkT) (a':Option Addr) (n' c':Nat),z=.slice sa sn sc/\sn<=sc/\sn<=255/\AIn ρ' 5 ckTV sa sn acc/\(∀x∈acc,AnyF ρ' x)/\acc=(YR ckTD s).1/\RdAt ρ' a' n' c' ra rn rc Rs (YR ckTD s).2/\L'=cbC cb tb::rdL tb br a' n' c' ra rn rc v r (YR ckTD s).2):=by
 have h8:=n8_spec ρ br h
 have hlt0:=Wn 1 s
 generalize hq:YR ckTD s=q
 unfold YR at hq
 rw[show rdL tb br a n c ra rn rc v r s=[reC tb br ra rn rc v r (rdN 1 s).2.2.2,rdC br a n c s.2.1] from rfl]
 generalize rdN 1 s=p at *
 obtain⟨x1,s1⟩:=p
 dsimp only at h8 hlt0 hq ⊢
 refine Za func197 rfl rfl rfl λ u R=>?_
 simp only[Zc,kA]
 repeat' (first|(refine Zb (.func 124) ?_;refine qC rfl rfl (h8) ?_;rintro v ρ' L' hle ⟨rfl,rfl,a1,n1,c1,h1,rfl⟩<;>(try simp only[kA]))|refine zV ?_|intro _)
 refine lpG (Nat×Hp×Value×(List Value)×(List CkT)×(Option Addr)×Nat×Nat×Yu) [0,1,4,6] (λ z=>[(7,.int .i64 z.1),(5,z.2.2.1)]) (λ z=>z.2.1) (λ z=>[ZG z.2.2.1 ((z.2.2.2.2.1.map ckTV).flatten) z.2.2.2.1 116,cbC cb tb,reC tb br ra rn rc v r z.2.2.2.2.2.2.2.2.2.2,rdC br z.2.2.2.2.2.1 z.2.2.2.2.2.2.1 z.2.2.2.2.2.2.2.1 z.2.2.2.2.2.2.2.2.2.1]) (λ z=>z.1<=x1/\ρ'.le z.2.1/\OwnS z.2.2.1 z.1 ((z.2.2.2.2.1.map ckTV).flatten) z.2.2.2.1 5/\z.2.2.2.2.1.length=z.1/\RdAt z.2.1 z.2.2.2.2.2.1 z.2.2.2.2.2.2.1 z.2.2.2.2.2.2.2.1 ra rn rc Rs z.2.2.2.2.2.2.2.2/\(∀x∈z.2.2.2.2.1,AnyF z.2.1 x)/\q=(z.2.2.2.2.1++(Xu ckTD (x1-z.1) z.2.2.2.2.2.2.2.2).1,(Xu ckTD (x1-z.1) z.2.2.2.2.2.2.2.2).2)) (λ z=>x1-z.1) (0,ρ',.slice none 0 0,[],[],a1,n1,c1,s1) ⟨aZ _,Hp.le_refl _,OwnS.nil 5,rfl,h1,by simp,by simp[<-hq]⟩ ?_
 rintro⟨i,ρ1,vv,sp,acc,a2,n2,c2,s2⟩ hI
 try simp only[kB] at hI ⊢
 try dsimp only at hI ⊢
 obtain⟨hi,hle1,hown,hal,h2,hP,hq2⟩:=hI
 obtain⟨va,vc,rfl,_⟩:=hown.slice
 have hg:∀x∈acc,(ckTV x).length=5:=λ x _=>rfl
 have hok:=rok_spec ρ1 tb br a2 n2 c2 ra rn rc v r s2
 by_cases hlt:i<x1
 ·cases ho:okS s2
  ·have hm0:Xu ckTD (x1-i) s2=([],s2):=by
    rw[show x1-i=(x1-(i+1))+1 by omega,Xu,ho];rfl
   rw[hm0] at hq2
   simp only[aN] at hq2
   rw[ho] at hok
   subst hq2
   repeat' (first|(refine Zb (.func 132) ?_;refine qC rfl rfl (hok) ?_;rintro v ρ' L' hle ⟨rfl,rfl,rfl⟩<;>(try simp only[kA]))|refine zV ?_|intro _)
   refine ZB (ZG (.slice va i vc) ((acc.map ckTV).flatten) sp 116) (λ ρ3 hle3 hfz=>?_)
   obtain⟨sa,sc,e1,hsc,hA⟩:=hown.aIn hal hg hfz
   cases e1
   exact qE ⟨Hp.le_trans hle1 hle3,_,_,_,acc,a2,n2,c2,rfl,hsc,by omega,hA,hP,rfl,h2.mono hle3,rfl⟩
  ·rw[show x1-i=(x1-(i+1))+1 by omega,Xu,if_pos ho] at hq2
   rw[ho] at hok
   have hrow:=λ ρ (h:RdAt ρ a2 n2 c2 ra rn rc Rs s2)=>rckpt1_spec ρ tb br cb v r s2 h
   skip
   generalize ckTD s2=y at *
   obtain⟨x,s3⟩:=y
   dsimp only at hq2 hrow
   repeat' (first|(refine Zb (.func 132) ?_;refine qC rfl rfl (hok) ?_;rintro v ρ' L' hle ⟨rfl,rfl,rfl⟩<;>(try simp only[kA]))|(refine Zb (.tmp 24) ?_;refine qC rfl rfl (hrow _ h2) ?_;rintro v ρ' L' hle ⟨hle3,rfl,hxi,a3,n3,c3,h3,rfl⟩<;>(try simp only[kA]))|refine zV ?_|intro _)
   refine Ys (css:=[ckTV x]) (sz:=5) rfl rfl rfl rfl (by simp) (by simp) rfl (λ bs=>?_)
   simp only[aF,List.flatten_nil,aN]
   refine YA (ys:=ckTV x) (m:=1) rfl rfl hown (hR:=by infer_instance) (SrcV.lit) rfl rfl (by decide) rfl (by omega) (by omega) rfl (λ v' sp' hown'=>?_)
   have hm:(acc.map ckTV).flatten++ckTV x=((acc++[x]).map ckTV).flatten:=by simp
   rw[hm] at hown' ⊢
   repeat' (first|refine zV ?_|intro _)
   have hPn:∀z∈acc++[x],AnyF ρ' z:=λ z hz=>by
    rcases List.mem_append.1 hz with hz|hz
    ·exact hP z hz
    ·rw[List.mem_singleton.1 hz];exact hxi
   refine rnG (i+1,_,v',sp',acc++[x],a3,n3,c3,s3) (⟨hlt,Hp.le_trans hle1 hle3,hown',by simp[hal],h3,hPn,by rw[hq2];simp⟩)
 ·have hi2:i=x1:=by omega
  subst hi2
  rw[Nat.sub_self,Xu] at hq2
  simp only[aN] at hq2
  subst hq2
  repeat' (first|refine zV ?_|intro _)
  refine ZB (ZG (.slice va i vc) ((acc.map ckTV).flatten) sp 116) (λ ρ3 hle3 hfz=>?_)
  obtain⟨sa,sc,e1,hsc,hA⟩:=hown.aIn hal hg hfz
  cases e1
  exact qE ⟨Hp.le_trans hle1 hle3,_,_,_,acc,a2,n2,c2,rfl,hsc,by omega,hA,hP,rfl,h2.mono hle3,rfl⟩
theorem rmanyCkP_spec (ρ:Hp)(tb br cb:Nat)(v:RV)(r:Rc)(s:Yu){a n c ra rn rc Rs}(h:RdAt ρ a n c ra rn rc Rs s) :
  Spec prog 199 [.pointer (some ⟨tb,0,none⟩),.func (.func 200) ⟨[]⟩ ⟨[.pointer (some ⟨cb,0,none⟩)]⟩] ρ (cbC cb tb::rdL tb br a n c ra rn rc v r s)
   (λ z ρ' L'=>ρ.le ρ'/\∃(sa:Option Addr) (sn sc:Nat) (acc:List CkP) (a':Option Addr) (n' c':Nat),z=.slice sa sn sc/\sn<=sc/\sn<=255/\AIn ρ' 2 ckPV sa sn acc/\(∀x∈acc,AnyF ρ' x)/\acc=(YR ckPD s).1/\RdAt ρ' a' n' c' ra rn rc Rs (YR ckPD s).2/\L'=cbC cb tb::rdL tb br a' n' c' ra rn rc v r (YR ckPD s).2):=by
 have h8:=n8_spec ρ br h
 have hlt0:=Wn 1 s
 generalize hq:YR ckPD s=q
 unfold YR at hq
 rw[show rdL tb br a n c ra rn rc v r s=[reC tb br ra rn rc v r (rdN 1 s).2.2.2,rdC br a n c s.2.1] from rfl]
 generalize rdN 1 s=p at *
 obtain⟨x1,s1⟩:=p
 dsimp only at h8 hlt0 hq ⊢
 refine Za func199 rfl rfl rfl λ u R=>?_
 simp only[Zc,kA]
 repeat' (first|(refine Zb (.func 124) ?_;refine qC rfl rfl (h8) ?_;rintro v ρ' L' hle ⟨rfl,rfl,a1,n1,c1,h1,rfl⟩<;>(try simp only[kA]))|refine zV ?_|intro _)
 refine lpG (Nat×Hp×Value×(List Value)×(List CkP)×(Option Addr)×Nat×Nat×Yu) [0,1,4,6] (λ z=>[(7,.int .i64 z.1),(5,z.2.2.1)]) (λ z=>z.2.1) (λ z=>[ZG z.2.2.1 ((z.2.2.2.2.1.map ckPV).flatten) z.2.2.2.1 118,cbC cb tb,reC tb br ra rn rc v r z.2.2.2.2.2.2.2.2.2.2,rdC br z.2.2.2.2.2.1 z.2.2.2.2.2.2.1 z.2.2.2.2.2.2.2.1 z.2.2.2.2.2.2.2.2.2.1]) (λ z=>z.1<=x1/\ρ'.le z.2.1/\OwnS z.2.2.1 z.1 ((z.2.2.2.2.1.map ckPV).flatten) z.2.2.2.1 2/\z.2.2.2.2.1.length=z.1/\RdAt z.2.1 z.2.2.2.2.2.1 z.2.2.2.2.2.2.1 z.2.2.2.2.2.2.2.1 ra rn rc Rs z.2.2.2.2.2.2.2.2/\(∀x∈z.2.2.2.2.1,AnyF z.2.1 x)/\q=(z.2.2.2.2.1++(Xu ckPD (x1-z.1) z.2.2.2.2.2.2.2.2).1,(Xu ckPD (x1-z.1) z.2.2.2.2.2.2.2.2).2)) (λ z=>x1-z.1) (0,ρ',.slice none 0 0,[],[],a1,n1,c1,s1) ⟨aZ _,Hp.le_refl _,OwnS.nil 2,rfl,h1,by simp,by simp[<-hq]⟩ ?_
 rintro⟨i,ρ1,vv,sp,acc,a2,n2,c2,s2⟩ hI
 try simp only[kB] at hI ⊢
 try dsimp only at hI ⊢
 obtain⟨hi,hle1,hown,hal,h2,hP,hq2⟩:=hI
 obtain⟨va,vc,rfl,_⟩:=hown.slice
 have hg:∀x∈acc,(ckPV x).length=2:=λ x _=>rfl
 have hok:=rok_spec ρ1 tb br a2 n2 c2 ra rn rc v r s2
 by_cases hlt:i<x1
 ·cases ho:okS s2
  ·have hm0:Xu ckPD (x1-i) s2=([],s2):=by
    rw[show x1-i=(x1-(i+1))+1 by omega,Xu,ho];rfl
   rw[hm0] at hq2
   simp only[aN] at hq2
   rw[ho] at hok
   subst hq2
   repeat' (first|(refine Zb (.func 132) ?_;refine qC rfl rfl (hok) ?_;rintro v ρ' L' hle ⟨rfl,rfl,rfl⟩<;>(try simp only[kA]))|refine zV ?_|intro _)
   refine ZB (ZG (.slice va i vc) ((acc.map ckPV).flatten) sp 118) (λ ρ3 hle3 hfz=>?_)
   obtain⟨sa,sc,e1,hsc,hA⟩:=hown.aIn hal hg hfz
   cases e1
   exact qE ⟨Hp.le_trans hle1 hle3,_,_,_,acc,a2,n2,c2,rfl,hsc,by omega,hA,hP,rfl,h2.mono hle3,rfl⟩
  ·rw[show x1-i=(x1-(i+1))+1 by omega,Xu,if_pos ho] at hq2
   rw[ho] at hok
   have hrow:=λ ρ (h:RdAt ρ a2 n2 c2 ra rn rc Rs s2)=>rckpt2_spec ρ tb br cb v r s2 h
   skip
   generalize ckPD s2=y at *
   obtain⟨x,s3⟩:=y
   dsimp only at hq2 hrow
   repeat' (first|(refine Zb (.func 132) ?_;refine qC rfl rfl (hok) ?_;rintro v ρ' L' hle ⟨rfl,rfl,rfl⟩<;>(try simp only[kA]))|(refine Zb (.tmp 24) ?_;refine qC rfl rfl (hrow _ h2) ?_;rintro v ρ' L' hle ⟨hle3,rfl,hxi,a3,n3,c3,h3,rfl⟩<;>(try simp only[kA]))|refine zV ?_|intro _)
   refine Ys (css:=[ckPV x]) (sz:=2) rfl rfl rfl rfl (by simp) (by simp) rfl (λ bs=>?_)
   simp only[aF,List.flatten_nil,aN]
   refine YA (ys:=ckPV x) (m:=1) rfl rfl hown (hR:=by infer_instance) (SrcV.lit) rfl rfl (by decide) rfl (by omega) (by omega) rfl (λ v' sp' hown'=>?_)
   have hm:(acc.map ckPV).flatten++ckPV x=((acc++[x]).map ckPV).flatten:=by simp
   rw[hm] at hown' ⊢
   repeat' (first|refine zV ?_|intro _)
   have hPn:∀z∈acc++[x],AnyF ρ' z:=λ z hz=>by
    rcases List.mem_append.1 hz with hz|hz
    ·exact hP z hz
    ·rw[List.mem_singleton.1 hz];exact hxi
   refine rnG (i+1,_,v',sp',acc++[x],a3,n3,c3,s3) (⟨hlt,Hp.le_trans hle1 hle3,hown',by simp[hal],h3,hPn,by rw[hq2];simp⟩)
 ·have hi2:i=x1:=by omega
  subst hi2
  rw[Nat.sub_self,Xu] at hq2
  simp only[aN] at hq2
  subst hq2
  repeat' (first|refine zV ?_|intro _)
  refine ZB (ZG (.slice va i vc) ((acc.map ckPV).flatten) sp 118) (λ ρ3 hle3 hfz=>?_)
  obtain⟨sa,sc,e1,hsc,hA⟩:=hown.aIn hal hg hfz
  cases e1
  exact qE ⟨Hp.le_trans hle1 hle3,_,_,_,acc,a2,n2,c2,rfl,hsc,by omega,hA,hP,rfl,h2.mono hle3,rfl⟩
end Go.Proofs.E
