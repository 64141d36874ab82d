/- Laws of LogReads. Part 12 of 28. -/
import Derived.Test.YtpcfmhifkkpjpaaGreatC11
namespace Go.Proofs.E
open Go
set_option linter.unusedVariables false
set_option linter.unusedSimpArgs false
set_option linter.unusedSectionVars false
set_option maxRecDepth 4000
set_option maxHeartbeats 1000000
attribute [local irreducible] Yl TL TC TE Spec ZI R1 Hp.le EnvLe TS TR YS Zp
abbrev StpFt (_:Hp)(x:Stp):Prop:=Yx x.row
abbrev AnyF {α:Type}(_:Hp)(_:α):Prop:=True
theorem rmanyIm_spec (ρ:Hp)(tb br cb:Nat)(v:RV)(r:Rc)(s:Yc){a n c ra rn rc Rs}(h:RdAt ρ a n c ra rn rc Rs s) :
  Spec Tryz.prog 244 [.pointer (some ⟨tb,0,none⟩),.func (.func 245) ⟨[]⟩ ⟨[.pointer (some ⟨cb,0,none⟩)]⟩] ρ (cbC cb tb::rdL tb br a n c ra rn rc v r s)
   (fun z ρ' L'=>ρ.le ρ'∧∃(sa:Option Addr) (sn sc:Nat) (acc:List Im) (a':Option Addr) (n' c':Nat),z=.slice sa sn sc∧sn≤sc∧sn≤255∧AIn ρ' 7 imV sa sn acc∧(∀x∈acc,Im.In ρ' x)∧acc.map Im.plain=(YA (imD (decide (r.kind=2))) s).1∧RdAt ρ' a' n' c' ra rn rc Rs (YA (imD (decide (r.kind=2))) s).2∧L'=cbC cb tb::rdL tb br a' n' c' ra rn rc v r (YA (imD (decide (r.kind=2))) s).2):=by
 have h8:=n8_spec ρ br h
 have hlt0:=Wn 1 s
 generalize hq:YA (imD (decide (r.kind=2))) s=q
 unfold YA at hq
 rw[show rdL tb br a n c ra rn rc v r s=[reC tb br ra rn rc v r (ZC 1 s).2.2.2,rdC br a n c s.2.1] from rfl]
 generalize ZC 1 s=p at *
 obtain⟨x1,s1⟩:=p
 dsimp only at h8 hlt0 hq ⊢
 refine Zb Tryz.func244 rfl rfl rfl fun u R=>?_
 simp only[Zd,kA]
 repeat' (first|(refine Za (.func 178) ?_;refine qC rfl rfl (h8) ?_;rintro v ρ' L' hle ⟨rfl,rfl,a1,n1,c1,h1,rfl⟩<;>(try simp only[kA]))|refine zV ?_|intro _)
 refine Zi [(0,_),(1,_),(4,_),(6,_)] (fun (ζ:(Nat)×(Hp)×(Value)×(List Value)×(List Im)×(Option Addr)×(Nat)×(Nat)×(Yc))=>[(7,.int .i64 ζ.1),(5,ζ.2.2.1)]) (fun (ζ:(Nat)×(Hp)×(Value)×(List Value)×(List Im)×(Option Addr)×(Nat)×(Nat)×(Yc))=>ζ.2.1) (fun (ζ:(Nat)×(Hp)×(Value)×(List Value)×(List Im)×(Option Addr)×(Nat)×(Nat)×(Yc))=>[Zz ζ.2.2.1 ((ζ.2.2.2.2.1.map imV).flatten) ζ.2.2.2.1 165,cbC cb tb,reC tb br ra rn rc v r ζ.2.2.2.2.2.2.2.2.2.2,rdC br ζ.2.2.2.2.2.1 ζ.2.2.2.2.2.2.1 ζ.2.2.2.2.2.2.2.1 ζ.2.2.2.2.2.2.2.2.2.1]) (fun (ζ:(Nat)×(Hp)×(Value)×(List Value)×(List Im)×(Option Addr)×(Nat)×(Nat)×(Yc))=>ζ.1≤x1∧ρ'.le ζ.2.1∧OwnS ζ.2.2.1 ζ.1 ((ζ.2.2.2.2.1.map imV).flatten) ζ.2.2.2.1 7∧ζ.2.2.2.2.1.length=ζ.1∧RdAt ζ.2.1 ζ.2.2.2.2.2.1 ζ.2.2.2.2.2.2.1 ζ.2.2.2.2.2.2.2.1 ra rn rc Rs ζ.2.2.2.2.2.2.2.2∧(∀x∈ζ.2.2.2.2.1,Im.In ζ.2.1 x)∧q=(ζ.2.2.2.2.1.map Im.plain++(ZQ (imD (decide (r.kind=2))) (x1-ζ.1) ζ.2.2.2.2.2.2.2.2).1,(ZQ (imD (decide (r.kind=2))) (x1-ζ.1) ζ.2.2.2.2.2.2.2.2).2)) (fun (ζ:(Nat)×(Hp)×(Value)×(List Value)×(List Im)×(Option Addr)×(Nat)×(Nat)×(Yc))=>x1-ζ.1) ((0,ρ',.slice none 0 0,[],[],a1,n1,c1,s1)) (⟨Nat.zero_le _,Hp.le_refl _,OwnS.nil 7,rfl,h1,by simp,by simp[←hq]⟩) Zc Zc rfl tk ?_
 rintro⟨i,ρ1,vv,sp,acc,a2,n2,c2,s2⟩ hI
 try simp only[kA,List.append_assoc] at hI ⊢
 try dsimp only at hI ⊢
 obtain⟨hi,hle1,hown,hal,h2,hP,hq2⟩:=hI
 obtain⟨va,vc,rfl,_⟩:=hown.slice
 have hg:∀x∈acc,(imV x).length=7:=fun x _=>rfl
 have hok:=rok_spec ρ1 tb br a2 n2 c2 ra rn rc v r s2
 by_cases hlt:i<x1
 ·cases ho:okS s2
  ·have hm0:ZQ (imD (decide (r.kind=2))) (x1-i) s2=([],s2):=by
    rw[show x1-i=(x1-(i+1))+1 by omega,ZQ,ho];rfl
   rw[hm0] at hq2
   simp only[List.append_nil] at hq2
   rw[ho] at hok
   subst hq2
   repeat' (first|(refine Za (.func 186) ?_;refine qC rfl rfl (hok) ?_;rintro v ρ' L' hle ⟨rfl,rfl,rfl⟩<;>(try simp only[kA]))|refine zV ?_|intro _)
   refine ZM (Zz (.slice va i vc) ((acc.map imV).flatten) sp 165) (fun ρ3 hle3 hfz=>?_)
   obtain⟨sa,sc,e1,hsc,hA⟩:=hown.aIn hal hg hfz
   cases e1
   exact qE ⟨Hp.le_trans hle1 hle3,_,_,_,acc,a2,n2,c2,rfl,hsc,by omega,hA,(fun x hx=>(hP x hx).mono hle3),rfl,h2.mono hle3,rfl⟩
  ·rw[show x1-i=(x1-(i+1))+1 by omega,ZQ,if_pos ho] at hq2
   rw[ho] at hok
   have hrow:=fun ρ (h:RdAt ρ a2 n2 c2 ra rn rc Rs s2)=>rchange1_spec ρ tb br cb v r s2 h
   skip
   generalize (imD (decide (r.kind=2))) s2=y at *
   obtain⟨x,s3⟩:=y
   dsimp only at hq2 hrow
   repeat' (first|(refine Za (.func 186) ?_;refine qC rfl rfl (hok) ?_;rintro v ρ' L' hle ⟨rfl,rfl,rfl⟩<;>(try simp only[kA]))|(refine Za (.tmp 24) ?_;refine qC rfl rfl (hrow _ h2) ?_;rintro v ρ' L' hle ⟨hle3,y,a3,n3,c3,rfl,hxi,hxp,h3,rfl⟩<;>(try simp only[kA]))|refine zV ?_|intro _)
   refine Zv (css:=[imV y]) (sz:=7) rfl rfl rfl rfl (by simp) (by simp) rfl (fun bs=>?_)
   simp only[List.flatten_cons,List.flatten_nil,List.append_nil]
   refine ZK (ys:=imV y) (m:=1) rfl rfl hown (hR:=by infer_instance) (SrcV.lit) rfl rfl (by decide) rfl (by omega) (by omega) rfl (fun v' sp' hown'=>?_)
   have hm:(acc.map imV).flatten++imV y=((acc++[y]).map imV).flatten:=by simp
   rw[hm] at hown' ⊢
   repeat' (first|refine zV ?_|intro _)
   have hPn:∀z∈acc++[y],Im.In ρ' z:=fun z hz=>by
    rcases List.mem_append.1 hz with hz|hz
    ·exact (hP z hz).mono hle3
    ·rw[List.mem_singleton.1 hz];exact hxi
   refine Ze (i+1,_,v',sp',acc++[y],a3,n3,c3,s3) (⟨hlt,Hp.le_trans hle1 hle3,hown',by simp[hal],h3,hPn,by rw[hq2];simp[hxp]⟩) Zc Zc rfl tk inferInstance (by first|omega|(dsimp only;omega))
 ·have hi2:i=x1:=by omega
  subst hi2
  rw[Nat.sub_self,ZQ] at hq2
  simp only[List.append_nil] at hq2
  subst hq2
  repeat' (first|refine zV ?_|intro _)
  refine ZM (Zz (.slice va i vc) ((acc.map imV).flatten) sp 165) (fun ρ3 hle3 hfz=>?_)
  obtain⟨sa,sc,e1,hsc,hA⟩:=hown.aIn hal hg hfz
  cases e1
  exact qE ⟨Hp.le_trans hle1 hle3,_,_,_,acc,a2,n2,c2,rfl,hsc,by omega,hA,(fun x hx=>(hP x hx).mono hle3),rfl,h2.mono hle3,rfl⟩
theorem rmanyStp_spec (ρ:Hp)(tb br cb:Nat)(v:RV)(r:Rc)(s:Yc){a n c ra rn rc Rs}(h:RdAt ρ a n c ra rn rc Rs s) :
  Spec Tryz.prog 248 [.pointer (some ⟨tb,0,none⟩),.func (.func 249) ⟨[]⟩ ⟨[.pointer (some ⟨cb,0,none⟩)]⟩] ρ (cbC cb tb::rdL tb br a n c ra rn rc v r s)
   (fun z ρ' L'=>ρ.le ρ'∧∃(sa:Option Addr) (sn sc:Nat) (acc:List Stp) (a':Option Addr) (n' c':Nat),z=.slice sa sn sc∧sn≤sc∧sn≤255∧AIn ρ' 6 YK sa sn acc∧(∀x∈acc,StpFt ρ' x)∧acc=(YA WB s).1∧RdAt ρ' a' n' c' ra rn rc Rs (YA WB s).2∧L'=cbC cb tb::rdL tb br a' n' c' ra rn rc v r (YA WB s).2):=by
 have h8:=n8_spec ρ br h
 have hlt0:=Wn 1 s
 generalize hq:YA WB s=q
 unfold YA at hq
 rw[show rdL tb br a n c ra rn rc v r s=[reC tb br ra rn rc v r (ZC 1 s).2.2.2,rdC br a n c s.2.1] from rfl]
 generalize ZC 1 s=p at *
 obtain⟨x1,s1⟩:=p
 dsimp only at h8 hlt0 hq ⊢
 refine Zb Tryz.func248 rfl rfl rfl fun u R=>?_
 simp only[Zd,kA]
 repeat' (first|(refine Za (.func 178) ?_;refine qC rfl rfl (h8) ?_;rintro v ρ' L' hle ⟨rfl,rfl,a1,n1,c1,h1,rfl⟩<;>(try simp only[kA]))|refine zV ?_|intro _)
 refine Zi [(0,_),(1,_),(4,_),(6,_)] (fun (ζ:(Nat)×(Hp)×(Value)×(List Value)×(List Stp)×(Option Addr)×(Nat)×(Nat)×(Yc))=>[(7,.int .i64 ζ.1),(5,ζ.2.2.1)]) (fun (ζ:(Nat)×(Hp)×(Value)×(List Value)×(List Stp)×(Option Addr)×(Nat)×(Nat)×(Yc))=>ζ.2.1) (fun (ζ:(Nat)×(Hp)×(Value)×(List Value)×(List Stp)×(Option Addr)×(Nat)×(Nat)×(Yc))=>[Zz ζ.2.2.1 ((ζ.2.2.2.2.1.map YK).flatten) ζ.2.2.2.1 173,cbC cb tb,reC tb br ra rn rc v r ζ.2.2.2.2.2.2.2.2.2.2,rdC br ζ.2.2.2.2.2.1 ζ.2.2.2.2.2.2.1 ζ.2.2.2.2.2.2.2.1 ζ.2.2.2.2.2.2.2.2.2.1]) (fun (ζ:(Nat)×(Hp)×(Value)×(List Value)×(List Stp)×(Option Addr)×(Nat)×(Nat)×(Yc))=>ζ.1≤x1∧ρ'.le ζ.2.1∧OwnS ζ.2.2.1 ζ.1 ((ζ.2.2.2.2.1.map YK).flatten) ζ.2.2.2.1 6∧ζ.2.2.2.2.1.length=ζ.1∧RdAt ζ.2.1 ζ.2.2.2.2.2.1 ζ.2.2.2.2.2.2.1 ζ.2.2.2.2.2.2.2.1 ra rn rc Rs ζ.2.2.2.2.2.2.2.2∧(∀x∈ζ.2.2.2.2.1,StpFt ζ.2.1 x)∧q=(ζ.2.2.2.2.1++(ZQ WB (x1-ζ.1) ζ.2.2.2.2.2.2.2.2).1,(ZQ WB (x1-ζ.1) ζ.2.2.2.2.2.2.2.2).2)) (fun (ζ:(Nat)×(Hp)×(Value)×(List Value)×(List Stp)×(Option Addr)×(Nat)×(Nat)×(Yc))=>x1-ζ.1) ((0,ρ',.slice none 0 0,[],[],a1,n1,c1,s1)) (⟨Nat.zero_le _,Hp.le_refl _,OwnS.nil 6,rfl,h1,by simp,by simp[←hq]⟩) Zc Zc rfl tk ?_
 rintro⟨i,ρ1,vv,sp,acc,a2,n2,c2,s2⟩ hI
 try simp only[kA,List.append_assoc] at hI ⊢
 try dsimp only at hI ⊢
 obtain⟨hi,hle1,hown,hal,h2,hP,hq2⟩:=hI
 obtain⟨va,vc,rfl,_⟩:=hown.slice
 have hg:∀x∈acc,(YK x).length=6:=fun x _=>rfl
 have hok:=rok_spec ρ1 tb br a2 n2 c2 ra rn rc v r s2
 by_cases hlt:i<x1
 ·cases ho:okS s2
  ·have hm0:ZQ WB (x1-i) s2=([],s2):=by
    rw[show x1-i=(x1-(i+1))+1 by omega,ZQ,ho];rfl
   rw[hm0] at hq2
   simp only[List.append_nil] at hq2
   rw[ho] at hok
   subst hq2
   repeat' (first|(refine Za (.func 186) ?_;refine qC rfl rfl (hok) ?_;rintro v ρ' L' hle ⟨rfl,rfl,rfl⟩<;>(try simp only[kA]))|refine zV ?_|intro _)
   refine ZM (Zz (.slice va i vc) ((acc.map YK).flatten) sp 173) (fun ρ3 hle3 hfz=>?_)
   obtain⟨sa,sc,e1,hsc,hA⟩:=hown.aIn hal hg hfz
   cases e1
   exact qE ⟨Hp.le_trans hle1 hle3,_,_,_,acc,a2,n2,c2,rfl,hsc,by omega,hA,hP,rfl,h2.mono hle3,rfl⟩
  ·rw[show x1-i=(x1-(i+1))+1 by omega,ZQ,if_pos ho] at hq2
   rw[ho] at hok
   have hrow:=fun ρ (h:RdAt ρ a2 n2 c2 ra rn rc Rs s2)=>rdone1_spec ρ tb br cb v r s2 h
   skip
   generalize WB s2=y at *
   obtain⟨x,s3⟩:=y
   dsimp only at hq2 hrow
   repeat' (first|(refine Za (.func 186) ?_;refine qC rfl rfl (hok) ?_;rintro v ρ' L' hle ⟨rfl,rfl,rfl⟩<;>(try simp only[kA]))|(refine Za (.tmp 24) ?_;refine qC rfl rfl (hrow _ h2) ?_;rintro v ρ' L' hle ⟨hle3,rfl,hxi,a3,n3,c3,h3,rfl⟩<;>(try simp only[kA]))|refine zV ?_|intro _)
   refine Zv (css:=[YK x]) (sz:=6) rfl rfl rfl rfl (by simp) (by simp) rfl (fun bs=>?_)
   simp only[List.flatten_cons,List.flatten_nil,List.append_nil]
   refine ZK (ys:=YK x) (m:=1) rfl rfl hown (hR:=by infer_instance) (SrcV.lit) rfl rfl (by decide) rfl (by omega) (by omega) rfl (fun v' sp' hown'=>?_)
   have hm:(acc.map YK).flatten++YK x=((acc++[x]).map YK).flatten:=by simp
   rw[hm] at hown' ⊢
   repeat' (first|refine zV ?_|intro _)
   have hPn:∀z∈acc++[x],StpFt ρ' z:=fun z hz=>by
    rcases List.mem_append.1 hz with hz|hz
    ·exact hP z hz
    ·rw[List.mem_singleton.1 hz];exact hxi
   refine Ze (i+1,_,v',sp',acc++[x],a3,n3,c3,s3) (⟨hlt,Hp.le_trans hle1 hle3,hown',by simp[hal],h3,hPn,by rw[hq2];simp⟩) Zc Zc rfl tk inferInstance (by first|omega|(dsimp only;omega))
 ·have hi2:i=x1:=by omega
  subst hi2
  rw[Nat.sub_self,ZQ] at hq2
  simp only[List.append_nil] at hq2
  subst hq2
  repeat' (first|refine zV ?_|intro _)
  refine ZM (Zz (.slice va i vc) ((acc.map YK).flatten) sp 173) (fun ρ3 hle3 hfz=>?_)
  obtain⟨sa,sc,e1,hsc,hA⟩:=hown.aIn hal hg hfz
  cases e1
  exact qE ⟨Hp.le_trans hle1 hle3,_,_,_,acc,a2,n2,c2,rfl,hsc,by omega,hA,hP,rfl,h2.mono hle3,rfl⟩
theorem rmanyCkT_spec (ρ:Hp)(tb br cb:Nat)(v:RV)(r:Rc)(s:Yc){a n c ra rn rc Rs}(h:RdAt ρ a n c ra rn rc Rs s) :
  Spec Tryz.prog 253 [.pointer (some ⟨tb,0,none⟩),.func (.func 254) ⟨[]⟩ ⟨[.pointer (some ⟨cb,0,none⟩)]⟩] ρ (cbC cb tb::rdL tb br a n c ra rn rc v r s)
   (fun z ρ' L'=>ρ.le ρ'∧∃(sa:Option Addr) (sn sc:Nat) (acc:List CkT) (a':Option Addr) (n' c':Nat),z=.slice sa sn sc∧sn≤sc∧sn≤255∧AIn ρ' 5 YM sa sn acc∧(∀x∈acc,AnyF ρ' x)∧acc=(YA ckTD s).1∧RdAt ρ' a' n' c' ra rn rc Rs (YA ckTD s).2∧L'=cbC cb tb::rdL tb br a' n' c' ra rn rc v r (YA ckTD s).2):=by
 have h8:=n8_spec ρ br h
 have hlt0:=Wn 1 s
 generalize hq:YA ckTD s=q
 unfold YA at hq
 rw[show rdL tb br a n c ra rn rc v r s=[reC tb br ra rn rc v r (ZC 1 s).2.2.2,rdC br a n c s.2.1] from rfl]
 generalize ZC 1 s=p at *
 obtain⟨x1,s1⟩:=p
 dsimp only at h8 hlt0 hq ⊢
 refine Zb Tryz.func253 rfl rfl rfl fun u R=>?_
 simp only[Zd,kA]
 repeat' (first|(refine Za (.func 178) ?_;refine qC rfl rfl (h8) ?_;rintro v ρ' L' hle ⟨rfl,rfl,a1,n1,c1,h1,rfl⟩<;>(try simp only[kA]))|refine zV ?_|intro _)
 refine Zi [(0,_),(1,_),(4,_),(6,_)] (fun (ζ:(Nat)×(Hp)×(Value)×(List Value)×(List CkT)×(Option Addr)×(Nat)×(Nat)×(Yc))=>[(7,.int .i64 ζ.1),(5,ζ.2.2.1)]) (fun (ζ:(Nat)×(Hp)×(Value)×(List Value)×(List CkT)×(Option Addr)×(Nat)×(Nat)×(Yc))=>ζ.2.1) (fun (ζ:(Nat)×(Hp)×(Value)×(List Value)×(List CkT)×(Option Addr)×(Nat)×(Nat)×(Yc))=>[Zz ζ.2.2.1 ((ζ.2.2.2.2.1.map YM).flatten) ζ.2.2.2.1 187,cbC cb tb,reC tb br ra rn rc v r ζ.2.2.2.2.2.2.2.2.2.2,rdC br ζ.2.2.2.2.2.1 ζ.2.2.2.2.2.2.1 ζ.2.2.2.2.2.2.2.1 ζ.2.2.2.2.2.2.2.2.2.1]) (fun (ζ:(Nat)×(Hp)×(Value)×(List Value)×(List CkT)×(Option Addr)×(Nat)×(Nat)×(Yc))=>ζ.1≤x1∧ρ'.le ζ.2.1∧OwnS ζ.2.2.1 ζ.1 ((ζ.2.2.2.2.1.map YM).flatten) ζ.2.2.2.1 5∧ζ.2.2.2.2.1.length=ζ.1∧RdAt ζ.2.1 ζ.2.2.2.2.2.1 ζ.2.2.2.2.2.2.1 ζ.2.2.2.2.2.2.2.1 ra rn rc Rs ζ.2.2.2.2.2.2.2.2∧(∀x∈ζ.2.2.2.2.1,AnyF ζ.2.1 x)∧q=(ζ.2.2.2.2.1++(ZQ ckTD (x1-ζ.1) ζ.2.2.2.2.2.2.2.2).1,(ZQ ckTD (x1-ζ.1) ζ.2.2.2.2.2.2.2.2).2)) (fun (ζ:(Nat)×(Hp)×(Value)×(List Value)×(List CkT)×(Option Addr)×(Nat)×(Nat)×(Yc))=>x1-ζ.1) ((0,ρ',.slice none 0 0,[],[],a1,n1,c1,s1)) (⟨Nat.zero_le _,Hp.le_refl _,OwnS.nil 5,rfl,h1,by simp,by simp[←hq]⟩) Zc Zc rfl tk ?_
 rintro⟨i,ρ1,vv,sp,acc,a2,n2,c2,s2⟩ hI
 try simp only[kA,List.append_assoc] at hI ⊢
 try dsimp only at hI ⊢
 obtain⟨hi,hle1,hown,hal,h2,hP,hq2⟩:=hI
 obtain⟨va,vc,rfl,_⟩:=hown.slice
 have hg:∀x∈acc,(YM x).length=5:=fun x _=>rfl
 have hok:=rok_spec ρ1 tb br a2 n2 c2 ra rn rc v r s2
 by_cases hlt:i<x1
 ·cases ho:okS s2
  ·have hm0:ZQ ckTD (x1-i) s2=([],s2):=by
    rw[show x1-i=(x1-(i+1))+1 by omega,ZQ,ho];rfl
   rw[hm0] at hq2
   simp only[List.append_nil] at hq2
   rw[ho] at hok
   subst hq2
   repeat' (first|(refine Za (.func 186) ?_;refine qC rfl rfl (hok) ?_;rintro v ρ' L' hle ⟨rfl,rfl,rfl⟩<;>(try simp only[kA]))|refine zV ?_|intro _)
   refine ZM (Zz (.slice va i vc) ((acc.map YM).flatten) sp 187) (fun ρ3 hle3 hfz=>?_)
   obtain⟨sa,sc,e1,hsc,hA⟩:=hown.aIn hal hg hfz
   cases e1
   exact qE ⟨Hp.le_trans hle1 hle3,_,_,_,acc,a2,n2,c2,rfl,hsc,by omega,hA,hP,rfl,h2.mono hle3,rfl⟩
  ·rw[show x1-i=(x1-(i+1))+1 by omega,ZQ,if_pos ho] at hq2
   rw[ho] at hok
   have hrow:=fun ρ (h:RdAt ρ a2 n2 c2 ra rn rc Rs s2)=>rckpt1_spec ρ tb br cb v r s2 h
   skip
   generalize ckTD s2=y at *
   obtain⟨x,s3⟩:=y
   dsimp only at hq2 hrow
   repeat' (first|(refine Za (.func 186) ?_;refine qC rfl rfl (hok) ?_;rintro v ρ' L' hle ⟨rfl,rfl,rfl⟩<;>(try simp only[kA]))|(refine Za (.tmp 24) ?_;refine qC rfl rfl (hrow _ h2) ?_;rintro v ρ' L' hle ⟨hle3,rfl,hxi,a3,n3,c3,h3,rfl⟩<;>(try simp only[kA]))|refine zV ?_|intro _)
   refine Zv (css:=[YM x]) (sz:=5) rfl rfl rfl rfl (by simp) (by simp) rfl (fun bs=>?_)
   simp only[List.flatten_cons,List.flatten_nil,List.append_nil]
   refine ZK (ys:=YM x) (m:=1) rfl rfl hown (hR:=by infer_instance) (SrcV.lit) rfl rfl (by decide) rfl (by omega) (by omega) rfl (fun v' sp' hown'=>?_)
   have hm:(acc.map YM).flatten++YM x=((acc++[x]).map YM).flatten:=by simp
   rw[hm] at hown' ⊢
   repeat' (first|refine zV ?_|intro _)
   have hPn:∀z∈acc++[x],AnyF ρ' z:=fun z hz=>by
    rcases List.mem_append.1 hz with hz|hz
    ·exact hP z hz
    ·rw[List.mem_singleton.1 hz];exact hxi
   refine Ze (i+1,_,v',sp',acc++[x],a3,n3,c3,s3) (⟨hlt,Hp.le_trans hle1 hle3,hown',by simp[hal],h3,hPn,by rw[hq2];simp⟩) Zc Zc rfl tk inferInstance (by first|omega|(dsimp only;omega))
 ·have hi2:i=x1:=by omega
  subst hi2
  rw[Nat.sub_self,ZQ] at hq2
  simp only[List.append_nil] at hq2
  subst hq2
  repeat' (first|refine zV ?_|intro _)
  refine ZM (Zz (.slice va i vc) ((acc.map YM).flatten) sp 187) (fun ρ3 hle3 hfz=>?_)
  obtain⟨sa,sc,e1,hsc,hA⟩:=hown.aIn hal hg hfz
  cases e1
  exact qE ⟨Hp.le_trans hle1 hle3,_,_,_,acc,a2,n2,c2,rfl,hsc,by omega,hA,hP,rfl,h2.mono hle3,rfl⟩
theorem rmanyCkP_spec (ρ:Hp)(tb br cb:Nat)(v:RV)(r:Rc)(s:Yc){a n c ra rn rc Rs}(h:RdAt ρ a n c ra rn rc Rs s) :
  Spec Tryz.prog 255 [.pointer (some ⟨tb,0,none⟩),.func (.func 256) ⟨[]⟩ ⟨[.pointer (some ⟨cb,0,none⟩)]⟩] ρ (cbC cb tb::rdL tb br a n c ra rn rc v r s)
   (fun z ρ' L'=>ρ.le ρ'∧∃(sa:Option Addr) (sn sc:Nat) (acc:List CkP) (a':Option Addr) (n' c':Nat),z=.slice sa sn sc∧sn≤sc∧sn≤255∧AIn ρ' 2 Xq sa sn acc∧(∀x∈acc,AnyF ρ' x)∧acc=(YA ckPD s).1∧RdAt ρ' a' n' c' ra rn rc Rs (YA ckPD s).2∧L'=cbC cb tb::rdL tb br a' n' c' ra rn rc v r (YA ckPD s).2):=by
 have h8:=n8_spec ρ br h
 have hlt0:=Wn 1 s
 generalize hq:YA ckPD s=q
 unfold YA at hq
 rw[show rdL tb br a n c ra rn rc v r s=[reC tb br ra rn rc v r (ZC 1 s).2.2.2,rdC br a n c s.2.1] from rfl]
 generalize ZC 1 s=p at *
 obtain⟨x1,s1⟩:=p
 dsimp only at h8 hlt0 hq ⊢
 refine Zb Tryz.func255 rfl rfl rfl fun u R=>?_
 simp only[Zd,kA]
 repeat' (first|(refine Za (.func 178) ?_;refine qC rfl rfl (h8) ?_;rintro v ρ' L' hle ⟨rfl,rfl,a1,n1,c1,h1,rfl⟩<;>(try simp only[kA]))|refine zV ?_|intro _)
 refine Zi [(0,_),(1,_),(4,_),(6,_)] (fun (ζ:(Nat)×(Hp)×(Value)×(List Value)×(List CkP)×(Option Addr)×(Nat)×(Nat)×(Yc))=>[(7,.int .i64 ζ.1),(5,ζ.2.2.1)]) (fun (ζ:(Nat)×(Hp)×(Value)×(List Value)×(List CkP)×(Option Addr)×(Nat)×(Nat)×(Yc))=>ζ.2.1) (fun (ζ:(Nat)×(Hp)×(Value)×(List Value)×(List CkP)×(Option Addr)×(Nat)×(Nat)×(Yc))=>[Zz ζ.2.2.1 ((ζ.2.2.2.2.1.map Xq).flatten) ζ.2.2.2.1 108,cbC cb tb,reC tb br ra rn rc v r ζ.2.2.2.2.2.2.2.2.2.2,rdC br ζ.2.2.2.2.2.1 ζ.2.2.2.2.2.2.1 ζ.2.2.2.2.2.2.2.1 ζ.2.2.2.2.2.2.2.2.2.1]) (fun (ζ:(Nat)×(Hp)×(Value)×(List Value)×(List CkP)×(Option Addr)×(Nat)×(Nat)×(Yc))=>ζ.1≤x1∧ρ'.le ζ.2.1∧OwnS ζ.2.2.1 ζ.1 ((ζ.2.2.2.2.1.map Xq).flatten) ζ.2.2.2.1 2∧ζ.2.2.2.2.1.length=ζ.1∧RdAt ζ.2.1 ζ.2.2.2.2.2.1 ζ.2.2.2.2.2.2.1 ζ.2.2.2.2.2.2.2.1 ra rn rc Rs ζ.2.2.2.2.2.2.2.2∧(∀x∈ζ.2.2.2.2.1,AnyF ζ.2.1 x)∧q=(ζ.2.2.2.2.1++(ZQ ckPD (x1-ζ.1) ζ.2.2.2.2.2.2.2.2).1,(ZQ ckPD (x1-ζ.1) ζ.2.2.2.2.2.2.2.2).2)) (fun (ζ:(Nat)×(Hp)×(Value)×(List Value)×(List CkP)×(Option Addr)×(Nat)×(Nat)×(Yc))=>x1-ζ.1) ((0,ρ',.slice none 0 0,[],[],a1,n1,c1,s1)) (⟨Nat.zero_le _,Hp.le_refl _,OwnS.nil 2,rfl,h1,by simp,by simp[←hq]⟩) Zc Zc rfl tk ?_
 rintro⟨i,ρ1,vv,sp,acc,a2,n2,c2,s2⟩ hI
 try simp only[kA,List.append_assoc] at hI ⊢
 try dsimp only at hI ⊢
 obtain⟨hi,hle1,hown,hal,h2,hP,hq2⟩:=hI
 obtain⟨va,vc,rfl,_⟩:=hown.slice
 have hg:∀x∈acc,(Xq x).length=2:=fun x _=>rfl
 have hok:=rok_spec ρ1 tb br a2 n2 c2 ra rn rc v r s2
 by_cases hlt:i<x1
 ·cases ho:okS s2
  ·have hm0:ZQ ckPD (x1-i) s2=([],s2):=by
    rw[show x1-i=(x1-(i+1))+1 by omega,ZQ,ho];rfl
   rw[hm0] at hq2
   simp only[List.append_nil] at hq2
   rw[ho] at hok
   subst hq2
   repeat' (first|(refine Za (.func 186) ?_;refine qC rfl rfl (hok) ?_;rintro v ρ' L' hle ⟨rfl,rfl,rfl⟩<;>(try simp only[kA]))|refine zV ?_|intro _)
   refine ZM (Zz (.slice va i vc) ((acc.map Xq).flatten) sp 108) (fun ρ3 hle3 hfz=>?_)
   obtain⟨sa,sc,e1,hsc,hA⟩:=hown.aIn hal hg hfz
   cases e1
   exact qE ⟨Hp.le_trans hle1 hle3,_,_,_,acc,a2,n2,c2,rfl,hsc,by omega,hA,hP,rfl,h2.mono hle3,rfl⟩
  ·rw[show x1-i=(x1-(i+1))+1 by omega,ZQ,if_pos ho] at hq2
   rw[ho] at hok
   have hrow:=fun ρ (h:RdAt ρ a2 n2 c2 ra rn rc Rs s2)=>rckpt2_spec ρ tb br cb v r s2 h
   skip
   generalize ckPD s2=y at *
   obtain⟨x,s3⟩:=y
   dsimp only at hq2 hrow
   repeat' (first|(refine Za (.func 186) ?_;refine qC rfl rfl (hok) ?_;rintro v ρ' L' hle ⟨rfl,rfl,rfl⟩<;>(try simp only[kA]))|(refine Za (.tmp 24) ?_;refine qC rfl rfl (hrow _ h2) ?_;rintro v ρ' L' hle ⟨hle3,rfl,hxi,a3,n3,c3,h3,rfl⟩<;>(try simp only[kA]))|refine zV ?_|intro _)
   refine Zv (css:=[Xq x]) (sz:=2) rfl rfl rfl rfl (by simp) (by simp) rfl (fun bs=>?_)
   simp only[List.flatten_cons,List.flatten_nil,List.append_nil]
   refine ZK (ys:=Xq x) (m:=1) rfl rfl hown (hR:=by infer_instance) (SrcV.lit) rfl rfl (by decide) rfl (by omega) (by omega) rfl (fun v' sp' hown'=>?_)
   have hm:(acc.map Xq).flatten++Xq x=((acc++[x]).map Xq).flatten:=by simp
   rw[hm] at hown' ⊢
   repeat' (first|refine zV ?_|intro _)
   have hPn:∀z∈acc++[x],AnyF ρ' z:=fun z hz=>by
    rcases List.mem_append.1 hz with hz|hz
    ·exact hP z hz
    ·rw[List.mem_singleton.1 hz];exact hxi
   refine Ze (i+1,_,v',sp',acc++[x],a3,n3,c3,s3) (⟨hlt,Hp.le_trans hle1 hle3,hown',by simp[hal],h3,hPn,by rw[hq2];simp⟩) Zc Zc rfl tk inferInstance (by first|omega|(dsimp only;omega))
 ·have hi2:i=x1:=by omega
  subst hi2
  rw[Nat.sub_self,ZQ] at hq2
  simp only[List.append_nil] at hq2
  subst hq2
  repeat' (first|refine zV ?_|intro _)
  refine ZM (Zz (.slice va i vc) ((acc.map Xq).flatten) sp 108) (fun ρ3 hle3 hfz=>?_)
  obtain⟨sa,sc,e1,hsc,hA⟩:=hown.aIn hal hg hfz
  cases e1
  exact qE ⟨Hp.le_trans hle1 hle3,_,_,_,acc,a2,n2,c2,rfl,hsc,by omega,hA,hP,rfl,h2.mono hle3,rfl⟩
end Go.Proofs.E
