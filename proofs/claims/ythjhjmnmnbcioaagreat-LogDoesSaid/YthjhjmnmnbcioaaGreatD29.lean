/- Laws of LogDoes. Part 29 of 30. -/
import Derived.Test.YthjhjmnmnbcioaaGreatD28
set_option linter.unusedVariables false
set_option linter.unusedSimpArgs false
set_option linter.unusedSectionVars false
namespace Go.Proofs.E
open Go Go.RowKit Tryz
set_option maxHeartbeats 1000000
attribute [local irreducible] Yl TL TC TE Spec YL R1 Hp.le EnvLe TS TR YS Zt TP QP
set_option maxRecDepth 8000
theorem rsw_flat {α:Type}{sz:Nat}{g:α->List Value}{C:List Value}{off:Nat}:∀(l:List α) (k:Nat),k<=l.length->(∀i (h:i<l.length),(C.drop (off+i*sz)).take sz=g l[i])->(C.drop off).take (k*sz)=((l.take k).map g).flatten
 | l,0,_,_=>by simp
 | l,k+1,hk,h=>by
  have ih:=rsw_flat l k (by omega) h
  rw[show l.take (k+1)=l.take k++[l[k]'(by omega)] from aG (by omega),Nat.add_mul,Nat.one_mul,List.take_add,ih,List.drop_drop,h k (by omega)]
  simp only[List.map_append,List.flatten_append,List.map_cons,List.map_nil,aF,List.flatten_nil,aN]
theorem aIn_ofW {ρ:Hp}{α:Type}{sz:Nat}{g:α->List Value}{P:α->Prop}{cs:List Value}{s:Option Addr×Nat×Nat×List α}(hg:∀x,(g x).length=sz)(h:RS ρ sz (λ cs x=>cs=g x/\P x) cs s):AIn ρ sz g s.1 s.2.1 s.2.2.2/\(∀x∈s.2.2.2,P x)/\s.2.1<=s.2.2.1/\s.2.1<=9223372036854775807:=by
 obtain⟨a,n,c,ks⟩:=s
 obtain⟨h1,h2,h3,h4,h5⟩:=h
 dsimp only at h1 h2 h3 h4 h5 ⊢
 refine⟨⟨h4, ?_,λ x _=>hg x⟩,λ x hx=>?_,h2,by omega⟩
 ·by_cases h0:n=0
  ·exact .inl h0
  ·right
   obtain⟨b,off,C,T,fr,e1,e2,e3,e4⟩:=h5 0 (by omega)
   have same:∀i (h:i<ks.length),off+i*sz+sz<=C.length/\(C.drop (off+i*sz)).take sz=g ks[i]:=λ i hi=>by
    obtain⟨b',off',C',T',fr',f1,f2,f3,f4⟩:=h5 i hi
    rw[e1] at f1
    cases f1
    rw[e2] at f2
    cases f2
    exact⟨f3,f4.1⟩
   refine⟨b,off,C,T,fr,e1,e2, ?_, ?_⟩
   ·have:=(same (n-1) (by omega)).1
    have e:n*sz=(n-1)*sz+sz:=by
     obtain⟨m,rfl⟩:∃m,n=m+1:=⟨n-1,by omega⟩
     rw[Nat.add_mul];simp
    omega
   ·have:=rsw_flat (sz:=sz) (g:=g) ks n (by omega) (λ i hi=>(same i hi).2)
    rw[this,aT (by omega)]
 ·obtain⟨i,hi,rfl⟩:=List.mem_iff_getElem.1 hx
  obtain⟨_,_,_,_,_,_,_,_,f⟩:=h5 i hi
  exact f.2
section
variable {H:Type}{enc:TypeId×Value->H}{w:World}
theorem opnS_str:OpnS enc prog w 9 (λ cs (l:List UInt8)=>cs=[strV l]):=Opn.sized (λ fuel cs x h=>by
 obtain⟨s,rfl,_,_⟩:=DataW.trod_string underlying9 h
 obtain⟨⟨l⟩⟩:=s
 exact⟨l,rfl⟩)
theorem opnS_key:OpnS enc prog w 169 (λ cs (k:Int×Nat)=>cs=keyV k.1 k.2/\k.2<65536):=Opn.sized (λ fuel cs x h=>by
 obtain⟨hl,hf⟩:=opn_fields underlying169 h
 have hl:cs.length=2:=by rw[hl];kernel_rfl
 obtain⟨c0,c1,rfl⟩:∃c0 c1,cs=[c0,c1]:=by
  match cs,hl with
  | [c0,c1],_=>exact⟨c0,c1,rfl⟩
 obtain⟨t,h0,_⟩:=opn_field h underlying169 0 0 1 rfl rfl rfl (by kernel_rfl) (YC underlying3)
 obtain⟨i,h1,i0,i1⟩:=opn_field h underlying169 1 1 1 rfl rfl rfl (by kernel_rfl) (YC underlying167)
 simp only[List.drop_zero,List.drop_succ_cons,List.take_succ_cons,List.take_zero,List.cons.injEq,and_true] at h0 h1
 subst h0;subst h1
 simp only[lo,hi] at i0 i1
 refine⟨(t,i.toNat), ?_,by dsimp only;omega⟩
 have:((i.toNat:Nat):Int)=i:=by omega
 simp only[keyV,this])
theorem opnS_row:OpnS enc prog w 171 (λ cs (r:Row)=>cs=Ym r/\Ys r):=λ fuel cs x h hw=>by
 obtain⟨hl,hf⟩:=XB underlying171 h hw
 have hl:cs.length=4:=by rw[hl];kernel_rfl
 obtain⟨c0,c1,c2,c3,rfl⟩:∃c0 c1 c2 c3,cs=[c0,c1,c2,c3]:=by
  match cs,hl with
  | [c0,c1,c2,c3],_=>exact⟨c0,c1,c2,c3,rfl⟩
 obtain⟨⟨t,i⟩,h0,hi0⟩:=Zw h hw underlying171 0 0 2 rfl rfl rfl (by kernel_rfl) opnS_key
 obtain⟨v,h1,v0,v1⟩:=Zw h hw underlying171 1 2 1 rfl rfl rfl (by kernel_rfl) (YC underlying2).sized
 obtain⟨s,h2⟩:=Zw h hw underlying171 2 3 1 rfl rfl rfl (by kernel_rfl) opnS_str
 simp only[List.drop_zero,List.drop_succ_cons,List.take_succ_cons,List.take_zero,List.cons.injEq,and_true,keyV] at h0 h1 h2
 obtain⟨rfl,rfl⟩:=h0
 subst h1;subst h2
 simp only[lo,hi] at v0 v1
 exact⟨⟨t,i,v,s⟩,rfl,⟨hi0,v0,v1⟩⟩
theorem opnS_kid:OpnS enc prog w 227 (λ cs (k:Kid)=>cs=Xj k/\k.id<65536):=λ fuel cs x h hw=>by
 obtain⟨hl,hf⟩:=XB underlying227 h hw
 have hl:cs.length=3:=by rw[hl];kernel_rfl
 obtain⟨c0,c1,c2,rfl⟩:∃c0 c1 c2,cs=[c0,c1,c2]:=by
  match cs,hl with
  | [c0,c1,c2],_=>exact⟨c0,c1,c2,rfl⟩
 obtain⟨⟨t,i⟩,h0,hi0⟩:=Zw h hw underlying227 0 0 2 rfl rfl rfl (by kernel_rfl) opnS_key
 obtain⟨v,h1,_⟩:=Zw h hw underlying227 1 2 1 rfl rfl rfl (by kernel_rfl) (YC underlying3).sized
 simp only[List.drop_zero,List.drop_succ_cons,List.take_succ_cons,List.take_zero,List.cons.injEq,and_true,keyV] at h0 h1
 obtain⟨rfl,rfl⟩:=h0
 subst h1
 exact⟨⟨t,i,v⟩,rfl,hi0⟩
theorem opnS_cont:OpnS enc prog w 88 (λ cs (x:CV×Wm)=>cs=XI x.2.kind x.1/\CW (hpOf w) x.1 x.2):=λ fuel cs x h hw=>by
 obtain⟨hl,hf⟩:=XB underlying88 h hw
 have hl:cs.length=3:=by rw[hl];kernel_rfl
 obtain⟨c0,c1,c2,rfl⟩:∃c0 c1 c2,cs=[c0,c1,c2]:=by
  match cs,hl with
  | [c0,c1,c2],_=>exact⟨c0,c1,c2,rfl⟩
 obtain⟨k,h0,_⟩:=Zw h hw underlying88 0 0 1 rfl rfl rfl (by kernel_rfl) (YC underlying3).sized
 obtain⟨⟨ra,rn,rc,rows⟩,h1,w1⟩:=Zw h hw underlying88 1 1 1 rfl rfl rfl (by kernel_rfl) (WZ (sz:=4) (by':=40) underlying85 (by kernel_rfl) (by decide) (by kernel_rfl) opnS_row)
 obtain⟨⟨ka,kn,kc,kids⟩,h2,w2⟩:=Zw h hw underlying88 2 2 1 rfl rfl rfl (by kernel_rfl) (WZ (sz:=3) (by':=24) underlying86 (by kernel_rfl) (by decide) (by kernel_rfl) opnS_kid)
 obtain⟨g1,g2,g3,_⟩:=aIn_ofW rowV_len h1
 obtain⟨k1,k2,k3,_⟩:=aIn_ofW kidV_len h2
 simp only[reachBytes] at w1 w2
 replace h1:=h1.cells
 replace h2:=h2.cells
 simp only[List.drop_zero,List.drop_succ_cons,List.take_succ_cons,List.take_zero,List.cons.injEq,and_true] at h0 h1 h2
 subst h0;subst h1;subst h2
 exact⟨(⟨ra,rn,rc,ka,kn,kc⟩,⟨k,rows,kids⟩),rfl,⟨g1,k1,by dsimp only;omega,by dsimp only;omega,g3,k3,g2,k2⟩⟩
theorem opnS_image:OpnS enc prog w 180 (λ cs (x:Im)=>cs=imV x/\(CW (hpOf w) x.bv x.b/\CW (hpOf w) x.av x.a)):=λ fuel cs x h hw=>by
 obtain⟨hl,hf⟩:=XB underlying180 h hw
 have hl:cs.length=7:=by rw[hl];kernel_rfl
 obtain⟨c0,c1,c2,c3,c4,c5,c6,rfl⟩:∃c0 c1 c2 c3 c4 c5 c6,cs=[c0,c1,c2,c3,c4,c5,c6]:=by
  match cs,hl with
  | [c0,c1,c2,c3,c4,c5,c6],_=>exact⟨c0,c1,c2,c3,c4,c5,c6,rfl⟩
 obtain⟨k,h0,_⟩:=Zw h hw underlying180 0 0 1 rfl rfl rfl (by kernel_rfl) (YC underlying3).sized
 obtain⟨⟨bv,b⟩,h1,w1⟩:=Zw h hw underlying180 1 1 3 rfl rfl rfl (by kernel_rfl) opnS_cont
 obtain⟨⟨av,a⟩,h2,w2⟩:=Zw h hw underlying180 2 4 3 rfl rfl rfl (by kernel_rfl) opnS_cont
 simp only[List.drop_zero,List.drop_succ_cons,List.take_succ_cons,List.take_zero,List.cons.injEq,and_true,XI] at h0 h1 h2
 obtain⟨rfl,rfl,rfl⟩:=h1
 obtain⟨rfl,rfl,rfl⟩:=h2
 subst h0
 exact⟨⟨k,bv,b,av,a⟩,rfl,w1,w2⟩
theorem VA {i:Int}(h:lo .u64<=i):((i.toNat:Nat):Int)=i:=by simp only[lo] at h;omega
theorem opnS_ckt:OpnS enc prog w 116 (λ cs (x:CkT)=>cs=Yh x/\True):=λ fuel cs x h hw=>by
 obtain⟨hl,hf⟩:=XB underlying116 h hw
 have hl:cs.length=5:=by rw[hl];kernel_rfl
 obtain⟨c0,c1,c2,c3,c4,rfl⟩:∃c0 c1 c2 c3 c4,cs=[c0,c1,c2,c3,c4]:=by
  match cs,hl with
  | [c0,c1,c2,c3,c4],_=>exact⟨c0,c1,c2,c3,c4,rfl⟩
 obtain⟨k,h0,_⟩:=Zw h hw underlying116 0 0 1 rfl rfl rfl (by kernel_rfl) (YC underlying3).sized
 obtain⟨f,h1,f0,f1⟩:=Zw h hw underlying116 1 1 1 rfl rfl rfl (by kernel_rfl) (YC underlying35).sized
 obtain⟨l,h2,l0,l1⟩:=Zw h hw underlying116 2 2 1 rfl rfl rfl (by kernel_rfl) (YC underlying35).sized
 obtain⟨u,h3,u0,u1⟩:=Zw h hw underlying116 3 3 1 rfl rfl rfl (by kernel_rfl) (YC underlying35).sized
 obtain⟨s,h4,_⟩:=Zw h hw underlying116 4 4 1 rfl rfl rfl (by kernel_rfl) (YC underlying3).sized
 simp only[List.drop_zero,List.drop_succ_cons,List.take_succ_cons,List.take_zero,List.cons.injEq,and_true] at h0 h1 h2 h3 h4
 subst h0;subst h1;subst h2;subst h3;subst h4
 refine⟨⟨k,f.toNat,l.toNat,u.toNat,s⟩, ?_,trivial⟩
 simp only[Yh,VA f0,VA l0,VA u0]
theorem opnS_ckp:OpnS enc prog w 118 (λ cs (x:CkP)=>cs=YB x/\True):=λ fuel cs x h hw=>by
 obtain⟨hl,hf⟩:=XB underlying118 h hw
 have hl:cs.length=2:=by rw[hl];kernel_rfl
 obtain⟨c0,c1,rfl⟩:∃c0 c1,cs=[c0,c1]:=by
  match cs,hl with
  | [c0,c1],_=>exact⟨c0,c1,rfl⟩
 obtain⟨k,h0,_⟩:=Zw h hw underlying118 0 0 1 rfl rfl rfl (by kernel_rfl) (YC underlying3).sized
 obtain⟨f,h1,f0,f1⟩:=Zw h hw underlying118 1 1 1 rfl rfl rfl (by kernel_rfl) (YC underlying35).sized
 simp only[List.drop_zero,List.drop_succ_cons,List.take_succ_cons,List.take_zero,List.cons.injEq,and_true] at h0 h1
 subst h0;subst h1
 refine⟨⟨k,f.toNat⟩, ?_,trivial⟩
 simp only[YB,VA f0]
end
section
variable {H:Type}{enc:TypeId×Value->H}{w:World}
theorem opnS_step2:OpnS enc prog w 183 (λ cs (x:Stp)=>cs=YJ x/\StpF x):=λ fuel cs x h hw=>by
 obtain⟨hl,hf⟩:=XB underlying183 h hw
 have hl:cs.length=6:=by rw[hl];kernel_rfl
 obtain⟨c0,c1,c2,c3,c4,c5,rfl⟩:∃c0 c1 c2 c3 c4 c5,cs=[c0,c1,c2,c3,c4,c5]:=by
  match cs,hl with
  | [c0,c1,c2,c3,c4,c5],_=>exact⟨c0,c1,c2,c3,c4,c5,rfl⟩
 obtain⟨k,h0,_⟩:=Zw h hw underlying183 0 0 1 rfl rfl rfl (by kernel_rfl) (YC underlying3).sized
 obtain⟨r,h1,w1⟩:=Zw h hw underlying183 1 1 4 rfl rfl rfl (by kernel_rfl) opnS_row
 obtain⟨b,h2,b0,b1⟩:=Zw h hw underlying183 2 5 1 rfl rfl rfl (by kernel_rfl) (YC underlying2).sized
 simp only[List.drop_zero,List.drop_succ_cons,List.take_succ_cons,List.take_zero,List.cons.injEq,and_true,Ym] at h0 h1 h2
 obtain⟨rfl,rfl,rfl,rfl⟩:=h1
 subst h0;subst h2
 simp only[lo,hi] at b0 b1
 exact⟨⟨k,r,b⟩,rfl,w1,b0,b1⟩
theorem opnS_rec2:OpnS enc prog w 47 (λ cs (x:RV×Rc)=>cs=Yu x.1 x.2/\(RcW (hpOf w) x.1 x.2/\∀s∈x.2.steps,StpF s)):=λ fuel cs x h hw=>by
 obtain⟨hl,hf⟩:=XB underlying47 h hw
 have hl:cs.length=10:=by rw[hl];kernel_rfl
 obtain⟨c0,c1,c2,c3,c4,c5,c6,c7,c8,c9,rfl⟩:∃c0 c1 c2 c3 c4 c5 c6 c7 c8 c9,cs=[c0,c1,c2,c3,c4,c5,c6,c7,c8,c9]:=by
  match cs,hl with
  | [c0,c1,c2,c3,c4,c5,c6,c7,c8,c9],_=>exact⟨c0,c1,c2,c3,c4,c5,c6,c7,c8,c9,rfl⟩
 obtain⟨k,h0,_⟩:=Zw h hw underlying47 0 0 1 rfl rfl rfl (by kernel_rfl) (YC underlying3).sized
 obtain⟨l,h1,l0,_⟩:=Zw h hw underlying47 1 1 1 rfl rfl rfl (by kernel_rfl) (YC underlying35).sized
 obtain⟨t,h2,_⟩:=Zw h hw underlying47 2 2 1 rfl rfl rfl (by kernel_rfl) (YC underlying3).sized
 obtain⟨p,h3,p0,_⟩:=Zw h hw underlying47 3 3 1 rfl rfl rfl (by kernel_rfl) (YC underlying35).sized
 obtain⟨n,h4,n0,_⟩:=Zw h hw underlying47 4 4 1 rfl rfl rfl (by kernel_rfl) (YC underlying35).sized
 obtain⟨⟨ia,inn,ic,ims⟩,h5,w5⟩:=Zw h hw underlying47 5 5 1 rfl rfl rfl (by kernel_rfl) (WZ (sz:=7) (by':=120) underlying42 (by kernel_rfl) (by decide) (by kernel_rfl) opnS_image)
 obtain⟨⟨sa,sn,sc,steps⟩,h6,w6⟩:=Zw h hw underlying47 6 6 1 rfl rfl rfl (by kernel_rfl) (WZ (sz:=6) (by':=56) underlying43 (by kernel_rfl) (by decide) (by kernel_rfl) opnS_step2)
 obtain⟨x7,h7,_⟩:=Zw h hw underlying47 7 7 1 rfl rfl rfl (by kernel_rfl) (YC underlying3).sized
 obtain⟨⟨ta,tn,tc,txns⟩,h8,w8⟩:=Zw h hw underlying47 8 8 1 rfl rfl rfl (by kernel_rfl) (WZ (sz:=5) (by':=40) underlying44 (by kernel_rfl) (by decide) (by kernel_rfl) opnS_ckt)
 obtain⟨⟨da,dn,dc,dirty⟩,h9,w9⟩:=Zw h hw underlying47 9 9 1 rfl rfl rfl (by kernel_rfl) (WZ (sz:=2) (by':=16) underlying45 (by kernel_rfl) (by decide) (by kernel_rfl) opnS_ckp)
 obtain⟨i1,i2,i3,_⟩:=aIn_ofW imV_len h5
 obtain⟨s1,s2,s3,_⟩:=aIn_ofW stpV_len h6
 obtain⟨t1,t2,t3,_⟩:=aIn_ofW ckTV_len h8
 obtain⟨d1,d2,d3,_⟩:=aIn_ofW ckPV_len h9
 simp only[reachBytes] at w5 w6 w8 w9
 replace h5:=h5.cells
 replace h6:=h6.cells
 replace h8:=h8.cells
 replace h9:=h9.cells
 simp only[List.drop_zero,List.drop_succ_cons,List.take_succ_cons,List.take_zero,List.cons.injEq,and_true] at h0 h1 h2 h3 h4 h5 h6 h7 h8 h9
 subst h0;subst h1;subst h2;subst h3;subst h4;subst h5;subst h6;subst h7;subst h8;subst h9
 refine⟨(⟨⟨ia,inn,ic⟩,⟨sa,sn,sc⟩,⟨ta,tn,tc⟩,⟨da,dn,dc⟩⟩,⟨k,l.toNat,t,p.toNat,n.toNat,ims,steps,x7,txns,dirty⟩), ?_,⟨⟨i1,by dsimp only;omega,i3⟩,i2,⟨s1,by dsimp only;omega,s3⟩,⟨t1,by dsimp only;omega,t3⟩,⟨d1,by dsimp only;omega,d3⟩,λ s hs=>(s2 s hs).row⟩,s2⟩
 simp only[Yu,VA l0,VA p0,VA n0]
end
section
variable {H:Type}{enc:TypeId×Value->H}{w:World}
theorem opn_boolT:Opn enc prog w 4 (λ cs (b:Bool)=>cs=[bb b]/\True):=(opn_bool underlying4).mono (λ cs b h=>⟨b,h,trivial⟩)
theorem opn_boolsT:Opn enc prog w 48 (λ cs (s:Option Addr×Nat×Nat×List Bool)=>cs=[.slice s.1 s.2.1 s.2.2.1]/\(SIn (hpOf w) bb s.1 s.2.1 s.2.2.2/\s.2.1<=s.2.2.1/\s.2.1<=9223372036854775807)):=
 (opn_slice (sz:=1) underlying48 (by kernel_rfl) (by decide) opn_boolT).mono (λ cs s h=>by
  obtain⟨h1,_,h3,h4⟩:=aIn_ofK (g:=λ b:Bool=>[bb b]) (P:=λ _=>True) (λ _=>rfl) h
  exact⟨s,h.cells,sIn_of1 h1,h3,h4⟩)
theorem opnS_op16:OpnS enc prog w 50 (λ cs (x:Op16)=>cs=WD x/\OpW (hpOf w) x):=λ fuel cs x h hw=>by
 obtain⟨hl,hf⟩:=XB underlying50 h hw
 have hl:cs.length=18:=by rw[hl];kernel_rfl
 obtain⟨c0,c1,c2,c3,c4,c5,c6,c7,c8,c9,d0,d1,d2,d3,d4,d5,d6,d7,rfl⟩:∃c0 c1 c2 c3 c4 c5 c6 c7 c8 c9 d0 d1 d2 d3 d4 d5 d6 d7,cs=[c0,c1,c2,c3,c4,c5,c6,c7,c8,c9,d0,d1,d2,d3,d4,d5,d6,d7]:=by
  match cs,hl with
  | [c0,c1,c2,c3,c4,c5,c6,c7,c8,c9,d0,d1,d2,d3,d4,d5,d6,d7],_=>exact⟨c0,c1,c2,c3,c4,c5,c6,c7,c8,c9,d0,d1,d2,d3,d4,d5,d6,d7,rfl⟩
 obtain⟨k,h0,k0,k1⟩:=Zw h hw underlying50 0 0 1 rfl rfl rfl (by kernel_rfl) (YC underlying3).sized
 obtain⟨n,h1,n0,n1⟩:=Zw h hw underlying50 1 1 1 rfl rfl rfl (by kernel_rfl) (YC underlying3).sized
 obtain⟨r,h2,r0,r1⟩:=Zw h hw underlying50 2 2 1 rfl rfl rfl (by kernel_rfl) (YC underlying3).sized
 obtain⟨t,h3,t0,t1⟩:=Zw h hw underlying50 3 3 1 rfl rfl rfl (by kernel_rfl) (YC underlying3).sized
 obtain⟨u,h4,u0,u1⟩:=Zw h hw underlying50 4 4 1 rfl rfl rfl (by kernel_rfl) (YC underlying35).sized
 obtain⟨m,h5,m0,m1⟩:=Zw h hw underlying50 5 5 1 rfl rfl rfl (by kernel_rfl) (YC underlying35).sized
 obtain⟨b,h6⟩:=Zw h hw underlying50 6 6 1 rfl rfl rfl (by kernel_rfl) (opn_bool underlying4).sized
 obtain⟨⟨rv,rc⟩,h7,w7,q7⟩:=Zw h hw underlying50 7 7 10 rfl rfl rfl (by kernel_rfl) opnS_rec2
 obtain⟨⟨ka,kn,kc,ks⟩,h8,s0,s1,s2⟩:=Zw h hw underlying50 8 17 1 rfl rfl rfl (by kernel_rfl) opn_boolsT.sized
 simp only[RB,List.drop_zero,List.drop_succ_cons,List.take_succ_cons,List.take_zero,List.cons.injEq,and_true] at h0 h1 h2 h3 h4 h5 h6 h7 h8
 obtain⟨g0,g1,g2,g3,g4,g5,g6,g7,g8,g9⟩:=h7
 have u2:=u0
 have u3:=u1
 have m2:=m0
 have m3:=m1
 simp only[lo,hi] at k0 k1 n0 n1 r0 r1 t0 t1 u2 u3 m2 m3
 subst h0;subst h1;subst h2;subst h3;subst h4;subst h5;subst h6;subst h8;subst g0;subst g1;subst g2;subst g3;subst g4;subst g5;subst g6;subst g7;subst g8;subst g9
 refine⟨⟨k,n,r,t,u.toNat,m.toNat,b,rv,rc,⟨ka,kn,kc⟩⟩, ?_,⟨⟨⟨k0,k1⟩,⟨n0,n1⟩,⟨r0,r1⟩,⟨t0,t1⟩,by dsimp only;omega,by dsimp only;omega⟩,w7,q7,⟨ks,s0⟩,s1⟩⟩
 simp only[WD,VA u0,VA m0]
end
end Go.Proofs.E
