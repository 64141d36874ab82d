/- Laws of PoolRule. Part 3 of 26. -/
import Derived.Test.YthjhjmnmnbcioaaGreatE2
import Derived.Laws.Slices
import Derived.ProofKit
import Derived.OpenShut
import Derived.ChangeOld
import Derived.Below
import Derived.Carry
import Derived.SizedLaws
import Derived.ChangeKeysEq
set_option linter.unusedVariables false
set_option linter.unusedSimpArgs false
set_option linter.unusedSectionVars false
namespace Go.Proofs.E
open Go Go.Lib
def AppB (v:Value)(c:List (Nat×Obj))(T:TypeId)(l:List UInt8):Prop:=
 (∃sp,OwnS v l.length (l.map Zk) sp 1/\c=ZG v (l.map Zk) sp T)\/(∃b fr,v=.slice (some ⟨b,0,none⟩) l.length l.length/\l≠[]/\c=[(b,.cells ⟨l.map Zk⟩ T fr)])
theorem OwnS.appB {v:Value}{n:Nat}{l:List UInt8}{sp:List Value}{T:TypeId}(h:OwnS v n (l.map Zk) sp 1)(hn:n=l.length):AppB v (ZG v (l.map Zk) sp T) T l:=.inl ⟨sp,by subst hn;exact h,rfl⟩
section
variable {x:Cx}{Q:Exit->Act->World->Prop}{E:Env}{ρ:Hp}{L L1:SH}{ops:Array Oper}{rest tail:List Oper}{ty:TypeId}{pos:String}{af:Array Edge}
theorem tl_app_full {d t e sz by' n m cx:Nat}{s y:Operand}{z:Value}{xs ys:List Value}{a0:Addr}{a:Option Addr}[hS:ZE x.P t e][hZ:Zm x.P e sz][hB:Zd x.P e by'][hz:Zf x.P e z]
  (hs:ev E s=some (.slice (some a0) n n)) (hy:ev E y=some (.slice a m cx)) (hx:SrcV x ρ L (some a0) xs) (hxl:xs.length=n*sz) (hx0:xs≠[]) (hsrc:SrcV x ρ L a ys) (hlen:ys.length=m*sz) (hy0:ys≠[])
  (hsz:0<sz) (hzs:z.cells.toList.length=sz) (hb:(n+m)*by'<=140737488355328) (hm:n+m<=9223372036854775807) (hd:Nat.blt d x.N=true)
  (k:∀v' sp',OwnS v' (n+m) (xs++ys) sp' sz->TL x ops rest Q ((d,v')::E) ρ (ZG v' (xs++ys) sp' e::L)) :
  TL x ops (⟨some d,.call { callee:=.builtin .append,args:=#[s,y],argTypes:=#[t,t] },ty,pos,af,none⟩::rest) Q E ρ L:=λ a' w ha hw=>by
 refine Ye rfl rfl ?_
 obtain⟨i,g1,g2⟩:=hZ.out
 obtain⟨i2,g3,g4⟩:=hB.out
 obtain⟨i3,g5,g6⟩:=hz.out
 rw[g1] at g3 g5
 cases g3;cases g5
 subst g2;subst g4
 obtain⟨bx,ox,rfl,hsr⟩:=hsrc.resolve_left hy0
 obtain⟨b0,o0,e0,hsr0⟩:=hx.resolve_left hx0
 simp only[Option.some.injEq] at e0
 subst e0
 have hm0:0<m:=by
  rcases Nat.eq_zero_or_pos m with h|h
  ·subst h;simp at hlen;exact absurd hlen hy0
  ·exact h
 have hzs':z.cells.size=i.size:=by simpa using hzs
 have hcells:∀j c,ys[j]?=some c->w.cell? ((⟨bx,ox,none⟩:Addr).add j)=some c:=λ j c hj=>by rw[YY];exact hsr w hw j c hj
 have hold:∀j c,xs[j]?=some c->w.cell? ((⟨b0,o0,none⟩:Addr).add j)=some c:=λ j c hj=>by rw[YY];exact hsr0 w hw j c hj
 have hexec:∀(v':Value) (w':World),(Builtin.append_ #[t,t] ty #[.slice (some ⟨b0,o0,none⟩) n n,.slice (some ⟨bx,ox,none⟩) m cx]).run x.P w=.ok v' w' ->
   (execOp a'.eval ⟨some d,.call { callee:=.builtin .append,args:=#[s,y],argTypes:=#[t,t] },ty,pos,af,none⟩).run x.P w=.ok (.value v') w':=λ v' w' hr=>by
  simp only[execOp,resolve,Sem.run_bind,Sem.run_pure,Result.andThen_ok,invoke,builtin]
  have hargs:Array.map a'.eval #[s,y]=#[.slice (some ⟨b0,o0,none⟩) n n,.slice (some ⟨bx,ox,none⟩) m cx]:=by simp[ha.eval hs,ha.eval hy]
  rw[hargs,hr]
  rfl
 have hg:n+m<=grownCap w (n+m) n e:=by simp only[grownCap,Question.cut];omega
 have hzl:∀c,(Builtin.zeroCells z.cells c).toList.length=c*i.size:=λ c=>by
  have:=size_zeroCells z.cells c
  rw[hzs'] at this;simpa using this
 have hrun:=run_append_grow (P:=x.P) (w:=w) t ty e i z hS.out g1 g6 ⟨b0,o0,none⟩ n n xs hxl hold ⟨bx,ox,none⟩ m cx ys hlen hcells (by omega) (by omega) (growslice_fits (by omega) hb)
 rw[hexec _ _ hrun]
 have hs2:=(hw.drew).new (.cells (xs.toArray++ys.toArray++Builtin.zeroCells z.cells (grownCap w (n+m) n e-(n+m))) e (0,0))
 refine k (.slice (some ⟨w.heap.size,0,none⟩) (n+m) (grownCap w (n+m) n e)) (Builtin.zeroCells z.cells (grownCap w (n+m) n e-(n+m))).toList ?_ _ _ (ha.put (Nat.le_of_ble_eq_true hd) _) ?_
 ·refine⟨.inr ⟨w.heap.size,grownCap w (n+m) n e,rfl,by simp[Nat.add_mul];omega, ?_,by omega⟩⟩
  rw[hzl];simp only[aL,hlen,hxl,<-Nat.add_mul]
  rw[show n+m+(grownCap w (n+m) n e-(n+m))=grownCap w (n+m) n e by omega]
 ·have:ZG (.slice (some ⟨w.heap.size,0,none⟩) (n+m) (grownCap w (n+m) n e)) (xs++ys) (Builtin.zeroCells z.cells (grownCap w (n+m) n e-(n+m))).toList e=[(w.heap.size,.cells (xs.toArray++ys.toArray++Builtin.zeroCells z.cells (grownCap w (n+m) n e-(n+m))) e (0,0))]:=by
   simp only[ZG]
   congr 3
   apply Array.ext';simp
  rw[this]
  exact hs2
theorem tl_appB {d t e m cx:Nat}{s y:Operand}{v:Value}{c:List (Nat×Obj)}{l ys:List UInt8}{a:Option Addr}[hS:ZE x.P t e][hZ:Zm x.P e 1][hB:Zd x.P e 1][hz:Zf x.P e (.int .u8 0)]
  (hs:ev E s=some v) (hy:ev E y=some (.slice a m cx)) (h:AppB v c e l) [hR:Rem c L L1] (hsrc:SrcV x ρ L1 a (ys.map Zk)) (hlen:ys.length=m) (hy0:ys≠[])
  (hb:l.length+m<=140737488355328) (hd:Nat.blt d x.N=true)
  (k:∀v' sp',OwnS v' (l++ys).length ((l++ys).map Zk) sp' 1->TL x ops rest Q ((d,v')::E) ρ (ZG v' ((l++ys).map Zk) sp' e::L1)) :
  TL x ops (⟨some d,.call { callee:=.builtin .append,args:=#[s,y],argTypes:=#[t,t] },ty,pos,af,none⟩::rest) Q E ρ L:=by
 have hk:∀v' sp',OwnS v' (l.length+m) (l.map Zk++ys.map Zk) sp' 1->TL x ops rest Q ((d,v')::E) ρ (ZG v' (l.map Zk++ys.map Zk) sp' e::L1):=λ v' sp' ho=>by
  rw[<-List.map_append] at ho ⊢
  exact k v' sp' (by rw[aL,hlen];exact ho)
 rcases h with⟨sp,hown,rfl⟩|⟨b0,fr,rfl,hne,rfl⟩
 ·exact YA hs hy hown hsrc (by simpa using hlen) (ZH ys) (by decide) rfl (by omega) (by omega) hd hk
 ·refine TL.perm (L':=[(b0,.cells ⟨l.map Zk⟩ e fr)]::L1) ?_ hR.out
  have hsrc2:SrcV x ρ ([(b0,Obj.cells ⟨l.map Zk⟩ e fr)]::L1) a (ys.map Zk):=by
   rcases hsrc with h|⟨b,off,e1,h⟩
   ·exact .inl h
   ·exact .inr ⟨b,off,e1,λ w hw=>h w (hw.sub (by simp))⟩
  exact tl_app_full (sz:=1) (z:=.int .u8 0) hs hy SrcV.lit (by simp) (by simpa using hne) hsrc2 (by simpa using hlen) (by simpa using hy0) (by decide) rfl (by omega) (by omega) hd (λ v' sp' ho=>by
   refine λ a' w ha hw=>hk v' sp' ho a' w ha (hw.sub ?_)
   simp only[aF]
   exact List.Sublist.append (List.Sublist.refl _) (List.sublist_append_right _ _))
theorem y_slice_arr {o:Operand}{og oh:Option Operand}{t len e sz b off:Nat}{lo' hi':Nat}(ho:ev E o=some (.pointer (some ⟨b,off,none⟩)))[hS:WY x.P t len e][hZ:Zm x.P e sz]
  (hg:match og with|some g=>∃k,ev E g=some (.int k (lo':Int))|none=>lo'=0) (hh:match oh with|some h=>∃k,ev E h=some (.int k (hi':Int))|none=>hi'=len) (h1:lo'<=hi') (h2:hi'<=len) :
  Yl x (.slice t o og oh none) ty E ρ L (.slice (some (if len=lo' then ⟨b,off,none⟩ else ⟨b,off+lo'*sz,none⟩)) (hi'-lo') (len-lo')):=λ a' w _ _ _ _ ha hw=>by
 obtain⟨inf,g1,g2⟩:=hZ.out
 have hsz:(sizeOf e).run x.P w=.ok sz w:=by simp[sizeOf,typeInfo,g1,g2]
 have hu:(underlying t).run x.P w=.ok (.array len e) w:=by simp[underlying,hS.out]
 have hb1:(Instr.sliceBounds false len len (og.map a'.eval) (oh.map a'.eval) none).run x.P w=.ok (lo',hi',len) w:=by
  cases og with
  | none=>
   cases oh with
   | none=>simp only at hg hh;subst hg;subst hh;simp[Instr.sliceBounds]
   | some h=>simp only at hg hh;subst hg;obtain⟨k,hk⟩:=hh;simp[Instr.sliceBounds,ha.eval hk,run_sliceBound,h2,Instr.sliceBound,asIntOf]
  | some g=>
   cases oh with
   | none=>simp only at hg hh;subst hh;obtain⟨k,hk⟩:=hg;simp[Instr.sliceBounds,ha.eval hk,Instr.sliceBound,asIntOf,h1]
   | some h=>simp only at hg hh;obtain⟨k,hk⟩:=hg;obtain⟨k',hk'⟩:=hh;simp[Instr.sliceBounds,ha.eval hk,ha.eval hk',Instr.sliceBound,asIntOf,h1,h2]
 simp only[execOp,ha.eval ho,Instr.sliceAt,Sem.run_bind,hu,Result.andThen_ok,Instr.sureAddr,Sem.run_pure,Option.map_none,hb1,hsz,YY]
theorem y_slice_arr_all {o:Operand}{t len e sz b off:Nat}(ho:ev E o=some (.pointer (some ⟨b,off,none⟩)))[hS:WY x.P t len e][hZ:Zm x.P e sz] :
  Yl x (.slice t o none none none) ty E ρ L (.slice (some ⟨b,off,none⟩) len len):=by
 have:=y_slice_arr (x:=x) (ρ:=ρ) (L:=L) (ty:=ty) (og:=none) (oh:=none) (lo':=0) (hi':=len) ho (hS:=hS) (hZ:=hZ) rfl rfl (aZ _) (aR _)
 simpa using this
theorem y_slice_arr_l {o g:Operand}{t len e sz b off:Nat}{k:IntKind}{lo':Int}(ho:ev E o=some (.pointer (some ⟨b,off,none⟩)))(hg:ev E g=some (.int k lo'))[hS:WY x.P t len e][hZ:Zm x.P e sz](h0:0<=lo')(h1:lo'<len) :
  Yl x (.slice t o (some g) none none) ty E ρ L (.slice (some ⟨b,off+lo'.toNat*sz,none⟩) (len-lo'.toNat) (len-lo'.toNat)):=by
 have:=y_slice_arr (x:=x) (ρ:=ρ) (L:=L) (ty:=ty) (og:=some g) (oh:=none) (lo':=lo'.toNat) (hi':=len) ho (hS:=hS) (hZ:=hZ) ⟨k,by rw[Int.toNat_of_nonneg h0];exact hg⟩ rfl (by omega) (aR _)
 rwa [if_neg (by omega)] at this
theorem y_slice_arr_h {o h:Operand}{t len e sz b off:Nat}{k:IntKind}{hi':Int}(ho:ev E o=some (.pointer (some ⟨b,off,none⟩)))(hh:ev E h=some (.int k hi'))[hS:WY x.P t len e][hZ:Zm x.P e sz](h0:0<=hi')(h1:hi'<=len) :
  Yl x (.slice t o none (some h) none) ty E ρ L (.slice (some ⟨b,off,none⟩) hi'.toNat len):=by
 have:=y_slice_arr (x:=x) (ρ:=ρ) (L:=L) (ty:=ty) (og:=none) (oh:=some h) (lo':=0) (hi':=hi'.toNat) ho (hS:=hS) (hZ:=hZ) rfl ⟨k,by rw[Int.toNat_of_nonneg h0];exact hh⟩ (by omega) (by omega)
 simpa using this
theorem y_slice_arr_lh {o g h:Operand}{t len e sz b off:Nat}{k k':IntKind}{lo' hi':Int}(ho:ev E o=some (.pointer (some ⟨b,off,none⟩)))(hg:ev E g=some (.int k lo'))(hh:ev E h=some (.int k' hi'))[hS:WY x.P t len e][hZ:Zm x.P e sz](h0:0<=lo')(h1:lo'<=hi')(h2:hi'<=len)(h3:lo'<len) :
  Yl x (.slice t o (some g) (some h) none) ty E ρ L (.slice (some ⟨b,off+lo'.toNat*sz,none⟩) (hi'.toNat-lo'.toNat) (len-lo'.toNat)):=by
 have:=y_slice_arr (x:=x) (ρ:=ρ) (L:=L) (ty:=ty) (og:=some g) (oh:=some h) (lo':=lo'.toNat) (hi':=hi'.toNat) ho (hS:=hS) (hZ:=hZ) ⟨k,by rw[Int.toNat_of_nonneg h0];exact hg⟩ ⟨k',by rw[Int.toNat_of_nonneg (by omega)];exact hh⟩ (by omega) (by omega)
 rwa [if_neg (by omega)] at this
theorem y_slice_m {o g h m:Operand}{t e sz len cap:Nat}{a:Option Addr}{k k' k2:IntKind}{lo' hi' mx:Int}(ho:ev E o=some (.slice a len cap))(hg:ev E g=some (.int k' lo'))(hh:ev E h=some (.int k hi'))(hm:ev E m=some (.int k2 mx))[hS:ZE x.P t e][hZ:Zm x.P e sz]
  (h0:0<=lo') (h1:lo'<=hi') (h2:hi'<=mx) (h3:mx<=cap) :
  Yl x (.slice t o (some g) (some h) (some m)) ty E ρ L (.slice (if mx.toNat=lo'.toNat then a else a.map (·.add (lo'.toNat*sz))) (hi'.toNat-lo'.toNat) (mx.toNat-lo'.toNat)):=λ a' w _ _ _ _ ha hw=>by
 obtain⟨inf,g1,g2⟩:=hZ.out
 have hel:x.P.elem t=e:=by simp[Program.elem,hS.out]
 have ht:x.P.underlying t=some (.slice (x.P.elem t)):=by rw[hel];exact hS.out
 have hsz:(sizeOf e).run x.P w=.ok sz w:=by simp[sizeOf,typeInfo,g1,g2]
 have e1:(mx.toNat:Int)=mx:=Int.toNat_of_nonneg (by omega)
 have e2:(hi'.toNat:Int)=hi':=Int.toNat_of_nonneg (by omega)
 have hu:(underlying t).run x.P w=.ok (.slice e) w:=by simp[underlying,hS.out]
 have hb1:(Instr.sliceBounds true len cap (some (.int k' lo')) (some (.int k hi')) (some (.int k2 mx))).run x.P w=.ok (lo'.toNat,hi'.toNat,mx.toNat) w:=by
  simp[Instr.sliceBounds,Instr.sliceBound,asIntOf,h0,h1,h2,h3,e1,e2,show (0:Int)<=hi' by omega,show (0:Int)<=mx by omega]
 have key:(Instr.slice t (.slice a len cap) (some (.int k' lo')) (some (.int k hi')) (some (.int k2 mx))).run x.P w=.ok (.slice (if mx.toNat=lo'.toNat then a else a.map (·.add (lo'.toNat*sz))) (hi'.toNat-lo'.toNat) (mx.toNat-lo'.toNat)) w:=by
  simp only[Instr.slice,Sem.run_bind,hu,Result.andThen_ok,hb1,hsz,Sem.run_pure]
 simp only[execOp,ha.eval ho,ha.eval hh,ha.eval hg,ha.eval hm,Option.map_some,Sem.run_bind,run_sliceAt_slice _ _ _ _ _ _ ht,key,Result.andThen_ok,Sem.run_pure]
theorem y_slice_hm {o h m:Operand}{t e sz len cap:Nat}{a:Option Addr}{k k2:IntKind}{hi' mx:Int}(ho:ev E o=some (.slice a len cap))(hh:ev E h=some (.int k hi'))(hm:ev E m=some (.int k2 mx))[hS:ZE x.P t e][hZ:Zm x.P e sz]
  (h0:0<=hi') (h2:hi'<=mx) (h3:mx<=cap):Yl x (.slice t o none (some h) (some m)) ty E ρ L (.slice a hi'.toNat mx.toNat):=λ a' w _ _ _ _ ha hw=>by
 obtain⟨inf,g1,g2⟩:=hZ.out
 have hel:x.P.elem t=e:=by simp[Program.elem,hS.out]
 have ht:x.P.underlying t=some (.slice (x.P.elem t)):=by rw[hel];exact hS.out
 have hsz:(sizeOf e).run x.P w=.ok sz w:=by simp[sizeOf,typeInfo,g1,g2]
 have e1:(mx.toNat:Int)=mx:=Int.toNat_of_nonneg (by omega)
 have hu:(underlying t).run x.P w=.ok (.slice e) w:=by simp[underlying,hS.out]
 have hb1:(Instr.sliceBounds true len cap none (some (.int k hi')) (some (.int k2 mx))).run x.P w=.ok (0,hi'.toNat,mx.toNat) w:=by
  simp[Instr.sliceBounds,Instr.sliceBound,asIntOf,h0,h2,h3,e1,show (0:Int)<=mx by omega]
 have ea:(if mx.toNat=0 then a else a.map (·.add (0*sz)))=a:=by
  split
  ·rfl
  ·cases a with
   | none=>rfl
   | some a=>simp[Addr.add]
 have key:(Instr.slice t (.slice a len cap) none (some (.int k hi')) (some (.int k2 mx))).run x.P w=.ok (.slice a hi'.toNat mx.toNat) w:=by
  simp only[Instr.slice,Sem.run_bind,hu,Result.andThen_ok,hb1,hsz,Sem.run_pure,ea,Nat.sub_zero]
 simp only[execOp,ha.eval ho,ha.eval hh,ha.eval hm,Option.map_some,Option.map_none,Sem.run_bind,run_sliceAt_slice _ _ _ _ _ _ ht,key,Result.andThen_ok,Sem.run_pure]
theorem y_shl8 {p q:Operand}{t t':TypeId}{k k':IntKind}{m:Int}(h1:ev E p=some (.int k m))(h2:ev E q=some (.int k' 8))(h:lo k<=m*256/\m*256<=hi k)(hk:8<=k.bits):Yl x (.binOp .shl t p q t') ty E ρ L (.int k (m*256)):=by
 have hc:min (Int.toNat 8) k.bits=8:=by simp only[show Int.toNat 8=8 from rfl];omega
 have:=y_shl (x:=x) (E:=E) (ρ:=ρ) (L:=L) (ty:=ty) (t:=t) (t':=t') (c:=8) h1 h2 (by decide) hc
 rw[show (2:Int) ^ 8=256 from rfl,WL h] at this
 exact this
theorem y_or8 {p q:Operand}{t t':TypeId}{m n:Int}(h1:ev E p=some (.int .u64 m))(h2:ev E q=some (.int .u64 n))(h:0<=m/\m % 256=0/\0<=n/\n<256/\m+n<=18446744073709551615):Yl x (.binOp .or t p q t') ty E ρ L (.int .u64 (m+n)):=λ a w _ _ _ _ ha _=>by
 obtain⟨hm0,hmd,hn0,hn1,hs⟩:=h
 have key:IntKind.u64.wrap ((BitVec.ofInt 64 m ||| BitVec.ofInt 64 n).toNat:Int)=m+n:=by
  obtain⟨a,rfl⟩:∃a:Nat,m=(a*2 ^ 8:Nat):=⟨(m / 256).toNat,by have:(2:Nat) ^ 8=256:=rfl;omega⟩
  obtain⟨b,rfl⟩:∃b:Nat,n=b:=⟨n.toNat,by omega⟩
  have hb:b<2 ^ 8:=by have:(2:Nat) ^ 8=256:=rfl;omega
  have h8:(2:Nat) ^ 8=256:=rfl
  have h64:(2:Nat) ^ 64=18446744073709551616:=rfl
  rw[BitVec.toNat_or,BitVec.ofInt_natCast,BitVec.ofInt_natCast,BitVec.toNat_ofNat,BitVec.toNat_ofNat,Nat.mod_eq_of_lt (by omega),Nat.mod_eq_of_lt (by omega),Nat.mul_comm a,<-Nat.two_pow_add_eq_or_of_lt hb a]
  rw[show IntKind.u64.wrap ((2 ^ 8*a+b:Nat):Int)=((2 ^ 8*a+b:Nat):Int) from WL (by simp only[lo,hi];omega)]
  omega
 have hb:(Op.intBits .or .u64 m n).run x.P w=.ok (.int .u64 (m+n)) w:=by
  show (pure (.int .u64 (IntKind.u64.wrap ((BitVec.ofInt 64 m ||| BitVec.ofInt 64 n).toNat:Int))):Sem Value).run x.P w=_
  rw[key];rfl
 simp[execOp,ha.eval h1,ha.eval h2,eqGuard,binOp,hb]
theorem tl_mark {d t e b n c:Nat}{p:Operand}{C:List Value}{T:TypeId}{f:Obj->SH}(hp:ev E p=some (.slice (some ⟨b,0,none⟩) n c))[hS:ZE x.P t e][hE:YV x.P e .u8][hU:Upd b L (.cells ⟨C⟩ T (0,0)) f](hd:Nat.blt d x.N=true)
  (k:TL x ops rest Q ((d,.slice (some ⟨b,0,none⟩) n c)::E) ρ (f (.cells ⟨C⟩ T (C.length,C.length+1)))) :
  TL x ops (⟨some d,.convert t t p,ty,pos,af,none⟩::rest) Q E ρ L:=λ a w ha hw=>by
 refine Ye rfl rfl ?_
 obtain⟨hs,hb⟩:=hw.upd hU (.cells ⟨C⟩ T (C.length,C.length+1))
 have hsh:w.shape? b=some (T,C.length):=by simp[World.shape?,hb]
 have hfr:w.freeze ⟨b,C.length,none⟩ 1=Vq w b (.cells ⟨C⟩ T (C.length,C.length+1)):=by
  unfold World.freeze Vq
  rw[if_neg (by decide)]
  congr 1
  obtain⟨hlt,hv⟩:=Array.getElem?_eq_some_iff.1 hb
  apply Array.ext_getElem?
  intro i
  rw[Array.getElem?_modify]
  by_cases hi:b=i
  ·subst hi;simp[hlt,hv]
  ·rw[if_neg hi,Array.getElem?_setIfInBounds_ne hi]
 have hrun:(convert t t (.slice (some ⟨b,0,none⟩) n c)).run x.P w=.ok (.slice (some ⟨b,0,none⟩) n c) (Vq w b (.cells ⟨C⟩ T (C.length,C.length+1))):=by
  simp[convert,underlying,hS.out,hE.out,markStringish,hsh,hfr]
 have:(execOp a.eval ⟨some d,.convert t t p,ty,pos,af,none⟩).run x.P w=.ok (.value (.slice (some ⟨b,0,none⟩) n c)) (Vq w b (.cells ⟨C⟩ T (C.length,C.length+1))):=by
  simp only[execOp,ha.eval hp,Sem.run_bind,hrun,Result.andThen_ok,Sem.run_pure]
 rw[this]
 exact k _ _ (ha.put (Nat.le_of_ble_eq_true hd) _) hs
end
end Go.Proofs.E
namespace Go.Proofs.E
open Go
section
variable {x:Cx}{Q:Exit->Act->World->Prop}{E:Env}{ρ:Hp}{L:SH}{ops:Array Oper}{rest tail:List Oper}{ty:TypeId}{pos:String}{af:Array Edge}{S:World->Prop}{l:List Oper}{listed:List Bool}{fuel:Nat}
theorem tl_undef {d:Nat}{op:Op}{j:Nat}{c:Bool}(hy:∀a,Ok x.D x.N E a->yielded ops a.tmps j=none)(hd:Nat.blt d x.N=true)
  (k:TL x ops rest Q ((d,undef)::E) ρ L):TL x ops (⟨some d,op,ty,pos,af,some (j,c)⟩::rest) Q E ρ L:=λ a w ha hw=>by
 simp only[wpListIn,Region.wanted,hy a ha]
 exact⟨λ _ _=>trivial,k _ _ (ha.put (Nat.le_of_ble_eq_true hd) undef) hw⟩
theorem ts_undef {d:Nat}{op:Op}{j:Nat}{c:Bool}(hy:∀a,Ok x.D x.N E a->yielded ops a.tmps j=none)(hd:Nat.blt d x.N=true)
  (k:TS x ops rest tail Q ((d,undef)::E) ρ L):TS x ops (⟨some d,op,ty,pos,af,some (j,c)⟩::rest) tail Q E ρ L:=λ a w ha hw=>by
 simp only[wpStill,Region.wanted,hy a ha]
 exact k _ _ (ha.put (Nat.le_of_ble_eq_true hd) undef) hw
theorem tr_undef (i:Nat){d:Nat}{op:Op}{j:Nat}{c:Bool}(hb:Vl l listed i=true)(hi:l[i]?=some ⟨some d,op,ty,pos,af,some (j,c)⟩)(hy:∀a,Ok x.D x.N E a->yielded l.toArray a.tmps j=none)
  (hd:Nat.blt d x.N=true)
  (k:TR x l S fuel (WH listed i) Q ((d,undef)::E) ρ L):TR x l S (fuel+1) listed Q E ρ L:=λ a w ha hw hS=>by
 simp only[Vl,aE] at hb
 obtain⟨⟨⟨h1,h2⟩,h3⟩,h4⟩:=hb
 have hi':l.toArray[i]?=some ⟨some d,op,ty,pos,af,some (j,c)⟩:=by simpa using hi
 have hne:((none:Option Bool) == some c)=false:=by cases c<;>rfl
 refine wpAnyG_first (v:=undef) h2 hi' (Region.noSelect_spec h1) (λ _ _ _ h=>h) fuel _ a w (Region.free_spec hi' h3) (by simpa using h4) (.inr ⟨by simp only[Region.wanted,hy a ha,hne],rfl⟩) hS ?_
 have:=k _ w (ha.put (Nat.le_of_ble_eq_true hd) undef) hw hS
 rw[lset_eq] at this
 simpa using this
end
attribute [local irreducible] Yl TL TC TE Spec YW R1 Hp.le EnvLe TS TR YS Zv
theorem cmpB_ne_self {m:Int}:cmpB .neq m m=some false:=by simp[cmpB]
theorem cmpB_eq_self {m:Int}:cmpB .eql m m=some true:=by simp[cmpB]
theorem eqB_self_eql (l:List UInt8):eqB .eql (l == l)=some true:=by simp[eqB]
theorem eqB_self_neq (l:List UInt8):eqB .neq (l == l)=some false:=by simp[eqB]
theorem eqB_ne_eql {l m:List UInt8}(h:l≠m):eqB .eql (l == m)=some false:=by simp[eqB,h]
theorem eqB_ne_neq {l m:List UInt8}(h:l≠m):eqB .neq (l == m)=some true:=by simp[eqB,h]
section
variable {x:Cx}{E:Env}{ρ:Hp}{L:SH}{ty:TypeId}
theorem y_eqs {p q:Operand}{t t' n e:Nat}{l:List UInt8}[hA:WY x.P t n e][hE:YV x.P e .u8][hz:Zm x.P e 1][hG:Zn x.P t](h1:ev E p=some (.agg ⟨l.map Zk⟩))(h2:ev E q=some (.agg ⟨l.map Zk⟩))(hl:l.length=n):Yl x (.binOp .eql t p q t') ty E ρ L (.bool true):=y_eq_bytes h1 h2 hl hl (eqB_self_eql l)
theorem y_nes {p q:Operand}{t t' n e:Nat}{l:List UInt8}[hA:WY x.P t n e][hE:YV x.P e .u8][hz:Zm x.P e 1][hG:Zn x.P t](h1:ev E p=some (.agg ⟨l.map Zk⟩))(h2:ev E q=some (.agg ⟨l.map Zk⟩))(hl:l.length=n):Yl x (.binOp .neq t p q t') ty E ρ L (.bool false):=y_eq_bytes h1 h2 hl hl (eqB_self_neq l)
theorem y_eqd {p q:Operand}{t t' n e:Nat}{l m:List UInt8}[hA:WY x.P t n e][hE:YV x.P e .u8][hz:Zm x.P e 1][hG:Zn x.P t](h1:ev E p=some (.agg ⟨l.map Zk⟩))(h2:ev E q=some (.agg ⟨m.map Zk⟩))(hl:l.length=n)(hm:m.length=n)(h:l≠m):Yl x (.binOp .eql t p q t') ty E ρ L (.bool false):=y_eq_bytes h1 h2 hl hm (eqB_ne_eql h)
theorem y_ned {p q:Operand}{t t' n e:Nat}{l m:List UInt8}[hA:WY x.P t n e][hE:YV x.P e .u8][hz:Zm x.P e 1][hG:Zn x.P t](h1:ev E p=some (.agg ⟨l.map Zk⟩))(h2:ev E q=some (.agg ⟨m.map Zk⟩))(hl:l.length=n)(hm:m.length=n)(h:l≠m):Yl x (.binOp .neq t p q t') ty E ρ L (.bool true):=y_eq_bytes h1 h2 hl hm (eqB_ne_neq h)
end
theorem take_skipA' {A L R G:SH}(h:Xj L R G):Xj (A++L) R (A++G):=⟨by
 simp only[List.flatten_append]
 refine (List.Perm.append_left _ (by simpa using h.out)).trans ?_
 rw[<-aA,<-aA]
 exact List.Perm.append_right _ List.perm_append_comm⟩
theorem tk {L Lf R:SH}(h:Xj L Lf R:=by repeat (first|exact take_nil'|exact take_app'|exact ZJ|exact rem_nil'|apply take_cons'|apply Ya|apply rem_app'|exact take_all'|apply take_append'|apply take_skip'|(refine take_skip' (G:=?_) ?_;rotate_left)|(refine take_skipA' (G:=?_) ?_;rotate_left))):Xj L Lf R:=h
theorem ev_le {E' E:Env}(h:EnvLe E' E:=by repeat (first|exact EnvLe.nil _|refine EnvLe.cons rfl ?_)):EnvLe E' E:=h
section
variable {x:Cx}{Q:Exit->Act->World->Prop}{E:Env}{ρ ρ0:Hp}{L Ls:SH}{ops:Array Oper}{rest:List Oper}{ty:TypeId}{pos:String}{af:Array Edge}{d:Nat}{v:Value}{dd:Option Nat}{gd:Nat×Bool}{op:Op}{l:List Oper}{listed:List Bool}{fuel:Nat}{tail:List Oper}
theorem i_gd (h:TL x ops (⟨dd,op,ty,pos,af,some gd⟩::rest) Q E ρ L):TL x ops (⟨dd,op,ty,pos,af,some gd⟩::rest) Q E ρ L:=h
theorem i_op {o:Oper}(h:TL x ops (o::rest) Q E ρ L):TL x ops (o::rest) Q E ρ L:=h
theorem i_cond {c:Operand}{y z:Code}(h:TC x (.cond c y z) Q E ρ L):TC x (.cond c y z) Q E ρ L:=h
theorem i_miss {id id':Nat}(h:TE x (.exit id') (Exit.inBlock id Q) E ρ L):TE x (.exit id') (Exit.inBlock id Q) E ρ L:=h
theorem j_gd (h:TS x ops (⟨dd,op,ty,pos,af,some gd⟩::rest) tail Q E ρ L):TS x ops (⟨dd,op,ty,pos,af,some gd⟩::rest) tail Q E ρ L:=h
theorem jMv {o:Operand}(h:TS x ops (⟨dd,.move o,ty,pos,af,none⟩::rest) tail Q E ρ L):TS x ops (⟨dd,.move o,ty,pos,af,none⟩::rest) tail Q E ρ L:=h
theorem sMv {o:Operand}(k:TS x ops rest tail Q ((d,v)::E) ρ L)(y:Yl x (.move o) ty E ρ L v:=by first|exact y_move rfl)(hd:Nat.blt d x.N=true:=by rfl):TS x ops (⟨some d,.move o,ty,pos,af,none⟩::rest) tail Q E ρ L:=ts_y y hd k
theorem rMv (n0:Nat){o:Operand}(k:TR x l (Zv x ρ0 Ls) fuel (WH listed n0) Q ((d,v)::E) ρ L)(hb:Vl l listed n0=true:=by decide +kernel)(hi:l[n0]?=some ⟨some d,.move o,ty,pos,af,none⟩:=by rfl)(y:∀ρ',ρ0.le ρ'->Yl x (.move o) ty E ρ' Ls v:=by intro _ _;first|exact y_move rfl)(hd:Nat.blt d x.N=true:=by rfl):TR x l (Zv x ρ0 Ls) (fuel+1) listed Q E ρ L:=tr_take n0 hb hi (ys_of' (λ _ h=>h) y) hd k
theorem jLd {o:Operand}{t:Nat}(h:TS x ops (⟨dd,.load t o,ty,pos,af,none⟩::rest) tail Q E ρ L):TS x ops (⟨dd,.load t o,ty,pos,af,none⟩::rest) tail Q E ρ L:=h
theorem sLd {o:Operand}{t:Nat}(k:TS x ops rest tail Q ((d,v)::E) ρ L)(y:Yl x (.load t o) ty E ρ L v:=by first|exact y_load_s rfl (by first|assumption|rfl)|exact y_load_a rfl (by first|assumption|rfl)|exact y_load_sub rfl|exact y_load_part rfl (by first|assumption|omega) (by assumption)|exact y_load_is rfl (by assumption) (by first|assumption|rfl)|exact WM rfl (by assumption) (by first|assumption|omega) (by assumption)|exact y_load_is rfl (hp_get (by assumption) (by assumption)) (by first|assumption|rfl)|exact WM rfl (hp_get (by assumption) (by assumption)) (by first|assumption|omega) (by assumption))(hd:Nat.blt d x.N=true:=by rfl):TS x ops (⟨some d,.load t o,ty,pos,af,none⟩::rest) tail Q E ρ L:=ts_y y hd k
theorem rLd (n0:Nat){o:Operand}{t:Nat}(k:TR x l (Zv x ρ0 Ls) fuel (WH listed n0) Q ((d,v)::E) ρ L)(hb:Vl l listed n0=true:=by decide +kernel)(hi:l[n0]?=some ⟨some d,.load t o,ty,pos,af,none⟩:=by rfl)(y:∀ρ',ρ0.le ρ'->Yl x (.load t o) ty E ρ' Ls v:=by intro _ _;first|exact y_load_s rfl (by first|assumption|rfl)|exact y_load_a rfl (by first|assumption|rfl)|exact y_load_sub rfl|exact y_load_part rfl (by first|assumption|omega) (by assumption)|exact y_load_is rfl (by assumption) (by first|assumption|rfl)|exact WM rfl (by assumption) (by first|assumption|omega) (by assumption)|exact y_load_is rfl (hp_get (by assumption) (by assumption)) (by first|assumption|rfl)|exact WM rfl (hp_get (by assumption) (by assumption)) (by first|assumption|omega) (by assumption))(hd:Nat.blt d x.N=true:=by rfl):TR x l (Zv x ρ0 Ls) (fuel+1) listed Q E ρ L:=tr_take n0 hb hi (ys_of' (λ _ h=>h) y) hd k
theorem jFa {o:Operand}{s f:Nat}(h:TS x ops (⟨dd,.fieldAddr s o f,ty,pos,af,none⟩::rest) tail Q E ρ L):TS x ops (⟨dd,.fieldAddr s o f,ty,pos,af,none⟩::rest) tail Q E ρ L:=h
theorem sFa {o:Operand}{s f:Nat}(k:TS x ops rest tail Q ((d,v)::E) ρ L)(y:Yl x (.fieldAddr s o f) ty E ρ L v:=by first|exact y_fieldAddr0 rfl|exact y_fieldAddr rfl)(hd:Nat.blt d x.N=true:=by rfl):TS x ops (⟨some d,.fieldAddr s o f,ty,pos,af,none⟩::rest) tail Q E ρ L:=ts_y y hd k
theorem rFa (n0:Nat){o:Operand}{s f:Nat}(k:TR x l (Zv x ρ0 Ls) fuel (WH listed n0) Q ((d,v)::E) ρ L)(hb:Vl l listed n0=true:=by decide +kernel)(hi:l[n0]?=some ⟨some d,.fieldAddr s o f,ty,pos,af,none⟩:=by rfl)(y:∀ρ',ρ0.le ρ'->Yl x (.fieldAddr s o f) ty E ρ' Ls v:=by intro _ _;first|exact y_fieldAddr0 rfl|exact y_fieldAddr rfl)(hd:Nat.blt d x.N=true:=by rfl):TR x l (Zv x ρ0 Ls) (fuel+1) listed Q E ρ L:=tr_take n0 hb hi (ys_of' (λ _ h=>h) y) hd k
theorem iCm {o:BinOp}{p q:Operand}{t t':Nat}(h:TL x ops (⟨dd,(.binOp o t p q t'),ty,pos,af,none⟩::rest) Q E ρ L):TL x ops (⟨dd,(.binOp o t p q t'),ty,pos,af,none⟩::rest) Q E ρ L:=h
theorem jNc {o:Operand}(h:TS x ops (⟨dd,.nilCheck o,ty,pos,af,none⟩::rest) tail Q E ρ L):TS x ops (⟨dd,.nilCheck o,ty,pos,af,none⟩::rest) tail Q E ρ L:=h
theorem sNc {o:Operand}(k:TS x ops rest tail Q ((d,v)::E) ρ L)(y:Yl x (.nilCheck o) ty E ρ L v:=by first|exact y_nilCheck rfl|exact y_nilCheck_f rfl|exact y_nilCheck_y rfl)(hd:Nat.blt d x.N=true:=by rfl):TS x ops (⟨some d,.nilCheck o,ty,pos,af,none⟩::rest) tail Q E ρ L:=ts_y y hd k
theorem jIa {o i:Operand}{t:Nat}(h:TS x ops (⟨dd,.indexAddr t o i,ty,pos,af,none⟩::rest) tail Q E ρ L):TS x ops (⟨dd,.indexAddr t o i,ty,pos,af,none⟩::rest) tail Q E ρ L:=h
theorem sIa {o i:Operand}{t:Nat}(k:TS x ops rest tail Q ((d,v)::E) ρ L)(y:Yl x (.indexAddr t o i) ty E ρ L v:=by first|exact y_indexAddr_nat rfl rfl (by omega)|exact y_indexAddr rfl rfl (by omega) (by omega)|exact y_indexAddr_arrN rfl rfl (by omega)|exact WT rfl rfl (by omega) (by omega))(hd:Nat.blt d x.N=true:=by rfl):TS x ops (⟨some d,.indexAddr t o i,ty,pos,af,none⟩::rest) tail Q E ρ L:=ts_y y hd k
theorem rIa (n0:Nat){o i:Operand}{t:Nat}(k:TR x l (Zv x ρ0 Ls) fuel (WH listed n0) Q ((d,v)::E) ρ L)(hb:Vl l listed n0=true:=by decide +kernel)(hi:l[n0]?=some ⟨some d,.indexAddr t o i,ty,pos,af,none⟩:=by rfl)(y:∀ρ',ρ0.le ρ'->Yl x (.indexAddr t o i) ty E ρ' Ls v:=by intro _ _;first|exact y_indexAddr_nat rfl rfl (by omega)|exact y_indexAddr rfl rfl (by omega) (by omega)|exact y_indexAddr_arrN rfl rfl (by omega)|exact WT rfl rfl (by omega) (by omega))(hd:Nat.blt d x.N=true:=by rfl):TR x l (Zv x ρ0 Ls) (fuel+1) listed Q E ρ L:=tr_take n0 hb hi (ys_of' (λ _ h=>h) y) hd k
theorem iCv {o:Operand}{s t:Nat}(h:TL x ops (⟨dd,.convert s t o,ty,pos,af,none⟩::rest) Q E ρ L):TL x ops (⟨dd,.convert s t o,ty,pos,af,none⟩::rest) Q E ρ L:=h
theorem rBi (n0:Nat){b:Builtin}{xs:Array Operand}{ats:Array TypeId}(k:TR x l (Zv x ρ0 Ls) fuel (WH listed n0) Q ((d,v)::E) ρ L)(hb:Vl l listed n0=true:=by decide +kernel)(hi:l[n0]?=some ⟨some d,.call { callee:=.builtin b,args:=xs,argTypes:=ats },ty,pos,af,none⟩:=by rfl)(y:∀ρ',ρ0.le ρ'->Yl x (.call { callee:=.builtin b,args:=xs,argTypes:=ats }) ty E ρ' Ls v:=by intro _ _;first|exact y_len rfl|exact y_len_str rfl|exact y_cap rfl|exact y_max rfl rfl|exact y_min rfl rfl)(hd:Nat.blt d x.N=true:=by rfl):TR x l (Zv x ρ0 Ls) (fuel+1) listed Q E ρ L:=tr_take n0 hb hi (ys_of' (λ _ h=>h) y) hd k
theorem jLu {o i:Operand}{t:Nat}{c:Bool}(h:TS x ops (⟨dd,.lookup t o i c,ty,pos,af,none⟩::rest) tail Q E ρ L):TS x ops (⟨dd,.lookup t o i c,ty,pos,af,none⟩::rest) tail Q E ρ L:=h
theorem sLu {o i:Operand}{t:Nat}{c:Bool}(k:TS x ops rest tail Q ((d,v)::E) ρ L)(y:Yl x (.lookup t o i c) ty E ρ L v:=by first|exact y_lookup_ok2 rfl rfl (by assumption) (by assumption)|exact y_lookup2 rfl rfl (by assumption) (by assumption)|exact y_lookup0 rfl rfl (by assumption) (by assumption)|exact y_lookup_ok rfl rfl (by assumption)|exact y_lookup rfl rfl (by assumption))(hd:Nat.blt d x.N=true:=by rfl):TS x ops (⟨some d,.lookup t o i c,ty,pos,af,none⟩::rest) tail Q E ρ L:=ts_y y hd k
theorem iBu {t:Nat}{ps:Array (Nat×Operand)}(h:TL x ops (⟨dd,.build t ps,ty,pos,af,none⟩::rest) Q E ρ L):TL x ops (⟨dd,.build t ps,ty,pos,af,none⟩::rest) Q E ρ L:=h
theorem rSl (n0:Nat){t:Nat}{o:Operand}{lw hg mx:Option Operand}(k:TR x l (Zv x ρ0 Ls) fuel (WH listed n0) Q ((d,v)::E) ρ L)(hb:Vl l listed n0=true:=by decide +kernel)(hi:l[n0]?=some ⟨some d,.slice t o lw hg mx,ty,pos,af,none⟩:=by rfl)(y:∀ρ',ρ0.le ρ'->Yl x (.slice t o lw hg mx) ty E ρ' Ls v:=by intro _ _;first|exact y_slice_h rfl rfl (by omega) (by omega)|exact y_slice_str_h rfl rfl (by omega) (by omega)|exact y_slice_lh rfl rfl rfl (by omega) (by omega) (by omega) (by omega)|exact y_slice_l rfl rfl (by omega) (by omega) (by omega)|exact y_slice_str_l rfl rfl (by omega) (by omega)|exact y_slice_arr_all rfl|exact y_slice_arr_l rfl rfl (by omega) (by omega)|exact y_slice_arr_h rfl rfl (by omega) (by omega)|exact y_slice_arr_lh rfl rfl rfl (by omega) (by omega) (by omega) (by omega)|exact y_slice_m rfl rfl rfl rfl (by omega) (by omega) (by omega) (by omega)|exact y_slice_hm rfl rfl rfl (by omega) (by omega) (by omega))(hd:Nat.blt d x.N=true:=by rfl):TR x l (Zv x ρ0 Ls) (fuel+1) listed Q E ρ L:=tr_take n0 hb hi (ys_of' (λ _ h=>h) y) hd k
theorem iMk {t:Nat}{o:Operand}(h:TL x ops (⟨dd,.convert t t o,ty,pos,af,none⟩::rest) Q E ρ L):TL x ops (⟨dd,.convert t t o,ty,pos,af,none⟩::rest) Q E ρ L:=h
theorem iSt {o p:Operand}{t:Nat}(h:TL x ops (⟨dd,.store t o p,ty,pos,af,none⟩::rest) Q E ρ L):TL x ops (⟨dd,.store t o p,ty,pos,af,none⟩::rest) Q E ρ L:=h
theorem iAl {t:Nat}(h:TL x ops (⟨dd,.alloc t,ty,pos,af,none⟩::rest) Q E ρ L):TL x ops (⟨dd,.alloc t,ty,pos,af,none⟩::rest) Q E ρ L:=h
theorem iBx {t:Nat}{o:Operand}(h:TL x ops (⟨dd,.box t o,ty,pos,af,none⟩::rest) Q E ρ L):TL x ops (⟨dd,.box t o,ty,pos,af,none⟩::rest) Q E ρ L:=h
theorem iMm {t:Nat}{o:Option Operand}(h:TL x ops (⟨dd,.makeMap t o,ty,pos,af,none⟩::rest) Q E ρ L):TL x ops (⟨dd,.makeMap t o,ty,pos,af,none⟩::rest) Q E ρ L:=h
theorem iBs {t n:Nat}{ps:Array (Nat×Operand)}(h:TL x ops (⟨dd,.buildSlice t n ps,ty,pos,af,none⟩::rest) Q E ρ L):TL x ops (⟨dd,.buildSlice t n ps,ty,pos,af,none⟩::rest) Q E ρ L:=h
theorem yl_undef {a:Act}{D:List Deferred}{N:Nat}{ops:Array Oper}{j t:Nat}(ha:Ok D N E a)(hj:(ops[j]?).bind (·.dst)=some t)(he:lk E t=some undef):yielded ops a.tmps j=none:=by
 unfold yielded
 rw[hj]
 simp[ha.get t _ he,undef]
theorem qSkipU {j t:Nat}{c:Bool}(k:TL x ops rest Q ((d,undef)::E) ρ L)
  (hj:(ops[j]?).bind (·.dst)=some t:=by rfl) (he:lk E t=some undef:=by rfl) (hd:Nat.blt d x.N=true:=by rfl):TL x ops (⟨some d,op,ty,pos,af,some (j,c)⟩::rest) Q E ρ L:=tl_undef (λ a ha=>yl_undef ha hj he) hd k
theorem sSkipU {j t:Nat}{c:Bool}(k:TS x ops rest tail Q ((d,undef)::E) ρ L)
  (hj:(ops[j]?).bind (·.dst)=some t:=by rfl) (he:lk E t=some undef:=by rfl) (hd:Nat.blt d x.N=true:=by rfl):TS x ops (⟨some d,op,ty,pos,af,some (j,c)⟩::rest) tail Q E ρ L:=ts_undef (λ a ha=>yl_undef ha hj he) hd k
theorem rStep {i:Nat}{o:Oper}(h:TL x l.toArray [o] (QR x l (Zv x ρ0 Ls) fuel (WH listed i) Q) E ρ L)(hr:Region.ready .any l.toArray ⟨listed⟩=[i]:=by decide +kernel)(ho:l[i]?=some o:=by rfl):TR x l (Zv x ρ0 Ls) (fuel+1) listed Q E ρ L:=tr_step1 hr ho h
theorem rStep3 {i j k:Nat}{o p q:Oper}(h:TL x l.toArray [o] (QR x l (Zv x ρ0 Ls) fuel (WH listed i) Q) E ρ L)(h':TL x l.toArray [p] (QR x l (Zv x ρ0 Ls) fuel (WH listed j) Q) E ρ L)(h'':TL x l.toArray [q] (QR x l (Zv x ρ0 Ls) fuel (WH listed k) Q) E ρ L)(hr:Region.ready .any l.toArray ⟨listed⟩=[i,j,k]:=by decide +kernel)(ho:l[i]?=some o:=by rfl)(hp:l[j]?=some p:=by rfl)(hq:l[k]?=some q:=by rfl):TR x l (Zv x ρ0 Ls) (fuel+1) listed Q E ρ L:=
 tr_step hr (by simp) (λ m hm=>by
  rcases List.mem_cons.1 hm with rfl|hm
  ·exact⟨o,ho,h⟩
  ·rcases List.mem_cons.1 hm with rfl|hm
   ·exact⟨p,hp,h'⟩
   ·have:m=k:=by simpa using hm
    subst this;exact⟨q,hq,h''⟩)
theorem rNext {R:SH}(h:TR x l (Zv x ρ0 Ls) fuel listed Q E ρ L)(hle:ρ0.le ρ:=by first|assumption|exact Hp.le_refl _|(refine Hp.le_trans ?_ (by assumption);assumption)|solve_by_elim (maxDepth:=6) [Hp.le_trans])(hT:Xj L Ls R:=by exact tk):TE x .normal (QR x l (Zv x ρ0 Ls) fuel listed Q) E ρ L:=te_any (stays_of hle (hT:=hT)) h
theorem rDone {S:World->Prop}(h:TE x .normal Q E ρ L)(hr:Region.ready .any l.toArray ⟨listed⟩=[]:=by decide +kernel):TR x l S fuel listed Q E ρ L:=tr_done hr h
theorem ZX {j t:Nat}{b:Bool}(k:TL x ops (⟨dd,op,ty,pos,af,none⟩::rest) Q E ρ L)
  (hj:(ops[j]?).bind (·.dst)=some t:=by rfl) (he:lk E t=some (.bool b):=by rfl):TL x ops (⟨dd,op,ty,pos,af,some (j,b)⟩::rest) Q E ρ L:=tl_want hj he k
theorem qSkip {j t:Nat}{b c:Bool}(k:TL x ops rest Q ((d,undef)::E) ρ L)
  (hj:(ops[j]?).bind (·.dst)=some t:=by rfl) (he:lk E t=some (.bool b):=by rfl) (hbc:(b == c)=false:=by rfl) (hd:Nat.blt d x.N=true:=by rfl):TL x ops (⟨some d,op,ty,pos,af,some (j,c)⟩::rest) Q E ρ L:=tl_skip hj he hbc hd k
theorem qSkip0 {j t:Nat}{b c:Bool}(k:TL x ops rest Q E ρ L)
  (hj:(ops[j]?).bind (·.dst)=some t:=by rfl) (he:lk E t=some (.bool b):=by rfl) (hbc:(b == c)=false:=by rfl):TL x ops (⟨none,op,ty,pos,af,some (j,c)⟩::rest) Q E ρ L:=tl_skip0 hj he hbc k
theorem sWant {j t:Nat}{b:Bool}(k:TS x ops (⟨dd,op,ty,pos,af,none⟩::rest) tail Q E ρ L)
  (hj:(ops[j]?).bind (·.dst)=some t:=by rfl) (he:lk E t=some (.bool b):=by rfl):TS x ops (⟨dd,op,ty,pos,af,some (j,b)⟩::rest) tail Q E ρ L:=ts_want hj he k
theorem sSkip {j t:Nat}{b c:Bool}(k:TS x ops rest tail Q ((d,undef)::E) ρ L)
  (hj:(ops[j]?).bind (·.dst)=some t:=by rfl) (he:lk E t=some (.bool b):=by rfl) (hbc:(b == c)=false:=by rfl) (hd:Nat.blt d x.N=true:=by rfl):TS x ops (⟨some d,op,ty,pos,af,some (j,c)⟩::rest) tail Q E ρ L:=ts_skip hj he hbc hd k
theorem qAlA {t:Nat}{l:List Value}[hz:Zf x.P t (.agg ⟨l⟩)](k:∀b,TL x ops rest Q ((d,.pointer (some ⟨b,0,none⟩))::E) ρ ([(b,.cells ⟨l⟩ t (0,0))]::L))(hd:Nat.blt d x.N=true:=by rfl) :
  TL x ops (⟨some d,.alloc t,ty,pos,af,none⟩::rest) Q E ρ L:=tl_alloc_a hd k
theorem qAlS {t:Nat}{z:Value}[hz:Zf x.P t z](k:∀b,TL x ops rest Q ((d,.pointer (some ⟨b,0,none⟩))::E) ρ ([(b,.cells ⟨[z]⟩ t (0,0))]::L))(h:z.oneCell'=true:=by rfl)(hd:Nat.blt d x.N=true:=by rfl) :
  TL x ops (⟨some d,.alloc t,ty,pos,af,none⟩::rest) Q E ρ L:=tl_alloc_s h hd k
theorem qBxA {t:Nat}{o:Operand}{l:List Value}(k:∀b,TL x ops rest Q ((d,.pointer (some ⟨b,0,none⟩))::E) ρ ([(b,.cells ⟨l⟩ t (0,0))]::L))(h:ev E o=some (.agg ⟨l⟩):=by rfl)(hd:Nat.blt d x.N=true:=by rfl) :
  TL x ops (⟨some d,.box t o,ty,pos,af,none⟩::rest) Q E ρ L:=tl_box_a h hd k
theorem qBxS {t:Nat}{o:Operand}(k:∀b,TL x ops rest Q ((d,.pointer (some ⟨b,0,none⟩))::E) ρ ([(b,.cells ⟨[v]⟩ t (0,0))]::L))(h:ev E o=some v:=by rfl)(h1:v.oneCell'=true:=by rfl)(hd:Nat.blt d x.N=true:=by rfl) :
  TL x ops (⟨some d,.box t o,ty,pos,af,none⟩::rest) Q E ρ L:=tl_box_s h h1 hd k
theorem qMm {t:Nat}(k:∀b,TL x ops rest Q ((d,.map (some b))::E) ρ ([(b,.map ⟨[]⟩ 0)]::L))(hd:Nat.blt d x.N=true:=by rfl) :
  TL x ops (⟨some d,.makeMap t none,ty,pos,af,none⟩::rest) Q E ρ L:=tl_makeMap hd k
theorem qBs {t e sz:Nat}[hS:ZE x.P t e][hZ:Zm x.P e sz](k:∀b,TL x ops rest Q ((d,.slice (some ⟨b,0,none⟩) 0 0)::E) ρ ([(b,.cells ⟨[]⟩ e (0,0))]::L))(hd:Nat.blt d x.N=true:=by rfl) :
  TL x ops (⟨some d,.buildSlice t 0 ⟨[]⟩,ty,pos,af,none⟩::rest) Q E ρ L:=tl_buildSlice0 hd k
theorem qMk {t e b n c:Nat}{p:Operand}{C:List Value}{T:TypeId}{f:Obj->SH}[hS:ZE x.P t e][hE:YV x.P e .u8][hU:Upd b L (.cells ⟨C⟩ T (0,0)) f]
  (k:TL x ops rest Q ((d,.slice (some ⟨b,0,none⟩) n c)::E) ρ (f (.cells ⟨C⟩ T (C.length,C.length+1)))) (hp:ev E p=some (.slice (some ⟨b,0,none⟩) n c):=by rfl) (hd:Nat.blt d x.N=true:=by rfl) :
  TL x ops (⟨some d,.convert t t p,ty,pos,af,none⟩::rest) Q E ρ L:=tl_mark hp hd k
theorem qSt {t:Nat}{o p:Operand}{L':SH}(k:TL x ops rest Q E ρ L')
  (h:TL x ops rest Q E ρ L'->TL x ops (⟨none,.store t o p,ty,pos,af,none⟩::rest) Q E ρ L:=by
   first
   | exact tl_store_set rfl rfl rfl
   | exact tl_store_all rfl rfl (by first|assumption|rfl) (by first|assumption|rfl) (by first|assumption|rfl)
   | exact tl_store_sub rfl rfl (by first|assumption|rfl) (by rfl)
   | exact tl_store_s rfl rfl rfl (by first|assumption|rfl|exact ble_le (by omega))
   | exact tl_store_a rfl rfl (by first|assumption|rfl) (by first|assumption|rfl) (by first|assumption|rfl|exact ble_le (by omega))) :
  TL x ops (⟨none,.store t o p,ty,pos,af,none⟩::rest) Q E ρ L:=h k
theorem qCt {c:Operand}{y z:Code}(h:TC x y Q E ρ L)(hc:ev E c=some (.bool true):=by rfl):TC x (.cond c y z) Q E ρ L:=tc_cond_t hc h
theorem qCf {c:Operand}{y z:Code}(h:TC x z Q E ρ L)(hc:ev E c=some (.bool false):=by rfl):TC x (.cond c y z) Q E ρ L:=tc_cond_f hc h
theorem qMiss {id id':Nat}(h:TE x (.exit id') Q E ρ L)(hne:Nat.beq id' id=false:=by rfl):TE x (.exit id') (Exit.inBlock id Q) E ρ L:=te_block_miss hne h
theorem y0Mv {o:Operand}(h:Yl x (.move o) ty E ρ L v):Yl x (.move o) ty E ρ L v:=h
theorem y0Ld {o:Operand}{t:Nat}(h:Yl x (.load t o) ty E ρ L v):Yl x (.load t o) ty E ρ L v:=h
theorem y0Fa {o:Operand}{s f:Nat}(h:Yl x (.fieldAddr s o f) ty E ρ L v):Yl x (.fieldAddr s o f) ty E ρ L v:=h
theorem y0Ad {p q:Operand}{t t':Nat}(h:Yl x ((.binOp .add t p q t')) ty E ρ L v):Yl x ((.binOp .add t p q t')) ty E ρ L v:=h
theorem y0Sb {p q:Operand}{t t':Nat}(h:Yl x ((.binOp .sub t p q t')) ty E ρ L v):Yl x ((.binOp .sub t p q t')) ty E ρ L v:=h
theorem y0Ml {p q:Operand}{t t':Nat}(h:Yl x ((.binOp .mul t p q t')) ty E ρ L v):Yl x ((.binOp .mul t p q t')) ty E ρ L v:=h
theorem y0Rm {p q:Operand}{t t':Nat}(h:Yl x ((.binOp .rem t p q t')) ty E ρ L v):Yl x ((.binOp .rem t p q t')) ty E ρ L v:=h
theorem y0Qu {p q:Operand}{t t':Nat}(h:Yl x ((.binOp .quo t p q t')) ty E ρ L v):Yl x ((.binOp .quo t p q t')) ty E ρ L v:=h
theorem y0Sr {p q:Operand}{t t':Nat}(h:Yl x ((.binOp .shr t p q t')) ty E ρ L v):Yl x ((.binOp .shr t p q t')) ty E ρ L v:=h
theorem y0Sh {p q:Operand}{t t':Nat}(h:Yl x ((.binOp .shl t p q t')) ty E ρ L v):Yl x ((.binOp .shl t p q t')) ty E ρ L v:=h
theorem y0Or {p q:Operand}{t t':Nat}(h:Yl x ((.binOp .or t p q t')) ty E ρ L v):Yl x ((.binOp .or t p q t')) ty E ρ L v:=h
theorem y0Cm {o:BinOp}{p q:Operand}{t t':Nat}(h:Yl x ((.binOp o t p q t')) ty E ρ L v):Yl x ((.binOp o t p q t')) ty E ρ L v:=h
theorem y0Ex {o:Operand}{i:Nat}(h:Yl x (.extract o i) ty E ρ L v):Yl x (.extract o i) ty E ρ L v:=h
theorem y0As {o:Operand}(h:Yl x (.assign o) ty E ρ L v):Yl x (.assign o) ty E ρ L v:=h
theorem y0Pk {c p q:Operand}(h:Yl x (.pick c p q) ty E ρ L v):Yl x (.pick c p q) ty E ρ L v:=h
theorem y0Nc {o:Operand}(h:Yl x (.nilCheck o) ty E ρ L v):Yl x (.nilCheck o) ty E ρ L v:=h
theorem y0Ia {o i:Operand}{t:Nat}(h:Yl x (.indexAddr t o i) ty E ρ L v):Yl x (.indexAddr t o i) ty E ρ L v:=h
theorem y0Cv {o:Operand}{s t:Nat}(h:Yl x (.convert s t o) ty E ρ L v):Yl x (.convert s t o) ty E ρ L v:=h
theorem y0Bi {b:Builtin}{xs:Array Operand}{ats:Array TypeId}(h:Yl x (.call { callee:=.builtin b,args:=xs,argTypes:=ats }) ty E ρ L v):Yl x (.call { callee:=.builtin b,args:=xs,argTypes:=ats }) ty E ρ L v:=h
theorem y0Un {o:UnOp}{p:Operand}{t:Nat}(h:Yl x (.unOp o t p) ty E ρ L v):Yl x (.unOp o t p) ty E ρ L v:=h
theorem y0Fl {o:Operand}{s f:Nat}(h:Yl x (.field s o f) ty E ρ L v):Yl x (.field s o f) ty E ρ L v:=h
theorem y0Lu {o i:Operand}{t:Nat}{c:Bool}(h:Yl x (.lookup t o i c) ty E ρ L v):Yl x (.lookup t o i c) ty E ρ L v:=h
theorem y0Bu {t:Nat}{ps:Array (Nat×Operand)}(h:Yl x (.build t ps) ty E ρ L v):Yl x (.build t ps) ty E ρ L v:=h
theorem y0Sl {t:Nat}{o:Operand}{lw hg mx:Option Operand}(h:Yl x (.slice t o lw hg mx) ty E ρ L v):Yl x (.slice t o lw hg mx) ty E ρ L v:=h
theorem y0Mf {fn:Fn}{p q:Array Operand}(h:Yl x (.makeFunc fn p q) ty E ρ L v):Yl x (.makeFunc fn p q) ty E ρ L v:=h
theorem y0Mi {o:Operand}{t:Nat}(h:Yl x (.makeInterface t o) ty E ρ L v):Yl x (.makeInterface t o) ty E ρ L v:=h
theorem y0Ta {o:Operand}{s t:Nat}{c:Bool}(h:Yl x (.typeAssert o s t c) ty E ρ L v):Yl x (.typeAssert o s t c) ty E ρ L v:=h
theorem yD {op:Op}(y:Yl x op ty E ρ L v:=by
   first
   | (apply y0Mv;first|exact y_move rfl)
   | (apply y0Ld;first|exact y_load_s rfl (by first|assumption|rfl)|exact y_load_a rfl (by first|assumption|rfl)|exact y_load_sub rfl|exact y_load_part rfl (by first|assumption|omega) (by assumption)|exact y_load_is rfl (by assumption) (by first|assumption|rfl)|exact WM rfl (by assumption) (by first|assumption|omega) (by assumption)|exact y_load_is rfl (hp_get (by assumption) (by assumption)) (by first|assumption|rfl)|exact WM rfl (hp_get (by assumption) (by assumption)) (by first|assumption|omega) (by assumption))
   | (apply y0Fa;first|exact y_fieldAddr0 rfl|exact y_fieldAddr rfl)
   | (apply y0Ad;first|exact y_add rfl rfl (by simp only[Go.Proofs.E.lo,Go.Proofs.E.hi];omega)|exact y_add_w rfl rfl)
   | (apply y0Sb;first|exact y_sub rfl rfl (by simp only[Go.Proofs.E.lo,Go.Proofs.E.hi];omega)|exact y_sub_w rfl rfl)
   | (apply y0Ml;first|exact y_mul rfl rfl (by simp only[Go.Proofs.E.lo,Go.Proofs.E.hi];omega)|exact y_mul_w rfl rfl)
   | (apply y0Rm;first|exact y_rem rfl rfl (by omega))
   | (apply y0Qu;first|exact y_quo_w rfl rfl (by omega))
   | (apply y0Sr;first|exact y_shr rfl rfl (by omega) (by simp[IntKind.bits];rfl)|exact y_shr rfl rfl (by omega) rfl)
   | (apply y0Sh;first|exact y_shl8 rfl rfl (by simp only[Go.Proofs.E.lo,Go.Proofs.E.hi];omega) (by decide)|exact y_shl rfl rfl (by omega) (by simp[IntKind.bits];rfl)|exact y_shl rfl rfl (by omega) rfl)
   | (apply y0Or;first|exact y_or8 rfl rfl (by omega))
   | (apply y0Cm;first|exact y_cmp (b:=true) (by rfl) (by rfl) (by first|rfl|exact cmpB_ne_self|exact cmpB_eq_self|(simp only[cmpB,Option.some.injEq,decide_eq_true_eq,decide_eq_false_iff_not,beq_iff_eq,bne_iff_ne,beq_eq_false_iff_ne,bne_eq_false_iff_eq,ne_eq];omega))|exact y_cmp (b:=false) (by rfl) (by rfl) (by first|rfl|exact cmpB_ne_self|exact cmpB_eq_self|(simp only[cmpB,Option.some.injEq,decide_eq_true_eq,decide_eq_false_iff_not,beq_iff_eq,bne_iff_ne,beq_eq_false_iff_ne,bne_eq_false_iff_eq,ne_eq];omega))|exact y_cmp rfl rfl rfl|exact y_ptr_nil rfl rfl rfl|exact y_func_nil rfl rfl rfl rfl|exact y_slice_nil rfl rfl rfl|exact y_map_nil rfl rfl rfl|exact y_eqs rfl rfl (by first|assumption|rfl)|exact y_nes rfl rfl (by first|assumption|rfl)|exact y_eqd rfl rfl (by first|assumption|rfl) (by first|assumption|rfl) (by assumption)|exact y_ned rfl rfl (by first|assumption|rfl) (by first|assumption|rfl) (by assumption)|exact y_eq_bytes rfl rfl (by first|assumption|rfl) (by first|assumption|rfl) rfl|exact y_bool_eq rfl rfl eqB_bool_self|exact y_bool_eq rfl rfl eqB_bool_nself|exact y_bool_eq rfl rfl rfl|exact y_str_eq rfl rfl rfl|exact y_eqc_l (c:=_) rfl rfl (by assumption) rfl|exact y_eqc rfl rfl rfl)
   | (apply y0Ex;first|exact y_extract rfl rfl)
   | (apply y0As;first|exact y_assign rfl)
   | (apply y0Pk;first|exact y_pick_t rfl rfl|exact y_pick_f rfl rfl)
   | (apply y0Nc;first|exact y_nilCheck rfl|exact y_nilCheck_f rfl|exact y_nilCheck_y rfl)
   | (apply y0Ia;first|exact y_indexAddr_nat rfl rfl (by omega)|exact y_indexAddr rfl rfl (by omega) (by omega)|exact y_indexAddr_arrN rfl rfl (by omega)|exact WT rfl rfl (by omega) (by omega))
   | (apply y0Cv;first|exact y_conv_i rfl (by simp only[Go.Proofs.E.lo,Go.Proofs.E.hi];omega)|exact y_conv rfl|exact y_conv_in rfl (by assumption)|exact y_conv_in rfl (SIn.mono (by assumption) (by assumption)))
   | (apply y0Bi;first|exact y_len rfl|exact y_len_str rfl|exact y_cap rfl|exact y_max rfl rfl|exact y_min rfl rfl)
   | (apply y0Un;first|exact y_not rfl|exact y_neg rfl)
   | (apply y0Fl;first|exact y_field_s rfl rfl|exact y_field_sub rfl|exact y_field_a rfl rfl)
   | (apply y0Lu;first|exact y_lookup_ok2 rfl rfl (by assumption) (by assumption)|exact y_lookup2 rfl rfl (by assumption) (by assumption)|exact y_lookup0 rfl rfl (by assumption) (by assumption)|exact y_lookup_ok rfl rfl (by assumption)|exact y_lookup rfl rfl (by assumption))
   | (apply y0Bu;first|exact y_buildS rfl rfl|exact y_build rfl (by assumption)|exact y_build rfl rfl|exact y_build (vs:=[]) rfl rfl)
   | (apply y0Sl;first|exact y_slice_h rfl rfl (by omega) (by omega)|exact y_slice_str_h rfl rfl (by omega) (by omega)|exact y_slice_lh rfl rfl rfl (by omega) (by omega) (by omega) (by omega)|exact y_slice_l rfl rfl (by omega) (by omega) (by omega)|exact y_slice_str_l rfl rfl (by omega) (by omega)|exact y_slice_arr_all rfl|exact y_slice_arr_l rfl rfl (by omega) (by omega)|exact y_slice_arr_h rfl rfl (by omega) (by omega)|exact y_slice_arr_lh rfl rfl rfl (by omega) (by omega) (by omega) (by omega)|exact y_slice_m rfl rfl rfl rfl (by omega) (by omega) (by omega) (by omega)|exact y_slice_hm rfl rfl rfl (by omega) (by omega) (by omega))
   | (apply y0Mf;first|exact y_makeFunc rfl rfl)
   | (apply y0Mi;first|exact y_makeInterface rfl)
   | (apply y0Ta;first|exact y_typeAssert rfl)):Yl x op ty E ρ L v:=y
theorem qQ {d:Nat}{op:Op}(k:TL x ops rest Q ((d,v)::E) ρ L)(y:Yl x op ty E ρ L v:=by exact yD)(hd:Nat.blt d x.N=true:=by rfl)(hn:Wb op=true:=by rfl):TL x ops (⟨some d,op,ty,pos,af,none⟩::rest) Q E ρ L:=tl_y y hd hn k
theorem i_tc {c:Code}(h:TC x c Q E ρ L):TC x c Q E ρ L:=h
theorem i_qq {d:Nat}{op:Op}(h:TL x ops (⟨some d,op,ty,pos,af,none⟩::rest) Q E ρ L):TL x ops (⟨some d,op,ty,pos,af,none⟩::rest) Q E ρ L:=h
theorem i_te {e:Exit}(h:TE x e Q E ρ L):TE x e Q E ρ L:=h
theorem qTc {G:Prop}{c:Code}(k:G)(h:G->TC x c Q E ρ L:=by
   intro k
   first
   | exact tc_seq k
   | exact tc_region k
   | (refine i_cond ?_;first|exact qCt k|exact qCf k)
   | exact tc_block k
   | exact tc_exit k
   | exact tc_ret k
   | exact tc_skip k
   | exact tc_scope k
   | exact tc_label k):TC x c Q E ρ L:=h k
theorem qTe {G:Prop}{e:Exit}(k:G)(h:G->TE x e Q E ρ L:=by
   intro k
   first
   | exact te_seq k
   | exact te_block_normal k
   | exact te_block_ret k
   | exact te_then_ret k
   | exact te_block_hit k
   | (refine i_miss ?_;exact qMiss k)
   | exact te_then_exit k
   | exact te_scope_normal k
   | exact te_scope_exit k
   | exact te_scope_ret k):TE x e Q E ρ L:=h k
theorem qEf {G:Prop}{o:Oper}(k:G)(h:G->TL x ops (o::rest) Q E ρ L:=by
   intro k
   first
   | (refine iSt ?_;exact qSt k)
   | (refine iAl ?_;first|exact qAlA k|exact qAlS k)
   | (refine iBx ?_;first|exact qBxA k|exact qBxS k)
   | (refine iMm ?_;exact qMm k)
   | (refine iBs ?_;exact qBs k)
   | (refine iMk ?_;exact qMk k)
   | (refine i_gd ?_;first|exact ZX k|exact qSkip k|exact qSkip0 k|exact qSkipU k)):TL x ops (o::rest) Q E ρ L:=h k
theorem qC {g:Nat}{f:Operand}{xs:List Operand}{ats:Array TypeId}{fs cs vs:List Value}{Lf R:SH}{Post:Value->Hp->SH->Prop}(hf:ev E f=some (.func (.func g) ⟨fs⟩ ⟨cs⟩))(hv:evs E xs=some vs)[hF:Zz x.P g]
  (S:Spec x.P g (fs++vs++cs) ρ Lf Post)
  (k:∀v ρ' L',ρ.le ρ'->Post v ρ' L'->TL x ops rest Q ((d,v)::E) ρ' (L'++R)) (hT:Xj L Lf R:=by exact tk) (hd:Nat.blt d x.N=true:=by rfl) :
  TL x ops (⟨some d,.call { callee:=.value f,args:=⟨xs⟩,argTypes:=ats },ty,pos,af,none⟩::rest) Q E ρ L:=tl_call hf hv S hT hd k
theorem qY {g:Nat}{f:Operand}{xs:List Operand}{ats:Array TypeId}{vs:List Value}{Lf R:SH}{Post:Bool->Hp->SH->Prop}(hf:ev E f=some (.func (.yield g) ⟨[]⟩ ⟨[]⟩))(hv:evs E xs=some vs)
  (S:YW x.P g vs ρ Lf Post)
  (k:∀b ρ' L',ρ.le ρ'->Post b ρ' L'->TL x ops rest Q ((d,.bool b)::E) ρ' (L'++R)) (hT:Xj L Lf R:=by exact tk) (hd:Nat.blt d x.N=true:=by rfl) :
  TL x ops (⟨some d,.call { callee:=.value f,args:=⟨xs⟩,argTypes:=ats },ty,pos,af,none⟩::rest) Q E ρ L:=tl_yield hf hv S hT hd k
theorem qE {e:Exit}{fn:Func}{u:World}{R:SH}{Post:Value->Hp->SH->Prop}{L' G:SH}(hp:Post v ρ L')
  (hr:∀a w,Ok x.D x.N E a->Sat x.u ρ L w->(results fn a.tmps).run x.P w=.ok v w:=by
   first
   | exact res0 rfl
   | (refine res1 rfl ?_;first|exact ZZ rfl|exact ZN rfl (by first|assumption|rfl)|exact Zr rfl rfl)
   | (refine res2 rfl ?_ ?_<;>first|exact ZZ rfl|exact ZN rfl (by first|assumption|rfl)|exact Zr rfl rfl)
   | (refine Vr rfl ?_ ?_ ?_<;>first|exact ZZ rfl|exact ZN rfl (by first|assumption|rfl)|exact Zr rfl rfl))
  (hle:ρ0.le ρ:=by first|assumption|exact Hp.le_refl _|(refine Hp.le_trans ?_ (by assumption);assumption)|solve_by_elim (maxDepth:=6) [Hp.le_trans]) (k:Xj L L' G:=by exact tk) (en:Ends G R:=by infer_instance) (he:isEnd e=true:=by rfl) (hD:x.D=[]:=by rfl) (hu:x.u=u:=by rfl) :
  TE x e (bodyPostM (Fw none) 0 x.P fn (RK u ρ0 R Post)) E ρ L:=te_end he hD hu hr hle k en hp
end
end Go.Proofs.E
namespace Go.Proofs.E
open Go Go.RowKit Go.WideShapes
def hpOf (w:World):Hp:=λ b=>w.heap[b]?
theorem Sat.start (w:World):Sat w (hpOf w) [] w:=⟨rfl,rfl,rfl,by simp,by simp,by simp,λ b o h=>h⟩
theorem Sat.below {w w':World}{ρ':Hp}{L:SH}(h:Sat w ρ' L w')(hle:(hpOf w).le ρ'):Below w.heap.size w w':=by
 have old:∀k,k<w.heap.size->w'.heap[k]?=w.heap[k]?:=λ k hk=>by
  have:w.heap[k]?=some w.heap[k]:=by simp[hk]
  rw[this]
  exact h.imm k _ (hle k _ this)
 refine⟨h.os,h.tape,h.output, ?_,old⟩
 rcases Nat.eq_zero_or_pos w.heap.size with h0|h0
 ·omega
 ·have:=old (w.heap.size-1) (by omega)
  have hs:w.heap[w.heap.size-1]?=some w.heap[w.heap.size-1]:=by
   rw[Array.getElem?_eq_getElem (by omega)]
  rw[hs] at this
  have:=(Array.getElem?_eq_some_iff.1 this).1
  omega
theorem Spec.law {P:Program}{f:FuncId}{args:List Value}{W:World}(h:Spec P f args (hpOf W) [] (λ v ρ' L'=>v=.bool true/\(hpOf W).le ρ'/\L'=[])) :
  Calls P f ⟨args⟩ W (λ e W'=>e=.returned (.bool true)/\Below W.heap.size W W'):=by
 refine callsIn_wide.1 ((h W [] W (by simpa using Sat.start W)).mono ?_)
 rintro e w' ⟨v,ρ',L',rfl,hle,hs,rfl,hle2,rfl⟩
 exact⟨rfl,hs.below hle2⟩
theorem exists_list {α:Type}{P:Nat->α->Prop}:∀(n:Nat),(∀i,i<n->∃a,P i a)->∃xs:List α,xs.length=n/\∀i (h:i<xs.length),P i xs[i]
 | 0,_=>⟨[],rfl,λ i h=>by simp at h⟩
 | n+1,h=>by
  obtain⟨xs,h1,h2⟩:=exists_list n (λ i hi=>h i (by omega))
  obtain⟨a,ha⟩:=h n (by omega)
  refine⟨xs++[a],by simp[h1],λ i hi=>?_⟩
  by_cases hlt:i<xs.length
  ·rw[List.getElem_append_left hlt];exact h2 i hlt
  ·have:i=n:=by simp at hi;omega
   subst this
   rw[List.getElem_append_right (by omega)]
   simpa using ha
theorem mapM_get {α β:Type}{f:α->Option β}:∀{l:List α} {ys:List β},l.mapM f=some ys->ys.length=l.length/\∀i (h:i<l.length),f l[i]=ys[i]?
 | [],ys,h=>by simp at h;subst h;simp
 | a::r,ys,h=>by
  simp only[List.mapM_cons,Option.bind_eq_bind,Option.bind_eq_some_iff] at h
  obtain⟨b,hb,bs,hbs,hy⟩:=h
  have hy':b::bs=ys:=by simpa using hy
  subst hy'
  obtain⟨h1,h2⟩:=mapM_get hbs
  refine⟨by simp[h1],λ i hi=>?_⟩
  cases i with
  | zero=>simpa using hb
  | succ i=>simpa using h2 i (by simpa using hi)
theorem cells_block {w:World}{a:Addr}{n:Nat}{cs:List Value}(h:w.cells? 0 a n=some cs)(hn:0<n) :
  ∃b off C T fr,a=⟨b,off,none⟩/\w.heap[b]?=some (.cells ⟨C⟩ T fr)/\off+n<=C.length/\cs=(C.drop off).take n:=by
 simp only[World.cells?,aZ,if_true] at h
 obtain⟨h1,h2⟩:=mapM_get h
 simp only[List.length_range,List.getElem_range] at h1 h2
 obtain⟨b,off,spot⟩:=a
 have hc0:=h2 0 hn
 have e0:(Addr.mk b off spot).add 0=⟨b,off,spot⟩:=by simp[Addr.add]
 rw[e0,List.getElem?_eq_getElem (by omega)] at hc0
 have hs:spot=none:=World.cell?_spot hc0
 subst hs
 have hb:∃C T fr,w.heap[b]?=some (.cells C T fr):=by
  unfold World.cell? at hc0
  split at hc0
  ·rename_i c T fr hb;exact⟨c,T,fr,hb⟩
  ·cases hc0
 obtain⟨⟨C⟩,T,fr,hb⟩:=hb
 have cell:∀i,i<n->C[off+i]?=cs[i]?:=λ i hi=>by
  have:=h2 i hi
  rw[YY] at this
  simp only[World.cell?,hb,Option.isSome_none,aB,if_false] at this
  simpa using this
 have hlen:off+n<=C.length:=by
  have:=cell (n-1) (by omega)
  rw[List.getElem?_eq_getElem (show n-1<cs.length by omega)] at this
  have:=(List.getElem?_eq_some_iff.1 this).1
  omega
 refine⟨b,off,C,T,fr,rfl,hb,hlen, ?_⟩
 apply List.ext_getElem?
 intro i
 by_cases hi:i<n
 ·rw[List.getElem?_take_of_lt hi,List.getElem?_drop,cell i hi]
 ·rw[List.getElem?_eq_none (by omega),List.getElem?_eq_none (by simp;omega)]
section
variable {H:Type}{enc:TypeId×Value->H}{P:Program}{w:World}
def Opn (enc:TypeId×Value->H)(P:Program)(w:World)(t:TypeId){α:Type}(R:List Value->α->Prop):Prop:=
 ∀fuel cs x,DataW.trod enc P w 0 (λ _=>true) true fuel t cs=some x->∃a,R cs a
def RI (k:IntKind)(cs:List Value)(n:Int):Prop:=cs=[.int k n]/\lo k<=n/\n<=hi k
def RB (cs:List Value)(b:Bool):Prop:=cs=[.bool b]
theorem wf_bounds {k:IntKind}{n:Int}(h:(Lit.int k n).wf=true):lo k<=n/\n<=hi k:=by
 cases k<;>simp[Lit.wf,IntKind.min,IntKind.max,IntKind.signed,IntKind.bits,lo,hi] at h ⊢<;>omega
theorem opn_int {t:TypeId}{k:IntKind}(ht:P.underlying t=some (.int k)):Opn enc P w t (RI k):=λ fuel cs x h=>by
 obtain⟨m,rfl,rfl,hw⟩:=DataW.trod_int ht h
 exact⟨m,rfl,wf_bounds hw⟩
theorem opn_bool {t:TypeId}(ht:P.underlying t=some .bool):Opn enc P w t RB:=λ fuel cs x h=>by
 cases fuel with
 | zero=>simp[DataW.trod] at h
 | succ n=>
  unfold DataW.trod at h
  rw[ht] at h
  split at h<;>simp_all[RB]
structure RS (ρ:Hp)(sz:Nat){α:Type}(R:List Value->α->Prop)(cs:List Value)(s:Option Addr×Nat×Nat×List α):Prop where
 cells:cs=[.slice s.1 s.2.1 s.2.2.1]
 le:s.2.1<=s.2.2.1
 big:s.2.2.1<=9223372036854775807
 len:s.2.2.2.length=s.2.1
 at':∀i (h:i<s.2.2.2.length),∃b off C T fr,s.1=some ⟨b,off,none⟩/\ρ b=some (.cells ⟨C⟩ T fr)/\off+i*sz+sz<=C.length/\R ((C.drop (off+i*sz)).take sz) s.2.2.2[i]
theorem opn_slice {t e:TypeId}{sz:Nat}{α:Type}{R:List Value->α->Prop}(ht:P.underlying t=some (.slice e))(hsz:P.cellsOf e=sz)(h0:0<sz)(hR:Opn enc P w e R):Opn enc P w t (RS (hpOf w) sz R):=λ fuel cs x h=>by
 subst hsz
 rcases DataW.trod_slice ht h with⟨rfl,_⟩|⟨a,len,cap,elems,rest,n,_,rfl,_,_,hl,hm,hlen,hel,_,_⟩
 ·exact⟨(none,0,0,[]),rfl,aR _,by simp,rfl,λ i h=>by simp at h⟩
 have each:∀i,i<len->∃y:α,∃b off C T fr,a=⟨b,off,none⟩/\w.heap[b]?=some (.cells ⟨C⟩ T fr)/\off+i*P.cellsOf e+P.cellsOf e<=C.length/\R ((C.drop (off+i*P.cellsOf e)).take (P.cellsOf e)) y:=by
  have spot:0<len->a.spot=none:=λ hp=>by
   have hi:=hel 0 hp
   rw[List.getElem?_eq_getElem (by omega),Option.bind_eq_some_iff] at hi
   obtain⟨cs',hcs,_⟩:=hi
   obtain⟨b,off,C,T,fr,ha,_⟩:=cells_block hcs h0
   have e0:a.add (0*P.cellsOf e)=a:=by simp[Addr.add]
   rw[e0] at ha
   rw[ha]
  intro i hi
  have hs:=spot (by omega)
  obtain⟨b,off,sp⟩:=a
  simp only at hs
  subst hs
  have hi':=hel i hi
  rw[List.getElem?_eq_getElem (by omega),Option.bind_eq_some_iff] at hi'
  obtain⟨cs',hcs,htr⟩:=hi'
  rw[YY] at hcs
  obtain⟨b',off',C,T,fr,ha,hb,hfit,rfl⟩:=cells_block hcs h0
  cases ha
  obtain⟨y,hy⟩:=hR _ _ _ htr
  exact⟨y,_,_,C,T,fr,rfl,hb,hfit,hy⟩
 obtain⟨xs,h1,h2⟩:=exists_list len each
 refine⟨(some a,len,cap,xs),rfl,hl,by simpa [maxLen] using hm,h1,λ i hi=>?_⟩
 obtain⟨b,off,C,T,fr,e1,e2,e3,e4⟩:=h2 i hi
 exact⟨b,off,C,T,fr,by rw[e1],e2,e3,e4⟩
theorem WC {t:TypeId}{fs:Array Field}{fuel:Nat}{cs:List Value}{x:DataW H×List MemPlace}(ht:P.underlying t=some (.struct fs))(h:DataW.trod enc P w 0 (λ _=>true) true fuel t cs=some x) :
  cs.length=P.cellsOf t/\∀(i:Nat) (f:Field),fs[i]?=some f->∀{α:Type} {R:List Value->α->Prop},Opn enc P w f.type R->∃a,R ((cs.drop f.offset).take (P.cellsOf f.type)) a:=by
 obtain⟨xs,n,_,_,hl,hlen,hf⟩:=DataW.trod_struct ht h
 refine⟨hl,λ i f hi α R hR=>?_⟩
 have:=hf i f hi
 have hlt:i<fs.size:=(Array.getElem?_eq_some_iff.1 hi).1
 rw[List.getElem?_eq_getElem (by omega)] at this
 exact hR _ _ _ this
theorem YL {t:TypeId}{fs:Array Field}{fuel:Nat}{cs:List Value}{x:DataW H×List MemPlace}(h:DataW.trod enc P w 0 (λ _=>true) true fuel t cs=some x)(ht:P.underlying t=some (.struct fs))(i o n:Nat){f:Field}{T:TypeId}
  (hi:fs[i]?=some f) (ho:f.offset=o) (hT:f.type=T) (hn:P.cellsOf T=n) {α:Type} {R:List Value->α->Prop} (hR:Opn enc P w T R):∃a,R ((cs.drop o).take n) a:=by
 subst ho;subst hn;subst hT
 exact (WC ht h).2 i f hi hR
theorem top_slice {ts:List TypeId}{ds:List (DataW H)}{t e:TypeId}{j:Nat}{v:Value}{d:DataW H}{p:List MemPlace}{a:Option Addr}{n c:Nat}(hsz:(DataW.weightsEach P ts ds).all (·<=reachBytes)=true)
  (ht:ts[j]?=some t) (hd:ds[j]?=some d) (hu:P.underlying t=some (.slice e)) (h:DataW.Trod enc P w 0 (λ _=>true) true t v d p) (hv:v=.slice a n c):n*P.bytesOf e<=reachBytes:=by
 obtain⟨fuel,h⟩:=h
 subst hv
 rcases DataW.trod_slice hu h with⟨h1,_⟩|⟨a,len,cap,elems,rest,m,_,h1,h2,_,hl,hm,hlen,_⟩
 ·simp[Value.cells] at h1;simp[h1]
 ·simp only[Value.cells] at h1
  have h1':n=len:=by simp at h1;exact h1.2.1
  have h2':=congrArg Prod.fst h2
  simp only at h2'
  have:=sized_slice hsz ht (by rw[hd,h2']) hu
  refine Nat.le_trans (Nat.mul_le_mul_right _ ?_) this
  simp;omega
end
end Go.Proofs.E
namespace Go.Proofs.E
open Go
theorem lk_append (A B:Env)(t:Nat):lk (A++B) t=(lk A t).or (lk B t):=by
 induction A with
 | nil=>simp[lk]
 | cons p r ih=>
  obtain⟨k,v⟩:=p
  simp only[List.cons_append,lk]
  split
  ·simp
  ·exact ih
theorem EnvLe.app {A B E:Env}(h:EnvLe A E)(k:EnvLe B E):EnvLe (A++B) E:=λ t v hv=>by
 rw[lk_append] at hv
 cases ha:lk A t with
 | some x=>rw[ha] at hv;simp only[Option.some_or,Option.some.injEq] at hv;rw[<-hv];exact h t x ha
 | none=>rw[ha] at hv;simp only[Option.none_or] at hv;exact k t v hv
section
variable {x:Cx}{Q:Exit->Act->World->Prop}{E:Env}{ρ:Hp}{L:SH}
def KRG (x:Cx){Y:Type}(C:Env)(M:Y->Env)(ρf:Y->Hp)(Lf:Y->SH)(R:SH)(I:Y->Prop)(μ:Y->Nat)(y:Y):Act->World->Prop:=KR x (λ y=>⟨M y++C,ρf y,Lf y++R⟩) I μ y
theorem tc_loop_g {Y:Type}{c:Code}{R:SH}(C:Env)(M:Y->Env)(ρf:Y->Hp)(Lf:Y->SH)(I:Y->Prop)(μ:Y->Nat)(y0:Y)(h0:I y0)(hM:EnvLe (M y0) E)(hC:EnvLe C E)(hρ:ρf y0=ρ)(k:Xj L (Lf y0) R)
  (round:∀y,I y->TC x c (Exit.then (KRG x C M ρf Lf R I μ y) Q) (M y++C) (ρf y) (Lf y++R)):TC x (.loop c) Q E ρ L:=
 tc_loop (λ y=>⟨M y++C,ρf y,Lf y++R⟩) I μ y0 h0 (hM.app hC) hρ k.out round
theorem te_round_g {Y:Type}{C:Env}{M:Y->Env}{ρf:Y->Hp}{Lf:Y->SH}{R G:SH}{I:Y->Prop}{μ:Y->Nat}{y:Y}(y':Y)(hI:I y')(hM:EnvLe (M y') E)(hC:EnvLe C E)(hρ:ρf y'=ρ)(k:Xj L (Lf y') G)(e:Ends G R)(hμ:μ y'<μ y) :
  TE x .normal (Exit.then (KRG x C M ρf Lf R I μ y) Q) E ρ L:=
 te_round_e (S:=λ y=>⟨M y++C,ρf y,Lf y++R⟩) (Lm:=Lf y') (R:=R) y' rfl hI (hM.app hC) hρ k e hμ
end
end Go.Proofs.E
namespace Go.Proofs.E
open Go Go.Lib
structure OwnO (v:Value)(n:Nat)(xs:List Value)(T:TypeId)(c:List (Nat×Obj)):Prop where
 out:(v=.slice none 0 0/\n=0/\xs=[]/\c=[])\/∃b off cap pre sp,v=.slice (some ⟨b,off,none⟩) n cap/\xs.length=n/\xs.length+sp.length=cap/\n<=cap/\(cap=0\/off=pre.length)/\c=[(b,.cells ⟨pre++xs++sp⟩ T (0,0))]
theorem OwnO.nil {T:TypeId}:OwnO (.slice none 0 0) 0 [] T []:=⟨.inl ⟨rfl,rfl,rfl,rfl⟩⟩
theorem OwnO.slice {v:Value}{n:Nat}{xs:List Value}{T:TypeId}{c:List (Nat×Obj)}(h:OwnO v n xs T c):∃a cap,v=.slice a n cap/\n<=cap:=by
 rcases h.out with⟨rfl,rfl,rfl,rfl⟩|⟨b,off,cap,pre,sp,rfl,h1,h2,h3,h4⟩
 ·exact⟨none,0,rfl,aR _⟩
 ·exact⟨_,cap,rfl,h3⟩
theorem OwnO.tail {v:Value}{n:Nat}{x:Value}{xs:List Value}{T:TypeId}{c:List (Nat×Obj)}(h:OwnO v n (x::xs) T c):∃a cap,v=.slice a n cap/\1<=n/\n<=cap/\OwnO (.slice (if cap=1 then a else a.map (·.add (1*1))) (n-1) (cap-1)) (n-1) xs T c:=by
 rcases h.out with⟨rfl,rfl,h1,rfl⟩|⟨b,off,cap,pre,sp,rfl,h1,h2,h3,h4,rfl⟩
 ·cases h1
 ·simp only[aC] at h1 h2
  refine⟨_,cap,rfl,by omega,h3,⟨.inr ⟨b,if cap=1 then off else off+1,cap-1,pre++[x],sp, ?_,by omega,by omega,by omega, ?_,by simp⟩⟩⟩
  ·by_cases hc:cap=1
   ·simp[hc]
   ·simp[hc,YY]
  ·by_cases hc:cap=1
   ·left;omega
   ·right;simp only[if_neg hc];rcases h4 with h4|h4
    ·omega
    ·simp[h4]
theorem OwnO.sIn {α:Type}{g:α->Value}{ρ:Hp}{v:Value}{n:Nat}{l:List α}{T:TypeId}{c:List (Nat×Obj)}(h:OwnO v n (l.map g) T c)(hf:∀p∈c,ρ p.1=some p.2):∃a cap,v=.slice a n cap/\n<=cap/\SIn ρ g a n l:=by
 rcases h.out with⟨rfl,rfl,h2,rfl⟩|⟨b,off,cap,pre,sp,rfl,h1,h2,h3,h4,rfl⟩
 ·have:l=[]:=by simpa using h2
  subst this
  exact⟨none,0,rfl,aR _,SIn.nil⟩
 ·refine⟨_,cap,rfl,h3,by simpa using h1, ?_⟩
  by_cases h0:n=0
  ·exact .inl h0
  ·right
   rcases h4 with h4|rfl
   ·omega
   ·refine⟨b,_,_,T,(0,0),rfl,hf _ (List.mem_singleton.2 rfl), ?_⟩
    rw[aA,List.drop_left,List.take_left' h1]
section
variable {x:Cx}{Q:Exit->Act->World->Prop}{E:Env}{ρ:Hp}{L L1:SH}{ops:Array Oper}{rest tail:List Oper}{ty:TypeId}{pos:String}{af:Array Edge}
end
end Go.Proofs.E
namespace Go.Proofs.E
open Go
section
variable {x:Cx}{E:Env}{ρ:Hp}{L:SH}{ty:TypeId}
theorem and_lt {k m n:Nat}(hm:m<2 ^ k):m &&& n<2 ^ k:=Nat.lt_of_le_of_lt Nat.and_le_left hm
def bitsOk (k:IntKind):Bool:=match k with|.u8=>true|.u32=>true|.u64=>true|_=>false
theorem wrap_nat {k:IntKind}(hk:bitsOk k=true){n:Nat}(h:n<2 ^ k.bits):k.wrap (n:Int)=n:=by
 refine WL ?_
 cases k<;>first|(exact absurd hk (by decide))|skip
 all_goals simp only[IntKind.bits] at h
 all_goals simp only[lo,hi]
 all_goals omega
theorem bv_and {k:Nat}{m n:Nat}(hm:m<2 ^ k)(hn:n<2 ^ k):(BitVec.ofInt k (m:Int) &&& BitVec.ofInt k (n:Int)).toNat=m &&& n:=by
 rw[BitVec.toNat_and,BitVec.ofInt_natCast,BitVec.ofInt_natCast,BitVec.toNat_ofNat,BitVec.toNat_ofNat,Nat.mod_eq_of_lt hm,Nat.mod_eq_of_lt hn]
theorem bv_xor {k:Nat}{m n:Nat}(hm:m<2 ^ k)(hn:n<2 ^ k):(BitVec.ofInt k (m:Int) ^^^ BitVec.ofInt k (n:Int)).toNat=m ^^^ n:=by
 rw[BitVec.toNat_xor,BitVec.ofInt_natCast,BitVec.ofInt_natCast,BitVec.toNat_ofNat,BitVec.toNat_ofNat,Nat.mod_eq_of_lt hm,Nat.mod_eq_of_lt hn]
theorem y_and_nat {p q:Operand}{t t':TypeId}{k:IntKind}{m n:Nat}(h1:ev E p=some (.int k m))(h2:ev E q=some (.int k n))(hk:bitsOk k=true)(hm:m<2 ^ k.bits)(hn:n<2 ^ k.bits):Yl x (.binOp .and t p q t') ty E ρ L (.int k ((m &&& n:Nat):Int)):=λ a w _ _ _ _ ha _=>by
 have hb:(Op.intBits .and k m n).run x.P w=.ok (.int k ((m &&& n:Nat):Int)) w:=by
  show (pure (.int k (k.wrap ((BitVec.ofInt k.bits m &&& BitVec.ofInt k.bits n).toNat:Int))):Sem Value).run x.P w=_
  rw[bv_and hm hn,wrap_nat hk (and_lt hm)];rfl
 simp[execOp,ha.eval h1,ha.eval h2,eqGuard,binOp,hb]
theorem y_xor_nat {p q:Operand}{t t':TypeId}{k:IntKind}{m n:Nat}(h1:ev E p=some (.int k m))(h2:ev E q=some (.int k n))(hk:bitsOk k=true)(hm:m<2 ^ k.bits)(hn:n<2 ^ k.bits):Yl x (.binOp .xor t p q t') ty E ρ L (.int k ((m ^^^ n:Nat):Int)):=λ a w _ _ _ _ ha _=>by
 have hb:(Op.intBits .xor k m n).run x.P w=.ok (.int k ((m ^^^ n:Nat):Int)) w:=by
  show (pure (.int k (k.wrap ((BitVec.ofInt k.bits m ^^^ BitVec.ofInt k.bits n).toNat:Int))):Sem Value).run x.P w=_
  rw[bv_xor hm hn,wrap_nat hk (Nat.xor_lt_two_pow hm hn)];rfl
 simp[execOp,ha.eval h1,ha.eval h2,eqGuard,binOp,hb]
def andI (m n:Int):Int:=((m.toNat &&& n.toNat:Nat):Int)
def xorI (m n:Int):Int:=((m.toNat ^^^ n.toNat:Nat):Int)
def bitsHi (k:IntKind):Int:=match k with|.u8=>256|.u32=>4294967296|.u64=>18446744073709551616|_=>0
theorem bitsHi_eq {k:IntKind}(h:bitsOk k=true):bitsHi k=2 ^ k.bits:=by
 cases k<;>first|(exact absurd h (by decide))|rfl
theorem toNat_lt {k:Nat}{m:Int}(h:0<=m/\m<2 ^ k):m.toNat<2 ^ k:=by
 have:((m.toNat:Nat):Int)<((2 ^ k:Nat):Int):=by rw[Int.toNat_of_nonneg h.1];simpa using h.2
 exact Int.ofNat_lt.1 this
theorem y_and {p q:Operand}{t t':TypeId}{k:IntKind}{m n:Int}(h1:ev E p=some (.int k m))(h2:ev E q=some (.int k n))(hm:0<=m/\m<bitsHi k)(hn:0<=n/\n<bitsHi k)(hk:bitsOk k=true):Yl x (.binOp .and t p q t') ty E ρ L (.int k (andI m n)):=
 y_and_nat (by rw[Int.toNat_of_nonneg hm.1];exact h1) (by rw[Int.toNat_of_nonneg hn.1];exact h2) hk (toNat_lt (by rw[<-bitsHi_eq hk];exact hm)) (toNat_lt (by rw[<-bitsHi_eq hk];exact hn))
theorem y_xor {p q:Operand}{t t':TypeId}{k:IntKind}{m n:Int}(h1:ev E p=some (.int k m))(h2:ev E q=some (.int k n))(hm:0<=m/\m<bitsHi k)(hn:0<=n/\n<bitsHi k)(hk:bitsOk k=true):Yl x (.binOp .xor t p q t') ty E ρ L (.int k (xorI m n)):=
 y_xor_nat (by rw[Int.toNat_of_nonneg hm.1];exact h1) (by rw[Int.toNat_of_nonneg hn.1];exact h2) hk (toNat_lt (by rw[<-bitsHi_eq hk];exact hm)) (toNat_lt (by rw[<-bitsHi_eq hk];exact hn))
theorem y_compl {p:Operand}{t:TypeId}{m:Int}(h1:ev E p=some (.int .u32 m))(hm:0<=m/\m<4294967296):Yl x (.unOp .xor t p) ty E ρ L (.int .u32 (xorI 4294967295 m)):=λ a w _ _ _ _ ha _=>by
 have hm2:m.toNat<2 ^ IntKind.u32.bits:=toNat_lt hm
 have hc:(4294967295:Nat)<2 ^ IntKind.u32.bits:=by decide
 have hb:(Op.intBits .xor .u32 (IntKind.u32.max) m).run x.P w=.ok (.int .u32 (xorI 4294967295 m)) w:=by
  show (pure (.int .u32 (IntKind.u32.wrap ((BitVec.ofInt IntKind.u32.bits ((4294967295:Nat):Int) ^^^ BitVec.ofInt IntKind.u32.bits m).toNat:Int))):Sem Value).run x.P w=_
  rw[show m=((m.toNat:Nat):Int) from (Int.toNat_of_nonneg hm.1).symm,bv_xor hc hm2,wrap_nat rfl (Nat.xor_lt_two_pow hc hm2)]
  have e0:(max m 0).toNat=m.toNat:=by congr 1;omega
  simp[xorI,e0]
 have hu:(if IntKind.u32.signed=true then (-1:Int) else IntKind.u32.max)=IntKind.u32.max:=rfl
 simp only[execOp,ha.eval h1,Op.unary,hu,Sem.run_bind,hb,Result.andThen_ok]
 rfl
end
section
variable {x:Cx}{Q:Exit->Act->World->Prop}{E:Env}{ρ ρ0:Hp}{L Ls:SH}{ops:Array Oper}{rest tail:List Oper}{ty:TypeId}{pos:String}{af:Array Edge}{d:Nat}{v:Value}{dd:Option Nat}{l:List Oper}{listed:List Bool}{fuel:Nat}
theorem qAn {p q:Operand}{t t':Nat}(k:TL x ops rest Q ((d,v)::E) ρ L)(y:Yl x ((.binOp .and t p q t')) ty E ρ L v:=by first|exact y_and rfl rfl (by simp only[bitsHi];omega) (by simp only[bitsHi];omega) (by decide))(hd:Nat.blt d x.N=true:=by rfl):TL x ops (⟨some d,(.binOp .and t p q t'),ty,pos,af,none⟩::rest) Q E ρ L:=tl_y y hd rfl k
theorem qXo {p q:Operand}{t t':Nat}(k:TL x ops rest Q ((d,v)::E) ρ L)(y:Yl x ((.binOp .xor t p q t')) ty E ρ L v:=by first|exact y_xor rfl rfl (by simp only[bitsHi];omega) (by simp only[bitsHi];omega) (by decide))(hd:Nat.blt d x.N=true:=by rfl):TL x ops (⟨some d,(.binOp .xor t p q t'),ty,pos,af,none⟩::rest) Q E ρ L:=tl_y y hd rfl k
theorem qNt {p:Operand}{t:Nat}(k:TL x ops rest Q ((d,v)::E) ρ L)(y:Yl x ((.unOp .xor t p)) ty E ρ L v:=by first|exact y_compl rfl (by omega))(hd:Nat.blt d x.N=true:=by rfl):TL x ops (⟨some d,(.unOp .xor t p),ty,pos,af,none⟩::rest) Q E ρ L:=tl_y y hd rfl k
end
end Go.Proofs.E
namespace Go.Proofs.E
open Go Go.Lib
theorem eqC_two {P:Program}{m t e u n:Nat}[hA:WY P t 2 e][hE:WY P e n u][hU:YV P u .u8][hz:Zm P u 1][hT:TyA P e n](a b c d:List UInt8)(ha:a.length=n)(hb:b.length=n)(hc:c.length=n)(hd:d.length=n) :
  EqC P (m+3) t (.agg ⟨(a++b).map Zk⟩) (.agg ⟨(c++d).map Zk⟩) (decide (a++b=c++d)):=⟨λ dd w hdd=>by
 obtain⟨dd,rfl⟩:∃d',dd=d'+3:=⟨dd-3,by omega⟩
 obtain⟨ds,i,g1,g2,g3,g4⟩:=hT.out
 obtain⟨iu,z1,z2⟩:=hz.out
 have hsz:∀w,(sizeOf u).run P w=.ok 1 w:=λ w=>by simp[sizeOf,typeInfo,z1,z2]
 have hag:∀w,(isAgg e).run P w=.ok true w:=λ w=>by
  simp only[isAgg,underlying,Sem.run_bind,run_program,Result.andThen_ok,g1,Sem.run_pure]
  cases ds<;>simp_all
 have hcl:P.cellsOf e=n:=by simp[Program.cellsOf,g3,g4]
 have hp:∀(x y:List UInt8) (k:Nat) (w:World),x.length=n->y.length=n->k<2->(part e ⟨(x++y).map Zk⟩ (k*P.cellsOf e)).run P w=.ok (.agg ⟨(if k=0 then x else y).map Zk⟩) w:=λ x y k w hx hy hk=>by
  rw[hcl]
  simp only[part,hag,sizeOf,typeInfo,g3,g4,Sem.run_bind,Result.andThen_ok,if_true]
  rcases (show k=0\/k=1 by omega) with rfl|rfl
  ·simp[g3,g4,<-hx]
  ·simp[g3,g4,<-hx]
   exact aT (by simp;omega)
 rw[run_equalIn_array w (dd+2) ⟨(a++b).map Zk⟩ ⟨(c++d).map Zk⟩ hA.out g3,show List.range 2=[0,1] from rfl]
 have e1:∀l:List UInt8,(l.map Extern.Stop.cell).toArray=⟨l.map Zk⟩:=λ l=>rfl
 have hr:=λ (x y:List UInt8) (hx:x.length=n) (hy:y.length=n)=>run_equalIn_bytes (P:=P) w dd e u n hE.out hU.out hsz x y hx hy
 simp only[e1] at hr
 simp only[Op.eqItems,Sem.run_bind,hp a b 0 w ha hb (by omega),hp c d 0 w hc hd (by omega),Result.andThen_ok,if_true,hr a c ha hc]
 cases h1:(a == c)
 ·simp only[Bool.not_false,if_true,Sem.run_pure]
  rw[decide_eq_false]
  intro h
  have:=(List.append_inj h (by omega)).1
  simp[this] at h1
 ·simp only[Bool.not_true,aB,if_false,Sem.run_bind,hp a b 1 w ha hb (by omega),hp c d 1 w hc hd (by omega),Result.andThen_ok,hr b d hb hd,show (1:Nat)=0↔False by simp]
  have hac:a=c:=by simpa using h1
  cases h2:(b == d)
  ·simp only[Bool.not_false,if_true,Sem.run_pure]
   rw[decide_eq_false]
   intro h
   have:=(List.append_inj h (by omega)).2
   simp[this] at h2
  ·have hbd:b=d:=by simpa using h2
   simp[hac,hbd]⟩
section
variable {x:Cx}{E:Env}{ρ:Hp}{L:SH}{ty:TypeId}
theorem y_index_a {o i:Operand}{t len e sz n:Nat}{k:IntKind}{l m:List Value}(ho:ev E o=some (.agg ⟨l⟩))(hi:ev E i=some (.int k (n:Int)))[hS:WY x.P t len e][hT:TyA x.P e sz](h1:n<len)(hm:(l.drop (n*sz)).take sz=m) :
  Yl x (.index t o i) ty E ρ L (.agg ⟨m⟩):=λ a w _ _ _ _ ha hw=>by
 obtain⟨ds,inf,g1,g2,g3,g4⟩:=hT.out
 have hag:(isAgg e).run x.P w=.ok true w:=by
  simp only[isAgg,underlying,Sem.run_bind,run_program,Result.andThen_ok,g1,Sem.run_pure]
  cases ds<;>simp_all
 have hsz:(sizeOf e).run x.P w=.ok sz w:=by simp[sizeOf,typeInfo,g3,g4]
 simp[execOp,ha.eval ho,ha.eval hi,Instr.index,asIntOf,underlying,hS.out,h1,part,hag,hsz,hm]
end
theorem Hp.at' {ρ ρ':Hp}(h:ρ.le ρ'){b:Nat}{o:Obj}(hb:ρ b=some o):ρ' b=some o:=h _ _ hb
end Go.Proofs.E
namespace Go.Proofs.E
open Go
def IterS (P:Program)(g:FuncId)(fs cs:List Value){α:Type}(enc:Hp->α->List Value->Prop)(ρ0:Hp)(S:List α->SH)(xs:List α):Prop:=
 ∀(l:Nat) (J:List α->Hp->SH->Prop) (Jx:List α->Hp->SH->Prop),(∀pre ρ ρ' Lj,ρ.le ρ'->J pre ρ Lj->J pre ρ' Lj) ->
  (∀pre y vs ρ Lj,(pre++[y]) <+: xs->ρ0.le ρ->enc ρ y vs->J pre ρ Lj->YW P l vs ρ (S (pre++[y])++Lj) (YP (S (pre++[y])) (J (pre++[y])) (Jx (pre++[y])))) ->
  ∀ρ Lj,ρ0.le ρ->J [] ρ Lj->Spec P g (fs++[.func (.yield l) ⟨[]⟩ ⟨[]⟩]++cs) ρ (S []++Lj) (λ v ρ' L'=>∃Lj',(L'=S xs++Lj'/\J xs ρ' Lj')\/∃pre,L'=S pre++Lj'/\Jx pre ρ' Lj')
section
variable {x:Cx}{Q:Exit->Act->World->Prop}{E:Env}{ρ ρ0:Hp}{L:SH}{l:Nat}{r:Loop}
theorem tc_rangeFuncS {fo:Operand}{ps:List Nat}{assign body:Code}{g:Nat}{fs cs:List Value}{α:Type}{enc:Hp->α->List Value->Prop}{S:List α->SH}{L0 R0 R:SH}{xs:List α}(hro:x.ro=none)
  (hf:ev E fo=some (.func (.func g) ⟨fs⟩ ⟨cs⟩)) [hF:Zz x.P g] (hI:IterS x.P g fs cs enc ρ0 S xs) (hle:ρ0.le ρ) (hps:∀ρ y vs,enc ρ y vs->vs.length=ps.length) (hpN:ps.all (λ p=>Nat.blt p x.N)=true)
  (J:List α->Hp->SH->Prop) (Jx:List α->Code->Hp->SH->Prop) (k1:Xj L (S []) R0) (k2:Xj R0 L0 R) (hM:∀pre ρ ρ' Lj,ρ.le ρ'->J pre ρ Lj->J pre ρ' Lj) (h0:J [] ρ L0)
  (hround:∀l tm r pre y vs ρ' Lu u R',(pre++[y]) <+: xs->ρ0.le ρ'->enc ρ' y vs->J pre ρ' Lu->r.state=.ready->Rec tm ⟨ps⟩ assign body r ->
   TC ⟨some l,x.P,u,[],x.N⟩ assign (Exit.then (KB x.P l body (RQ x.P u ρ' R' l (YP (S (pre++[y])) (JH l (Rec tm ⟨ps⟩ assign body) (J (pre++[y]))) (XH l (Rec tm ⟨ps⟩ assign body) (Jx (pre++[y])))))) QF)
    (envP ps vs E) ρ' ([(l,.loop r)]::(S (pre++[y])++(Lu++R'))))
  (hdone:∀D0 ρ' Lu,ρ.le ρ'->J xs ρ' Lu->TE { x with D:=[{ target:=.collected D0,args:=#[] }]++x.D } .normal Q E ρ' ([(D0,.deferred (some []))]::(S xs++(Lu++R))))
  (hstop:∀D0 pre c ρ' Lu,ρ.le ρ'->Jx pre c ρ' Lu->TC { x with D:=[{ target:=.collected D0,args:=#[] }]++x.D } c Q E ρ' ([(D0,.deferred (some []))]::(S pre++(Lu++R)))) :
  TC x (.rangeFunc fo ⟨ps⟩ assign body) Q E ρ L:=λ a w ha hw=>by
 obtain⟨ro,P,u,D,N⟩:=x
 simp only at hro;subst hro
 dsimp only at *
 refine wpIn_rangeFunc λ fn _=>?_
 have hw0:Sat u ρ (S []++(L0++R)) w:=hw.perm (by
  refine k1.out.trans ?_
  simp only[List.flatten_append]
  exact List.Perm.append_left _ (by simpa using k2.out))
 have hw1:=hw0.new (.deferred (some []))
 generalize hr0:({ state:=.ready,pending:=none,fn,tmps:=a.tmps,params:=⟨ps⟩,assign,body,defers:=w.heap.size }:Loop)=r0
 have hw2:=hw1.new (.loop r0)
 have hsz:({ w with heap:=w.heap.push (.deferred (some [])) }:World).heap.size=w.heap.size+1:=by simp
 rw[hsz] at hw2
 have hrec0:Rec a.tmps ⟨ps⟩ assign body r0:=by subst hr0;exact⟨rfl,rfl,rfl,rfl⟩
 have hst0:r0.state=.ready/\r0.pending=none:=by subst hr0;exact⟨rfl,rfl⟩
 have henter:=run_enterLoop_outer (P:=P) (w:=w) fn a.tmps ⟨ps⟩ assign body
 rw[hr0] at henter
 have hres:(resolve a.eval (rangeCall fo (w.heap.size+1)) 0).run P ((w.alloc (.deferred (some []))).alloc (.loop r0)) =
   .ok { target:=.fn (.func g) ⟨cs⟩,args:=⟨fs++[.func (.yield (w.heap.size+1)) ⟨[]⟩ ⟨[]⟩]⟩ } ((w.alloc (.deferred (some []))).alloc (.loop r0)):=by
  simp only[resolve,ha.eval hf,Deferred.ofValue,Sem.run_pure]
  simp[Act.eval]
 refine⟨w.heap.size+1,_,_,_,_,g,⟨fs++[.func (.yield (w.heap.size+1)) ⟨[]⟩ ⟨[]⟩]++cs⟩,(w.alloc (.deferred (some []))).alloc (.loop r0),henter,hres,λ _ _=>trivial, ?_,λ h=>by simp[Fw,Fence.wide] at h, ?_⟩
 ·simp only[invoke]
  have:=run_callFunc hF (⟨fs++[.func (.yield (w.heap.size+1)) ⟨[]⟩ ⟨[]⟩]⟩++⟨cs⟩) ((w.alloc (.deferred (some []))).alloc (.loop r0))
  simpa using this
 generalize hl:w.heap.size+1=l at *
 generalize hD0:w.heap.size=D0 at *
 have hy:∀pre y vs ρ' Lj,(pre++[y]) <+: xs->ρ0.le ρ'->enc ρ' y vs->JH l (Rec a.tmps ⟨ps⟩ assign body) (J pre) ρ' Lj->YW P l vs ρ' (S (pre++[y])++Lj) (YP (S (pre++[y])) (JH l (Rec a.tmps ⟨ps⟩ assign body) (J (pre++[y]))) (XH l (Rec a.tmps ⟨ps⟩ assign body) (Jx (pre++[y])))):=by
  intro pre y vs ρ' Lj hpre hle' hen hJ
  obtain⟨r,Lu,rfl,hrs,hrp,hrr,hJu⟩:=hJ
  intro u' R' w' hw'
  have hlr:=hw'.here (l,.loop r) (by simp)
  have hargs:(⟨vs⟩:Array Value).size=r.params.size:=by rw[hrr.params];simpa using hps _ _ _ hen
  refine⟨_,_,_,_,run_yield hlr hargs, ?_⟩
  have hround':=hround l a.tmps r pre y vs ρ' Lu u' R' hpre hle' hen hJu hrs hrr
  have hsat:Sat u' ρ' ([(l,.loop r)]::(S (pre++[y])++(Lu++R'))) w':=hw'.perm (by simp)
  have hok:Ok [] N (envP ps vs E) { tmps:=(r.params.zip ⟨vs⟩).foldl (λ tmps (t,a)=>tmps.setIfInBounds t a) r.tmps,defers:=[] }:=by
   have h1:Ok [] N E { tmps:=a.tmps,defers:=[] }:=⟨rfl,ha.size,ha.get⟩
   have:=Ok.putP ps vs E a.tmps hpN h1
   rw[hrr.params,hrr.tmps]
   have e:((⟨ps⟩:Array Nat).zip ⟨vs⟩)=⟨ps.zip vs⟩:=by simp
   rw[e]
   simpa using this
  have hwp:=hround' _ w' hok hsat
  rw[hrr.assign,hrr.body]
  refine roundIn_of_wpIn (F:=Fw none) (n:=0) trivial ?_
  exact hwp
 have hspec:=hI l (λ pre=>JH l (Rec a.tmps ⟨ps⟩ assign body) (J pre)) (λ pre=>XH l (Rec a.tmps ⟨ps⟩ assign body) (Jx pre)) (λ pre ρ1 ρ2 Lj h12 ⟨r,Lu,e1,e2,e3,e4,e5⟩=>⟨r,Lu,e1,e2,e3,e4,hM _ _ _ _ h12 e5⟩) hy ρ ([(l,.loop r0)]::L0) hle ⟨r0,L0,rfl,hst0.1,hst0.2,hrec0,h0⟩
 have hcall:=hspec u ([(D0,.deferred (some []))]::R) ((w.alloc (.deferred (some []))).alloc (.loop r0)) (hw2.perm (by
  simp only[aF,List.flatten_append,aA,List.cons_append,List.singleton_append,List.nil_append]
  refine List.Perm.trans (l₂:=(S []).flatten++((l,.loop r0)::(D0,.deferred (some []))::(L0.flatten++R.flatten))) ?_ ?_
  ·refine List.Perm.trans ?_ List.perm_middle.symm
   refine List.Perm.cons _ ?_
   exact List.perm_middle.symm
  ·refine List.Perm.append_left _ (List.Perm.cons _ ?_)
   exact List.perm_middle.symm))
 refine calls_ro (CallsIn.mono hcall ?_)
 rintro e w3 ⟨v,ρ',L',rfl,hle',hsat,Lj',hor⟩
 have perm4:∀(S:SH) (c:List (Nat×Obj)) (Lu:SH),(S++(c::Lu)++([(D0,.deferred (some []))]::R)).flatten.Perm (c::([(D0,.deferred (some []))]::(S++(Lu++R)))).flatten:=λ S c Lu=>by
  simp only[aF,List.flatten_append,aA,List.cons_append,List.singleton_append,List.nil_append]
  refine List.Perm.trans ?_ (List.Perm.append_left c (List.perm_middle (l₁:=S.flatten++Lu.flatten) (a:=(D0,.deferred (some []))) (l₂:=R.flatten) |>.trans (by simp)))
  rw[<-aA,<-aA c]
  refine List.Perm.trans (List.Perm.append_right _ List.perm_append_comm) ?_
  simp only[aA]
  exact List.Perm.refl _
 rcases hor with⟨rfl,r,Lu,rfl,hrs,hrp,hrr,hJu⟩|⟨pre,rfl,r,Lu,c,rfl,hrs,hrp,hrr,hJu⟩
 ·have hs1:=hsat.perm (perm4 _ [(l,.loop r)] Lu)
  have hlr:=hs1.here (l,.loop r) (by simp)
  refine⟨r.pending,_,run_endLoop hlr (by rw[hrs];simp), ?_⟩
  rw[hrp]
  have hs2:=(hs1.put (.loop { r with state:=.exhausted,pending:=none })).sub (L':=[(D0,.deferred (some []))]::(S xs++(Lu++R))) (by simp)
  exact hdone D0 ρ' Lu hle' hJu _ _ ⟨by simp[ha.defers],ha.size,ha.get⟩ hs2
 ·have hs1:=hsat.perm (perm4 _ [(l,.loop r)] Lu)
  have hlr:=hs1.here (l,.loop r) (by simp)
  refine⟨r.pending,_,run_endLoop hlr (by rw[hrs];simp), ?_⟩
  rw[hrp]
  have hs2:=(hs1.put (.loop { r with state:=.exhausted,pending:=some c })).sub (L':=[(D0,.deferred (some []))]::(S pre++(Lu++R))) (by simp)
  exact hstop D0 pre c ρ' Lu hle' hJu _ _ ⟨by simp[ha.defers],ha.size,ha.get⟩ hs2
end
end Go.Proofs.E
namespace Go.Proofs.E
open Go Go.RowKit
set_option maxRecDepth 8000
def reachB (l:List Oper):Nat->Nat->Nat->Bool
 | 0,_,_=>false
 | f+1,i,k=>((l[i]?).map λ o=>o.after.any λ e=>Region.binds .any e && (e.on == k || reachB l f e.on k)).getD false
def guardB (c:Nat)(o:Oper):Bool:=match o.guard with|none=>true|some (j,_)=>decide (j<c)
def cutB (l:List Oper)(c:Nat):Bool:=
 decide (c<=l.length) && (List.range l.length).all λ i=>
  if i<c then ((l[i]?).map λ o=>o.after.all (λ e=>!Region.binds .any e || decide (e.on<i)) && guardB c o).getD false
  else (List.range c).all λ k=>reachB l 12 i k
def ClosedL (l:List Oper)(m:List Bool):Prop:=∀(j:Nat) (o:Oper),l[j]?=some o->m[j]?=some true->∀e∈o.after,Region.binds .any e=true->m[e.on]?=some true
theorem reach_ok {l:List Oper}{m:List Bool}(hc:ClosedL l m):∀(f i k:Nat) (o:Oper),l[i]?=some o->(∀e∈o.after,Region.binds .any e=true->m[e.on]?=some true)->reachB l f i k=true->m[k]?=some true
 | 0,_,_,_,_,_,h=>by simp[reachB] at h
 | f+1,i,k,o,ho,he,h=>by
  simp only[reachB,ho,Option.map_some,Option.getD_some,Array.any_eq_true] at h
  obtain⟨x,hx,h⟩:=h
  simp only[aE,Bool.or_eq_true,beq_iff_eq] at h
  have h1:=he _ (Array.getElem_mem hx) h.1
  rcases h.2 with h2|h2
  ·rw[<-h2];exact h1
  ·cases ho2:l[(o.after[x]).on]? with
   | none=>
    cases f with
    | zero=>simp[reachB] at h2
    | succ f=>simp[reachB,ho2] at h2
   | some o2=>exact reach_ok hc f _ k o2 ho2 (hc _ o2 ho2 h1) h2
theorem wpOpIn_cut {ro:Option Nat}{P:Program}{l:List Oper}{c i:Nat}{Q Q1:Exit->Act->World->Prop}{K K':Act->World->Prop}{a:Act}{w:World}(hi:i<c)(hg:∀o,l[i]?=some o->guardB c o=true)(hk:∀a w,K a w->K' a w)
  (h:wpOpIn (Fw ro) 0 P (l.take c).toArray (QN Q1) i K a w):wpOpIn (Fw ro) 0 P l.toArray (QN Q) i K' a w:=by
 unfold wpOpIn at h ⊢
 simp only[List.getElem?_toArray] at h ⊢
 rw[List.getElem?_take_of_lt hi] at h
 cases ho:l[i]? with
 | none=>rw[ho] at h;exact hk _ _ h
 | some o=>
  rw[ho] at h
  simp only at h ⊢
  have hgo:=hg o ho
  have hy:Region.wanted o (yielded (l.take c).toArray a.tmps)=Region.wanted o (yielded l.toArray a.tmps):=by
   unfold Region.wanted
   unfold guardB at hgo
   cases hgd:o.guard with
   | none=>rfl
   | some jb=>
    obtain⟨j,b⟩:=jb
    rw[hgd] at hgo
    simp only[decide_eq_true_eq] at hgo
    simp only[yielded,List.getElem?_toArray,List.getElem?_take_of_lt hgo]
  rw[hy] at h
  by_cases hw:Region.wanted o (yielded l.toArray a.tmps)=true
  ·simp only[hw,if_true] at h ⊢
   unfold Oper.wpIn at h ⊢
   refine⟨h.1, ?_⟩
   have h2:=h.2
   generalize (o.semAt (Fw ro).round a.eval).run P w=r at *
   cases r with
   | ok n w'=>
    cases n<;>simp only[Oper.uponIn] at h2 ⊢ <;>
    first
     | exact hk _ _ h2
     | exact⟨h2.1,CallsIn.mono h2.2 (λ e w'' he=>by cases e<;>first|exact hk _ _ he|exact he.elim|exact (let ⟨_,_,q⟩:=he;q.elim))⟩
     | exact⟨h2.1,RowsIn.mono h2.2 (λ _ _ he=>hk _ _ he)⟩
     | exact⟨h2.1,RoundIn.mono h2.2 (λ e w'' he=>by cases e<;>first|exact hk _ _ he|exact he.elim|exact (let ⟨_,_,q⟩:=he;q.elim))⟩
   | halt x w'=>cases x<;>simp only[Oper.uponIn] at h2 ⊢<;>first|exact h2|exact h2.elim
  ·simp only[hw] at h ⊢
   exact⟨h.1,hk _ _ h.2⟩
theorem any_cut {ro:Option Nat}{P:Program}{l:List Oper}{c:Nat}{Q:Exit->Act->World->Prop}(hcut:cutB l c=true) :
  ∀(fuel:Nat) (m:List Bool) (a:Act) (w:World),m.length=c->ClosedL l m->List.count false m=fuel ->
   wpAnyIn (Fw ro) 0 P .any (l.take c).toArray (QN λ e a w=>wpAnyIn (Fw ro) 0 P .any l.toArray (QN Q) (l.length-c) ⟨List.replicate c true++List.replicate (l.length-c) false⟩ a w) fuel ⟨m⟩ a w ->
   wpAnyIn (Fw ro) 0 P .any l.toArray (QN Q) (fuel+(l.length-c)) ⟨m++List.replicate (l.length-c) false⟩ a w:=by
 simp only[cutB,aE,decide_eq_true_eq,List.all_eq_true,List.mem_range] at hcut
 obtain⟨hcl,hall⟩:=hcut
 intro fuel
 induction fuel with
 | zero=>
  intro m a w hm _ h0 H
  have hmt:m=List.replicate c true:=by
   rw[List.eq_replicate_iff]
   refine⟨hm,λ b hb=>?_⟩
   cases b with
   | true=>rfl
   | false=>exact absurd hb (List.count_eq_zero.1 h0)
  rw[Nat.zero_add,hmt]
  exact H.2
 | succ fuel ih=>
  intro m a w hm hcd h0 H
  have hA:fuel+1+(l.length-c)=(fuel+(l.length-c))+1:=by omega
  rw[hA]
  have hget:∀j,j<c->(m++List.replicate (l.length-c) false)[j]?=m[j]?:=λ j hj=>List.getElem?_append_left (by omega)
  have hge:∀j,c<=j->(m++List.replicate (l.length-c) false)[j]?≠some true:=λ j hj h=>by
   rw[List.getElem?_append_right (by omega)] at h
   rw[List.getElem?_replicate] at h
   split at h<;>simp at h
  have hlt:∀j,(m++List.replicate (l.length-c) false)[j]?=some true->m[j]?=some true:=λ j h=>by
   by_cases hj:j<c
   ·rw[hget j hj] at h;exact h
   ·exact absurd h (hge j (by omega))
  have hrd:∀i,i∈Region.ready .any l.toArray ⟨m++List.replicate (l.length-c) false⟩->i<c/\m[i]?=some false/\i∈Region.ready .any (l.take c).toArray ⟨m⟩/\∃o,l[i]?=some o/\∀e∈o.after,Region.binds .any e=true->m[e.on]?=some true:=λ i hi=>by
   obtain⟨h1,o,ho,he⟩:=mem_ready.1 hi
   simp only[List.getElem?_toArray] at ho
   have he':∀e∈o.after,Region.binds .any e=true->m[e.on]?=some true:=λ e h2 h3=>by
    have:=he e h2 h3
    apply hlt
    simp only[Array.getD_eq_getD_getElem?,List.getElem?_toArray] at this
    cases hq:(m++List.replicate (l.length-c) false)[e.on]? with
    | none=>rw[hq] at this;simp at this
    | some b=>rw[hq] at this;simp at this;rw[this]
   have hil:i<l.length:=by
    rcases Nat.lt_or_ge i l.length with h|h
    ·exact h
    ·rw[List.getElem?_eq_none h] at ho;cases ho
   have hic:i<c:=by
    rcases Nat.lt_or_ge i c with h|h
    ·exact h
    ·exfalso
     have hr:=hall i hil
     rw[if_neg (by omega)] at hr
     simp only[List.all_eq_true,List.mem_range] at hr
     have hno:false ∉ m:=λ hf=>by
      obtain⟨k,hk,hkf⟩:=List.getElem_of_mem hf
      have:=reach_ok hcd 12 i k o ho he' (hr k (by omega))
      rw[List.getElem?_eq_getElem hk,hkf] at this
      cases this
     have:=List.count_eq_zero.2 hno
     omega
   have hmi:m[i]?=some false:=by
    simp only[Array.getD_eq_getD_getElem?,List.getElem?_toArray,hget i hic] at h1
    rw[List.getElem?_eq_getElem (show i<m.length by omega)] at h1 ⊢
    simpa using h1
   refine⟨hic,hmi,mem_ready.2 ⟨by simp[Array.getD_eq_getD_getElem?,hmi],o,by simp[List.getElem?_take_of_lt hic,ho],λ e h2 h3=>by simp[Array.getD_eq_getD_getElem?,he' e h2 h3]⟩,o,ho,he'⟩
  refine⟨λ hnil=>?_,λ i hi=>?_⟩
  ·exfalso
   have hmem:false∈m:=by
    rcases Classical.em (false∈m) with h|h
    ·exact h
    ·have:=List.count_eq_zero.2 h;omega
   have hex:∃k:Nat,m[k]?=some false/\∀j:Nat,j<k->m[j]?=some true:=by
    have key:∀(m:List Bool),false∈m->∃k:Nat,m[k]?=some false/\∀j:Nat,j<k->m[j]?=some true:=by
     intro m
     induction m with
     | nil=>intro h;cases h
     | cons b r ih2=>
      intro h
      cases b with
      | false=>exact⟨0,rfl,λ j hj=>by omega⟩
      | true=>
       obtain⟨k,h1,h2⟩:=ih2 (by simpa using h)
       refine⟨k+1,by simpa using h1,λ j hj=>?_⟩
       cases j with
       | zero=>rfl
       | succ j=>simpa using h2 j (by omega)
    exact key m hmem
   obtain⟨k,hk,hlow⟩:=hex
   have hkc:k<c:=by
    rcases Nat.lt_or_ge k m.length with h|h
    ·omega
    ·rw[List.getElem?_eq_none h] at hk;cases hk
   have hr:=hall k (by omega)
   rw[if_pos hkc] at hr
   have hko:l[k]?=some l[k]:=List.getElem?_eq_getElem (by omega)
   rw[hko] at hr
   simp only[Option.map_some,Option.getD_some,aE,Array.all_eq_true_iff_forall_mem,Bool.or_eq_true,Bool.not_eq_true',decide_eq_true_eq] at hr
   have:k∈Region.ready .any l.toArray ⟨m++List.replicate (l.length-c) false⟩:=by
    refine mem_ready.2 ⟨by simp[Array.getD_eq_getD_getElem?,hget k hkc,hk],l[k],by simp[hko],λ e h2 h3=>?_⟩
    have hlt2:e.on<k:=by
     rcases hr.1 e h2 with h|h
     ·rw[h] at h3;cases h3
     ·exact h
    simp[Array.getD_eq_getD_getElem?,hget e.on (by omega),hlow e.on hlt2]
   rw[hnil] at this
   cases this
  ·obtain⟨hic,hmi,hi1,o,ho,he⟩:=hrd i hi
   have hr:=hall i (by omega)
   rw[if_pos hic,ho] at hr
   simp only[Option.map_some,Option.getD_some,aE] at hr
   refine wpOpIn_cut hic (λ o' ho'=>by rw[ho] at ho';cases ho';exact hr.2) (λ a' w' h'=>?_) (H.2 i hi1)
   have hs1:(⟨m⟩:Array Bool).setIfInBounds i true=⟨m.set i true⟩:=by simp
   have hs2:(⟨m++List.replicate (l.length-c) false⟩:Array Bool).setIfInBounds i true=⟨m.set i true++List.replicate (l.length-c) false⟩:=by
    simp[List.set_append_left _ _ (show i<m.length by omega)]
   rw[hs1] at h'
   rw[hs2]
   refine ih (m.set i true) a' w' (by simpa using hm) (λ j oj hoj hj e h2 h3=>?_) ?_ h'
   ·have hself:∀q,m[q]?=some true->(m.set i true)[q]?=some true:=λ q hq=>by
     rw[List.getElem?_set]
     split
     ·rename_i h;subst h;rw[hmi] at hq;cases hq
     ·exact hq
    by_cases hji:j=i
    ·subst hji
     rw[ho] at hoj;cases hoj
     exact hself _ (he e h2 h3)
    ·rw[List.getElem?_set_ne (λ h=>hji h.symm)] at hj
     exact hself _ (hcd j oj hoj hj e h2 h3)
   ·have hlt3:i<m.length:=by omega
    have hmi2:m[i]=false:=by rw[List.getElem?_eq_getElem hlt3] at hmi;simpa using hmi
    rw[List.count_set (h:=hlt3)]
    simp[hmi2]
    omega
section
variable {x:Cx}{Q:Exit->Act->World->Prop}{E:Env}{ρ:Hp}{L:SH}{l:List Oper}
def QPh (x:Cx)(l:List Oper)(c:Nat)(Q:Exit->Act->World->Prop):Exit->Act->World->Prop:=
 λ _ a w=>wpAnyIn (Fw x.ro) 0 x.P .any l.toArray (QN Q) (l.length-c) ⟨List.replicate c true++List.replicate (l.length-c) false⟩ a w
theorem tc_phase {id:Nat}(c:Nat)(S:World->Prop)[hm:Mixed x.P](hcut:cutB l c=true)(hS:∀w,Sat x.u ρ L w->S w)(h:TR x (l.take c) S c (List.replicate c false) (QPh x l c Q) E ρ L):TC x (.region id l.toArray true) Q E ρ L:=λ a w ha hw=>by
 refine wpIn_mono (Q:=QN Q) ?_ (λ e a w q=>by cases e<;>first|exact q|exact q.elim)
 refine wpIn_region_any hm.out ?_
 have h1:=h a _ ha hw.drew (hS _ hw.drew)
 have h2:=wpAnyIn_of_G _ _ _ _ h1
 have hcl:c<=l.length:=by
  simp only[cutB,aE,decide_eq_true_eq] at hcut
  exact hcut.1
 have h3:=any_cut (Q:=Q) hcut c (List.replicate c false) a _ (by simp) (λ j o _ hj=>by
  rw[List.getElem?_replicate] at hj
  split at hj<;>simp at hj) (by simp) h2
 have e1:c+(l.length-c)=l.length:=by omega
 rw[e1,List.replicate_append_replicate,e1] at h3
 simpa using h3
theorem te_phase {c fuel:Nat}{m:List Bool}(S:World->Prop)(hf:l.length-c=fuel)(hm:List.replicate c true++List.replicate fuel false=m)(hS:∀w,Sat x.u ρ L w->S w)(h:TR x l S fuel m Q E ρ L):TE x .normal (QPh x l c Q) E ρ L:=λ a w ha hw=>by
 subst hf
 subst hm
 exact wpAnyIn_of_G _ _ _ _ (h a w ha hw (hS w hw))
end
end Go.Proofs.E
namespace Go.Proofs.E
open Go Go.RowKit Go.WideShapes
section
variable {H:Type}{enc:TypeId×Value->H}{P:Program}{w:World}
def OpnS (enc:TypeId×Value->H)(P:Program)(w:World)(t:TypeId){α:Type}(R:List Value->α->Prop):Prop:=
 ∀fuel cs x,DataW.trod enc P w 0 (λ _=>true) true fuel t cs=some x->(∀n∈x.1.weights P t,n<=reachBytes)->∃a,R cs a
theorem OpnS.mono {t:TypeId}{α β:Type}{R:List Value->α->Prop}{R':List Value->β->Prop}(h:OpnS enc P w t R)(k:∀cs a,R cs a->∃b,R' cs b):OpnS enc P w t R':=λ f cs x hx hw=>by
 obtain⟨a,ha⟩:=h f cs x hx hw
 exact k cs a ha
end
end Go.Proofs.E
namespace Go.Proofs.E
open Go
attribute [local irreducible] Yl TL TC TE Spec YW R1 Hp.le EnvLe TS TR YS Zv
section
variable {x:Cx}{E:Env}{ρ ρ0:Hp}{L:SH}{v:Value}
theorem qF {e:Exit}{fn:Func}{u:World}{R:SH}{Post:Value->Hp->SH->Prop}{L' G:SH}(hp:Post v ρ L')
  (hr:∀a w,Ok x.D x.N E a->Sat x.u ρ L w->(results fn a.tmps).run x.P w=.ok v w:=by
   first
   | exact res0 rfl
   | exact res1 rfl (ZZ rfl)
   | exact res1 rfl (ZN rfl (by first|assumption|rfl))
   | exact res1 rfl (Zr rfl rfl)
   | exact res2 rfl (ZZ rfl) (ZZ rfl)
   | exact res2 rfl (ZZ rfl) (ZN rfl (by first|assumption|rfl))
   | exact res2 rfl (ZZ rfl) (Zr rfl rfl)
   | exact res2 rfl (ZN rfl (by first|assumption|rfl)) (ZZ rfl)
   | exact res2 rfl (ZN rfl (by first|assumption|rfl)) (ZN rfl (by first|assumption|rfl))
   | exact res2 rfl (ZN rfl (by first|assumption|rfl)) (Zr rfl rfl)
   | exact res2 rfl (Zr rfl rfl) (ZZ rfl)
   | exact res2 rfl (Zr rfl rfl) (ZN rfl (by first|assumption|rfl))
   | exact res2 rfl (Zr rfl rfl) (Zr rfl rfl)
   | exact Vr rfl (ZZ rfl) (ZZ rfl) (ZZ rfl)
   | exact Vr rfl (ZZ rfl) (ZZ rfl) (ZN rfl (by first|assumption|rfl))
   | exact Vr rfl (ZZ rfl) (ZZ rfl) (Zr rfl rfl)
   | exact Vr rfl (ZZ rfl) (ZN rfl (by first|assumption|rfl)) (ZZ rfl)
   | exact Vr rfl (ZZ rfl) (ZN rfl (by first|assumption|rfl)) (ZN rfl (by first|assumption|rfl))
   | exact Vr rfl (ZZ rfl) (ZN rfl (by first|assumption|rfl)) (Zr rfl rfl)
   | exact Vr rfl (ZZ rfl) (Zr rfl rfl) (ZZ rfl)
   | exact Vr rfl (ZZ rfl) (Zr rfl rfl) (ZN rfl (by first|assumption|rfl))
   | exact Vr rfl (ZZ rfl) (Zr rfl rfl) (Zr rfl rfl)
   | exact Vr rfl (ZN rfl (by first|assumption|rfl)) (ZZ rfl) (ZZ rfl)
   | exact Vr rfl (ZN rfl (by first|assumption|rfl)) (ZZ rfl) (ZN rfl (by first|assumption|rfl))
   | exact Vr rfl (ZN rfl (by first|assumption|rfl)) (ZZ rfl) (Zr rfl rfl)
   | exact Vr rfl (ZN rfl (by first|assumption|rfl)) (ZN rfl (by first|assumption|rfl)) (ZZ rfl)
   | exact Vr rfl (ZN rfl (by first|assumption|rfl)) (ZN rfl (by first|assumption|rfl)) (ZN rfl (by first|assumption|rfl))
   | exact Vr rfl (ZN rfl (by first|assumption|rfl)) (ZN rfl (by first|assumption|rfl)) (Zr rfl rfl)
   | exact Vr rfl (ZN rfl (by first|assumption|rfl)) (Zr rfl rfl) (ZZ rfl)
   | exact Vr rfl (ZN rfl (by first|assumption|rfl)) (Zr rfl rfl) (ZN rfl (by first|assumption|rfl))
   | exact Vr rfl (ZN rfl (by first|assumption|rfl)) (Zr rfl rfl) (Zr rfl rfl)
   | exact Vr rfl (Zr rfl rfl) (ZZ rfl) (ZZ rfl)
   | exact Vr rfl (Zr rfl rfl) (ZZ rfl) (ZN rfl (by first|assumption|rfl))
   | exact Vr rfl (Zr rfl rfl) (ZZ rfl) (Zr rfl rfl)
   | exact Vr rfl (Zr rfl rfl) (ZN rfl (by first|assumption|rfl)) (ZZ rfl)
   | exact Vr rfl (Zr rfl rfl) (ZN rfl (by first|assumption|rfl)) (ZN rfl (by first|assumption|rfl))
   | exact Vr rfl (Zr rfl rfl) (ZN rfl (by first|assumption|rfl)) (Zr rfl rfl)
   | exact Vr rfl (Zr rfl rfl) (Zr rfl rfl) (ZZ rfl)
   | exact Vr rfl (Zr rfl rfl) (Zr rfl rfl) (ZN rfl (by first|assumption|rfl))
   | exact Vr rfl (Zr rfl rfl) (Zr rfl rfl) (Zr rfl rfl))
  (hle:ρ0.le ρ:=by first|assumption|exact Hp.le_refl _|(refine Hp.le_trans ?_ (by assumption);assumption)|solve_by_elim (maxDepth:=6) [Hp.le_trans]) (k:Xj L L' G:=by exact tk) (en:Ends G R:=by infer_instance) (he:isEnd e=true:=by rfl) (hD:x.D=[]:=by rfl) (hu:x.u=u:=by rfl) :
  TE x e (bodyPostM (Fw none) 0 x.P fn (RK u ρ0 R Post)) E ρ L:=te_end he hD hu hr hle k en hp
end
theorem WR {a b:Bool}(h:a=true↔b=true):Value.bool a=Value.bool b:=congrArg _ (Bool.eq_iff_iff.2 h)
class SetN (l:List Value)(off n:Nat)(vs:List Value)(l':outParam (List Value)):Prop where
 len:vs.length=n
 fit:off+n<=l.length
 out:stc l off vs=l'
instance SetN.nil {l:List Value}:SetN l 0 0 [] l:=⟨rfl,by simp,by simp[stc]⟩
instance SetN.cons {a v:Value}{r vs r':List Value}{n:Nat}[h:SetN r 0 n vs r']:SetN (a::r) 0 (n+1) (v::vs) (v::r'):=⟨by
 have:=h.len;simp[this],by have:=h.fit;simp at this ⊢;omega,by
 have:=h.out
 simp only[stc,List.take_zero,List.nil_append,Nat.zero_add,aC,List.drop_succ_cons,List.cons_append] at this ⊢
 rw[this]⟩
instance SetN.drop {a:Value}{r vs r':List Value}{o n:Nat}[h:SetN r o n vs r']:SetN (a::r) (o+1) n vs (a::r'):=⟨h.len,by
 have:=h.fit;simp only[aC];omega,by
 have:=h.out
 simp only[stc,List.take_succ_cons,List.cons_append] at this ⊢
 rw[show o+1+vs.length=(o+vs.length)+1 by omega,List.drop_succ_cons,this]⟩
class GetQ (pl:List (Nat×Nat))(i:Nat)(off n:outParam Nat):Prop where
 out:pl[i]?=some (off,n)
instance GetQ.zero {off n:Nat}{r:List (Nat×Nat)}:GetQ ((off,n)::r) 0 off n:=⟨rfl⟩
instance GetQ.succ {p:Nat×Nat}{r:List (Nat×Nat)}{i off n:Nat}[h:GetQ r i off n]:GetQ (p::r) (i+1) off n:=⟨by simpa using h.out⟩
class CellsL (v:Value)(l:outParam (List Value)):Prop where
 out:v.cells=⟨l⟩
instance {l:List Value}:CellsL (.agg ⟨l⟩) l:=⟨rfl⟩
instance {k:IntKind}{n:Int}:CellsL (.int k n) [.int k n]:=⟨rfl⟩
instance {b:Bool}:CellsL (.bool b) [.bool b]:=⟨rfl⟩
instance {s:ByteArray}:CellsL (.string s) [.string s]:=⟨rfl⟩
instance {a:Option Addr}:CellsL (.pointer a) [.pointer a]:=⟨rfl⟩
instance {a:Option Addr}{n c:Nat}:CellsL (.slice a n c) [.slice a n c]:=⟨rfl⟩
instance {m:Option Nat}:CellsL (.map m) [.map m]:=⟨rfl⟩
class BuildM (pl:List (Nat×Nat))(cells:List Value)(ps:List (Nat×Operand))(vs:List Value)(out:outParam (List Value)):Prop where
 out:Instr.fill (pl[·]?) ⟨cells⟩ ((ps.map (·.1)).zip vs)=some ⟨out⟩
instance BuildM.nil {pl:List (Nat×Nat)}{cells:List Value}:BuildM pl cells [] [] cells:=⟨rfl⟩
instance BuildM.cons {pl:List (Nat×Nat)}{cells cells' out:List Value}{i off n:Nat}{o:Operand}{ps:List (Nat×Operand)}{v:Value}{l vs:List Value}[h1:GetQ pl i off n][h0:CellsL v l][h2:SetN cells off n l cells'][h3:BuildM pl cells' ps vs out]:BuildM pl cells ((i,o)::ps) (v::vs) out:=⟨by
 simp only[List.map_cons,List.zip_cons_cons]
 rw[fill_cons (pl:=(pl[·]?)) h1.out h0.out h2.len h2.fit,h2.out]
 exact h3.out⟩
theorem y_buildN {x:Cx}{E:Env}{ρ:Hp}{L:SH}{ty:TypeId}{t:Nat}{pl:List (Nat×Nat)}{z out:List Value}{ps:List (Nat×Operand)}{vs:List Value}[hP:Zj x.P t (pl[·]?)][hz:Zf x.P t (.agg ⟨z⟩)](hv:evs E (ps.map (·.2))=some vs)[hB:BuildM pl z ps vs out] :
  Yl x (.build t ⟨ps⟩) ty E ρ L (.agg ⟨out⟩):=y_build hv hB.out
theorem bq2 {a b c d:Int}:((a == b)=(c == d))↔(a=b↔c=d):=by
 rw[Bool.eq_iff_iff,beq_iff_eq,beq_iff_eq]
theorem bqt {a b:Int}:(true=(a == b))↔a=b:=by
 rw[eq_comm,beq_iff_eq]
theorem bqf {a b:Int}:(false=(a == b))↔¬a=b:=by
 rw[eq_comm,beq_eq_false_iff_ne]
end Go.Proofs.E
namespace Go.Proofs.E
open Go Go.Lib
section
variable {x:Cx}{Q:Exit->Act->World->Prop}{E:Env}{ρ:Hp}{L L1:SH}{ops:Array Oper}{rest:List Oper}{ty:TypeId}{pos:String}{af:Array Edge}
theorem GetL.get {l:List Value}{d:Nat}{v:Value}(h:GetL l d v):l[d]?=some v:=h.out
theorem TE.perm {e:Exit}{L':SH}(h:TE x e Q E ρ L')(hL:L.flatten.Perm L'.flatten):TE x e Q E ρ L:=λ a w ha hw=>h a w ha (hw.perm hL)
theorem TE.sub {e:Exit}{L':SH}(h:TE x e Q E ρ L')(hL:List.Sublist L'.flatten L.flatten):TE x e Q E ρ L:=λ a w ha hw=>h a w ha (hw.sub hL)
theorem TC.sub {c:Code}{L':SH}(h:TC x c Q E ρ L')(hL:List.Sublist L'.flatten L.flatten):TC x c Q E ρ L:=λ a w ha hw=>h a w ha (hw.sub hL)
theorem TL.sub {l:List Oper}{L':SH}(h:TL x ops l Q E ρ L')(hL:List.Sublist L'.flatten L.flatten):TL x ops l Q E ρ L:=λ a w ha hw=>h a w ha (hw.sub hL)
end
end Go.Proofs.E
