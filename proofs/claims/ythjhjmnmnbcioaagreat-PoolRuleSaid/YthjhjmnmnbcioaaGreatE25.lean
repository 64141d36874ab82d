/- Laws of PoolRule. Part 25 of 26. -/
import Derived.Test.YthjhjmnmnbcioaaGreatE24
set_option linter.unusedVariables false
set_option linter.unusedSimpArgs false
set_option linter.unusedSectionVars false
namespace Go.Proofs.E
open Go Go.RowKit Tryz
set_option maxHeartbeats 1000000
attribute [local irreducible] Yl TL TC TE Spec YW R1 Hp.le EnvLe TS TR YS Zv TP QP
set_option maxRecDepth 8000
section
variable {H:Type}{enc:TypeId×Value->H}{w:World}
theorem opn_boolC:Opn enc prog w 4 (λ cs (b:Bool)=>cs=[bb b]/\True):=(opn_bool underlying4).mono (λ cs b h=>⟨b,h,trivial⟩)
structure CutI where
 arm:Int
 a:Option Addr
 n:Nat
 c:Nat
 ks:List Bool
theorem opn_cut17:Opn enc prog w 67 (λ cs (e:CutI)=>cs=cutV e.arm e.a e.n e.c/\(-9223372036854775808<=e.arm/\e.arm<=9223372036854775807)/\SIn (hpOf w) bb e.a e.n e.ks/\e.n<=e.c/\e.n<=9223372036854775807):=λ fuel cs x h=>by
 obtain⟨hl,hf⟩:=WC underlying67 h
 have hl:cs.length=2:=by rw[hl];kernel_rfl
 obtain⟨c0,c1,rfl⟩:∃c0 c1,cs=[c0,c1]:=by
  match cs,hl with
  | [c0,c1],_=>exact⟨c0,c1,rfl⟩
 obtain⟨p,h0,p0,p1⟩:=YL h underlying67 0 0 1 rfl rfl rfl (by kernel_rfl) (opn_int underlying3)
 obtain⟨⟨ra,rn,rc,rows⟩,h3⟩:=YL h underlying67 1 1 1 rfl rfl rfl (by kernel_rfl) (opn_slice (sz:=1) underlying48 (by kernel_rfl) (by decide) opn_boolC)
 obtain⟨g1,g2,g3,g4⟩:=aIn_ofK (g:=λ b=>[bb b]) (P:=λ _=>True) (λ x=>rfl) h3
 replace h3:=h3.cells
 simp only[List.drop_zero,List.drop_succ_cons,List.take_succ_cons,List.take_zero,List.cons.injEq,and_true] at h0 h3
 subst h0;subst h3
 simp only[lo,hi] at p0 p1
 exact⟨⟨p,ra,rn,rc,rows⟩,rfl,⟨p0,p1⟩,sIn_of1 g1,g3,g4⟩
end
end Go.Proofs.E
