/- The law RingDoes. Part 15 of 17. -/
import Derived.Test.YtaacalchpindlaaO14
namespace Go.Proofs.E
open Go
set_option linter.unusedVariables false
set_option linter.unusedSimpArgs false
set_option linter.unusedSectionVars false
set_option maxRecDepth 4000
set_option maxHeartbeats 1000000
attribute [local irreducible] Yl TL TC TE Spec Xt R1 Hp.le EnvLe TS TR YS Zo
theorem ops_dk (ρ : Hp) (b : Nat) (k : DK) (D : DS) : Spec Try.prog 24 [.pointer (some ⟨b, 0, none⟩)] ρ (Zi b k D) (fun v ρ' L' => v = .int .i64 D.ops ∧ ρ' = ρ ∧ L' = Zi b k D) := by
 refine ((ops_spec ρ b k.hb k.mb D.secs.length D.ops D.armed D.failing D.dead).frame [[(k.hb.b, .cells ⟨Yo D.secs ++ k.hb.sp⟩ 48 (0, 0))], [(k.mb, .map ⟨k.es⟩ k.ck)]]).mono ?_
 rintro v ρ' L' _ ⟨L1, rfl, rfl, rfl, rfl⟩
 exact ⟨rfl, rfl, rfl⟩
theorem dead_dk (ρ : Hp) (b : Nat) (k : DK) (D : DS) : Spec Try.prog 25 [.pointer (some ⟨b, 0, none⟩)] ρ (Zi b k D) (fun v ρ' L' => v = .bool D.dead ∧ ρ' = ρ ∧ L' = Zi b k D) := dead_disk ρ b k.hb k.mb k.es k.ck D
theorem sameAll04_own (ρ : Hp) (a : Option Addr) (n c : Nat) (sp : List Value) (els els' : List BSl) (h : OwnS (.slice a n c) n (els.map slv) sp 1) (a' : Option Addr) (n' c' : Nat) (h' : SIn ρ slv a' n' els') (hin : ∀ e ∈ els, BIn ρ e) (hin' : ∀ e ∈ els', BIn ρ e) (he : els.map BSl.l = els'.map BSl.l) (hn : n ≤ 4611686018427387904) (hs : ∀ e ∈ els, e.n ≤ 4611686018427387904) :
  Spec Try.prog 28 [.slice a n c, .slice a' n' c'] ρ [ZO (.slice a n c) (els.map slv) sp 30] (fun v ρ' L' => v = .bool true ∧ ρ' = ρ ∧ L' = [ZO (.slice a n c) (els.map slv) sp 30]) := by
 refine (Spec.thaw (C := [ZO (.slice a n c) (els.map slv) sp 30]) (L := []) (Post := fun z L' => z = .bool true ∧ L' = []) (fun ρ1 hle hf => ?_)).mono ?_
 ·obtain ⟨a1, c1, e1, hc1, hs1⟩ := h.sIn (fun p hp => hf p (by simpa using hp))
  cases e1
  exact (sameAll04_in ρ1 a a' n c n' c' els els' hs1 (h'.mono hle) (fun e he => (hin e he).mono hle) (fun e he => (hin' e he).mono hle) he hn hs).mono (fun z ρ' L' _ ⟨h1, h2, h3⟩ => ⟨h2, h1, h3⟩)
 ·rintro z ρ' L' _ ⟨h1, L2, ⟨h2, rfl⟩, h3⟩
  exact ⟨h2, h1, h3⟩
theorem says_none (ρ : Hp) (mb om db : Nat) (h : Hd) (w : MW) (br : Bool) (km k : DK) (D : DS) :
  Spec Try.prog 7 [.pointer (some ⟨mb, 0, none⟩), .pointer none, .pointer (some ⟨db, 0, none⟩)] ρ ([[(mb, .cells ⟨mdV om h w br true⟩ 38 (0, 0))]] ++ (Zi om km D ++ Zi db k D))
   (fun v ρ' L' => v = .bool true ∧ ρ' = ρ ∧ L' = [[(mb, .cells ⟨mdV om h w br true⟩ 38 (0, 0))]] ++ (Zi om km D ++ Zi db k D)) := by
 have ho1 := fun ρ => ops_dk ρ db k D
 have ho2 := fun ρ => ops_dk ρ om km D
 have hd1 := fun ρ => dead_dk ρ db k D
 have hd2 := fun ρ => dead_dk ρ om km D
 refine Zd Try.func7 rfl rfl rfl fun u R => ?_
 simp only [Zw, List.cons_append, List.nil_append]
 repeat' (first | (refine ZV ?_; refine Zy (Zc rfl) rfl rfl ?_) | (refine Zf ?_; first | (refine Ze ?_; refine qQ ?_) | refine Zk ?_) | refine Za ?_ | (refine Zg ?_; refine Zu ?_) | (refine Zh ?_; refine Zv ?_) | intro _)
 refine ZA (Zo _ _ ([[(mb, .cells ⟨mdV om h w br true⟩ 38 (0, 0))]])) (Zn (hT := tk) (Hp.le_refl _)) ?_
 all_goals (refine ZL 0 ?_; refine ZL 2 ?_; refine rNc 3 ?_; refine ZU 4 ?_; refine ZX 5 ?_)
 all_goals (refine Zp (i := 1) ?_; ((try refine Zl ?_); (first | (refine Zb (.func 24) ?_; refine qC rfl rfl ((ho1 _)) ?_; rintro v ρ' L' hle ⟨rfl, rfl, rfl⟩ <;> (try simp only [kM, kN, kO])) | (refine Zb (.func 24) ?_; refine qC rfl rfl ((ho2 _)) ?_; rintro v ρ' L' hle ⟨rfl, rfl, rfl⟩ <;> (try simp only [kM, kN, kO])) | (refine Zk ?_; try intro _)) <;> ((try simp only [kM, kN, kO]); refine Za ?_; refine Zm ?_)))
 all_goals (refine Zp (i := 6) ?_; ((try refine Zl ?_); (first | (refine Zb (.func 24) ?_; refine qC rfl rfl ((ho1 _)) ?_; rintro v ρ' L' hle ⟨rfl, rfl, rfl⟩ <;> (try simp only [kM, kN, kO])) | (refine Zb (.func 24) ?_; refine qC rfl rfl ((ho2 _)) ?_; rintro v ρ' L' hle ⟨rfl, rfl, rfl⟩ <;> (try simp only [kM, kN, kO])) | (refine Zk ?_; try intro _)) <;> ((try simp only [kM, kN, kO]); refine Za ?_; refine Zm ?_)))
 all_goals (refine rCm 7 ?_; refine ZL 8 ?_; (first | refine Zr 9 ?_ | refine Zj 9 ?_ | refine wMv 9 ?_); (first | refine Zr 11 ?_ | refine Zj 11 ?_ | refine wMv 11 ?_); (first | refine Zr 12 ?_ | refine Zj 12 ?_ | refine wNc 12 ?_); (first | refine Zr 13 ?_ | refine Zj 13 ?_ | refine wFa 13 ?_); (first | refine Zr 14 ?_ | refine Zj 14 ?_ | refine wLd 14 ?_))
 all_goals (first | refine Zr 10 ?_ | refine Zj 10 ?_ | (refine Zp (i := 10) ?_; ((try refine Zl ?_); (first | (refine Zb (.func 25) ?_; refine qC rfl rfl ((hd1 _)) ?_; rintro v ρ' L' hle ⟨rfl, rfl, rfl⟩ <;> (try simp only [kM, kN, kO])) | (refine Zb (.func 25) ?_; refine qC rfl rfl ((hd2 _)) ?_; rintro v ρ' L' hle ⟨rfl, rfl, rfl⟩ <;> (try simp only [kM, kN, kO])) | (refine Zk ?_; try intro _)) <;> ((try simp only [kM, kN, kO]); refine Za ?_; refine Zm ?_))))
 all_goals (first | refine Zr 15 ?_ | refine Zj 15 ?_ | (refine Zp (i := 15) ?_; ((try refine Zl ?_); (first | (refine Zb (.func 25) ?_; refine qC rfl rfl ((hd1 _)) ?_; rintro v ρ' L' hle ⟨rfl, rfl, rfl⟩ <;> (try simp only [kM, kN, kO])) | (refine Zb (.func 25) ?_; refine qC rfl rfl ((hd2 _)) ?_; rintro v ρ' L' hle ⟨rfl, rfl, rfl⟩ <;> (try simp only [kM, kN, kO])) | (refine Zk ?_; try intro _)) <;> ((try simp only [kM, kN, kO]); refine Za ?_; refine Zm ?_))))
 all_goals (refine ZN ?_; (first | refine Zr 16 ?_ | refine Zj 16 ?_ | refine wCm 16 ?_); refine rPk 17 ?_; refine ZH ?_)
 all_goals (repeat' (first | (refine ZV ?_; refine Zy (Zc rfl) rfl rfl ?_) | (refine Zf ?_; first | (refine Ze ?_; refine qQ ?_) | refine Zk ?_) | refine Za ?_ | (refine Zg ?_; refine Zu ?_) | (refine Zh ?_; refine Zv ?_) | intro _))
 all_goals exact qE (L' := [[(mb, .cells ⟨mdV om h w br true⟩ 38 (0, 0))]] ++ (Zi om km D ++ Zi db k D)) ⟨rfl, rfl, rfl⟩
theorem says_some (ρ : Hp) (mb om rb db : Nat) (R : RgS) (w : MW) (hm : MIn ρ R.h w) (hel : w.els.map BSl.l = R.ents) (wr : RW) (hr : RIn ρ R wr) (km k : DK) (D : DS) :
  Spec Try.prog 7 [.pointer (some ⟨mb, 0, none⟩), .pointer (some ⟨rb, 0, none⟩), .pointer (some ⟨db, 0, none⟩)] ρ ([[(mb, .cells ⟨mdV om R.h w R.broken false⟩ 38 (0, 0))]] ++ (ZT rb db R wr ++ (Zi om km D ++ Zi db k D)))
   (fun v ρ' L' => v = .bool true ∧ ρ.le ρ' ∧ L' = [[(mb, .cells ⟨mdV om R.h w R.broken false⟩ 38 (0, 0))]] ++ (ZT rb db R wr ++ (Zi om km D ++ Zi db k D))) := by
 have ho1 := fun ρ => ops_dk ρ db k D
 have ho2 := fun ρ => ops_dk ρ om km D
 have hd1 := fun ρ => dead_dk ρ db k D
 have hd2 := fun ρ => dead_dk ρ om km D
 have hok := hr.ok
 have hu : ZB (w.els.map BSl.l) = R.used := by rw [hel, hok.used]
 have hft := hok.fit
 have hsz := hok.size
 have hll : R.ents.length = w.els.length := by rw [← hel, List.length_map]
 have hul : w.els.length ≤ 1000 := by
  have h1 := Xi R.ents
  have h2 := hok.used
  omega
 have hus := used04_spec ρ w.ea w.els.length w.ec w.els hm.ents hm.bin (by omega) hm.lon
 rw [hu] at hus
 have hfi := fun ρ => first_spec ρ rb db R wr
 have hlf := fun ρ => left_spec4 ρ rb db R wr hok
 have hbk := fun ρ => broken_spec ρ rb db R wr
 have hno := fun ρ (h : RIn ρ R wr) => note_spec ρ rb db R wr h
 have hal := fun ρ (h : RIn ρ R wr) => all_spec ρ rb db R wr h
 have hsl : ((R.h.size - R.used : Nat) : Int) = ((R.h.size : Nat) : Int) - (R.used : Nat) := by omega
 rw [hsl] at hlf
 refine Zd Try.func7 rfl rfl rfl fun u RR => ?_
 simp only [Zw, List.cons_append, List.nil_append]
 repeat' (first | (refine ZV ?_; refine Zy (Zc rfl) rfl rfl ?_) | (refine Zf ?_; first | (refine Ze ?_; refine qQ ?_) | refine Zk ?_) | refine Za ?_ | (refine Zg ?_; refine Zu ?_) | (refine Zh ?_; refine Zv ?_) | intro _)
 refine ZA (Zo _ _ ([[(mb, .cells ⟨mdV om R.h w R.broken false⟩ 38 (0, 0))]])) (Zn (hT := tk) (Hp.le_refl _)) ?_
 all_goals (refine ZL 0 ?_; refine ZL 2 ?_; refine rNc 3 ?_; refine ZU 4 ?_; refine ZX 5 ?_)
 all_goals (refine Zp (i := 1) ?_; ((try refine Zl ?_); (first | (refine Zb (.func 24) ?_; refine qC rfl rfl ((ho1 _)) ?_; rintro v ρ' L' hle ⟨rfl, rfl, rfl⟩ <;> (try simp only [kM, kN, kO])) | (refine Zb (.func 24) ?_; refine qC rfl rfl ((ho2 _)) ?_; rintro v ρ' L' hle ⟨rfl, rfl, rfl⟩ <;> (try simp only [kM, kN, kO])) | (refine Zk ?_; try intro _)) <;> ((try simp only [kM, kN, kO]); refine Za ?_; refine Zm ?_)))
 all_goals (refine Zp (i := 6) ?_; ((try refine Zl ?_); (first | (refine Zb (.func 24) ?_; refine qC rfl rfl ((ho1 _)) ?_; rintro v ρ' L' hle ⟨rfl, rfl, rfl⟩ <;> (try simp only [kM, kN, kO])) | (refine Zb (.func 24) ?_; refine qC rfl rfl ((ho2 _)) ?_; rintro v ρ' L' hle ⟨rfl, rfl, rfl⟩ <;> (try simp only [kM, kN, kO])) | (refine Zk ?_; try intro _)) <;> ((try simp only [kM, kN, kO]); refine Za ?_; refine Zm ?_)))
 all_goals (refine rCm 7 ?_; refine ZL 8 ?_; (first | refine Zr 9 ?_ | refine Zj 9 ?_ | refine wMv 9 ?_); (first | refine Zr 11 ?_ | refine Zj 11 ?_ | refine wMv 11 ?_); (first | refine Zr 12 ?_ | refine Zj 12 ?_ | refine wNc 12 ?_); (first | refine Zr 13 ?_ | refine Zj 13 ?_ | refine wFa 13 ?_); (first | refine Zr 14 ?_ | refine Zj 14 ?_ | refine wLd 14 ?_))
 all_goals (first | refine Zr 10 ?_ | refine Zj 10 ?_ | (refine Zp (i := 10) ?_; ((try refine Zl ?_); (first | (refine Zb (.func 25) ?_; refine qC rfl rfl ((hd1 _)) ?_; rintro v ρ' L' hle ⟨rfl, rfl, rfl⟩ <;> (try simp only [kM, kN, kO])) | (refine Zb (.func 25) ?_; refine qC rfl rfl ((hd2 _)) ?_; rintro v ρ' L' hle ⟨rfl, rfl, rfl⟩ <;> (try simp only [kM, kN, kO])) | (refine Zk ?_; try intro _)) <;> ((try simp only [kM, kN, kO]); refine Za ?_; refine Zm ?_))))
 all_goals (first | refine Zr 15 ?_ | refine Zj 15 ?_ | (refine Zp (i := 15) ?_; ((try refine Zl ?_); (first | (refine Zb (.func 25) ?_; refine qC rfl rfl ((hd1 _)) ?_; rintro v ρ' L' hle ⟨rfl, rfl, rfl⟩ <;> (try simp only [kM, kN, kO])) | (refine Zb (.func 25) ?_; refine qC rfl rfl ((hd2 _)) ?_; rintro v ρ' L' hle ⟨rfl, rfl, rfl⟩ <;> (try simp only [kM, kN, kO])) | (refine Zk ?_; try intro _)) <;> ((try simp only [kM, kN, kO]); refine Za ?_; refine Zm ?_))))
 all_goals (refine ZN ?_; (first | refine Zr 16 ?_ | refine Zj 16 ?_ | refine wCm 16 ?_); refine rPk 17 ?_; refine ZH ?_)
 all_goals (repeat' (first | (refine ZV ?_; refine Zy (Zc rfl) rfl rfl ?_) | (refine Zf ?_; first | (refine Ze ?_; refine qQ ?_) | refine Zk ?_) | refine Za ?_ | (refine Zg ?_; refine Zu ?_) | (refine Zh ?_; refine Zv ?_) | intro _))
 refine ZA (Zo _ _ ([[(mb, .cells ⟨mdV om R.h w R.broken false⟩ 38 (0, 0))]])) (Zn (hT := tk) (Hp.le_refl _)) ?_
 all_goals (refine ZL 0 ?_; refine ZL 2 ?_; refine rNc 3 ?_; refine ZU 4 ?_; refine ZU 5 ?_; refine ZU 6 ?_; refine ZX 7 ?_)
 all_goals (refine Zp (i := 1) ?_; ((try refine Zl ?_); (first | (refine Zb (.func 14) ?_; refine qC rfl rfl ((hfi _)) ?_; rintro v ρ' L' hle ⟨rfl, rfl, rfl⟩ <;> (try simp only [kM, kN, kO])) | (refine Zk ?_; try intro _)) <;> ((try simp only [kM, kN, kO]); refine Za ?_; refine Zm ?_)))
 all_goals (refine rCm 8 ?_; refine ZL 9 ?_; (first | refine Zr 10 ?_ | refine Zj 10 ?_ | refine wMv 10 ?_); (first | refine Zr 12 ?_ | refine Zj 12 ?_ | refine wMv 12 ?_); (first | refine Zr 13 ?_ | refine Zj 13 ?_ | refine wNc 13 ?_); (first | refine Zr 14 ?_ | refine Zj 14 ?_ | refine wFa 14 ?_); (first | refine Zr 15 ?_ | refine Zj 15 ?_ | refine wFa 15 ?_); (first | refine Zr 16 ?_ | refine Zj 16 ?_ | refine wFa 16 ?_); (first | refine Zr 17 ?_ | refine Zj 17 ?_ | refine wLd 17 ?_); (first | refine Zr 18 ?_ | refine Zj 18 ?_ | refine wMv 18 ?_); (first | refine Zr 19 ?_ | refine Zj 19 ?_ | refine wNc 19 ?_); (first | refine Zr 20 ?_ | refine Zj 20 ?_ | refine wFa 20 ?_); (first | refine Zr 21 ?_ | refine Zj 21 ?_ | refine wFa 21 ?_); (first | refine Zr 22 ?_ | refine Zj 22 ?_ | refine wLd 22 ?_))
 all_goals (first | refine Zr 11 ?_ | refine Zj 11 ?_ | (refine Zp (i := 11) ?_; ((try refine Zl ?_); (first | (refine Zb (.func 12) ?_; refine qC rfl rfl ((hlf _)) ?_; rintro v ρ' L' hle ⟨rfl, rfl, rfl⟩ <;> (try simp only [kM, kN, kO])) | (refine Zk ?_; try intro _)) <;> ((try simp only [kM, kN, kO]); refine Za ?_; refine Zm ?_))))
 all_goals (first | refine Zr 23 ?_ | refine Zj 23 ?_ | (refine Zp (i := 23) ?_; ((try refine Zl ?_); (first | (refine Zb (.func 26) ?_; refine qC rfl rfl (hus) ?_; rintro v ρ' L' hle ⟨rfl, rfl, rfl⟩ <;> (try simp only [kM, kN, kO])) | (refine Zk ?_; try intro _)) <;> ((try simp only [kM, kN, kO]); refine Za ?_; refine Zm ?_))))
 all_goals ((first | refine Zr 24 ?_ | refine Zj 24 ?_ | refine wSb 24 ?_); (first | refine Zr 25 ?_ | refine Zj 25 ?_ | refine wCm 25 ?_); refine rPk 26 ?_; refine ZL 27 ?_; (first | refine Zr 28 ?_ | refine Zj 28 ?_ | refine wMv 28 ?_); (first | refine Zr 30 ?_ | refine Zj 30 ?_ | refine wMv 30 ?_); (first | refine Zr 31 ?_ | refine Zj 31 ?_ | refine wNc 31 ?_); (first | refine Zr 32 ?_ | refine Zj 32 ?_ | refine wFa 32 ?_); (first | refine Zr 33 ?_ | refine Zj 33 ?_ | refine wLd 33 ?_))
 all_goals (first | refine Zr 29 ?_ | refine Zj 29 ?_ | (refine Zp (i := 29) ?_; ((try refine Zl ?_); (first | (refine Zb (.func 27) ?_; refine qC rfl rfl ((hbk _)) ?_; rintro v ρ' L' hle ⟨rfl, rfl, rfl⟩ <;> (try simp only [kM, kN, kO])) | (refine Zk ?_; try intro _)) <;> ((try simp only [kM, kN, kO]); refine Za ?_; refine Zm ?_))))
 all_goals ((first | refine Zr 34 ?_ | refine Zj 34 ?_ | refine wCm 34 ?_); refine rPk 35 ?_; refine ZL 36 ?_; (first | refine Zr 37 ?_ | refine Zj 37 ?_ | refine wMv 37 ?_); (first | refine Zr 39 ?_ | refine Zj 39 ?_ | refine wMv 39 ?_); (first | refine Zr 40 ?_ | refine Zj 40 ?_ | refine wNc 40 ?_); (first | refine Zr 41 ?_ | refine Zj 41 ?_ | refine wFa 41 ?_); (first | refine Zr 42 ?_ | refine Zj 42 ?_ | refine wFa 42 ?_); (first | refine Zr 43 ?_ | refine Zj 43 ?_ | refine wLd 43 ?_))
 all_goals (first | refine Zr 38 ?_ | refine Zj 38 ?_ | (refine Zp (i := 38) ?_; ((try refine Zl ?_); (first | (refine Zb (.func 29) ?_; refine qC rfl rfl (hal _ hr) ?_; rintro v6 ρ6 L6 hle6 ⟨hl6, els6, sp6, hown6, hbin6, hmap6, rfl⟩; obtain ⟨a6, c6, rfl, _⟩ := hown6.slice; simp only [List.cons_append, List.nil_append, List.append_assoc]) | (refine Zk ?_; try intro _)) <;> ((try simp only [kM, kN, kO]); refine Za ?_; refine Zm ?_))))
 all_goals (first | refine Zr 44 ?_ | refine Zj 44 ?_ | (refine Zp (i := 44) ?_; ((try refine Zl ?_); (first | (refine Zb (.func 28) ?_; refine qC rfl rfl (sameAll04_own _ a6 els6.length c6 sp6 els6 w.els hown6 w.ea w.els.length w.ec (hm.ents.mono hl6) hbin6 (fun e he => (hm.bin e he).mono hl6) (hmap6.trans hel.symm) (by have := congrArg List.length hmap6; rw [List.length_map, hll] at this; omega) (fun e he => by have h1 := hok.long e.l (by rw [← hmap6]; exact List.mem_map_of_mem he); have h2 := (hbin6 e he).s.len; omega)) ?_; rintro v ρ' L' hle ⟨rfl, rfl, rfl⟩ <;> (try simp only [kM, kN, kO])) | (refine Zk ?_; try intro _)) <;> ((try simp only [kM, kN, kO]); refine Za ?_; refine Zm ?_))))
 all_goals (refine rPk 45 ?_; refine ZL 46 ?_; (first | refine Zr 47 ?_ | refine Zj 47 ?_ | refine wMv 47 ?_); (first | refine Zr 49 ?_ | refine Zj 49 ?_ | refine wMv 49 ?_); (first | refine Zr 50 ?_ | refine Zj 50 ?_ | refine wNc 50 ?_); (first | refine Zr 51 ?_ | refine Zj 51 ?_ | refine wFa 51 ?_); (first | refine Zr 52 ?_ | refine Zj 52 ?_ | refine wFa 52 ?_); (first | refine Zr 53 ?_ | refine Zj 53 ?_ | refine wFa 53 ?_); (first | refine Zr 54 ?_ | refine Zj 54 ?_ | refine wLd 54 ?_))
 all_goals (first | refine Zr 48 ?_ | refine Zj 48 ?_ | (refine Zp (i := 48) ?_; ((try refine Zl ?_); (first | (refine Zb (.func 31) ?_; refine qC rfl rfl ((hno _ (hr.mono hl6))) ?_; rintro v ρ' L' hle ⟨hl7, e7, rfl, hb7, he7, rfl⟩ <;> (try simp only [kM, kN, kO])) | (refine Zk ?_; try intro _)) <;> ((try simp only [kM, kN, kO]); refine Za ?_; refine Zm ?_))))
 all_goals (first | refine Zr 55 ?_ | refine Zj 55 ?_ | (refine Zp (i := 55) ?_; ((try refine Zl ?_); (first | (refine Zb (.func 30) ?_; refine qC rfl rfl (same04_spec _ e7.a w.na e7.n e7.c w.nn w.nc R.h.note (by have h1 := hb7.s; rw [he7] at h1; exact h1) (hm.note.mono (Hp.le_trans hl6 hl7)) (by have h1 := hb7.s.len; have h2 := hok.note; rw [he7] at h1; omega)) ?_; rintro v ρ' L' hle ⟨rfl, rfl, rfl⟩ <;> (try simp only [kM, kN, kO])) | (refine Zk ?_; try intro _)) <;> ((try simp only [kM, kN, kO]); refine Za ?_; refine Zm ?_))))
 all_goals (refine ZN ?_; refine rPk 56 ?_; refine rAs 57 ?_; refine ZH ?_)
 all_goals (repeat' (first | (refine ZV ?_; refine Zy (Zc rfl) rfl rfl ?_) | (refine Zf ?_; first | (refine Ze ?_; refine qQ ?_) | refine Zk ?_) | refine Za ?_ | (refine Zg ?_; refine Zu ?_) | (refine Zh ?_; refine Zv ?_) | intro _))
 all_goals have hfin := Hp.le_trans hl6 hl7
 all_goals exact qE (L' := [[(mb, .cells ⟨mdV om R.h w R.broken false⟩ 38 (0, 0))]] ++ (ZT rb db R wr ++ (Zi om km D ++ Zi db k D))) ⟨rfl, hfin, rfl⟩
end Go.Proofs.E
