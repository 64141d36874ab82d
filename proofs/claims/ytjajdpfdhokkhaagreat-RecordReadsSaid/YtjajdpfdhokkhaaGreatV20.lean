/- The law RecordReads. Part 20 of 21. -/
import Derived.Test.YtjajdpfdhokkhaaGreatV19
namespace Go.Proofs.E
open Go
set_option linter.unusedVariables false
set_option linter.unusedSimpArgs false
set_option linter.unusedSectionVars false
set_option maxRecDepth 4000
set_option maxHeartbeats 1000000
attribute [local irreducible] Yl TL TC TE Spec XW R1 Hp.le EnvLe TS TR YS Zv
theorem read_9b1 (ρ : Hp) (a : Option Addr) (n c : Nat) (l : List UInt8) (h : SIn ρ ZM a n l) (hc : n ≤ c) (hb : n ≤ 1000000) (k : Nat) (l1 : List UInt8) (hl1 : ZN 1 (l, 0, false) = (k, l1, 0, false)) (hk9 : k = 9) (hno : okS (ZN 8 (l1, 0, false)).2 = false) : Spec Tryz.prog 23 [.slice a n c] ρ [] (fun z ρ' L' => ρ.le ρ' ∧ YU ρ' l z L') := by
 have hI0 : RdI ρ ⟨a, n, c⟩ l := ⟨h, hc, hb⟩
 have hln := h.len
 have hdb : Yq l = false := bad2 hl1 hno
 refine Zf Tryz.func23 rfl rfl rfl fun u R => ?_
 simp only [Zx, List.cons_append, List.nil_append]
 repeat' (first | (refine Zc (.func 90) ?_; refine qC rfl rfl (Zm _ _ ⟨a, n, c⟩ l hI0 1 256 rfl (by decide) hl1) ?_; rintro v ρ' L' hle ⟨rfl, rfl, hb1, s1, h1, rfl⟩ <;> (try simp only [kM, kN, kO])) | (refine Zc (.func 90) ?_; refine qC rfl rfl (ZV _ _ s1 l1 h1 8 (by decide) hno) ?_; rintro v ρ' L' hle ⟨rfl, rfl, rfl⟩ <;> (try simp only [kM, kN, kO])) | (refine Zc (.func 90) ?_; refine qC rfl rfl (ZB _ _ s1 1) ?_; rintro v ρ' L' hle ⟨rfl, rfl, rfl⟩ <;> (try simp only [kM, kN, kO])) | (refine Zc (.func 90) ?_; refine qC rfl rfl (ZB _ _ s1 4) ?_; rintro v ρ' L' hle ⟨rfl, rfl, rfl⟩ <;> (try simp only [kM, kN, kO])) | (refine Zc (.func 90) ?_; refine qC rfl rfl (ZB _ _ s1 8) ?_; rintro v ρ' L' hle ⟨rfl, rfl, rfl⟩ <;> (try simp only [kM, kN, kO])) | (refine ZG ?_; refine Zn (Ze rfl) rfl rfl ?_) | (refine Zj ?_; first | (refine Zg ?_; refine qQ ?_) | refine Zl ?_) | refine Za ?_ | (refine Zi ?_; refine Zq ?_) | (refine Zh ?_; refine Zp ?_) | intro _)
 refine Zy [(2, _), (3, _), (4, _), (5, _), (78, _)] (fun (ζ : (Nat)) => [(79, .int .u64 ζ)]) (fun (ζ : (Nat)) => ρ') (fun (ζ : (Nat)) => []) (fun (ζ : (Nat)) => ζ = 0) (fun (ζ : (Nat)) => 0 - ζ) (0) (rfl) Zk Zk rfl tk ?_
 rintro j hI
 try simp only [List.cons_append, List.nil_append, List.append_assoc, List.append_eq] at hI ⊢
 try dsimp only at hI ⊢
 subst hI
 repeat' (first | (refine Zc (.func 90) ?_; refine qC rfl rfl (ZB _ _ s1 1) ?_; rintro v ρ' L' hle ⟨rfl, rfl, rfl⟩ <;> (try simp only [kM, kN, kO])) | (refine ZG ?_; refine Zn (Ze rfl) rfl rfl ?_) | (refine Zj ?_; first | (refine Zg ?_; refine qQ ?_) | refine Zl ?_) | refine Za ?_ | (refine Zi ?_; refine Zq ?_) | (refine Zh ?_; refine Zp ?_) | intro _)
 refine Zy [(2, _), (3, _), (4, _), (5, _), (110, _)] (fun (ζ : (Nat)) => [(111, .int .u64 ζ)]) (fun (ζ : (Nat)) => ρ') (fun (ζ : (Nat)) => []) (fun (ζ : (Nat)) => ζ = 0) (fun (ζ : (Nat)) => 0 - ζ) (0) (rfl) Zk Zk rfl tk ?_
 rintro j hI
 try simp only [List.cons_append, List.nil_append, List.append_assoc, List.append_eq] at hI ⊢
 try dsimp only at hI ⊢
 subst hI
 repeat' (first | (refine ZG ?_; refine Zn (Ze rfl) rfl rfl ?_) | (refine Zj ?_; first | (refine Zg ?_; refine qQ ?_) | refine Zl ?_) | refine Za ?_ | (refine Zi ?_; refine Zq ?_) | (refine Zh ?_; refine Zp ?_) | intro _)
 exact qE (L' := []) ⟨Hp.le_refl _, Yb hdb⟩
theorem read_9b2 (ρ : Hp) (a : Option Addr) (n c : Nat) (l : List UInt8) (h : SIn ρ ZM a n l) (hc : n ≤ c) (hb : n ≤ 1000000) (k : Nat) (l1 : List UInt8) (hl1 : ZN 1 (l, 0, false) = (k, l1, 0, false)) (lsn : Nat) (l2 : List UInt8) (hl2 : ZN 8 (l1, 0, false) = (lsn, l2, 0, false)) (hk9 : k = 9) (hno : okS (ZN 4 (l2, 0, false)).2 = false) : Spec Tryz.prog 23 [.slice a n c] ρ [] (fun z ρ' L' => ρ.le ρ' ∧ YU ρ' l z L') := by
 have hI0 : RdI ρ ⟨a, n, c⟩ l := ⟨h, hc, hb⟩
 have hln := h.len
 have hdb : Yq l = false := bad3 hl1 hl2 hno
 refine Zf Tryz.func23 rfl rfl rfl fun u R => ?_
 simp only [Zx, List.cons_append, List.nil_append]
 repeat' (first | (refine Zc (.func 90) ?_; refine qC rfl rfl (Zm _ _ ⟨a, n, c⟩ l hI0 1 256 rfl (by decide) hl1) ?_; rintro v ρ' L' hle ⟨rfl, rfl, hb1, s1, h1, rfl⟩ <;> (try simp only [kM, kN, kO])) | (refine Zc (.func 90) ?_; refine qC rfl rfl (Zm _ _ s1 l1 h1 8 18446744073709551616 rfl (by decide) hl2) ?_; rintro v ρ' L' hle ⟨rfl, rfl, hb2, s2, h2, rfl⟩ <;> (try simp only [kM, kN, kO])) | (refine Zc (.func 90) ?_; refine qC rfl rfl (ZV _ _ s2 l2 h2 4 (by decide) hno) ?_; rintro v ρ' L' hle ⟨rfl, rfl, rfl⟩ <;> (try simp only [kM, kN, kO])) | (refine Zc (.func 90) ?_; refine qC rfl rfl (ZB _ _ s2 1) ?_; rintro v ρ' L' hle ⟨rfl, rfl, rfl⟩ <;> (try simp only [kM, kN, kO])) | (refine Zc (.func 90) ?_; refine qC rfl rfl (ZB _ _ s2 4) ?_; rintro v ρ' L' hle ⟨rfl, rfl, rfl⟩ <;> (try simp only [kM, kN, kO])) | (refine Zc (.func 90) ?_; refine qC rfl rfl (ZB _ _ s2 8) ?_; rintro v ρ' L' hle ⟨rfl, rfl, rfl⟩ <;> (try simp only [kM, kN, kO])) | (refine ZG ?_; refine Zn (Ze rfl) rfl rfl ?_) | (refine Zj ?_; first | (refine Zg ?_; refine qQ ?_) | refine Zl ?_) | refine Za ?_ | (refine Zi ?_; refine Zq ?_) | (refine Zh ?_; refine Zp ?_) | intro _)
 refine Zy [(2, _), (3, _), (4, _), (5, _), (78, _)] (fun (ζ : (Nat)) => [(79, .int .u64 ζ)]) (fun (ζ : (Nat)) => ρ') (fun (ζ : (Nat)) => []) (fun (ζ : (Nat)) => ζ = 0) (fun (ζ : (Nat)) => 0 - ζ) (0) (rfl) Zk Zk rfl tk ?_
 rintro j hI
 try simp only [List.cons_append, List.nil_append, List.append_assoc, List.append_eq] at hI ⊢
 try dsimp only at hI ⊢
 subst hI
 repeat' (first | (refine Zc (.func 90) ?_; refine qC rfl rfl (ZB _ _ s2 1) ?_; rintro v ρ' L' hle ⟨rfl, rfl, rfl⟩ <;> (try simp only [kM, kN, kO])) | (refine ZG ?_; refine Zn (Ze rfl) rfl rfl ?_) | (refine Zj ?_; first | (refine Zg ?_; refine qQ ?_) | refine Zl ?_) | refine Za ?_ | (refine Zi ?_; refine Zq ?_) | (refine Zh ?_; refine Zp ?_) | intro _)
 refine Zy [(2, _), (3, _), (4, _), (5, _), (110, _)] (fun (ζ : (Nat)) => [(111, .int .u64 ζ)]) (fun (ζ : (Nat)) => ρ') (fun (ζ : (Nat)) => []) (fun (ζ : (Nat)) => ζ = 0) (fun (ζ : (Nat)) => 0 - ζ) (0) (rfl) Zk Zk rfl tk ?_
 rintro j hI
 try simp only [List.cons_append, List.nil_append, List.append_assoc, List.append_eq] at hI ⊢
 try dsimp only at hI ⊢
 subst hI
 repeat' (first | (refine ZG ?_; refine Zn (Ze rfl) rfl rfl ?_) | (refine Zj ?_; first | (refine Zg ?_; refine qQ ?_) | refine Zl ?_) | refine Za ?_ | (refine Zi ?_; refine Zq ?_) | (refine Zh ?_; refine Zp ?_) | intro _)
 exact qE (L' := []) ⟨Hp.le_refl _, Yb hdb⟩
theorem read_9b3 (ρ : Hp) (a : Option Addr) (n c : Nat) (l : List UInt8) (h : SIn ρ ZM a n l) (hc : n ≤ c) (hb : n ≤ 1000000) (k : Nat) (l1 : List UInt8) (hl1 : ZN 1 (l, 0, false) = (k, l1, 0, false)) (lsn : Nat) (l2 : List UInt8) (hl2 : ZN 8 (l1, 0, false) = (lsn, l2, 0, false)) (txn : Nat) (l3 : List UInt8) (hl3 : ZN 4 (l2, 0, false) = (txn, l3, 0, false)) (hk9 : k = 9) (hno : okS (ZN 8 (l3, 0, false)).2 = false) : Spec Tryz.prog 23 [.slice a n c] ρ [] (fun z ρ' L' => ρ.le ρ' ∧ YU ρ' l z L') := by
 have hI0 : RdI ρ ⟨a, n, c⟩ l := ⟨h, hc, hb⟩
 have hln := h.len
 have hdb : Yq l = false := bad4 hl1 hl2 hl3 hno
 refine Zf Tryz.func23 rfl rfl rfl fun u R => ?_
 simp only [Zx, List.cons_append, List.nil_append]
 repeat' (first | (refine Zc (.func 90) ?_; refine qC rfl rfl (Zm _ _ ⟨a, n, c⟩ l hI0 1 256 rfl (by decide) hl1) ?_; rintro v ρ' L' hle ⟨rfl, rfl, hb1, s1, h1, rfl⟩ <;> (try simp only [kM, kN, kO])) | (refine Zc (.func 90) ?_; refine qC rfl rfl (Zm _ _ s1 l1 h1 8 18446744073709551616 rfl (by decide) hl2) ?_; rintro v ρ' L' hle ⟨rfl, rfl, hb2, s2, h2, rfl⟩ <;> (try simp only [kM, kN, kO])) | (refine Zc (.func 90) ?_; refine qC rfl rfl (Zm _ _ s2 l2 h2 4 4294967296 rfl (by decide) hl3) ?_; rintro v ρ' L' hle ⟨rfl, rfl, hb3, s3, h3, rfl⟩ <;> (try simp only [kM, kN, kO])) | (refine Zc (.func 90) ?_; refine qC rfl rfl (ZV _ _ s3 l3 h3 8 (by decide) hno) ?_; rintro v ρ' L' hle ⟨rfl, rfl, rfl⟩ <;> (try simp only [kM, kN, kO])) | (refine Zc (.func 90) ?_; refine qC rfl rfl (ZB _ _ s3 1) ?_; rintro v ρ' L' hle ⟨rfl, rfl, rfl⟩ <;> (try simp only [kM, kN, kO])) | (refine Zc (.func 90) ?_; refine qC rfl rfl (ZB _ _ s3 4) ?_; rintro v ρ' L' hle ⟨rfl, rfl, rfl⟩ <;> (try simp only [kM, kN, kO])) | (refine Zc (.func 90) ?_; refine qC rfl rfl (ZB _ _ s3 8) ?_; rintro v ρ' L' hle ⟨rfl, rfl, rfl⟩ <;> (try simp only [kM, kN, kO])) | (refine ZG ?_; refine Zn (Ze rfl) rfl rfl ?_) | (refine Zj ?_; first | (refine Zg ?_; refine qQ ?_) | refine Zl ?_) | refine Za ?_ | (refine Zi ?_; refine Zq ?_) | (refine Zh ?_; refine Zp ?_) | intro _)
 refine Zy [(2, _), (3, _), (4, _), (5, _), (78, _)] (fun (ζ : (Nat)) => [(79, .int .u64 ζ)]) (fun (ζ : (Nat)) => ρ') (fun (ζ : (Nat)) => []) (fun (ζ : (Nat)) => ζ = 0) (fun (ζ : (Nat)) => 0 - ζ) (0) (rfl) Zk Zk rfl tk ?_
 rintro j hI
 try simp only [List.cons_append, List.nil_append, List.append_assoc, List.append_eq] at hI ⊢
 try dsimp only at hI ⊢
 subst hI
 repeat' (first | (refine Zc (.func 90) ?_; refine qC rfl rfl (ZB _ _ s3 1) ?_; rintro v ρ' L' hle ⟨rfl, rfl, rfl⟩ <;> (try simp only [kM, kN, kO])) | (refine ZG ?_; refine Zn (Ze rfl) rfl rfl ?_) | (refine Zj ?_; first | (refine Zg ?_; refine qQ ?_) | refine Zl ?_) | refine Za ?_ | (refine Zi ?_; refine Zq ?_) | (refine Zh ?_; refine Zp ?_) | intro _)
 refine Zy [(2, _), (3, _), (4, _), (5, _), (110, _)] (fun (ζ : (Nat)) => [(111, .int .u64 ζ)]) (fun (ζ : (Nat)) => ρ') (fun (ζ : (Nat)) => []) (fun (ζ : (Nat)) => ζ = 0) (fun (ζ : (Nat)) => 0 - ζ) (0) (rfl) Zk Zk rfl tk ?_
 rintro j hI
 try simp only [List.cons_append, List.nil_append, List.append_assoc, List.append_eq] at hI ⊢
 try dsimp only at hI ⊢
 subst hI
 repeat' (first | (refine ZG ?_; refine Zn (Ze rfl) rfl rfl ?_) | (refine Zj ?_; first | (refine Zg ?_; refine qQ ?_) | refine Zl ?_) | refine Za ?_ | (refine Zi ?_; refine Zq ?_) | (refine Zh ?_; refine Zp ?_) | intro _)
 exact qE (L' := []) ⟨Hp.le_refl _, Yb hdb⟩
theorem read_9b4 (ρ : Hp) (a : Option Addr) (n c : Nat) (l : List UInt8) (h : SIn ρ ZM a n l) (hc : n ≤ c) (hb : n ≤ 1000000) (k : Nat) (l1 : List UInt8) (hl1 : ZN 1 (l, 0, false) = (k, l1, 0, false)) (lsn : Nat) (l2 : List UInt8) (hl2 : ZN 8 (l1, 0, false) = (lsn, l2, 0, false)) (txn : Nat) (l3 : List UInt8) (hl3 : ZN 4 (l2, 0, false) = (txn, l3, 0, false)) (prev : Nat) (l4 : List UInt8) (hl4 : ZN 8 (l3, 0, false) = (prev, l4, 0, false)) (hk9 : k = 9) (hno : okS (ZN 4 (l4, 0, false)).2 = false) : Spec Tryz.prog 23 [.slice a n c] ρ [] (fun z ρ' L' => ρ.le ρ' ∧ YU ρ' l z L') := by
 have hI0 : RdI ρ ⟨a, n, c⟩ l := ⟨h, hc, hb⟩
 have hln := h.len
 have hdb : Yq l = false := Xl (by
  rw [Xu hl1 hl2 hl3 hl4]
  unfold XM
  rw [if_neg (show ¬ ((k : Nat) : Int) = 2 by omega), if_neg (show ¬ ((k : Nat) : Int) = 3 by omega), if_neg (show ¬ ((k : Nat) : Int) = 4 by omega), if_neg (show ¬ ((k : Nat) : Int) = 5 by omega), if_pos (show ((k : Nat) : Int) = 9 by omega)]
  unfold XR cxD
  exact st_cdD (st_ctD hno))
 refine Zf Tryz.func23 rfl rfl rfl fun u R => ?_
 simp only [Zx, List.cons_append, List.nil_append]
 repeat' (first | (refine Zc (.func 90) ?_; refine qC rfl rfl (Zm _ _ ⟨a, n, c⟩ l hI0 1 256 rfl (by decide) hl1) ?_; rintro v ρ' L' hle ⟨rfl, rfl, hb1, s1, h1, rfl⟩ <;> (try simp only [kM, kN, kO])) | (refine Zc (.func 90) ?_; refine qC rfl rfl (Zm _ _ s1 l1 h1 8 18446744073709551616 rfl (by decide) hl2) ?_; rintro v ρ' L' hle ⟨rfl, rfl, hb2, s2, h2, rfl⟩ <;> (try simp only [kM, kN, kO])) | (refine Zc (.func 90) ?_; refine qC rfl rfl (Zm _ _ s2 l2 h2 4 4294967296 rfl (by decide) hl3) ?_; rintro v ρ' L' hle ⟨rfl, rfl, hb3, s3, h3, rfl⟩ <;> (try simp only [kM, kN, kO])) | (refine Zc (.func 90) ?_; refine qC rfl rfl (Zm _ _ s3 l3 h3 8 18446744073709551616 rfl (by decide) hl4) ?_; rintro v ρ' L' hle ⟨rfl, rfl, hb4, s4, h4, rfl⟩ <;> (try simp only [kM, kN, kO])) | (refine Zc (.func 90) ?_; refine qC rfl rfl (ZV _ _ s4 l4 h4 4 (by decide) hno) ?_; rintro v ρ' L' hle ⟨rfl, rfl, rfl⟩ <;> (try simp only [kM, kN, kO])) | (refine Zc (.func 90) ?_; refine qC rfl rfl (ZB _ _ s4 1) ?_; rintro v ρ' L' hle ⟨rfl, rfl, rfl⟩ <;> (try simp only [kM, kN, kO])) | (refine Zc (.func 90) ?_; refine qC rfl rfl (ZB _ _ s4 4) ?_; rintro v ρ' L' hle ⟨rfl, rfl, rfl⟩ <;> (try simp only [kM, kN, kO])) | (refine Zc (.func 90) ?_; refine qC rfl rfl (ZB _ _ s4 8) ?_; rintro v ρ' L' hle ⟨rfl, rfl, rfl⟩ <;> (try simp only [kM, kN, kO])) | (refine ZG ?_; refine Zn (Ze rfl) rfl rfl ?_) | (refine Zj ?_; first | (refine Zg ?_; refine qQ ?_) | refine Zl ?_) | refine Za ?_ | (refine Zi ?_; refine Zq ?_) | (refine Zh ?_; refine Zp ?_) | intro _)
 refine Zy [(2, _), (3, _), (4, _), (5, _), (78, _)] (fun (ζ : (Nat)) => [(79, .int .u64 ζ)]) (fun (ζ : (Nat)) => ρ') (fun (ζ : (Nat)) => []) (fun (ζ : (Nat)) => ζ = 0) (fun (ζ : (Nat)) => 0 - ζ) (0) (rfl) Zk Zk rfl tk ?_
 rintro j hI
 try simp only [List.cons_append, List.nil_append, List.append_assoc, List.append_eq] at hI ⊢
 try dsimp only at hI ⊢
 subst hI
 repeat' (first | (refine Zc (.func 90) ?_; refine qC rfl rfl (ZB _ _ s4 1) ?_; rintro v ρ' L' hle ⟨rfl, rfl, rfl⟩ <;> (try simp only [kM, kN, kO])) | (refine ZG ?_; refine Zn (Ze rfl) rfl rfl ?_) | (refine Zj ?_; first | (refine Zg ?_; refine qQ ?_) | refine Zl ?_) | refine Za ?_ | (refine Zi ?_; refine Zq ?_) | (refine Zh ?_; refine Zp ?_) | intro _)
 refine Zy [(2, _), (3, _), (4, _), (5, _), (110, _)] (fun (ζ : (Nat)) => [(111, .int .u64 ζ)]) (fun (ζ : (Nat)) => ρ') (fun (ζ : (Nat)) => []) (fun (ζ : (Nat)) => ζ = 0) (fun (ζ : (Nat)) => 0 - ζ) (0) (rfl) Zk Zk rfl tk ?_
 rintro j hI
 try simp only [List.cons_append, List.nil_append, List.append_assoc, List.append_eq] at hI ⊢
 try dsimp only at hI ⊢
 subst hI
 repeat' (first | (refine ZG ?_; refine Zn (Ze rfl) rfl rfl ?_) | (refine Zj ?_; first | (refine Zg ?_; refine qQ ?_) | refine Zl ?_) | refine Za ?_ | (refine Zi ?_; refine Zq ?_) | (refine Zh ?_; refine Zp ?_) | intro _)
 exact qE (L' := []) ⟨Hp.le_refl _, Yb hdb⟩
theorem read_9b5 (ρ : Hp) (a : Option Addr) (n c : Nat) (l : List UInt8) (h : SIn ρ ZM a n l) (hc : n ≤ c) (hb : n ≤ 1000000) (k : Nat) (l1 : List UInt8) (hl1 : ZN 1 (l, 0, false) = (k, l1, 0, false)) (lsn : Nat) (l2 : List UInt8) (hl2 : ZN 8 (l1, 0, false) = (lsn, l2, 0, false)) (txn : Nat) (l3 : List UInt8) (hl3 : ZN 4 (l2, 0, false) = (txn, l3, 0, false)) (prev : Nat) (l4 : List UInt8) (hl4 : ZN 8 (l3, 0, false) = (prev, l4, 0, false)) (nx : Nat) (l5 : List UInt8) (hl5 : ZN 4 (l4, 0, false) = (nx, l5, 0, false)) (hk9 : k = 9) (hno : okS (ZN 1 (l5, 0, false)).2 = false) : Spec Tryz.prog 23 [.slice a n c] ρ [] (fun z ρ' L' => ρ.le ρ' ∧ YU ρ' l z L') := by
 have hI0 : RdI ρ ⟨a, n, c⟩ l := ⟨h, hc, hb⟩
 have hln := h.len
 have hdb : Yq l = false := Xl (by
  rw [Xu hl1 hl2 hl3 hl4]
  unfold XM
  rw [if_neg (show ¬ ((k : Nat) : Int) = 2 by omega), if_neg (show ¬ ((k : Nat) : Int) = 3 by omega), if_neg (show ¬ ((k : Nat) : Int) = 4 by omega), if_neg (show ¬ ((k : Nat) : Int) = 5 by omega), if_pos (show ((k : Nat) : Int) = 9 by omega)]
  unfold XR cxD
  rw [hl5]
  exact st_cdD (st_many hno))
 refine Zf Tryz.func23 rfl rfl rfl fun u R => ?_
 simp only [Zx, List.cons_append, List.nil_append]
 repeat' (first | (refine Zc (.func 90) ?_; refine qC rfl rfl (Zm _ _ ⟨a, n, c⟩ l hI0 1 256 rfl (by decide) hl1) ?_; rintro v ρ' L' hle ⟨rfl, rfl, hb1, s1, h1, rfl⟩ <;> (try simp only [kM, kN, kO])) | (refine Zc (.func 90) ?_; refine qC rfl rfl (Zm _ _ s1 l1 h1 8 18446744073709551616 rfl (by decide) hl2) ?_; rintro v ρ' L' hle ⟨rfl, rfl, hb2, s2, h2, rfl⟩ <;> (try simp only [kM, kN, kO])) | (refine Zc (.func 90) ?_; refine qC rfl rfl (Zm _ _ s2 l2 h2 4 4294967296 rfl (by decide) hl3) ?_; rintro v ρ' L' hle ⟨rfl, rfl, hb3, s3, h3, rfl⟩ <;> (try simp only [kM, kN, kO])) | (refine Zc (.func 90) ?_; refine qC rfl rfl (Zm _ _ s3 l3 h3 8 18446744073709551616 rfl (by decide) hl4) ?_; rintro v ρ' L' hle ⟨rfl, rfl, hb4, s4, h4, rfl⟩ <;> (try simp only [kM, kN, kO])) | (refine Zc (.func 90) ?_; refine qC rfl rfl (Zm _ _ s4 l4 h4 4 4294967296 rfl (by decide) hl5) ?_; rintro v ρ' L' hle ⟨rfl, rfl, hb5, s5, h5, rfl⟩ <;> (try simp only [kM, kN, kO])) | (refine Zc (.func 90) ?_; refine qC rfl rfl (ZV _ _ s5 l5 h5 1 (by decide) hno) ?_; rintro v ρ' L' hle ⟨rfl, rfl, rfl⟩ <;> (try simp only [kM, kN, kO])) | (refine Zc (.func 90) ?_; refine qC rfl rfl (ZB _ _ s5 1) ?_; rintro v ρ' L' hle ⟨rfl, rfl, rfl⟩ <;> (try simp only [kM, kN, kO])) | (refine Zc (.func 90) ?_; refine qC rfl rfl (ZB _ _ s5 4) ?_; rintro v ρ' L' hle ⟨rfl, rfl, rfl⟩ <;> (try simp only [kM, kN, kO])) | (refine Zc (.func 90) ?_; refine qC rfl rfl (ZB _ _ s5 8) ?_; rintro v ρ' L' hle ⟨rfl, rfl, rfl⟩ <;> (try simp only [kM, kN, kO])) | (refine ZG ?_; refine Zn (Ze rfl) rfl rfl ?_) | (refine Zj ?_; first | (refine Zg ?_; refine qQ ?_) | refine Zl ?_) | refine Za ?_ | (refine Zi ?_; refine Zq ?_) | (refine Zh ?_; refine Zp ?_) | intro _)
 refine Zy [(2, _), (3, _), (4, _), (5, _), (78, _)] (fun (ζ : (Nat)) => [(79, .int .u64 ζ)]) (fun (ζ : (Nat)) => ρ') (fun (ζ : (Nat)) => []) (fun (ζ : (Nat)) => ζ = 0) (fun (ζ : (Nat)) => 0 - ζ) (0) (rfl) Zk Zk rfl tk ?_
 rintro j hI
 try simp only [List.cons_append, List.nil_append, List.append_assoc, List.append_eq] at hI ⊢
 try dsimp only at hI ⊢
 subst hI
 repeat' (first | (refine Zc (.func 90) ?_; refine qC rfl rfl (ZB _ _ s5 1) ?_; rintro v ρ' L' hle ⟨rfl, rfl, rfl⟩ <;> (try simp only [kM, kN, kO])) | (refine ZG ?_; refine Zn (Ze rfl) rfl rfl ?_) | (refine Zj ?_; first | (refine Zg ?_; refine qQ ?_) | refine Zl ?_) | refine Za ?_ | (refine Zi ?_; refine Zq ?_) | (refine Zh ?_; refine Zp ?_) | intro _)
 refine Zy [(2, _), (3, _), (4, _), (5, _), (110, _)] (fun (ζ : (Nat)) => [(111, .int .u64 ζ)]) (fun (ζ : (Nat)) => ρ') (fun (ζ : (Nat)) => []) (fun (ζ : (Nat)) => ζ = 0) (fun (ζ : (Nat)) => 0 - ζ) (0) (rfl) Zk Zk rfl tk ?_
 rintro j hI
 try simp only [List.cons_append, List.nil_append, List.append_assoc, List.append_eq] at hI ⊢
 try dsimp only at hI ⊢
 subst hI
 repeat' (first | (refine ZG ?_; refine Zn (Ze rfl) rfl rfl ?_) | (refine Zj ?_; first | (refine Zg ?_; refine qQ ?_) | refine Zl ?_) | refine Za ?_ | (refine Zi ?_; refine Zq ?_) | (refine Zh ?_; refine Zp ?_) | intro _)
 exact qE (L' := []) ⟨Hp.le_refl _, Yb hdb⟩
theorem read12_spec (ρ : Hp) (a : Option Addr) (n c : Nat) (l : List UInt8) (h : SIn ρ ZM a n l) (hc : n ≤ c) (hb : n ≤ 1000000) : Spec Tryz.prog 23 [.slice a n c] ρ [] (fun z ρ' L' => ρ.le ρ' ∧ YU ρ' l z L') := by
 have hln := h.len
 by_cases h0 : n < 1
 ·exact read_0 ρ a n c l h hc hb h0
 have h1 : 1 ≤ n := by omega
 obtain ⟨k, l1, hk⟩ : ∃ k l1, ZN 1 (l, 0, false) = (k, l1, 0, false) := ⟨_, _, rdN_go (by omega)⟩
 by_cases k2 : k = 2
 ·exact read_2 ρ a n c l h hc hb h1 k l1 hk k2
 by_cases k3 : k = 3
 ·exact read_3 ρ a n c l h hc hb h1 k l1 hk k3
 by_cases k5 : k = 5
 ·exact read_5 ρ a n c l h hc hb h1 k l1 hk k5
 by_cases k4 : k = 4
 ·rcases YJ 8 l1 with ⟨lsn, l2, e2⟩ | hno
  case' inr => exact read_4b1 ρ a n c l h hc hb k l1 hk k4 hno
  rcases YJ 4 l2 with ⟨txn, l3, e3⟩ | hno
  case' inr => exact read_4b2 ρ a n c l h hc hb k l1 hk lsn l2 e2 k4 hno
  rcases YJ 8 l3 with ⟨prev, l4, e4⟩ | hno
  case' inr => exact read_4b3 ρ a n c l h hc hb k l1 hk lsn l2 e2 txn l3 e3 k4 hno
  rcases YJ 8 l4 with ⟨next, l5, e5⟩ | hno
  case' inr => exact read_4b4 ρ a n c l h hc hb k l1 hk lsn l2 e2 txn l3 e3 prev l4 e4 k4 hno
  rcases YJ 1 l5 with ⟨m, l6, e6⟩ | hno
  case' inr => exact read_4b5 ρ a n c l h hc hb k l1 hk lsn l2 e2 txn l3 e3 prev l4 e4 next l5 e5 k4 hno
  exact read_4g ρ a n c l h hc hb k l1 hk lsn l2 e2 txn l3 e3 prev l4 e4 next l5 e5 m l6 e6 k4
 by_cases k9 : k = 9
 ·rcases YJ 8 l1 with ⟨lsn, l2, e2⟩ | hno
  case' inr => exact read_9b1 ρ a n c l h hc hb k l1 hk k9 hno
  rcases YJ 4 l2 with ⟨txn, l3, e3⟩ | hno
  case' inr => exact read_9b2 ρ a n c l h hc hb k l1 hk lsn l2 e2 k9 hno
  rcases YJ 8 l3 with ⟨prev, l4, e4⟩ | hno
  case' inr => exact read_9b3 ρ a n c l h hc hb k l1 hk lsn l2 e2 txn l3 e3 k9 hno
  rcases YJ 4 l4 with ⟨nx, l5, e5⟩ | hno
  case' inr => exact read_9b4 ρ a n c l h hc hb k l1 hk lsn l2 e2 txn l3 e3 prev l4 e4 k9 hno
  rcases YJ 1 l5 with ⟨m, l6, e6⟩ | hno
  case' inr => exact read_9b5 ρ a n c l h hc hb k l1 hk lsn l2 e2 txn l3 e3 prev l4 e4 nx l5 e5 k9 hno
  exact read_9g ρ a n c l h hc hb k l1 hk lsn l2 e2 txn l3 e3 prev l4 e4 nx l5 e5 m l6 e6 k9
 exact read_o ρ a n c l h hc hb h1 k l1 hk ⟨k2, k3, k4, k5, k9⟩
theorem AS.lessB {α : Type} {ρ ρ2 : Hp} {sz : Nat} {g : α → List Value} {s : SV} {l : List α} (h : AS ρ sz g s l) (hB : LessB ρ ρ2) (hg : ∀ x, ∃ i r, g x = .int .i64 i :: r) : AS ρ2 sz g s l := ⟨h.at'.lessB hB hg, h.big, h.cap⟩
theorem CI.lessB {ρ ρ2 : Hp} {v : CV} {c : XQ} (h : CI ρ v c) (hB : LessB ρ ρ2) : CI ρ2 v c := ⟨⟨h.cin.r.lessB hB (fun x => ⟨_, _, rfl⟩), h.cin.k.lessB hB (fun x => ⟨_, _, rfl⟩), h.cin.rb, h.cin.kb, h.cin.rc, h.cin.kc⟩, h.row, h.kid⟩
theorem RcIn.lessB {ρ ρ2 : Hp} {v : RV} {r : Rc} (h : RcIn ρ v r) (hB : LessB ρ ρ2) : RcIn ρ2 v r :=
 ⟨h.i.lessB hB (fun x => ⟨_, _, rfl⟩), fun x hx => ⟨(h.im x hx).b.lessB hB, (h.im x hx).a.lessB hB⟩, h.s.lessB hB (fun x => ⟨_, _, rfl⟩), h.t.lessB hB (fun x => ⟨_, _, rfl⟩), h.d.lessB hB (fun x => ⟨_, _, rfl⟩), h.sf⟩
structure ByS where
 s : SV
 l : List UInt8
abbrev byV (x : ByS) : List Value := [.slice x.s.a x.s.n x.s.c]
structure ByW (ρ : Hp) (x : ByS) : Prop where
 at' : SIn ρ ZM x.s.a x.s.n x.l
 cap : x.s.n ≤ x.s.c
 big : x.s.n ≤ 9223372036854775807
theorem ByW.mono {ρ ρ' : Hp} {x : ByS} (h : ByW ρ x) (hle : ρ.le ρ') : ByW ρ' x := ⟨h.at'.mono hle, h.cap, h.big⟩
abbrev bC (bb : Nat) (l : List UInt8) (j : Nat) : List (Nat × Obj) := [(bb, .cells ⟨l.map ZM ++ List.replicate j (.int .u8 0)⟩ 5 (0, 0))]
theorem bC_less {bb j : Nat} {l : List UInt8} {ρ ρ2 : Hp} (h : ∀ b o, ρ b = some o → ρ2 b = some o ∨ ∃ p ∈ ([bC bb l j] : SH).flatten, p.1 = b ∧ p.2 = o) : LessB ρ ρ2 := fun b o hb => by
 rcases h b o hb with h1 | ⟨p, hp, _, rfl⟩
 ·exact .inl h1
 ·have hp : p = (bb, .cells ⟨l.map ZM ++ List.replicate j (.int .u8 0)⟩ 5 (0, 0)) := by simpa using hp
  rw [hp]
  refine .inr ⟨_, _, _, rfl, fun v hv => ?_⟩
  rcases List.mem_append.1 hv with hv | hv
  ·obtain ⟨x, _, rfl⟩ := List.mem_map.1 hv; exact ⟨_, rfl⟩
  ·exact ⟨0, List.eq_of_mem_replicate hv⟩
theorem bC_in {bb j : Nat} {l : List UInt8} {ρ : Hp} (h : ∀ p ∈ ([bC bb l j] : SH).flatten, ρ p.1 = some p.2) : SIn ρ ZM (some ⟨bb, 0, none⟩) l.length l :=
 ⟨rfl, .inr ⟨bb, 0, _, _, _, rfl, h (bb, .cells ⟨l.map ZM ++ List.replicate j (.int .u8 0)⟩ 5 (0, 0)) (by simp), by rw [List.drop_zero, List.take_left' (by simp)]⟩⟩
theorem decOwn_spec (ρ : Hp) (bb cap j : Nat) (l : List UInt8) (hc : l.length ≤ cap) (hb : l.length ≤ 1000000) : Spec Tryz.prog 22 [.slice (some ⟨bb, 0, none⟩) l.length cap] ρ [bC bb l j]
  (fun z ρ2 L' => ρ.le ρ2 ∧ ∃ v r, z = .tuple ⟨[.agg ⟨Wv v r⟩, .int .i64 (if Yq l then 0 else 161)]⟩ ∧ RcIn ρ2 v r ∧ r.plain = decR l ∧ L' = [bC bb l j]) := by
 have h := Spec.thawN (P := Tryz.prog) (f := 22) (args := [.slice (some ⟨bb, 0, none⟩) l.length cap]) (ρ := ρ) (C := [bC bb l j]) (L := []) (Post := fun z ρ' L' => ∃ v r, z = .tuple ⟨[.agg ⟨Wv v r⟩, .int .i64 (if Yq l then 0 else 161)]⟩ ∧ RcIn ρ' v r ∧ r.plain = decR l ∧ L' = []) (fun ρ1 _ hf => (rdecode_spec ρ1 (some ⟨bb, 0, none⟩) l.length cap l (bC_in hf) hc hb).mono (fun z ρ' L' _ q => q.2))
 refine h.mono ?_
 rintro z ρ2 L' _ ⟨q1, ρ', L2, ⟨v, r, q2, q3, q4, rfl⟩, q5, rfl⟩
 exact ⟨q1, v, r, q2, q3.lessB (bC_less q5), q4, rfl⟩
theorem readOwn_spec (ρ : Hp) (bb cap j : Nat) (l : List UInt8) (hc : l.length ≤ cap) (hb : l.length ≤ 1000000) : Spec Tryz.prog 23 [.slice (some ⟨bb, 0, none⟩) l.length cap] ρ [bC bb l j]
  (fun z ρ2 L' => ρ.le ρ2 ∧ ∃ v r, z = .tuple ⟨[.agg ⟨Wv v r⟩, .bool (Yq l)]⟩ ∧ RcIn ρ2 v r ∧ r.plain = decR l ∧ L' = [bC bb l j]) := by
 have h := Spec.thawN (P := Tryz.prog) (f := 23) (args := [.slice (some ⟨bb, 0, none⟩) l.length cap]) (ρ := ρ) (C := [bC bb l j]) (L := []) (Post := fun z ρ' L' => YU ρ' l z L') (fun ρ1 _ hf => (read12_spec ρ1 (some ⟨bb, 0, none⟩) l.length cap l (bC_in hf) hc hb).mono (fun z ρ' L' _ q => q.2))
 refine h.mono ?_
 rintro z ρ2 L' _ ⟨q1, ρ', L2, ⟨v, r, q2, q3, q4, rfl⟩, q5, rfl⟩
 exact ⟨q1, v, r, q2, q3.lessB (bC_less q5), q4, rfl⟩
theorem sameT_spec {ρ : Hp} {v v2 : RV} {r r2 : Rc} (h : RcIn ρ v r) (h2 : RcIn ρ v2 r2) (e : r.plain = r2.plain) : Spec Tryz.prog 24 [.agg ⟨Wv v r⟩, .agg ⟨Wv v2 r2⟩] ρ [] (fun z ρ' L' => z = .bool true ∧ ρ = ρ' ∧ L' = []) := by
 refine (same12G_spec ρ v v2 r r2 h h2).mono ?_
 rintro z ρ' L' _ ⟨⟨b, q1, q2⟩, q3, q4⟩
 exact ⟨by rw [q1, q2.2 e], q3.symm, q4⟩
abbrev bV (i : Int) : Value := .int .u8 i
theorem readsLaw_spec (ρ : Hp) (a : Option Addr) (n c : Nat) (bs : List ByS) (h : AIn ρ 1 byV a n bs) (hw : ∀ x ∈ bs, ByW ρ x) (hn : n ≤ 9223372036854775807) :
  Spec Tryz.prog 4 [.slice a n c] ρ [] (fun z ρ' L' => z = .bool true ∧ ρ.le ρ' ∧ L' = []) := by
 have hl := h.len
 refine Zf Tryz.func4 rfl rfl rfl fun u R => ?_
 simp only [Zx, List.cons_append, List.nil_append]
 repeat' (first | (refine Zc (.func 21) ?_; refine qC rfl rfl (wakes12_spec _) ?_; rintro v ρ' L' hle ⟨rfl, hl1, rfl⟩ <;> (try simp only [kM, kN, kO])) | (refine ZG ?_; refine Zn (Ze rfl) rfl rfl ?_) | (refine Zj ?_; first | (refine Zg ?_; refine qQ ?_) | refine Zl ?_ | refine qAn ?_ | refine qXo ?_ | refine qNt ?_) | refine Za ?_ | (refine Zi ?_; refine Zq ?_) | (refine Zh ?_; refine Zp ?_) | intro _)
 refine Zy [(13, _), (14, _)] (fun (ζ : (Nat) × (Hp)) => [(15, .int .i64 ζ.1), (2, .bool false)]) (fun (ζ : (Nat) × (Hp)) => ζ.2) (fun (ζ : (Nat) × (Hp)) => []) (fun (ζ : (Nat) × (Hp)) => ζ.1 ≤ n ∧ ρ.le ζ.2) (fun (ζ : (Nat) × (Hp)) => n - ζ.1) ((0, ρ')) (⟨Nat.zero_le _, hl1⟩) Zk Zk rfl tk ?_
 rintro ⟨k, ρ1⟩ hI
 try simp only [List.cons_append, List.nil_append, List.append_assoc, List.append_eq] at hI ⊢
 try dsimp only at hI ⊢
 obtain ⟨hk, hle0⟩ := hI
 by_cases hlt : k < n
 ·obtain ⟨b, off, C, T, fr, e1, hb, hfit, hcc⟩ := (h.mono hle0).get (show k < bs.length by omega)
  have hx := (hw _ (List.getElem_mem (show k < bs.length by omega))).mono hle0
  generalize bs[k]'(by omega) = x at *
  obtain ⟨⟨xa, xn, xc⟩, xl⟩ := x
  obtain ⟨hxs, hxc, hxb⟩ := hx
  dsimp only at hxs hxc hxb hcc
  have hxl := hxs.len
  have hcell : C[off + k * 1]? = some (.slice xa xn xc) := by
   have := congrArg (fun l => l[0]?) hcc
   simp only [List.getElem?_take, List.getElem?_drop] at this
   simpa using this
  rw [e1]
  by_cases h10 : k = 10
  ·repeat' (first | (refine ZG ?_; refine Zn (Ze rfl) rfl rfl ?_) | (refine Zj ?_; first | (refine Zg ?_; refine qQ ?_) | refine Zl ?_ | refine qAn ?_ | refine qXo ?_ | refine qNt ?_) | refine Za ?_ | (refine Zi ?_; refine Zq ?_) | (refine Zh ?_; refine Zp ?_) | intro _)
   exact qE (L' := []) (hle := hle0) ⟨rfl, hle0, rfl⟩
  obtain ⟨m, hm⟩ : ∃ m, m = min xn 4000 := ⟨_, rfl⟩
  have hmt : (min (xn : Int) 4000).toNat = m := by omega
  have hD := hxs.take (hi' := m) (by omega)
  have hDl := hD.len
  generalize xl.take m = D at *
  have hm4 : m ≤ 4000 := by omega
  by_cases hm0 : m = 0
  ·subst hm0
   obtain rfl : D = [] := List.eq_nil_of_length_eq_zero hDl
   have hE : ∀ ρ3 a1, SIn ρ3 ZM a1 0 [] := fun ρ3 a1 => ⟨rfl, .inl rfl⟩
   repeat' (first | (simp only [hmt]; refine Yt (n := 0) (xs := []) (sp := []) (ys := []) (m := 0) (sz := 1) rfl rfl (OwnS.zero _ 1) (hR := by repeat (first | exact Ya | apply ZS)) (.inl rfl) rfl rfl (by decide) rfl (by omega) (by omega) rfl (fun v1 sp1 o1 => ?_); simp only [Nat.zero_add, List.nil_append] at o1 ⊢; obtain ⟨a1, c1, rfl, q1⟩ := o1.slice) | (refine Zc (.func 22) ?_; refine qC rfl rfl (rdecode_spec _ a1 0 c1 [] (hE _ a1) (Nat.zero_le _) (Nat.zero_le _)) ?_; rintro v ρ' L' hle ⟨hz1, v, r, rfl, hr, hrp, rfl⟩ <;> (try simp only [kM, kN, kO])) | (refine Zc (.func 23) ?_; refine qC rfl rfl (read12_spec _ a1 0 c1 [] (hE _ a1) (Nat.zero_le _) (Nat.zero_le _)) ?_; rintro v ρ' L' hle ⟨hz2, v2, r2, rfl, hr2, hrp2, rfl⟩ <;> (try simp only [kM, kN, kO])) | (refine ZG ?_; refine Zn (Ze rfl) rfl rfl ?_) | (refine Zj ?_; first | (refine Zg ?_; refine qQ ?_) | refine Zl ?_ | refine qAn ?_ | refine qXo ?_ | refine qNt ?_) | refine Za ?_ | (refine Zi ?_; refine Zq ?_) | (refine Zh ?_; refine Zp ?_) | intro _)
   rename_i z0 ρ2 _ b6 b8
   have hpe : r.plain = r2.plain := hrp.trans hrp2.symm
   have hr3 := hr.mono hz2
   have hS := sameT_spec hr3 hr2 hpe
   have hle3 := Hp.le_trans hle0 (Hp.le_trans hz1 hz2)
   clear hrp hrp2
   generalize Yq [] = dk at *
   cases dk
   all_goals simp only [Bool.false_eq_true, if_false, if_true]
   all_goals
    repeat' (first | (refine Zc (.func 24) ?_; refine qC rfl rfl (hS) ?_; rintro v ρ' L' hle ⟨rfl, rfl, rfl⟩ <;> (try simp only [kM, kN, kO])) | (refine ZG ?_; refine Zn (Ze rfl) rfl rfl ?_) | (refine Zj ?_; first | (refine Zg ?_; refine qQ ?_) | refine Zl ?_ | refine qAn ?_ | refine qXo ?_ | refine qNt ?_) | refine Za ?_ | (refine Zi ?_; refine Zq ?_) | (refine Zh ?_; refine Zp ?_) | intro _)
    refine Zy [(2, _), (3, _), (4, _), (5, _), (6, _), (7, _), (8, _), (9, _), (13, _), (14, _), (15, _), (16, _), (17, _), (18, _), (19, _), (20, _), (21, _), (22, _), (23, _), (24, _), (25, _), (26, _), (27, _), (28, _), (29, _), (30, _), (31, _), (32, _), (33, _), (34, _), (35, _), (36, _), (37, _), (38, _), (39, _), (40, _), (41, _), (42, _), (43, _), (44, _), (45, _), (46, _), (47, _), (48, _), (49, _), (50, _), (51, _), (52, _), (53, _), (54, _), (55, _), (56, _), (57, _), (58, _), (59, _)] (fun (ζ : (Nat)) => [(60, .int .i64 ζ)]) (fun (ζ : (Nat)) => ρ') (fun (ζ : (Nat)) => [[(b6, .cells ⟨Wv v r⟩ 30 (0, 0))], [(b8, .cells ⟨Wv v2 r2⟩ 30 (0, 0))]]) (fun (ζ : (Nat)) => ζ = 0) (fun (ζ : (Nat)) => 0 - ζ) (0) (rfl) Zk Zk rfl tk ?_
    rintro j hI
    try simp only [List.cons_append, List.nil_append, List.append_assoc, List.append_eq] at hI ⊢
    try dsimp only at hI ⊢
    subst hI
    repeat' (first | (refine Zc (.func 24) ?_; refine qC rfl rfl (hS) ?_; rintro v ρ' L' hle ⟨rfl, rfl, rfl⟩ <;> (try simp only [kM, kN, kO])) | (refine ZG ?_; refine Zn (Ze rfl) rfl rfl ?_) | (refine Zj ?_; first | (refine Zg ?_; refine qQ ?_) | refine Zl ?_ | refine qAn ?_ | refine qXo ?_ | refine qNt ?_) | refine Za ?_ | (refine Zi ?_; refine Zq ?_) | (refine Zh ?_; refine Zp ?_) | intro _)
    rw [← e1]
    refine Zo (k + 1, ρ') (⟨hlt, hle3⟩) Zk Zk rfl tk inferInstance (by first | omega | (dsimp only; omega))
  ·have hDn : D ≠ [] := fun e => by rw [e] at hDl; exact hm0 hDl.symm
   have hD1 := hD
   subst hDl
   repeat' (first | (simp only [hmt]; refine tl_app_b (n := 0) (ys := D) (m := D.length) rfl rfl hD.srcV rfl hDn (by omega) rfl (fun bb cap jj hcap => ?_); (try simp only [List.cons_append, List.nil_append])) | (refine Zc (.func 22) ?_; refine qC rfl rfl (decOwn_spec _ bb cap jj D hcap (by omega)) ?_; rintro v ρ' L' hle ⟨hz1, v, r, rfl, hr, hrp, rfl⟩ <;> (try simp only [kM, kN, kO])) | (refine Zc (.func 23) ?_; refine qC rfl rfl (readOwn_spec _ bb cap jj D hcap (by omega)) ?_; rintro v ρ' L' hle ⟨hz2, v2, r2, rfl, hr2, hrp2, rfl⟩ <;> (try simp only [kM, kN, kO])) | (refine ZG ?_; refine Zn (Ze rfl) rfl rfl ?_) | (refine Zj ?_; first | (refine Zg ?_; refine qQ ?_) | refine Zl ?_ | refine qAn ?_ | refine qXo ?_ | refine qNt ?_) | refine Za ?_ | (refine Zi ?_; refine Zq ?_) | (refine Zh ?_; refine Zp ?_) | intro _)
   rename_i z0 ρ2 _ b6 b8
   have hpe : r.plain = r2.plain := hrp.trans hrp2.symm
   have hr3 := hr.mono hz2
   have hS := sameT_spec hr3 hr2 hpe
   have hle3 := Hp.le_trans hle0 (Hp.le_trans hz1 hz2)
   clear hrp hrp2
   generalize Yq D = dk at *
   cases dk
   all_goals simp only [Bool.false_eq_true, if_false, if_true]
   all_goals
    repeat' (first | (refine Zc (.func 24) ?_; refine qC rfl rfl (hS) ?_; rintro v ρ' L' hle ⟨rfl, rfl, rfl⟩ <;> (try simp only [kM, kN, kO])) | (refine ZG ?_; refine Zn (Ze rfl) rfl rfl ?_) | (refine Zj ?_; first | (refine Zg ?_; refine qQ ?_) | refine Zl ?_ | refine qAn ?_ | refine qXo ?_ | refine qNt ?_) | refine Za ?_ | (refine Zi ?_; refine Zq ?_) | (refine Zh ?_; refine Zp ?_) | intro _)
    refine Zy [(2, _), (3, _), (4, _), (5, _), (6, _), (7, _), (8, _), (9, _), (13, _), (14, _), (15, _), (16, _), (17, _), (18, _), (19, _), (20, _), (21, _), (22, _), (23, _), (24, _), (25, _), (26, _), (27, _), (28, _), (29, _), (30, _), (31, _), (32, _), (33, _), (34, _), (35, _), (36, _), (37, _), (38, _), (39, _), (40, _), (41, _), (42, _), (43, _), (44, _), (45, _), (46, _), (47, _), (48, _), (49, _), (50, _), (51, _), (52, _), (53, _), (54, _), (55, _), (56, _), (57, _), (58, _), (59, _)] (fun (ζ : (Nat) × (List Int)) => [(60, .int .i64 ζ.1)]) (fun (ζ : (Nat) × (List Int)) => ρ') (fun (ζ : (Nat) × (List Int)) => [[(b6, .cells ⟨Wv v r⟩ 30 (0, 0))], [(b8, .cells ⟨Wv v2 r2⟩ 30 (0, 0))], [(bb, .cells ⟨ζ.2.map bV ++ ((D.drop ζ.1).map ZM ++ List.replicate jj (.int .u8 0))⟩ 5 (0, 0))]]) (fun (ζ : (Nat) × (List Int)) => ζ.1 ≤ D.length ∧ ζ.2.length = ζ.1) (fun (ζ : (Nat) × (List Int)) => D.length - ζ.1) ((0, [])) (⟨Nat.zero_le _, rfl⟩) Zk Zk rfl tk ?_
    rintro ⟨j, B⟩ hI
    try simp only [List.cons_append, List.nil_append, List.append_assoc, List.append_eq] at hI ⊢
    try dsimp only at hI ⊢
    obtain ⟨hj, hBl⟩ := hI
    by_cases hlt2 : j < D.length
    ·have hx := List.drop_eq_getElem_cons hlt2
     generalize D[j] = y at *
     have hyt := y.toNat_lt
     have hBl2 : (B.map bV).length = 0 + j * 1 := by rw [List.length_map, hBl]; omega
     have hce : B.map bV ++ ((D.drop j).map ZM ++ List.replicate jj (.int .u8 0)) = B.map bV ++ (.int .u8 (y.toNat : Int) :: ((D.drop (j + 1)).map ZM ++ List.replicate jj (.int .u8 0))) := by rw [hx]; rfl
     rw [hce]
     generalize List.replicate jj (Value.int .u8 0) = ZZ at *
     have hg1 : (B.map bV ++ (.int .u8 (y.toNat : Int) :: ((D.drop (j + 1)).map ZM ++ ZZ)))[0 + j * 1]? = some (.int .u8 (y.toNat : Int)) := q_get (d := 0) hBl2 rfl
     repeat' (first | (refine tl_store_q (o := 0 + j * 1) (d := 0) (P := B.map bV) rfl rfl hBl2 rfl ?_) | (refine ZG ?_; refine Zn (Ze rfl) rfl rfl ?_) | (refine Zj ?_; first | (refine Zg ?_; refine qQ ?_) | refine Zl ?_ | refine qAn ?_ | refine qXo ?_ | refine qNt ?_) | refine Za ?_ | (refine Zi ?_; refine Zq ?_) | (refine Zh ?_; refine Zp ?_) | intro _)
     have hre : B.map bV ++ (.int .u8 (xorI (y.toNat : Int) 238) :: ((D.drop (j + 1)).map ZM ++ ZZ)) = (B ++ [xorI (y.toNat : Int) 238]).map bV ++ ((D.drop (j + 1)).map ZM ++ ZZ) := by simp
     rw [hre]
     refine Zo (j + 1, B ++ [xorI (y.toNat : Int) 238]) (⟨hlt2, by rw [List.length_append, hBl]; rfl⟩) Zk Zk rfl tk inferInstance (by first | omega | (dsimp only; omega))
    ·repeat' (first | (refine Zc (.func 24) ?_; refine qC rfl rfl (hS) ?_; rintro v ρ' L' hle ⟨rfl, rfl, rfl⟩ <;> (try simp only [kM, kN, kO])) | (refine ZG ?_; refine Zn (Ze rfl) rfl rfl ?_) | (refine Zj ?_; first | (refine Zg ?_; refine qQ ?_) | refine Zl ?_ | refine qAn ?_ | refine qXo ?_ | refine qNt ?_) | refine Za ?_ | (refine Zi ?_; refine Zq ?_) | (refine Zh ?_; refine Zp ?_) | intro _)
     rw [← e1]
     refine Zo (k + 1, ρ') (⟨hlt, hle3⟩) Zk Zk rfl tk inferInstance (by first | omega | (dsimp only; omega))
 ·repeat' (first | (refine ZG ?_; refine Zn (Ze rfl) rfl rfl ?_) | (refine Zj ?_; first | (refine Zg ?_; refine qQ ?_) | refine Zl ?_ | refine qAn ?_ | refine qXo ?_ | refine qNt ?_) | refine Za ?_ | (refine Zi ?_; refine Zq ?_) | (refine Zh ?_; refine Zp ?_) | intro _)
  exact qE (L' := []) (hle := hle0) ⟨rfl, hle0, rfl⟩
end Go.Proofs.E
namespace Go.Proofs.E
open Go Go.RowKit
set_option linter.unusedVariables false
set_option linter.unusedSimpArgs false
set_option linter.unusedSectionVars false
set_option maxRecDepth 8000
section
variable {H : Type} {enc : TypeId × Value → H} {w : World}
theorem opnS_bys : OpnS enc Tryz.prog w 44 (fun cs (x : ByS) => cs = byV x ∧ ByW (hpOf w) x) := fun fuel cs x h hw => by
 obtain ⟨⟨a, n, c, l⟩, h1, w1⟩ := (opnS_slice (sz := 1) (by' := 1) Tryz.underlying44 (by kernel_rfl) (by decide) (by kernel_rfl) opn_u8.sized) fuel cs x h hw
 obtain ⟨g1, g3, g4⟩ := sIn_of h1
 replace h1 := h1.cells
 subst h1
 exact ⟨⟨⟨a, n, c⟩, l⟩, rfl, ⟨g1, g3, g4⟩⟩
end
end Go.Proofs.E
