/- The law FileOpens. Part 1 of 1. -/
import Derived.Test.YtncenainkaofmaaF6
import Derived.Test.YtncenainkaofmaaRows
namespace Go.Proofs.E
open Go
set_option linter.unusedVariables false
set_option linter.unusedSimpArgs false
set_option linter.unusedSectionVars false
set_option maxRecDepth 4000
set_option maxHeartbeats 1000000
attribute [local irreducible] Yl TL TC TE Spec YSpec R1 Hp.le EnvLe TS TR YS Stays
theorem run_equal_ptr_same {P : Program} {t e n : TypeId} (hP : TyPtr P t e) (hZ : TySz P e n) (s : Option Addr) (w : World) : (Op.equal t (.pointer s) (.pointer s)).run P w = .ok true w := by
  have hd : Op.maxDepth = 9999 + 1 := rfl
  rw [Op.equal, hd, Op.equalIn]
  simp only [Sem.run_bind, underlying, run_program, Result.andThen_ok, hP.out, Sem.run_pure]
  cases s with
  | none => rfl
  | some a =>
    obtain ⟨i, g1, g2⟩ := hZ.out
    by_cases h0 : n = 0 <;> simp [sizeOf, typeInfo, g1, g2, h0, sameAddr]
theorem y_ptr_same {x : Cx} {ty : Nat} {E : List (Nat × Value)} {ρ : Hp} {L : SH} {o : BinOp} {p q : Operand} {t t' e n : TypeId} {s : Option Addr} {b : Bool} [hP : TyPtr x.P t e] [hZ : TySz x.P e n] (h1 : ev E p = some (.pointer s)) (h2 : ev E q = some (.pointer s))
    (hb : eqB o true = some b) : Yl x (.binOp o t p q t') ty E ρ L (.bool b) :=
  y_eq h1 h2 rfl (fun w => run_equal_ptr_same hP hZ s w) hb
theorem new_bad (ρ : Hp) (n : Int) (h : n < 1 ∨ 2048 < n) : Spec Try.prog 23 [.int .i64 n] ρ [] (fun v ρ' L' => v = .tuple ⟨[.pointer none, .int .i64 2]⟩ ∧ ρ' = ρ ∧ L' = []) := by
  refine spec_enter Try.func23 rfl rfl rfl fun u R => ?_
  simp only [argsE, List.cons_append, List.nil_append]
  by_cases h1 : n < 1
  · repeat' (first | (refine i_op ?_; first | (refine i_qq ?_; refine qQ ?_) | refine qEf ?_) | refine tl_nil ?_ | (refine i_tc ?_; refine qTc ?_) | (refine i_te ?_; refine qTe ?_) | intro _)
    exact qE ⟨rfl, rfl, rfl⟩
  · repeat' (first | (refine i_op ?_; first | (refine i_qq ?_; refine qQ ?_) | refine qEf ?_) | refine tl_nil ?_ | (refine i_tc ?_; refine qTc ?_) | (refine i_te ?_; refine qTe ?_) | intro _)
    exact qE ⟨rfl, rfl, rfl⟩
theorem ops_disk (ρ : Hp) (b : Nat) (k : DK) (D : DS) : Spec Try.prog 34 [.pointer (some ⟨b, 0, none⟩)] ρ (diskK b k D) (fun v ρ' L' => v = .int .i64 D.ops ∧ ρ' = ρ ∧ L' = diskK b k D) := by
  refine ((ops_spec ρ b k.hb k.mb D.secs.length D.ops D.armed D.failing D.dead).frame [[(k.hb.b, .cells ⟨heldC D.secs ++ k.hb.sp⟩ 66 (0, 0))], [(k.mb, .map ⟨k.es⟩ k.ck)]]).mono ?_
  rintro v ρ' L' _ ⟨L1, rfl, rfl, rfl, rfl⟩
  exact ⟨rfl, rfl, rfl⟩
theorem wrap_ops {a : Int} (h0 : 0 ≤ a) (h1 : a < 1000000) : IntKind.i64.wrap (a + 1) = a + 1 := by
  simp [IntKind.wrap, IntKind.signed, IntKind.bits]
  omega
theorem lays_ops : ∀ (l : List (Nat × Blk)) (D : DS), D.Calm → (∀ p ∈ l, p.1 < D.secs.length) → 0 ≤ D.ops → D.ops + l.length < 900000 → (DS.lays l D).1.ops = D.ops + l.length + 1
  | [], D, h, _, h0, h1 => by
    simp only [List.length_nil] at h1
    rw [DS.lays, h.sync_eq]
    simp only [List.length_nil]
    rw [wrap_ops h0 (by omega)]; omega
  | p :: r, D, h, hl, h0, h1 => by
    simp only [List.length_cons] at h1
    have hp := hl p (by simp)
    unfold DS.lays
    rw [h.write_eq hp, if_pos rfl, wrap_ops h0 (by omega)]
    rw [lays_ops r _ ⟨rfl, rfl, rfl⟩ (fun q hq => by simp only [putC_length]; exact hl q (by simp [hq])) (by dsimp only; omega) (by dsimp only; omega)]
    simp only [List.length_cons]; omega
/-- what the inner loop keeps of the disk -/
structure EmptyD (D : DS) (n q : Nat) : Prop where
  calm : D.Calm
  em : emptyC D.secs
  len : D.secs.length = n
  ops0 : 0 ≤ D.ops
  ops1 : D.ops ≤ 257 * q
theorem EmptyD.new (n : Nat) : EmptyD (DS.new n) n 0 := ⟨new_calm, fresh_empty, by simp [DS.new, fresh], by simp [DS.new], by simp [DS.new]⟩
theorem EmptyD.mono {D : DS} {n q : Nat} (h : EmptyD D n q) : EmptyD D n (q + 1) := ⟨h.calm, h.em, h.len, h.ops0, by have := h.ops1; omega⟩
theorem EmptyD.format {D : DS} {n q base : Nat} (h : EmptyD D n q) (hok : D.Ok) (hq : q ≤ 4) (hb : base + 256 ≤ n) :
    (DS.lays (noughtsF base) D).2 = 0 ∧ EmptyD (DS.lays (noughtsF base) D).1 n (q + 1) ∧ (DS.lays (noughtsF base) D).1.ops = D.ops + 257 := by
  obtain ⟨hc, he, hl, h0, h1⟩ := h
  have hidx : ∀ p ∈ noughtsF base, p.1 < D.secs.length := fun p hp => by
    simp only [noughtsF, List.mem_map, List.mem_range] at hp
    obtain ⟨k, hk, rfl⟩ := hp
    dsimp only; omega
  obtain ⟨l0, l1, l2⟩ := Calm_lays (noughtsF base) D hc hidx
  have l3 := lays_ops (noughtsF base) D hc hidx h0 (by rw [noughtsF_len]; omega)
  rw [noughtsF_len] at l3
  refine ⟨l0, ⟨l1, by rw [l2]; exact emptyC_settled, by rw [lays_length]; exact hl, by rw [l3]; omega, by rw [l3]; omega⟩, by rw [l3]; omega⟩
theorem opens14_spec (ρ : Hp) (a : Option Addr) (n c : Nat) (l : List Int) (hl : SIn ρ (fun i => .int .i64 i) a n l) (hin : ∀ i ∈ l, -9223372036854775808 ≤ i ∧ i ≤ 9223372036854775807) (hbig : n ≤ 9223372036854775807)
    (a' : Option Addr) (n' c' : Nat) (l' : List Int) (hl' : SIn ρ (fun i => .int .i64 i) a' n' l') (hin' : ∀ i ∈ l', -9223372036854775808 ≤ i ∧ i ≤ 9223372036854775807) (hbig' : n' ≤ 9223372036854775807) :
    Spec Try.prog 6 [.slice a n c, .slice a' n' c'] ρ [] (fun v ρ' L' => v = .bool true ∧ ρ.le ρ' ∧ L' = []) := by
  have hlen := hl.len
  have hlen' := hl'.len
  have hn := fun ρ => nils14 ρ
  refine spec_enter Try.func6 rfl rfl rfl fun u R => ?_
  simp only [argsE, List.cons_append, List.nil_append]
  repeat' (first | (refine tl_is (.func 27) ?_; refine qC rfl rfl (wakes14_spec _) ?_; rintro v ρ' L' hle ⟨rfl, hl1, rfl⟩ <;> (try simp only [List.cons_append, List.nil_append, List.append_eq])) | (refine tl_is (.func 28) ?_; refine qC rfl rfl (Format_nil14 _ _) ?_; rintro v ρ' L' hle ⟨rfl, rfl, rfl⟩ <;> (try simp only [List.cons_append, List.nil_append, List.append_eq])) | (refine tl_is (.func 29) ?_; refine qC rfl rfl (Open_nil14 _ _) ?_; rintro v ρ' L' hle ⟨rfl, rfl, rfl⟩ <;> (try simp only [List.cons_append, List.nil_append, List.append_eq])) | (refine tl_is (.func 30) ?_; refine qC rfl rfl ((hn _).2.2.1 _) ?_; rintro v ρ' L' hle ⟨rfl, rfl, rfl⟩ <;> (try simp only [List.cons_append, List.nil_append, List.append_eq])) | (refine tl_is (.func 31) ?_; refine qC rfl rfl ((hn _).2.2.2 _ _ zCV 0) ?_; rintro v ρ' L' hle ⟨rfl, rfl, rfl⟩ <;> (try simp only [List.cons_append, List.nil_append, List.append_eq])) | (refine tl_is (.func 32) ?_; refine qC rfl rfl ((hn _).1) ?_; rintro v ρ' L' hle ⟨rfl, rfl, rfl⟩ <;> (try simp only [List.cons_append, List.nil_append, List.append_eq])) | (refine tl_is (.func 33) ?_; refine qC rfl rfl ((hn _).2.1) ?_; rintro v ρ' L' hle ⟨rfl, rfl, rfl⟩ <;> (try simp only [List.cons_append, List.nil_append, List.append_eq])) | (refine i_op ?_; first | (refine i_qq ?_; refine qQ ?_) | refine qEf ?_) | refine tl_nil ?_ | (refine i_tc ?_; refine qTc ?_) | (refine i_te ?_; refine qTe ?_) | intro _)
  rename_i be
  refine tc_loop_g [(1, _), (71, _), (72, _)] (fun (ζ : (Nat) × (Hp)) => [(73, .int .i64 ζ.1), (4, .bool false)]) (fun (ζ : (Nat) × (Hp)) => ζ.2) (fun (ζ : (Nat) × (Hp)) => []) (fun (ζ : (Nat) × (Hp)) => (ζ.1 ≤ n ∧ ζ.1 ≤ 4) ∧ ρ.le ζ.2) (fun (ζ : (Nat) × (Hp)) => n - ζ.1) ((0, _)) (⟨⟨Nat.zero_le _, Nat.zero_le _⟩, hl1⟩) ev_le ev_le rfl tk ?_
  rintro ⟨j, ρ2⟩ hI
  try simp only [List.cons_append, List.nil_append, List.append_assoc, List.append_eq] at hI ⊢
  try dsimp only at hI ⊢
  obtain ⟨⟨hj, hj4⟩, hl2⟩ := hI
  by_cases hlt : j < n
  · obtain ⟨b, off, C, T, fr, rfl, hb, hc⟩ := (hl.mono hl2).get (show j < l.length by omega)
    have hi := hin _ (List.getElem_mem (show j < l.length by omega))
    generalize l[j]'(by omega) = i at *
    by_cases hio : 1 ≤ i ∧ i ≤ 2048
    · obtain ⟨m, rfl⟩ : ∃ m : Nat, i = m := ⟨i.toNat, by omega⟩
      obtain ⟨hm1, hm2⟩ := hio
      by_cases h4 : j = 4
      · repeat' (first | (refine tl_is (.func 23) ?_; refine qC rfl rfl (knew _ m (by omega) (by omega)) ?_; rintro v ρ' L' hle ⟨rfl, db, k0, rfl, hk0, rfl⟩ <;> (try simp only [List.cons_append, List.nil_append, List.append_eq])) | (refine i_op ?_; first | (refine i_qq ?_; refine qQ ?_) | refine qEf ?_) | refine tl_nil ?_ | (refine i_tc ?_; refine qTc ?_) | (refine i_te ?_; refine qTe ?_) | intro _)
        exact qE (L' := []) ⟨rfl, hl2, rfl⟩
      · repeat' (first | (refine tl_is (.func 23) ?_; refine qC rfl rfl (knew _ m (by omega) (by omega)) ?_; rintro v ρ' L' hle ⟨rfl, db, k0, rfl, hk0, rfl⟩ <;> (try simp only [List.cons_append, List.nil_append, List.append_eq])) | (refine i_op ?_; first | (refine i_qq ?_; refine qQ ?_) | refine qEf ?_) | refine tl_nil ?_ | (refine i_tc ?_; refine qTc ?_) | (refine i_te ?_; refine qTe ?_) | intro _)
        refine tc_loop_g [(1, _), (13, _), (14, _), (15, _), (16, _), (71, _), (72, _), (73, _), (74, _), (75, _), (76, _), (77, _), (78, _), (79, _), (80, _), (81, _), (82, _), (83, _), (84, _), (85, _), (86, _), (87, _), (88, _), (89, _), (90, _)] (fun (ζ : (Nat) × (Hp) × (DK) × (DS)) => [(91, .int .i64 ζ.1), (4, .bool false)]) (fun (ζ : (Nat) × (Hp) × (DK) × (DS)) => ζ.2.1) (fun (ζ : (Nat) × (Hp) × (DK) × (DS)) => diskK db ζ.2.2.1 ζ.2.2.2) (fun (ζ : (Nat) × (Hp) × (DK) × (DS)) => (ζ.1 ≤ n' ∧ ζ.1 ≤ 4) ∧ ρ.le ζ.2.1 ∧ DOk ζ.2.2.1 ζ.2.2.2 ∧ EmptyD ζ.2.2.2 m ζ.1) (fun (ζ : (Nat) × (Hp) × (DK) × (DS)) => n' - ζ.1) ((0, _, k0, DS.new m)) (⟨⟨Nat.zero_le _, Nat.zero_le _⟩, hl2, hk0, EmptyD.new m⟩) ev_le ev_le rfl tk ?_
        rintro ⟨q, ρ3, k, D⟩ hI
        try simp only [List.cons_append, List.nil_append, List.append_assoc, List.append_eq] at hI ⊢
        try dsimp only at hI ⊢
        obtain ⟨⟨hq, hq4⟩, hl3, hk, hE⟩ := hI
        have hO := fun ρ => ops_disk ρ db k D
        have hDl := hE.len
        have hp0 := hE.ops0
        have hp1 := hE.ops1
        by_cases hlt' : q < n'
        · obtain ⟨b', off', C', T', fr', rfl, hb', hc'⟩ := (hl'.mono hl3).get (show q < l'.length by omega)
          have hi' := hin' _ (List.getElem_mem (show q < l'.length by omega))
          generalize l'[q]'(by omega) = x at *
          by_cases hq5 : q = 4
          · repeat' (first | (refine i_op ?_; first | (refine i_qq ?_; refine qQ ?_) | refine qEf ?_) | refine tl_nil ?_ | (refine i_tc ?_; refine qTc ?_) | (refine i_te ?_; refine qTe ?_) | intro _)
            refine te_round_g (j + 1, _) (⟨⟨hlt, by omega⟩, hl3⟩) ev_le ev_le rfl tk inferInstance (by first | omega | (dsimp only; omega))
          · by_cases hx0 : 0 ≤ x
            · obtain ⟨p, rfl⟩ : ∃ p : Nat, x = p := ⟨x.toNat, by omega⟩
              by_cases hx1 : p + 256 ≤ m
              · have hx1' : (p : Int) ≤ (m : Int) - 256 := by omega
                obtain ⟨f0, f1, f2⟩ := hE.format hk.ok hq4 hx1
                have hO2 := fun ρ k => ops_disk ρ db k (DS.lays (noughtsF p) D).1
                repeat' (first | (refine tl_is (.func 29) ?_; refine qC rfl rfl (Open_spec _ db k D hk p (by omega)) ?_; rintro v1 ρ4 L1 hle1 ⟨hl4, fb, rfl, hF, rfl⟩; try simp only [List.cons_append, List.nil_append, List.append_assoc, List.append_eq]) | (refine tl_is (.func 34) ?_; refine qC rfl rfl (hO _) ?_; rintro v ρ' L' hle ⟨rfl, rfl, rfl⟩ <;> (try simp only [List.cons_append, List.nil_append, List.append_eq])) | (refine tl_is (.func 28) ?_; refine qC rfl rfl (Format_spec _ db k D hk p (by omega) f0) ?_; rintro v2 ρ5 L2 hle2 ⟨hl5, fb2, k2, rfl, hF2, hk2, rfl⟩; have hF1 := hF.mono hl5; try simp only [List.cons_append, List.nil_append, List.append_assoc, List.append_eq]) | (refine i_op ?_; first | (refine i_qq ?_; refine qQ ?_) | refine qEf ?_) | refine tl_nil ?_ | (refine i_tc ?_; refine qTc ?_) | (refine i_te ?_; refine qTe ?_) | intro _)
                repeat' (first | (refine tl_is (.func 32) ?_; refine qC rfl rfl (base_spec _ _ _ _ hF1) ?_; rintro v ρ' L' hle ⟨rfl, rfl, rfl⟩ <;> (try simp only [List.cons_append, List.nil_append, List.append_eq])) | (refine tl_is (.func 32) ?_; refine qC rfl rfl (base_spec _ _ _ _ hF2) ?_; rintro v ρ' L' hle ⟨rfl, rfl, rfl⟩ <;> (try simp only [List.cons_append, List.nil_append, List.append_eq])) | (refine tl_is (.func 33) ?_; refine qC rfl rfl (diskf_spec _ _ _ _ hF1) ?_; rintro v ρ' L' hle ⟨rfl, rfl, rfl⟩ <;> (try simp only [List.cons_append, List.nil_append, List.append_eq])) | (refine tl_is (.func 33) ?_; refine qC rfl rfl (diskf_spec _ _ _ _ hF2) ?_; rintro v ρ' L' hle ⟨rfl, rfl, rfl⟩ <;> (try simp only [List.cons_append, List.nil_append, List.append_eq])) | (refine tl_is (.func 34) ?_; refine qC rfl rfl (hO2 _ _) ?_; rintro v ρ' L' hle ⟨rfl, rfl, rfl⟩ <;> (try simp only [List.cons_append, List.nil_append, List.append_eq])) | (refine tl_y (y_ptr_same rfl rfl rfl) rfl rfl ?_) | (refine i_op ?_; first | (refine i_qq ?_; refine qQ ?_) | refine qEf ?_) | refine tl_nil ?_ | (refine i_tc ?_; refine qTc ?_) | (refine i_te ?_; refine qTe ?_) | intro _)
                refine te_round_g (q + 1, _, k2, (DS.lays (noughtsF p) D).1) (⟨⟨hlt', by omega⟩, Hp.le_trans hl3 (Hp.le_trans hl4 hl5), hk2, f1⟩) ev_le ev_le rfl tk inferInstance (by first | omega | (dsimp only; omega))
              · have hno : ¬ OpenOk D p := fun h => hx1 (by have := h.2; omega)
                have hx1' : ¬ (p : Int) ≤ (m : Int) - 256 := by omega
                repeat' (first | (refine tl_is (.func 29) ?_; refine qC rfl rfl (Open_no _ db k D hk p hi' hno) ?_; rintro v ρ' L' hle ⟨rfl, rfl, rfl⟩ <;> (try simp only [List.cons_append, List.nil_append, List.append_eq])) | (refine tl_is (.func 28) ?_; refine qC rfl rfl (Format_no _ db k D hk p hi' hno) ?_; rintro v ρ' L' hle ⟨rfl, rfl, rfl⟩ <;> (try simp only [List.cons_append, List.nil_append, List.append_eq])) | (refine tl_is (.func 34) ?_; refine qC rfl rfl (hO _) ?_; rintro v ρ' L' hle ⟨rfl, rfl, rfl⟩ <;> (try simp only [List.cons_append, List.nil_append, List.append_eq])) | (refine i_op ?_; first | (refine i_qq ?_; refine qQ ?_) | refine qEf ?_) | refine tl_nil ?_ | (refine i_tc ?_; refine qTc ?_) | (refine i_te ?_; refine qTe ?_) | intro _)
                refine te_round_g (q + 1, _, k, D) (⟨⟨hlt', by omega⟩, hl3, hk, hE.mono⟩) ev_le ev_le rfl tk inferInstance (by first | omega | (dsimp only; omega))
            · have hno : ¬ OpenOk D x := fun h => hx0 h.1
              repeat' (first | (refine tl_is (.func 29) ?_; refine qC rfl rfl (Open_no _ db k D hk x hi' hno) ?_; rintro v ρ' L' hle ⟨rfl, rfl, rfl⟩ <;> (try simp only [List.cons_append, List.nil_append, List.append_eq])) | (refine tl_is (.func 28) ?_; refine qC rfl rfl (Format_no _ db k D hk x hi' hno) ?_; rintro v ρ' L' hle ⟨rfl, rfl, rfl⟩ <;> (try simp only [List.cons_append, List.nil_append, List.append_eq])) | (refine tl_is (.func 34) ?_; refine qC rfl rfl (hO _) ?_; rintro v ρ' L' hle ⟨rfl, rfl, rfl⟩ <;> (try simp only [List.cons_append, List.nil_append, List.append_eq])) | (refine i_op ?_; first | (refine i_qq ?_; refine qQ ?_) | refine qEf ?_) | refine tl_nil ?_ | (refine i_tc ?_; refine qTc ?_) | (refine i_te ?_; refine qTe ?_) | intro _)
              refine te_round_g (q + 1, _, k, D) (⟨⟨hlt', by omega⟩, hl3, hk, hE.mono⟩) ev_le ev_le rfl tk inferInstance (by first | omega | (dsimp only; omega))
        · repeat' (first | (refine i_op ?_; first | (refine i_qq ?_; refine qQ ?_) | refine qEf ?_) | refine tl_nil ?_ | (refine i_tc ?_; refine qTc ?_) | (refine i_te ?_; refine qTe ?_) | intro _)
          refine te_round_g (j + 1, _) (⟨⟨hlt, by omega⟩, hl3⟩) ev_le ev_le rfl tk inferInstance (by first | omega | (dsimp only; omega))
    · have hbad : i < 1 ∨ 2048 < i := by omega
      by_cases h4 : j = 4
      · repeat' (first | (refine tl_is (.func 23) ?_; refine qC rfl rfl (new_bad _ i hbad) ?_; rintro v ρ' L' hle ⟨rfl, rfl, rfl⟩ <;> (try simp only [List.cons_append, List.nil_append, List.append_eq])) | (refine i_op ?_; first | (refine i_qq ?_; refine qQ ?_) | refine qEf ?_) | refine tl_nil ?_ | (refine i_tc ?_; refine qTc ?_) | (refine i_te ?_; refine qTe ?_) | intro _)
        exact qE (L' := []) ⟨rfl, hl2, rfl⟩
      · repeat' (first | (refine tl_is (.func 23) ?_; refine qC rfl rfl (new_bad _ i hbad) ?_; rintro v ρ' L' hle ⟨rfl, rfl, rfl⟩ <;> (try simp only [List.cons_append, List.nil_append, List.append_eq])) | (refine i_op ?_; first | (refine i_qq ?_; refine qQ ?_) | refine qEf ?_) | refine tl_nil ?_ | (refine i_tc ?_; refine qTc ?_) | (refine i_te ?_; refine qTe ?_) | intro _)
        exact qE (L' := []) ⟨rfl, hl2, rfl⟩
  · repeat' (first | (refine i_op ?_; first | (refine i_qq ?_; refine qQ ?_) | refine qEf ?_) | refine tl_nil ?_ | (refine i_tc ?_; refine qTc ?_) | (refine i_te ?_; refine qTe ?_) | intro _)
    exact qE (L' := []) ⟨rfl, hl2, rfl⟩
end Go.Proofs.E

namespace Go.Proofs.E
open Go Go.RowKit
set_option linter.unusedVariables false
set_option linter.unusedSimpArgs false
set_option linter.unusedSectionVars false
set_option maxRecDepth 8000
section
variable {H : Type} {enc : TypeId × Value → H} {w : World}
theorem opn_intK14 : Opn enc Try.prog w 3 (fun cs (i : Int) => cs = [(fun i => Value.int .i64 i) i] ∧ (-9223372036854775808 ≤ i ∧ i ≤ 9223372036854775807)) := (opn_int Try.underlying3).mono (fun cs b h => ⟨b, h.1, h.2⟩)
end
end Go.Proofs.E

namespace Go.Proofs.Ytncenainkaofmaa.FileOpensLaw
open Go Go.ChangeShapes Go.WideShapes Go.ChangeAt Go.RowKit Go.Proofs.E
set_option linter.unusedVariables false

theorem own : ownKnob Try.prog.godebug = none := by kernel_rfl
theorem laidOut : laidOutB Try.prog = true := by kernel_rfl

set_option maxRecDepth 100000 in
theorem lifted (os : Os) (started : os.Started) (H : Type) (enc : TypeId × Value → H) :
    ReturnsInHanded {} Try.checked os 6 .any (Rows.fileOpensSpec.pre6 enc Try.prog Try.f6 Rows.fileOpensRow.domain false) (Rows.fileOpensSpec.post enc Try.prog Try.f6 false true false false) := by
  refine returnsInHanded_of_change_sized (C := Try.checked) own started (by kernel_rfl) Try.func6
    (ChangeSpec.witness6 (enc := enc) (C := Try.checked) false ⟨#[], #[.slice none 0 0, .slice none 0 0], []⟩ 8 (by kernel_rfl) (by kernel_rfl) (by kernel_rfl) (by kernel_rfl)) ?_
  intro W base args ds gs before hval0 hW hcnd hsz0 _
  have hval : ∀ (j : Nat) t v, Try.f6.params[j]? = some t → args[j]? = some v → Value.okWide Try.prog W .any base t v := hval0
  have hW' := hW
  obtain ⟨p, q, hA0, hV, rfl, hfz, hnd⟩ := hW
  have hA : DataW.TrodAll enc Try.prog W 0 (fun _ => true) true Try.f6.params.toList args.toList ds p := hA0
  have hsz : (DataW.weightsEach Try.prog (Try.f6.params.toList ++ Rows.fileOpensSpec.plain.varTypes Try.prog) (ds ++ gs)).all (· ≤ reachBytes) = true := hsz0
  rw [Try.params6] at hA hval hsz
  obtain ⟨v0, vs0, d0, ds0, p0, q0, hargs, rfl, rfl, h0, r0⟩ := trodAll_cons hA
  obtain ⟨v1, vs1, d1, ds1, p1, q1, rfl, rfl, rfl, h1, r1⟩ := trodAll_cons r0
  obtain ⟨rfl, rfl, rfl⟩ := trodAll_nil r1
  obtain rfl : args = #[v0, v1] := by cases args; simp_all
  obtain ⟨rfl, rfl⟩ := trodVars_none hV
  have k0 := h0
  have k1 := h1
  have lt0 : ∀ x ∈ p0, x.block < W.heap.size := by obtain ⟨m, hm⟩ := k0; exact DataW.trod_lt m _ _ _ hm
  have lt1 : ∀ x ∈ p1, x.block < W.heap.size := by obtain ⟨m, hm⟩ := k1; exact DataW.trod_lt m _ _ _ hm
  obtain ⟨a0, n0, c0, rfl⟩ := okWide_slice Try.underlying57 (hval 0 57 v0 rfl rfl)
  have b0 := top_slice hsz (j := 0) rfl rfl Try.underlying57 k0 rfl
  have bb0 : Try.prog.bytesOf 3 = 8 := by kernel_rfl
  rw [bb0] at b0
  simp only [reachBytes] at b0
  obtain ⟨s0, e0⟩ := (opn_slice (sz := 1) Try.underlying57 (by kernel_rfl) (by decide) opn_intK14) _ _ _ h0.choose_spec
  obtain ⟨⟨y0, m0, z0, x0⟩, ec0⟩ : ∃ s, s = s0 := ⟨s0, rfl⟩
  subst ec0
  have ec0 := e0.cells
  simp only [Value.cells, List.cons.injEq, Value.slice.injEq, and_true] at ec0
  obtain ⟨rfl, rfl, rfl⟩ := ec0
  obtain ⟨a1, n1, c1, rfl⟩ := okWide_slice Try.underlying57 (hval 1 57 v1 rfl rfl)
  have b1 := top_slice hsz (j := 1) rfl rfl Try.underlying57 k1 rfl
  have bb1 : Try.prog.bytesOf 3 = 8 := by kernel_rfl
  rw [bb1] at b1
  simp only [reachBytes] at b1
  obtain ⟨s1, e1⟩ := (opn_slice (sz := 1) Try.underlying57 (by kernel_rfl) (by decide) opn_intK14) _ _ _ h1.choose_spec
  obtain ⟨⟨y1, m1, z1, x1⟩, ec1⟩ : ∃ s, s = s1 := ⟨s1, rfl⟩
  subst ec1
  have ec1 := e1.cells
  simp only [Value.cells, List.cons.injEq, Value.slice.injEq, and_true] at ec1
  obtain ⟨rfl, rfl, rfl⟩ := ec1
  clear hA0 hval0
  obtain ⟨hA0, hP0, hc0, hb0⟩ := aIn_ofK (g := fun i : Int => [(fun i => Value.int .i64 i) i]) (P := fun i => -9223372036854775808 ≤ i ∧ i ≤ 9223372036854775807) (fun x => rfl) e0
  obtain ⟨hA1, hP1, hc1, hb1⟩ := aIn_ofK (g := fun i : Int => [(fun i => Value.int .i64 i) i]) (P := fun i => -9223372036854775808 ≤ i ∧ i ≤ 9223372036854775807) (fun x => rfl) e1
  refine (Spec.law (opens14_spec (hpOf W) a0 n0 c0 x0 (sIn_of1 hA0) hP0 hb0 a1 n1 c1 x1 (sIn_of1 hA1) hP1 hb1)).mono fun e W' ⟨he, bel⟩ => ?_
  subst he
  exact ⟨_, rfl, _, _, _, [], _, [], hW', trodAll_mk1 (shut_bool Try.underlying4 _), (trodAll_cons_mk (Below.trod laidOut (by kernel_rfl) (of_decide_eq_true (by kernel_rfl)) k0 bel lt0) (trodAll_cons_mk (Below.trod laidOut (by kernel_rfl) (of_decide_eq_true (by kernel_rfl)) k1 bel lt1) trodAll_mk0)), rfl, bel.frame _, fun h => by cases h⟩

theorem over : Rows.fileOpensRow.holds Try.pinned (OpenSpec.ofChange Rows.fileOpensSpec) :=
  OpenClaim.holds_of_wide 6 Try.f6 rfl rfl rfl rfl rfl rfl rfl ⟨rfl, rfl, rfl, rfl, rfl⟩ rfl rfl rfl rfl rfl (by kernel_rfl) Try.func6 (by kernel_rfl)
    (of_decide_eq_true (by kernel_rfl)) (by unfold Func.isWrapper; first | (rw [if_pos (by decide +kernel)]; kernel_rfl) | (rw [if_neg (by decide +kernel)]; exact ⟨rfl, rfl⟩))
    (fun os started H enc _ => lifted os started H enc)

theorem proved : Rows.FileOpensSaid := over
end Go.Proofs.Ytncenainkaofmaa.FileOpensLaw

