/- Laws of analysis. Part 32 of 37. -/
import Derived.Test.YtkbiahafeoillaaGreatB31
namespace Go.Proofs.E
open Go
set_option linter.unusedVariables false
set_option linter.unusedSimpArgs false
set_option linter.unusedSectionVars false
set_option maxRecDepth 4000
set_option maxHeartbeats 1000000
attribute [local irreducible] Yl TL TC TE Spec YY R1 Hp.le EnvLe TS TR YS Zq
theorem AIn.dropQ {ρ : Hp} {α : Type} {sz : Nat} {g : α → List Value} {a : Option Addr} {n : Nat} {l : List α} (h : AIn ρ sz g a n l) {lo : Nat} (h1 : lo ≤ n) {cap : Nat} (hc : n ≤ cap) : AIn ρ sz g (if cap = lo then a else a.map (·.add (lo * sz))) (n - lo) (l.drop lo) := by
 have hn := h.len
 refine ⟨by simp; omega, ?_, fun x hx => h.sz x (List.mem_of_mem_drop hx)⟩
 by_cases h0 : n - lo = 0
 ·exact .inl h0
 ·right
  obtain ⟨b, off, C, T, fr, rfl, e2, e4, e3⟩ := h.out.resolve_left (by omega)
  rw [if_neg (by omega)]
  have hm : n * sz = lo * sz + (n - lo) * sz := by rw [← Nat.add_mul]; congr 1; omega
  refine ⟨b, off + lo * sz, C, T, fr, by simp [Yo], e2, by omega, ?_⟩
  have hsplit : (l.map g).flatten = ((l.take lo).map g).flatten ++ ((l.drop lo).map g).flatten := by
   rw [← List.flatten_append, ← List.map_append, List.take_append_drop]
  have hlen : ((l.take lo).map g).flatten.length = lo * sz := by
   rw [flat_len g sz _ (fun x hx => h.sz x (List.mem_of_mem_take hx)), List.length_take, Nat.min_eq_left (by omega)]
  have h5 : ((l.map g).flatten).drop (lo * sz) = ((l.drop lo).map g).flatten := by
   rw [hsplit, List.drop_left' hlen]
  rw [← h5, ← e3, List.drop_take, List.drop_drop, hm, Nat.add_sub_cancel_left]
theorem ck_cut {l : List Rc} {p : Xm} {d : List Yp} {m : Nat} (h : StoG l p d m) {k : Nat} (hk : k < l.length) (hm : m = k + 1) : isE l[k] = 0 ∧ (1 ≤ cutN l[k] ∧ cutN l[k] ≤ m) ∧ ∀ t ∈ l[k].txns, cutN l[k] ≤ t.first := by
 obtain ⟨h1, h2, h3⟩ := h.log k hk
 obtain ⟨c1, c2, c3⟩ := h.ck k hk hm
 have hR := h.log.ros (Nat.le_of_lt hk)
 have i0 : isE l[k] = 0 := by unfold isE; rw [h1, if_pos rfl, if_pos c1]
 have hc : cutN l[k] = leastN l[k].lsn (Xf l[k]) := by unfold cutN; rw [i0, if_pos rfl]
 obtain ⟨g1, g2⟩ := leastN_le (n := l[k].lsn) (l := Xf l[k])
 have hge : ∀ x ∈ Xf l[k], 1 ≤ x := fun x hx => by
  unfold Xf at hx
  rcases List.mem_append.1 hx with hx | hx
  ·rw [c3] at hx
   obtain ⟨t, ht, rfl⟩ := List.mem_map.1 hx
   obtain ⟨u, hu, rfl⟩ := List.mem_map.1 ht
   exact (hR.g.tx u hu).2.2.f1
  ·obtain ⟨q, hq, rfl⟩ := List.mem_map.1 hx
   have := (Xh h1).di q hq
   unfold ckPOk at this
   rw [Bool.and_eq_true, decide_eq_true_eq] at this
   exact this.2.1
 have hmin : ∀ (ns : List Nat) (n : Nat), 1 ≤ n → (∀ x ∈ ns, 1 ≤ x) → 1 ≤ leastN n ns := by
  intro ns
  unfold leastN
  induction ns with
  | nil => intro n h0 _; exact h0
  | cons a r ih =>
   intro n h0 hx
   rw [List.foldl_cons]
   exact ih _ (by have := hx a (by simp); omega) (fun x hx' => hx x (by simp [hx']))
 rw [hc]
 exact ⟨i0, ⟨hmin _ _ (by omega) hge, by omega⟩, fun t ht => g2 _ (List.mem_append_left _ (List.mem_map.2 ⟨t, ht, rfl⟩))⟩
structure MapQ (es : List MapEntry) (l : List Yp) : Prop where
 keys : YU .i64 es
 get : ∀ p, Xe es p = (XG p l).map (fun x => Value.int .u64 (x.since : Nat))
theorem MapQ.nil : MapQ [] [] := ⟨by intro e he; simp at he, fun p => rfl⟩
theorem MapQ.upd {es es' : List MapEntry} {d : List Yp} (hd : YE d = true) {i : Nat} (hi : i < d.length) (h : MapQ es (d.take i)) (h1 : YU .i64 es') (h2 : ∀ j, Xe es' j = if j = d[i].page then some (.int .u64 (d[i].since : Nat)) else Xe es j) : MapQ es' (d.take (i + 1)) := ⟨h1, fun p => by
 rw [h2 p, List.take_succ_eq_append_getElem hi]
 unfold XG
 rw [List.find?_append]
 by_cases e : p = d[i].page
 ·subst e
  have : (d.take i).find? (fun q => decide (q.page = d[i].page)) = none := by
   rw [List.find?_eq_none]
   intro x hx c
   obtain ⟨j, hj, rfl⟩ := List.mem_take_iff_getElem.1 hx
   have := (tblB_lt hd).2 j i hi (by omega)
   simp only [decide_eq_true_eq] at c
   omega
  rw [this]
  simp
 ·rw [if_neg e, h.get p]
  unfold XG
  have : ([d[i]]).find? (fun q => decide (q.page = p)) = none := by
   rw [List.find?_eq_none]
   intro x hx c
   rw [List.mem_singleton.1 hx] at c
   exact e (of_decide_eq_true c).symm
  rw [this, Option.or_none]⟩
theorem findsLaw_spec (ρ : Hp) (a : Option Addr) (n c : Nat) (l : List FdD) (hA : AIn ρ 13 fdV a n l) (hP : ∀ x ∈ l, RcW ρ x.rv x.rc) (hn : n ≤ 9223372036854775807) (fr : Int) :
  Spec Tryz.prog 8 [.slice a n c, .int .i64 fr] ρ [] (fun z ρ' L' => z = .bool true ∧ ρ.le ρ' ∧ L' = []) := by
 have hl := hA.len
 refine Zg Tryz.func8 rfl rfl rfl fun u R => ?_
 simp only [Zx, List.cons_append, List.nil_append]
 by_cases h150 : 150 < n
 ·repeat' (first | (refine Ze (.func 21) ?_; refine qC rfl rfl (Xv _) ?_; rintro v ρ' L' hle ⟨rfl, hz1, rfl⟩ <;> (try simp only [kM, kN, kO])) | (refine Zz ?_; refine Zk (Zc rfl) rfl rfl ?_) | (refine Zh ?_; first | (refine Zf ?_; refine qQ ?_) | refine Zm ?_) | refine Zb ?_ | (refine Zi ?_; refine Zr ?_) | (refine Zj ?_; refine Zs ?_) | intro _)
  exact qE (L' := []) ⟨rfl, hz1, rfl⟩
 repeat' (first | (refine Ze (.func 21) ?_; refine qC rfl rfl (Xv _) ?_; rintro v ρ' L' hle ⟨rfl, hz1, rfl⟩ <;> (try simp only [kM, kN, kO])) | (refine Ze (.func 10) ?_; refine qC rfl rfl (rnew_spec _) ?_; rintro v ρ' L' hle ⟨rfl, rfl, rfl⟩ <;> (try simp only [kM, kN, kO])) | (refine Zz ?_; refine Zk (Zc rfl) rfl rfl ?_) | (refine Zh ?_; first | (refine Zf ?_; refine qQ ?_) | refine Zm ?_) | refine Zb ?_ | (refine Zi ?_; refine Zr ?_) | (refine Zj ?_; refine Zs ?_) | intro _)
 rename_i b5
 refine ZC [(1, _), (5, _), (32, _), (33, _)] (fun (ζ : (Nat) × (Hp) × (Value) × (List Value) × (List (RV × Rc)) × (SV) × (Ros) × (SV) × (List Yp) × (Nat)) => [(34, .int .i64 ζ.1), (4, .bool false)]) (fun (ζ : (Nat) × (Hp) × (Value) × (List Value) × (List (RV × Rc)) × (SV) × (Ros) × (SV) × (List Yp) × (Nat)) => ζ.2.1) (fun (ζ : (Nat) × (Hp) × (Value) × (List Value) × (List (RV × Rc)) × (SV) × (Ros) × (SV) × (List Yp) × (Nat)) => [ZN ζ.2.2.1 (lvF ζ.2.2.2.2.1) ζ.2.2.2.1 34, stoC b5 ζ.2.2.1 ζ.2.2.2.2.2.1 ζ.2.2.2.2.2.2.1 ζ.2.2.2.2.2.2.2.1 ζ.2.2.2.2.2.2.2.2.2]) (fun (ζ : (Nat) × (Hp) × (Value) × (List Value) × (List (RV × Rc)) × (SV) × (Ros) × (SV) × (List Yp) × (Nat)) => ζ.1 ≤ n ∧ ρ'.le ζ.2.1 ∧ StoS ζ.2.1 ζ.2.2.1 ζ.2.2.2.1 ζ.2.2.2.2.1 ζ.2.2.2.2.2.1 ζ.2.2.2.2.2.2.1 ζ.2.2.2.2.2.2.2.1 ζ.2.2.2.2.2.2.2.2.1 ζ.2.2.2.2.2.2.2.2.2 ∧ ζ.2.2.2.2.1.length ≤ ζ.1) (fun (ζ : (Nat) × (Hp) × (Value) × (List Value) × (List (RV × Rc)) × (SV) × (Ros) × (SV) × (List Yp) × (Nat)) => n - ζ.1) ((0, ρ', .slice none 0 0, [], [], Yz, ⟨1, []⟩, Yz, [], 0)) (⟨Nat.zero_le _, Hp.le_refl _, ⟨OwnS.nil 10, rnew_in _, AS.nil, by simp, StoG.new⟩, Nat.zero_le _⟩) Zl Zl rfl tk ?_
 rintro ⟨k, ρ1, vv, sp, lv, rv, ro, dv, d, m⟩ hI
 try simp only [List.cons_append, List.nil_append, List.append_assoc, List.append_eq] at hI ⊢
 try dsimp only at hI ⊢
 obtain ⟨hk, hle1, hS, hlk⟩ := hI
 have hz2 := Hp.le_trans hz1 hle1
 by_cases hlt : k < n
 ·obtain ⟨b, off, C, T, fr, e1, hb, hfit, hcc⟩ := (hA.mono hz2).get (show k < l.length by omega)
  have hx := (hP _ (List.getElem_mem (show k < l.length by omega))).mono hz2
  generalize l[k]'(by omega) = o at *
  have hOR := overRec_spec ρ1 o.rv o.rc hx
  rw [e1]
  cases hoR : overRB o.rv o.rc
  case' true =>
   rw [hoR] at hOR
   repeat' (first | (refine Ze (.func 28) ?_; refine qC rfl rfl (hOR) ?_; rintro v ρ' L' hle ⟨rfl, rfl, rfl⟩ <;> (try simp only [kM, kN, kO])) | (refine Zz ?_; refine Zk (Zc rfl) rfl rfl ?_) | (refine Zh ?_; first | (refine Zf ?_; refine qQ ?_) | refine Zm ?_) | refine Zb ?_ | (refine Zi ?_; refine Zr ?_) | (refine Zj ?_; refine Zs ?_) | intro _)
   exact qE (L' := []) (hle := hz2) ⟨rfl, hz2, rfl⟩
  rw [hoR] at hOR
  obtain ⟨hin, hi30⟩ := hx.ofOver hoR
  have hD := does_spec ρ1 b5 hS (by omega) o hin hi30
  unfold DoesPost at hD
  repeat' (first | (refine Ze (.func 28) ?_; refine qC rfl rfl (hOR) ?_; rintro v ρ' L' hle ⟨rfl, rfl, rfl⟩ <;> (try simp only [kM, kN, kO])) | (refine Ze (.func 37) ?_; refine qC rfl rfl (hD) ?_; rintro v ρ' L' hle ⟨hz3, vv', sp', lv', rv', ro', dv', d', m', hS', hlk', rfl⟩ <;> (try simp only [kM, kN, kO])) | (refine Zz ?_; refine Zk (Zc rfl) rfl rfl ?_) | (refine Zh ?_; first | (refine Zf ?_; refine qQ ?_) | refine Zm ?_) | refine Zb ?_ | (refine Zi ?_; refine Zr ?_) | (refine Zj ?_; refine Zs ?_) | intro _)
  rw [← e1]
  refine Zp (k + 1, ρ', vv', sp', lv', rv', ro', dv', d', m') (⟨hlt, Hp.le_trans hle1 hz3, hS', by dsimp only; omega⟩) Zl Zl rfl tk inferInstance (by first | omega | (dsimp only; omega))
 have hown := hS.own
 obtain ⟨va, vc, rfl, hvc⟩ := hown.slice
 refine tc_freeze (ZN (.slice va lv.length vc) (lvF lv) sp 34) (h := Rem.here) (fun ρ2 hz3 hfz => ?_)
 obtain ⟨sa, sc, f1, hsc, hA2⟩ := hown.aIn (l := lv) rfl (fun x _ => rfl) hfz
 cases f1
 clear hfz
 refine tc_freeze (stoC b5 (.slice va lv.length vc) rv ro dv m) (h := Rem.here) (fun ρ3 hz4 hfz => ?_)
 have hb5 : ρ3 b5 = some (.cells ⟨[.slice va lv.length vc, .int .i64 ro.next, .slice rv.a rv.n rv.c, .slice dv.a dv.n dv.c, .int .u64 m]⟩ 84 (0, 0)) := hfz _ (List.mem_singleton.2 rfl)
 clear hfz
 have hA3 := hA2.mono hz4
 have hS3 := (hS.mono hz3).mono hz4
 have hG := hS3.g
 have hz5 := Hp.le_trans hz2 (Hp.le_trans hz3 hz4)
 have hle := hG.mle
 rw [List.length_map] at hle
 repeat' (first | (refine Zz ?_; refine Zk (Zc rfl) rfl rfl ?_) | (refine Zh ?_; first | (refine Zf ?_; refine qQ ?_) | refine Zm ?_) | refine Zb ?_ | (refine Zi ?_; refine Zr ?_) | (refine Zj ?_; refine Zs ?_) | intro _)
 refine tc_cut_k R [(4, _), (5, _)] (fun (ζ : (Hp) × (Nat)) => [(8, .int .u64 (ζ.2 : Nat))]) (fun (ζ : (Hp) × (Nat)) => ζ.1) (fun (ζ : (Hp) × (Nat)) => []) (fun (ζ : (Hp) × (Nat)) => ρ3.le ζ.1 ∧ 1 ≤ ζ.2 ∧ (m = 0 → ζ.2 = 1) ∧ (m ≠ 0 → ζ.2 ≤ m) ∧ CutLe (lv.map (·.2)) m ζ.2) Zl ?_ ?_
 ·by_cases hm : m = 0
  ·simp only [show decide ((m : Int) > 0) = false from decide_eq_false (by omega)]
   repeat' (first | (refine Zz ?_; refine Zk (Zc rfl) rfl rfl ?_) | (refine Zh ?_; first | (refine Zf ?_; refine qQ ?_) | refine Zm ?_) | refine Zb ?_ | (refine Zi ?_; refine Zr ?_) | (refine Zj ?_; refine Zs ?_) | intro _)
   refine te_cut_g ((ρ3, 1)) (⟨Hp.le_refl _, Nat.le_refl _, fun _ => rfl, fun h => absurd hm h, fun k hk e => by omega⟩) Zl Zl rfl tk inferInstance
  ·simp only [show decide ((m : Int) > 0) = true from decide_eq_true (by omega)]
   obtain ⟨b, off, C, T, fz, e1, hb, hfit, hcc⟩ := hA3.get (show m - 1 < lv.length by omega)
   have hyR := hS3.ls _ (List.getElem_mem (show m - 1 < lv.length by omega))
   have hkm : m - 1 < (lv.map (·.2)).length := by rw [List.length_map]; omega
   have hgm : (lv.map (·.2))[m - 1] = (lv[m - 1]'(by omega)).2 := List.getElem_map ..
   have hck := ck_cut hG hkm (by omega)
   have hcl : ∀ k (h : k < (lv.map (·.2)).length), m = k + 1 → (lv.map (·.2))[k] = (lv.map (·.2))[m - 1] := fun k h e => by
    subst e; rfl
   rw [hgm] at hck hcl
   generalize (lv[m - 1]'(by omega)) = y at *
   have ek : ((m : Int) - 1).toNat = m - 1 := by omega
   rw [← ek] at hfit hcc
   obtain ⟨i0, ⟨c1, c2⟩, c3⟩ := hck
   have hCt := cut_spec ρ3 y.1 y.2 hyR
   rw [i0] at hCt
   generalize cutN y.2 = cc at *
   obtain ⟨q2, q0, q1⟩ := idxQ_lt fr (show 0 < cc by omega)
   have hbv : (1 : Int) + (IntKind.u64.wrap fr).tmod (cc : Int) = ((1 + idxQ fr cc : Nat) : Int) := by unfold idxQ; omega
   rw [e1] at hb5
   repeat' (first | (refine Zz ?_; refine Zk (Zc rfl) rfl rfl ?_) | (refine Zh ?_; first | (refine Zf ?_; refine qQ ?_) | refine Zm ?_) | refine Zb ?_ | (refine Zi ?_; refine Zr ?_) | (refine Zj ?_; refine Zs ?_) | intro _)
   refine ZB (Zq _ _ _) Zy ?_
   all_goals (refine ZI 0 ?_; refine rNc 1 ?_; refine ZO 2 ?_; refine ZU 3 ?_; refine ZI 4 ?_; refine rNc 5 ?_; refine ZO 6 ?_; refine ZU 7 ?_; refine rSb 8 ?_; refine rIa 9 ?_; refine ZU 10 ?_)
   all_goals (refine Zt (i := 11) ?_; ((try refine Zn ?_); (first | (refine Ze (.func 38) ?_; refine qC rfl rfl (hCt) ?_; rintro v ρ' L' hle ⟨hz6, rfl, rfl⟩ <;> (try simp only [kM, kN, kO])) | (refine Zm ?_; try intro _)) <;> ((try simp only [kM, kN, kO]); refine Zb ?_; refine Zo ?_)))
   all_goals (refine ZK ?_; refine ZI 12 ?_; refine rEx 13 ?_; refine rEx 14 ?_; refine rAs 15 ?_; refine rAs 16 ?_; refine ZE ?_)
   all_goals (have hb5' := Hp.at' hz6 hb5)
   all_goals (repeat' (first | (refine Zz ?_; refine Zk (Zc rfl) rfl rfl ?_) | (refine Zh ?_; first | (refine Zf ?_; refine qQ ?_) | refine Zm ?_) | refine Zb ?_ | (refine Zi ?_; refine Zr ?_) | (refine Zj ?_; refine Zs ?_) | intro _))
   all_goals simp only [hbv]
   all_goals refine te_cut_g ((ρ', 1 + idxQ fr cc)) (⟨hz6, by omega, fun h => absurd h hm, fun _ => by omega, fun k hk e t ht => by (rw [hcl k hk e] at ht; have := c3 t ht; omega)⟩) Zl Zl rfl tk inferInstance
 rintro ⟨ρ4, base⟩ ⟨hz6, hb1, hb0, hbm, hcut⟩
 dsimp only at hz6 hb1 hb0 hbm hcut
 simp only [List.cons_append, List.nil_append]
 have hA4 := hA3.mono hz6
 have hS4 := hS3.mono hz6
 have hb54 : ρ4 b5 = some (.cells ⟨[.slice va lv.length vc, .int .i64 ro.next, .slice rv.a rv.n rv.c, .slice dv.a dv.n dv.c, .int .u64 m]⟩ 84 (0, 0)) := Hp.at' hz6 hb5
 have hz7 := Hp.le_trans hz5 hz6
 clear hA3 hA2 hb5 hS3
 have hck9 : ∀ k (h : k < (lv.map (fun x : RV × Rc => x.2)).length), m = k + 1 → ((lv.map (fun x : RV × Rc => x.2))[k]'h).kind = 9 := fun k h e => (hG.ck k h e).1
 have hlL : (lv.map (·.2)).length = lv.length := List.length_map ..
 have hlen : (lv.map (·.2)).length < 1099511627776 := by omega
 have hAn0 := AnG.begin (l := lv.map (·.2)) (m := m) (base := base) hG.log hG.mle hb1 ⟨hb0, hbm⟩
 have hr0 := hAn0.right hG.log hck9 hG.mle hlen
 have hBeg : Spec Tryz.prog 22 [.int .u64 base, .int .u64 m, .int .u64 ((lv.length : Int) + 1)] ρ4 [] (fun z ρ' L' => ρ' = ρ4 ∧ L' = [] ∧ z = .tuple ⟨[.agg ⟨anV (newD base m (lv.length + 1))⟩, .int .i64 0]⟩) := by
  have := begin_spec ρ4 base m (lv.length + 1)
  rw [hlL] at hr0
  rw [hr0] at this
  exact this
 have hkl := hAn0.kl
 rw [hlL] at hkl
 have ek : ((base : Int) - 1).toNat = base - 1 := by omega
 repeat' (first | (refine Ze (.func 22) ?_; refine qC rfl rfl (hBeg) ?_; rintro v ρ' L' hle ⟨rfl, rfl, rfl⟩ <;> (try simp only [kM, kN, kO])) | (refine Zz ?_; refine Zk (Zc rfl) rfl rfl ?_) | (refine Zh ?_; first | (refine Zf ?_; refine qQ ?_) | refine Zm ?_) | refine Zb ?_ | (refine Zi ?_; refine Zr ?_) | (refine Zj ?_; refine Zs ?_) | intro _)
 rename_i b12
 simp only [ek]
 have hA5 := hA4.dropQ (lo := base - 1) hkl hsc
 generalize (if vc = base - 1 then va else Option.map (fun x => x.add ((base - 1) * 10)) va) = va2 at *
 have hAn1 : AnG (lv.map (·.2)) m base (base - 1 + 0) (newD base m (lv.length + 1)).p := by
  rw [hlL] at hAn0
  exact hAn0
 refine ZC [(5, _), (8, _), (11, _), (12, _), (110, _), (111, _)] (fun (ζ : (Nat) × (Hp) × (AnD)) => [(112, .int .i64 ζ.1), (13, .int .i64 0), (14, .int .u64 ζ.1), (4, .bool false)]) (fun (ζ : (Nat) × (Hp) × (AnD)) => ζ.2.1) (fun (ζ : (Nat) × (Hp) × (AnD)) => [anC b12 ζ.2.2]) (fun (ζ : (Nat) × (Hp) × (AnD)) => ζ.1 ≤ lv.length - (base - 1) ∧ ρ'.le ζ.2.1 ∧ AnIn ζ.2.1 ζ.2.2 ∧ AnG (lv.map (·.2)) m base (base - 1 + ζ.1) ζ.2.2.p) (fun (ζ : (Nat) × (Hp) × (AnD)) => lv.length - (base - 1) - ζ.1) ((0, ρ', newD base m (lv.length + 1))) (⟨Nat.zero_le _, Hp.le_refl _, newD_in, hAn1⟩) Zl Zl rfl tk ?_
 rintro ⟨j, ρ5, w⟩ hI
 try simp only [List.cons_append, List.nil_append, List.append_assoc, List.append_eq] at hI ⊢
 try dsimp only at hI ⊢
 obtain ⟨hj, hle5, hw, hAn⟩ := hI
 have hz8 := Hp.le_trans hz7 hle5
 by_cases hlt2 : j < lv.length - (base - 1)
 ·have hjl : j < (lv.drop (base - 1)).length := by simp; omega
  obtain ⟨b, off, C, T, fz, e1, hb, hfit, hcc⟩ := (hA5.mono hle5).get hjl
  have hyR := (hS4.ls _ (List.mem_of_mem_drop (List.getElem_mem hjl))).mono hle5
  have hjL : base - 1 + j < (lv.map (·.2)).length := by rw [hlL]; omega
  have hgm : (lv.map (·.2))[base - 1 + j] = ((lv.drop (base - 1))[j]'hjl).2 := by
   rw [List.getElem_map, List.getElem_drop]
  have hst := hAn.stepA hG.log hG.ck hcut hG.mle hlen hjL
  rw [hgm] at hst
  generalize ((lv.drop (base - 1))[j]'hjl) = y at *
  obtain ⟨s1, s2, s3⟩ := hst
  have hSt := step_an_spec ρ5 w hw y.1 y.2 hyR
  unfold Wc at hSt
  rw [s1] at hSt
  have hC3 : ∀ ρ2 d2 (h : AnIn ρ2 d2) (e : d2.p = Wt w.p y.2), Spec Tryz.prog 27 [.agg ⟨anV d2⟩] ρ2 [] (fun z ρ' L' => z = .int .i64 0 ∧ ρ' = ρ2 ∧ L' = []) := fun ρ2 d2 h e => by
   have := Wo ρ2 d2 h
   rw [e, s3] at this
   exact this
  rw [e1]
  repeat' (first | (refine Ze (.func 29) ?_; refine qC rfl rfl (hSt) ?_; rintro v ρ' L' hle ⟨hz9, d2, rfl, hd2, hp2, rfl⟩ <;> (try simp only [kM, kN, kO])) | (refine Ze (.func 27) ?_; refine qC rfl rfl (hC3 _ d2 hd2 hp2) ?_; rintro v ρ' L' hle ⟨rfl, rfl, rfl⟩ <;> (try simp only [kM, kN, kO])) | (refine Zz ?_; refine Zk (Zc rfl) rfl rfl ?_) | (refine Zh ?_; first | (refine Zf ?_; refine qQ ?_) | refine Zm ?_) | refine Zb ?_ | (refine Zi ?_; refine Zr ?_) | (refine Zj ?_; refine Zs ?_) | intro _)
  rw [← e1]
  refine Zp (j + 1, ρ', d2) (⟨hlt2, Hp.le_trans hle5 hz9, hd2, by rw [hp2]; exact s2⟩) Zl Zl rfl tk inferInstance (by first | omega | (dsimp only; omega))
 have hjE : base - 1 + j = (lv.map (·.2)).length := by rw [hlL]; omega
 rw [hjE] at hAn
 obtain ⟨l1, l2, l3⟩ := hAn.last hG
 have hrw := hAn.right hG.log hck9 hG.mle hlen
 have htb := (rightA_iff.1 hrw).2.2.1
 have hOv := over_an_spec ρ5 w hw
 rw [hrw, decide_eq_true (show w.next = w.fin from l1)] at hOv
 have hSm := rsame_spec ρ5 w.rv rv w.ro ro hw.r (hS4.rs.mono hle5)
 rw [decide_eq_true (show w.ro.p = ro.p from l2)] at hSm
 have hFi := fun ρ6 (h : ρ5.le ρ6) => first_an_spec ρ6 w (hw.mono h)
 rw [hrw] at hFi
 simp only [if_true] at hFi
 have hb55 : ρ5 b5 = some (.cells ⟨[.slice va lv.length vc, .int .i64 ro.next, .slice rv.a rv.n rv.c, .slice dv.a dv.n dv.c, .int .u64 m]⟩ 84 (0, 0)) := Hp.at' hle5 hb54
 have hld1 : List.take 2 (List.drop 1 ([.slice va lv.length vc, .int .i64 ro.next, .slice rv.a rv.n rv.c, .slice dv.a dv.n dv.c, .int .u64 m] : List Value)) = XI rv ro := rfl
 have hfit1 : 1 + 2 ≤ ([.slice va lv.length vc, .int .i64 ro.next, .slice rv.a rv.n rv.c, .slice dv.a dv.n dv.c, .int .u64 m] : List Value).length := by simp
 repeat' (first | (refine Zz ?_; refine Zk (Zc rfl) rfl rfl ?_) | (refine Zh ?_; first | (refine Zf ?_; refine qQ ?_) | refine Zm ?_) | refine Zb ?_ | (refine Zi ?_; refine Zr ?_) | (refine Zj ?_; refine Zs ?_) | intro _)
 refine ZB (Zq _ _ _) Zy ?_
 all_goals refine ZU 0 ?_
 all_goals (refine Zt (i := 1) ?_; ((try refine Zn ?_); (first | (refine Ze (.func 30) ?_; refine qC rfl rfl (hOv) ?_; rintro v ρ' L' hle ⟨rfl, rfl, rfl⟩ <;> (try simp only [kM, kN, kO])) | (refine Zm ?_; try intro _)) <;> ((try simp only [kM, kN, kO]); refine Zb ?_; refine Zo ?_)))
 all_goals (refine rUn 2 ?_; refine ZI 3 ?_; (first | refine Zd 4 ?_ | refine Za 4 ?_ | refine ZY 4 ?_); (first | refine Zd 5 ?_ | refine Za 5 ?_ | refine ZY 5 ?_); (first | refine Zd 6 ?_ | refine Za 6 ?_ | refine ZY 6 ?_); (first | refine Zd 7 ?_ | refine Za 7 ?_ | refine wSb 7 ?_); (first | refine Zd 8 ?_ | refine Za 8 ?_ | refine wCm 8 ?_); refine rPk 9 ?_; refine ZI 10 ?_; (first | refine Zd 11 ?_ | refine Za 11 ?_ | refine Yc 11 ?_); (first | refine Zd 12 ?_ | refine Za 12 ?_ | refine Yf 12 ?_); (first | refine Zd 13 ?_ | refine Za 13 ?_ | refine ZY 13 ?_); (first | refine Zd 14 ?_ | refine Za 14 ?_ | refine wNc 14 ?_); (first | refine Zd 15 ?_ | refine Za 15 ?_ | refine Yc 15 ?_); (first | refine Zd 16 ?_ | refine Za 16 ?_ | refine Yf 16 ?_))
 all_goals (first | refine Zd 17 ?_ | refine Za 17 ?_ | (refine Zt (i := 17) ?_; ((try refine Zn ?_); (first | (refine Ze (.func 16) ?_; refine qC rfl rfl (hSm) ?_; rintro v ρ' L' hle ⟨rfl, rfl, rfl⟩ <;> (try simp only [kM, kN, kO])) | (refine Zm ?_; try intro _)) <;> ((try simp only [kM, kN, kO]); refine Zb ?_; refine Zo ?_))))
 all_goals (refine ZK ?_; (first | refine Zd 18 ?_ | refine Za 18 ?_ | refine wUn 18 ?_); refine rPk 19 ?_; refine ZE ?_)
 all_goals (repeat' (first | (refine Zz ?_; refine Zk (Zc rfl) rfl rfl ?_) | (refine Zh ?_; first | (refine Zf ?_; refine qQ ?_) | refine Zm ?_) | refine Zb ?_ | (refine Zi ?_; refine Zr ?_) | (refine Zj ?_; refine Zs ?_) | intro _))
 rename_i bm
 have hDl := hw.d.at'.len
 have hDb := hw.d.big
 refine ZC [(4, _), (5, _), (12, _), (17, _), (154, _), (155, _)] (fun (ζ : (Nat) × (List MapEntry) × (Nat)) => [(156, .int .i64 ζ.1)]) (fun (ζ : (Nat) × (List MapEntry) × (Nat)) => ρ') (fun (ζ : (Nat) × (List MapEntry) × (Nat)) => [[(bm, .map ⟨ζ.2.1⟩ ζ.2.2)], anC b12 w]) (fun (ζ : (Nat) × (List MapEntry) × (Nat)) => ζ.1 ≤ w.dv.n ∧ MapQ ζ.2.1 (w.dirty.take ζ.1)) (fun (ζ : (Nat) × (List MapEntry) × (Nat)) => w.dv.n - ζ.1) ((0, [], 0)) (⟨Nat.zero_le _, MapQ.nil⟩) Zl Zl rfl tk ?_
 rintro ⟨i, es, ck⟩ hI
 try simp only [List.cons_append, List.nil_append, List.append_assoc, List.append_eq] at hI ⊢
 try dsimp only at hI ⊢
 obtain ⟨hi, hM⟩ := hI
 by_cases hlt3 : i < w.dv.n
 ·obtain ⟨b, off, C, T, fz, e1, hb, hfit, hcc⟩ := hw.d.at'.get (show i < w.dirty.length by omega)
  have hid : i < w.dirty.length := by omega
  have hup : ∀ es', YU .i64 es' → (∀ j, Xe es' j = if j = (w.dirty[i]'hid).page then some (.int .u64 ((w.dirty[i]'hid).since : Nat)) else Xe es j) → MapQ es' (w.dirty.take (i + 1)) := fun es' h1 h2 => MapQ.upd (d := w.dirty) htb hid hM h1 h2
  have hke := hM.keys
  generalize w.dirty[i]'(by omega) = x at *
  rw [e1]
  repeat' (first | (refine Xu rfl rfl rfl hke (fun es' ck' h1 h2 => ?_)) | (refine Zz ?_; refine Zk (Zc rfl) rfl rfl ?_) | (refine Zh ?_; first | (refine Zf ?_; refine qQ ?_) | refine Zm ?_) | refine Zb ?_ | (refine Zi ?_; refine Zr ?_) | (refine Zj ?_; refine Zs ?_) | intro _)
  rw [← e1]
  refine Zp (i + 1, es', ck') (⟨hlt3, hup _ h1 h2⟩) Zl Zl rfl tk inferInstance (by first | omega | (dsimp only; omega))
 rw [List.take_of_length_le (by omega)] at hM
 have hdl := hS4.ds.at'.len
 have hdb := hS4.ds.big
 repeat' (first | (refine Zz ?_; refine Zk (Zc rfl) rfl rfl ?_) | (refine Zh ?_; first | (refine Zf ?_; refine qQ ?_) | refine Zm ?_) | refine Zb ?_ | (refine Zi ?_; refine Zr ?_) | (refine Zj ?_; refine Zs ?_) | intro _)
 refine ZC [(12, _), (17, _), (169, _), (170, _)] (fun (ζ : (Nat)) => [(171, .int .i64 ζ), (4, .bool false)]) (fun (ζ : (Nat)) => ρ') (fun (ζ : (Nat)) => [[(bm, .map ⟨es⟩ ck)], anC b12 w]) (fun (ζ : (Nat)) => ζ ≤ dv.n) (fun (ζ : (Nat)) => dv.n - ζ) (0) (Nat.zero_le _) Zl Zl rfl tk ?_
 rintro q hI
 try simp only [List.cons_append, List.nil_append, List.append_assoc, List.append_eq] at hI ⊢
 try dsimp only at hI ⊢
 by_cases hlt4 : q < dv.n
 ·obtain ⟨b, off, C, T, fz, e1, hb, hfit, hcc⟩ := (hS4.ds.mono hle5).at'.get (show q < d.length by omega)
  obtain ⟨y, hy1, hy2⟩ := l3 _ (List.getElem_mem (show q < d.length by omega))
  generalize d[q]'(by omega) = x at *
  have hg := hM.get x.page
  rw [show XG x.page w.dirty = some y from hy1] at hg
  replace hg : Xe es x.page = some (.int .u64 (y.since : Nat)) := hg
  have hke := hM.keys
  have hmem : y ∈ w.dirty := recP_mem hy1
  have hfle : firstN w.p ≤ y.since := (leastN_le (n := w.p.fin) (l := w.p.dirty.map Yp.since)).2 _ (List.mem_map.2 ⟨y, hmem, rfl⟩)
  generalize firstN w.p = fn at *
  rw [e1]
  repeat' (first | (refine Zz ?_; refine Zk (Zc rfl) rfl rfl ?_) | (refine Zh ?_; first | (refine Zf ?_; refine qQ ?_) | refine Zm ?_) | refine Zb ?_ | (refine Zi ?_; refine Zr ?_) | (refine Zj ?_; refine Zs ?_) | intro _)
  refine ZB (Zq _ _ _) Zy ?_
  all_goals (refine ZI 0 ?_; refine rUn 1 ?_; refine ZI 2 ?_; (first | refine Zd 3 ?_ | refine Za 3 ?_ | refine ZY 3 ?_); (first | refine Zd 4 ?_ | refine Za 4 ?_ | refine Yc 4 ?_); (first | refine Zd 5 ?_ | refine Za 5 ?_ | refine Yf 5 ?_); (first | refine Zd 6 ?_ | refine Za 6 ?_ | refine wCm 6 ?_); refine rPk 7 ?_; refine ZI 8 ?_; (first | refine Zd 9 ?_ | refine Za 9 ?_ | refine Yf 9 ?_); (first | refine Zd 11 ?_ | refine Za 11 ?_ | refine Yc 11 ?_); (first | refine Zd 12 ?_ | refine Za 12 ?_ | refine Yf 12 ?_))
  all_goals (first | refine Zd 10 ?_ | refine Za 10 ?_ | (refine Zt (i := 10) ?_; ((try refine Zn ?_); (first | (refine Ze (.func 31) ?_; refine qC rfl rfl (hFi _ (Hp.le_refl _)) ?_; rintro v ρ' L' hle ⟨rfl, rfl, rfl⟩ <;> (try simp only [kM, kN, kO])) | (refine Zm ?_; try intro _)) <;> ((try simp only [kM, kN, kO]); refine Zb ?_; refine Zo ?_))))
  all_goals (refine ZK ?_; (first | refine Zd 13 ?_ | refine Za 13 ?_ | refine wCm 13 ?_); refine rPk 14 ?_; refine ZE ?_)
  all_goals (repeat' (first | (refine Zz ?_; refine Zk (Zc rfl) rfl rfl ?_) | (refine Zh ?_; first | (refine Zf ?_; refine qQ ?_) | refine Zm ?_) | refine Zb ?_ | (refine Zi ?_; refine Zr ?_) | (refine Zj ?_; refine Zs ?_) | intro _))
  all_goals rw [← e1]
  all_goals refine Zp (q + 1) (hlt4) Zl Zl rfl tk inferInstance (by first | omega | (dsimp only; omega))
 ·repeat' (first | (refine Zz ?_; refine Zk (Zc rfl) rfl rfl ?_) | (refine Zh ?_; first | (refine Zf ?_; refine qQ ?_) | refine Zm ?_) | refine Zb ?_ | (refine Zi ?_; refine Zr ?_) | (refine Zj ?_; refine Zs ?_) | intro _)
  exact qE (L' := []) (hle := hz8) ⟨rfl, hz8, rfl⟩
section
variable {H : Type} {enc : TypeId × Value → H} {w : World}
theorem opnS_deed23 : OpnS enc Tryz.prog w 86 (fun cs (x : FdD) => cs = fdV x ∧ RcW (hpOf w) x.rv x.rc) := fun fuel cs x h hw => by
 obtain ⟨hl, hf⟩ := YD Tryz.underlying86 h hw
 have hl : cs.length = 13 := by rw [hl]; kernel_rfl
 obtain ⟨c0, c1, c2, c3, c4, c5, c6, c7, c8, c9, c10, c11, c12, rfl⟩ : ∃ c0 c1 c2 c3 c4 c5 c6 c7 c8 c9 c10 c11 c12, cs = [c0, c1, c2, c3, c4, c5, c6, c7, c8, c9, c10, c11, c12] := by
  match cs, hl with
  | [c0, c1, c2, c3, c4, c5, c6, c7, c8, c9, c10, c11, c12], _ => exact ⟨c0, c1, c2, c3, c4, c5, c6, c7, c8, c9, c10, c11, c12, rfl⟩
 obtain ⟨k, h0, _⟩ := ZD h hw Tryz.underlying86 0 0 1 rfl rfl rfl (by kernel_rfl) (Yh Tryz.underlying3).sized
 obtain ⟨p, h1, _⟩ := ZD h hw Tryz.underlying86 1 1 1 rfl rfl rfl (by kernel_rfl) (Yh Tryz.underlying3).sized
 obtain ⟨t, h2, _⟩ := ZD h hw Tryz.underlying86 2 2 1 rfl rfl rfl (by kernel_rfl) (Yh Tryz.underlying3).sized
 obtain ⟨⟨rv, rc⟩, h3, w3⟩ := ZD h hw Tryz.underlying86 3 3 10 rfl rfl rfl (by kernel_rfl) opnS_rec
 simp only [List.drop_zero, List.drop_succ_cons, List.take_succ_cons, List.take_zero, List.cons.injEq, and_true, YR] at h0 h1 h2 h3
 obtain ⟨rfl, rfl, rfl, rfl, rfl, rfl, rfl, rfl, rfl, rfl⟩ := h3
 subst h0; subst h1; subst h2
 exact ⟨⟨k, p, t, rv, rc⟩, rfl, w3⟩
end
theorem OwnS.pos {v n xs sp sz} (h : OwnS v n xs sp sz) (h0 : 0 < n) : ∃ b cap, v = .slice (some ⟨b, 0, none⟩) n cap := by
 rcases h.out with ⟨_, h2, _⟩ | ⟨b, cap, h1, _⟩
 ·omega
 ·exact ⟨b, cap, h1⟩
structure CInW (ρ : Hp) (v : CV) (rows : List Row) (kids : List Kid) : Prop where
 r : AIn ρ 4 rowV v.ra v.rn rows
 k : AIn ρ 3 kidV v.ka v.kn kids
 rb : v.rn ≤ 9223372036854775807
 kb : v.kn ≤ 9223372036854775807
 rc : v.rn ≤ v.rc
 kc : v.kn ≤ v.kc
theorem CInW.mono {ρ ρ' v rows kids} (h : CInW ρ v rows kids) (hle : ρ.le ρ') : CInW ρ' v rows kids := ⟨h.r.mono hle, h.k.mono hle, h.rb, h.kb, h.rc, h.kc⟩
end Go.Proofs.E
