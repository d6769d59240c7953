import Derived.Test.YtnmhdmkfhacdbaaGreatRdIqA
import Derived.Test.YtnmhdmkfhacdbaaGreatSpeqA
namespace Go.Proofs.YtnmhdmkfhacdbaaGreat
open Go.Lg Go.Proofs Go.RowKit
attribute [local irreducible] Code.wp wpList bodyPost Exit.then Exit.inBlock Hp Again Calls Y AT ResV QT Qn QI wpAny wpAnyQ
set_option maxRecDepth 20000
set_option maxHeartbeats 4000000

/-! ### leading ones, what is left of a vector -/
theorem leading1_ok {w : World} {x : Int} : Does Tryz.prog 102 [iV x] w (fun r H => r = .bool (decide (x ≠ 0)) ∧ H = []) := by
  refine fn_enter Tryz.func102 rfl Tryz.ntmps102 rfl ?_
  repeat' (first
    | (show AT _ _ _ (wpList _ _ _ (_ :: _)); first
       | (show AT _ _ _ (wpList _ _ _ (⟨_, Op.move _, _, _, _, _⟩ :: _)); refine st_y (y_move rfl) rfl ?_)
       | (show AT _ _ _ (wpList _ _ _ (⟨_, Op.assign _, _, _, _, _⟩ :: _)); refine st_y (y_assign rfl) rfl ?_)
       | (show AT _ _ _ (wpList _ _ _ (⟨_, Op.binOp _ _ _ _ _, _, _, _, _⟩ :: _)); refine st_y (y_neq rfl rfl) rfl ?_))
    | (show AT _ _ _ (wpList _ _ _ []); refine c_nil (x_then ?_))
    | (show AT _ _ _ (Code.wp _ _ _); first | refine c_seq ?_ | refine c_region ?_ | refine c_ret ?_))
  exact x_ret1 Tryz.results102 (res_tmp rfl) (fun w c => ⟨_, _, rfl, ⟨rfl, rfl⟩, c⟩)
/-- the first number that is not 0, or -1 -/
def LeadP (xs : List Int) (k : Int) : Prop := (k = -1 ∧ ∀ j, j < xs.length → xs.getD j 0 = 0) ∨ ∃ i : Nat, k = i ∧ i < xs.length ∧ xs.getD i 0 ≠ 0 ∧ ∀ j, j < i → xs.getD j 0 = 0
theorem IndexNZ_ok {w : World} {xs : List Int} {v : Value} (hr : Rd w (iT xs) v) : Does Tryz.prog 101 [v, .func (.func 102) #[] #[]] w (fun r H => ∃ k, r = iV k ∧ LeadP xs k ∧ H = []) := by
  obtain ⟨a, c, rfl, hs, hc1, hc2, hget⟩ := hr.ints
  unfold maxLen at hc2
  refine fn_enter Tryz.func101 rfl Tryz.ntmps101 rfl ?_
  repeat' (first
    | (show AT _ _ _ (wpList _ _ _ (_ :: _)); first
       | (show AT _ _ _ (wpList _ _ _ (⟨_, Op.move _, _, _, _, _⟩ :: _)); refine st_y (y_move rfl) rfl ?_)
       | (show AT _ _ _ (wpList _ _ _ (⟨_, Op.assign _, _, _, _, _⟩ :: _)); refine st_y (y_assign rfl) rfl ?_)
       | (show AT _ _ _ (wpList _ _ _ (⟨_, Op.call _, _, _, _, _⟩ :: _)); refine st_y (y_len tabs rfl rfl) rfl ?_))
    | (show AT _ _ _ (wpList _ _ _ []); refine c_nil (x_then ?_))
    | (show AT _ _ _ (Code.wp _ _ _); first | refine c_seq ?_ | refine c_region ?_ | refine c_block ?_))
  refine c_loopH (α := Nat) [0, 1, 7] (fun i => [(8, .int .i64 i)]) (fun i => i ≤ xs.length ∧ ∀ j, j < i → xs.getD j 0 = 0) (fun i => []) (fun i => xs.length - i) 0 rfl (by repeat' (first | exact Sub.nil | refine Sub.cons rfl ?_ | refine Sub.consi rfl (by omega) ?_)) ?_ ?_ ?_
  · exact ⟨Nat.zero_le _, fun j hj => by omega⟩
  · exact fun w' c' => c'
  · rintro i ⟨hi, hn⟩
    by_cases hin : i < xs.length
    · repeat' (first
        | (show AT _ _ _ (wpList _ _ _ (_ :: _)); first
           | (show AT _ _ _ (wpList _ _ _ (⟨_, Op.move _, _, _, _, _⟩ :: _)); refine st_y (y_move rfl) rfl ?_)
           | (show AT _ _ _ (wpList _ _ _ (⟨_, Op.assign _, _, _, _, _⟩ :: _)); refine st_y (y_assign rfl) rfl ?_)
           | (show AT _ _ _ (wpList _ _ _ (⟨_, Op.load _ _, _, _, _, _⟩ :: _)); refine st_y (y_load tabs rfl rfl (hc_w0 (hget i hin))) rfl ?_)
           | (show AT _ _ _ (wpList _ _ _ (⟨_, Op.indexAddr _ _ _, _, _, _, _⟩ :: _)); refine st_y (y_ix1 tabs (j := i) rfl rfl rfl hs rfl hin) rfl ?_)
           | (show AT _ _ _ (wpList _ _ _ (⟨_, Op.binOp _ _ _ _ _, _, _, _, _⟩ :: _)); first | refine st_y (y_add rfl rfl (by omega)) rfl ?_ | refine st_y (y_lss rfl rfl) rfl ?_)
           | (show AT _ _ _ (wpList _ _ _ (⟨_, Op.call _, _, _, _, _⟩ :: _)); (refine m_callv rfl (ent_of Tryz.func102 (by kernel_rfl) rfl) rfl rfl (fun w c => leading1_ok) ?_; rintro v H' ⟨rfl, rfl⟩)))
        | (show AT _ _ _ (wpList _ _ _ []); refine c_nil (x_then ?_))
        | (show AT _ _ _ (Code.wp _ _ _); first | refine c_seq ?_ | refine c_region ?_ | refine c_skip (x_then ?_) | refine c_skip (x_blk ?_) | refine c_block ?_ | refine c_ret ?_ | refine c_ift rfl (by first | assumption | omega) ?_ | refine c_ifnd rfl (fun h => ?_) (fun h => ?_))
        | (show AT _ _ _ _; first | refine x_then ?_ | refine x_then_ret ?_ | refine x_blk_ret ?_))
      · exact x_ret1 Tryz.results101 (res_tmp rfl) (fun w' c' => ⟨_, _, rfl, ⟨i, rfl, .inr ⟨i, rfl, hin, by assumption, hn⟩, rfl⟩, c'⟩)
      · refine x_nx (i + 1) (by repeat' (first | exact Sub.nil | refine Sub.cons rfl ?_ | refine Sub.consi rfl (by omega) ?_)) ⟨by omega, fun j hj => ?_⟩ (fun w' c' => c') (by omega)
        by_cases hji : j = i
        · subst hji; first | assumption | exact Decidable.not_not.1 (by assumption)
        · exact hn j (by omega)
    · repeat' (first
        | (show AT _ _ _ (wpList _ _ _ (_ :: _)); first
           | (show AT _ _ _ (wpList _ _ _ (⟨_, Op.assign _, _, _, _, _⟩ :: _)); refine st_y (y_assign rfl) rfl ?_)
           | (show AT _ _ _ (wpList _ _ _ (⟨_, Op.binOp _ _ _ _ _, _, _, _, _⟩ :: _)); refine st_y (y_lss rfl rfl) rfl ?_))
        | (show AT _ _ _ (wpList _ _ _ []); refine c_nil (x_then ?_))
        | (show AT _ _ _ (Code.wp _ _ _); first | refine c_seq ?_ | refine c_region ?_ | refine c_ret ?_ | refine c_exit ?_ | refine c_iff rfl (by first | assumption | exact not_not_intro (by assumption) | omega) ?_)
        | (show AT _ _ _ _; first | refine x_then ?_ | refine x_then_exit ?_ | refine x_blk_exit rfl ?_))
      exact x_ret1 Tryz.results101 (res_tmp rfl) (fun w' c' => ⟨_, _, rfl, ⟨-1, rfl, .inl ⟨rfl, fun j hj => hn j (by omega)⟩, rfl⟩, c'⟩)
theorem leading_ok {w : World} {xs : List Int} {v : Value} (hr : Rd w (iT xs) v) : Does Tryz.prog 87 [v] w (fun r H => ∃ k, r = iV k ∧ LeadP xs k ∧ H = []) := by
  refine fn_enter Tryz.func87 rfl Tryz.ntmps87 rfl ?_
  repeat' (first
    | (show AT _ _ _ (wpList _ _ _ (_ :: _)); first
       | (show AT _ _ _ (wpList _ _ _ (⟨_, Op.move _, _, _, _, _⟩ :: _)); refine st_y (y_move rfl) rfl ?_)
       | (show AT _ _ _ (wpList _ _ _ (⟨_, Op.assign _, _, _, _, _⟩ :: _)); refine st_y (y_assign rfl) rfl ?_)
       | (show AT _ _ _ (wpList _ _ _ (⟨_, Op.call _, _, _, _, _⟩ :: _)); (refine m_call (ent_of Tryz.func101 (by kernel_rfl) rfl) rfl rfl (fun w c => IndexNZ_ok (c.rd hr)) ?_; rintro v H' ⟨k, rfl, hk, rfl⟩)))
    | (show AT _ _ _ (wpList _ _ _ []); refine c_nil (x_then ?_))
    | (show AT _ _ _ (Code.wp _ _ _); first | refine c_seq ?_ | refine c_region ?_ | refine c_ret ?_))
  exact x_ret1 Tryz.results87 (res_tmp rfl) (fun w' c' => ⟨_, _, rfl, ⟨_, rfl, hk, rfl⟩, c'⟩)
theorem leading_at {w : World} {xs : List Int} {v : Value} {q : Nat} (hr : Rd w (iT xs) v) (hq : q < xs.length) (h1 : xs.getD q 0 ≠ 0) (h2 : ∀ j, j < q → xs.getD j 0 = 0) : Does Tryz.prog 87 [v] w (fun r H => r = iV q ∧ H = []) := by
  refine (leading_ok hr).mono ?_
  rintro e w' ⟨r, H, he, ⟨k, hv, hk, hH⟩, hp⟩
  refine ⟨r, H, he, ⟨?_, hH⟩, hp⟩
  rcases hk with ⟨_, h⟩ | ⟨i, rfl, hi, h3, h4⟩
  · exact absurd (h q hq) h1
  · have : i = q := by
      rcases Nat.lt_trichotomy i q with h | h | h
      · exact absurd (h2 i h) h3
      · exact h
      · exact absurd (h4 q h) h1
    subst this
    exact hv
theorem leading_neg {w : World} {xs : List Int} {v : Value} (hr : Rd w (iT xs) v) : Does Tryz.prog 87 [v] w (fun r H => (∃ k, r = iV k ∧ (k < 0 ↔ ∀ j, j < xs.length → xs.getD j 0 = 0)) ∧ H = []) := by
  refine (leading_ok hr).mono ?_
  rintro e w' ⟨r, H, he, ⟨k, hv, hk, hH⟩, hp⟩
  refine ⟨r, H, he, ⟨⟨k, hv, ?_⟩, hH⟩, hp⟩
  rcases hk with ⟨rfl, h⟩ | ⟨i, rfl, hi, h3, h4⟩
  · exact ⟨fun _ => h, fun _ => by omega⟩
  · exact ⟨fun h => by omega, fun h => absurd (h i hi) h3⟩
theorem addTo_mkv {p k : Int} {C : Nat} {f : Nat → Int} {ys : List Int} : addTo p k (mkv C f) 0 ys C = mkv C (fun b => (f b + k * ys.getD b 0) % p) := by
  have key : ∀ n, n ≤ C → addTo p k (mkv C f) 0 ys n = mkv C (fun b => if b < n then (f b + k * ys.getD b 0) % p else f b) := fun n => by
    induction n with
    | zero => intro _; simp [addTo]
    | succ n ih =>
      intro hn
      rw [addTo, ih (by omega), Nat.zero_add, mkv_get (by omega), mkv_set]
      exact mkv_ext (fun b hb => by
        by_cases h : b = n
        · subst h; simp
        · rw [if_neg h]
          by_cases h2 : b < n
          · rw [if_pos h2, if_pos (by omega)]
          · rw [if_neg h2, if_neg (by omega)])
  rw [key C (Nat.le_refl _)]
  exact mkv_ext (fun b hb => by rw [if_pos hb])
theorem rest_ok {w : World} {p : Int} {C : Nat} {s : Sp} {xs : List Int} {u v : Value} (hu : Rd w (rowsT 22 s.2) u) (hr : Rd w (iT xs) v) (hs : SpcP p s) (hc : s.1 = C) (hx : xs.length = C) (hxi : InP 0 (p - 1) xs) : Does Tryz.prog 88 [.agg #[iV s.1, u], iV p, v] w (Gives (iT (mkv C (restF p (rowsF s.2) (redTo p s.2.length (rowsF s.2) C).2 (vecF xs) s.2.length))) C) := by
  obtain ⟨C', hc', hC, hl, hF, hn8, hk, hg⟩ := hs.rows
  have : C' = C := by omega
  subst this
  have hp := fieldP_pos hF
  have hlead := fun t (ht : t < s.2.length) => spc_lead hs hc ht
  have hin := hl.inF
  have hv0 : ∀ j, j < C' → 0 ≤ vecF xs j ∧ vecF xs j < p := fun j hj => by
    have := inP_get hxi (i := j) (by omega)
    unfold vecF; omega
  generalize (redTo p s.2.length (rowsF s.2) C').2 = piv at *
  have hri := fun n => restF_in (b := rowsF s.2) (l := piv) (by omega) hv0 n
  obtain ⟨n, rs⟩ := s
  simp only at hu hl hlead hri hin hc hn8 ⊢
  subst hc
  obtain ⟨a, c, rfl, hsa, hc1, hc2, hget⟩ := rd_rows hu
  have hx0 : xs = mkv C' (vecF xs) := mkv_of hx
  refine fn_enter Tryz.func88 rfl Tryz.ntmps88 rfl ?_
  repeat' (first
    | (show AT _ _ _ (wpList _ _ _ (_ :: _)); first
       | (show AT _ _ _ (wpList _ _ _ (⟨_, Op.move _, _, _, _, _⟩ :: _)); refine st_y (y_move rfl) rfl ?_)
       | (show AT _ _ _ (wpList _ _ _ (⟨_, Op.assign _, _, _, _, _⟩ :: _)); refine st_y (y_assign rfl) rfl ?_)
       | (show AT _ _ _ (wpList _ _ _ (⟨_, Op.fieldAddr _ _ _, _, _, _, _⟩ :: _)); refine st_y (y_field tabs rfl rfl rfl) rfl ?_)
       | (show AT _ _ _ (wpList _ _ _ (⟨_, Op.load _ _, _, _, _, _⟩ :: _)); refine st_y (y_load tabs rfl rfl (hc_blk 1 rfl rfl)) rfl ?_)
       | (show AT _ _ _ (wpList _ _ _ (⟨_, Op.call _, _, _, _, _⟩ :: _)); first | (refine m_call (ent_of Tryz.func84 (by kernel_rfl) rfl) rfl rfl (fun w c => Clone_ok (c.rd hr) (by omega)) ?_; rintro v H' ⟨ao', co, rfl, hso, rfl⟩) | refine st_y (y_len tabs rfl rfl) rfl ?_)
       | (show AT _ _ _ (wpList _ _ _ (⟨_, Op.box _ _, _, _, _, _⟩ :: _)); refine m_box rfl rfl (fun b3 hb3 => ?_)))
    | (show AT _ _ _ (wpList _ _ _ []); refine c_nil (x_then ?_))
    | (show AT _ _ _ (Code.wp _ _ _); first | refine c_seq ?_ | refine c_region ?_ | refine c_block ?_))
  rw [hx] at hso ⊢
  refine c_loopH (α := Nat) [1, 7, 13, 14] (fun i => [(15, .int .i64 i)]) (fun i => i ≤ rs.length) (fun i => [.own (iT (mkv C' (restF p (rowsF rs) piv (vecF xs) i))) (.slice ao' C' co), .blk b3 #[iV C', .slice a rs.length c] 53]) (fun i => rs.length - i) 0 rfl (by repeat' (first | exact Sub.nil | refine Sub.cons rfl ?_ | refine Sub.consi rfl (by omega) ?_)) ?_ ?_ ?_
  · exact Nat.zero_le _
  · intro w' c'
    rw [hx0] at c'
    exact c'
  · intro i hi
    by_cases hin2 : i < rs.length
    · obtain ⟨ys, hy⟩ : ∃ ys, rs[i]? = some ys := ⟨_, List.getElem?_eq_getElem hin2⟩
      obtain ⟨a2, c2, g1, g2⟩ := hget i ys hy
      obtain ⟨hyl, hyi⟩ := hl _ (List.mem_of_getElem? hy)
      obtain ⟨l1, l2, l3⟩ := hlead i hin2
      have hyF : ∀ j, rowsF rs i j = ys.getD j 0 := fun j => by simp [rowsF, List.getD, hy]
      rw [hyl] at g1 g2
      have hq : (mkv C' (restF p (rowsF rs) piv (vecF xs) i)).getD (pv piv i) 0 = restF p (rowsF rs) piv (vecF xs) i (pv piv i) := mkv_get l1
      have hqb := hri i (pv piv i) l1
      obtain ⟨_, _, e2, hs2, _⟩ := g2.ints
      rw [hyl] at hs2 e2
      cases e2
      repeat' (first
        | (show AT _ _ _ (wpList _ _ _ (_ :: _)); first
           | (show AT _ _ _ (wpList _ _ _ (⟨_, Op.move _, _, _, _, _⟩ :: _)); refine st_y (y_move rfl) rfl ?_)
           | (show AT _ _ _ (wpList _ _ _ (⟨_, Op.assign _, _, _, _, _⟩ :: _)); refine st_y (y_assign rfl) rfl ?_)
           | (show AT _ _ _ (wpList _ _ _ (⟨_, Op.load _ _, _, _, _, _⟩ :: _)); first | refine st_y (y_load tabs rfl rfl (hc_w0 g1)) rfl ?_ | refine st_y (y_load tabs rfl rfl (hc_own 0 rfl (by rw [mkv_length]; exact l1))) rfl ?_)
           | (show AT _ _ _ (wpList _ _ _ (⟨_, Op.indexAddr _ _ _, _, _, _, _⟩ :: _)); first | refine st_y (y_ix1 tabs (j := i) rfl rfl rfl hsa rfl hin2) rfl ?_ | refine st_y (y_ix1 tabs (j := pv piv i) rfl rfl rfl hso rfl l1) rfl ?_)
           | (show AT _ _ _ (wpList _ _ _ (⟨_, Op.binOp _ _ _ _ _, _, _, _, _⟩ :: _)); first | refine st_y (y_sub rfl rfl (by rw [hq]; omega)) rfl ?_ | refine st_y (y_add rfl rfl (by omega)) rfl ?_ | refine st_y (y_lss rfl rfl) rfl ?_)
           | (show AT _ _ _ (wpList _ _ _ (⟨_, Op.call _, _, _, _, _⟩ :: _)); first | (refine m_call (ent_of Tryz.func87 (by kernel_rfl) rfl) rfl rfl (fun w c => leading_at (q := pv piv i) (c.rd g2) (by omega) (by rw [← hyF, l2]; decide) (fun j hj => by rw [← hyF]; exact l3 j hj)) ?_; rintro v H' ⟨rfl, rfl⟩) | (refine m_callL 0 (ent_of Tryz.func99 (by kernel_rfl) rfl) rfl rfl rfl (fun w M' hl2 => addMultiple_ok (o := 0) (n := C') (ys := ys) hF (by rw [hq]; omega) hl2 (fun h => hso.get h) (by rw [mkv_length]; omega) (by omega) (fun j hj => by rw [Nat.zero_add, mkv_get hj]; have := hri i j hj; omega) (fun j hj => by have := inP_get hyi (i := j) (by omega); omega) hs2 (fun w' xs' c' hxl hxo j hj => by have h := (RdOut.rd (hl2.old g2) c').ints; obtain ⟨_, _, e, _, _, _, hh⟩ := h; cases e; exact hh j (by omega))) ?_; rintro v H' ⟨rfl, rfl⟩)))
        | (show AT _ _ _ (wpList _ _ _ []); first | refine c_nil (x_then ?_) | refine c_nil ?_)
        | (show AT _ _ _ (Code.wp _ _ _); first | refine c_seq ?_ | refine c_region ?_ | refine c_skip (x_then ?_) | refine c_block ?_ | refine c_ift rfl (by first | assumption | omega) ?_)
        | (show AT _ _ _ _; first | refine x_then ?_ | refine x_blk ?_))
      refine x_nx (i + 1) (by repeat' (first | exact Sub.nil | refine Sub.cons rfl ?_ | refine Sub.consi rfl (by omega) ?_)) (by omega) (fun w' c' => ?_) (by omega)
      rw [addTo_mkv, hq] at c'
      have e0 : mkv C' (fun b => (restF p (rowsF rs) piv (vecF xs) i b + (p - restF p (rowsF rs) piv (vecF xs) i (pv piv i)) * ys.getD b 0) % p) = mkv C' (restF p (rowsF rs) piv (vecF xs) (i + 1)) := mkv_ext (fun b hb => by simp only [restF, hyF])
      rw [e0] at c'
      exact c'
    · have : i = rs.length := by omega
      subst this
      repeat' (first
        | (show AT _ _ _ (wpList _ _ _ (_ :: _)); first
           | (show AT _ _ _ (wpList _ _ _ (⟨_, Op.move _, _, _, _, _⟩ :: _)); refine st_y (y_move rfl) rfl ?_)
           | (show AT _ _ _ (wpList _ _ _ (⟨_, Op.assign _, _, _, _, _⟩ :: _)); refine st_y (y_assign rfl) rfl ?_)
           | (show AT _ _ _ (wpList _ _ _ (⟨_, Op.binOp _ _ _ _ _, _, _, _, _⟩ :: _)); refine st_y (y_lss rfl rfl) rfl ?_))
        | (show AT _ _ _ (wpList _ _ _ []); refine c_nil (x_then ?_))
        | (show AT _ _ _ (Code.wp _ _ _); first | refine c_seq ?_ | refine c_region ?_ | refine c_ret ?_ | refine c_exit ?_ | refine c_iff rfl (by first | assumption | exact not_not_intro (by assumption) | omega) ?_)
        | (show AT _ _ _ _; first | refine x_then ?_ | refine x_then_exit ?_ | refine x_blk_exit rfl ?_))
      exact x_ret1 Tryz.results88 (res_tmp rfl) (fun w' c' => ⟨_, _, rfl, ⟨_, _, rfl, hso, rfl⟩, c'.sub (.cons_cons _ (List.nil_sublist _))⟩)
theorem has_ok {w : World} {p : Int} {C : Nat} {s : Sp} {xs : List Int} {u v : Value} (hu : Rd w (rowsT 22 s.2) u) (hr : Rd w (iT xs) v) (hs : SpcP p s) (hc : s.1 = C) (hx : xs.length = C) (hxi : InP 0 (p - 1) xs) : Does Tryz.prog 66 [.agg #[iV s.1, u], iV p, v] w (fun r H => r = .bool (decide (rkL p C (s.2 ++ [xs]) = s.2.length)) ∧ H = []) := by
  obtain ⟨C', hc', hC, hl, hF, hn8, hk, hg⟩ := hs.rows
  have : C' = C := by omega
  subst this
  have hp := fieldP_pos hF
  have hv0 : ∀ j, j < C' → 0 ≤ vecF xs j ∧ vecF xs j < p := fun j hj => by
    have := inP_get hxi (i := j) (by omega)
    unfold vecF; omega
  have hiff := rest_iff hs hc hv0
  have hone : RowsP p C' [xs] := fun x hx' => by simp at hx'; subst hx'; exact ⟨hx, hxi⟩
  have hj := rk_join (p := p) (C := C') (A := [xs]) (B := s.2) (M := s.2 ++ [xs]) hF (hl.app hone) hl (fun x h => by simp at h ⊢; exact h.symm) (fun x h => by simp at h ⊢; exact .inr h) (fun x h => by simp [h])
  rw [hk] at hj
  refine fn_enter Tryz.func66 rfl Tryz.ntmps66 rfl ?_
  repeat' (first
    | (show AT _ _ _ (wpList _ _ _ (_ :: _)); first
       | (show AT _ _ _ (wpList _ _ _ (⟨_, Op.move _, _, _, _, _⟩ :: _)); refine st_y (y_move rfl) rfl ?_)
       | (show AT _ _ _ (wpList _ _ _ (⟨_, Op.assign _, _, _, _, _⟩ :: _)); refine st_y (y_assign rfl) rfl ?_)
       | (show AT _ _ _ (wpList _ _ _ (⟨_, Op.load _ _, _, _, _, _⟩ :: _)); refine st_y (y_loadb 0 tabs rfl rfl rfl rfl) rfl ?_)
       | (show AT _ _ _ (wpList _ _ _ (⟨_, Op.binOp _ _ _ _ _, _, _, _, _⟩ :: _)); refine st_y (y_lss rfl rfl) rfl ?_)
       | (show AT _ _ _ (wpList _ _ _ (⟨_, Op.call _, _, _, _, _⟩ :: _)); first | (refine m_call (ent_of Tryz.func88 (by kernel_rfl) rfl) rfl rfl (fun w c => rest_ok (C := C') (c.rd hu) (c.rd hr) hs hc hx hxi) ?_; rintro v H' ⟨ao', co, rfl, hso, rfl⟩) | (refine m_call (ent_of Tryz.func87 (by kernel_rfl) rfl) rfl rfl (fun w c => leading_neg (c.own_rd (i := 0) rfl)) ?_; rintro v H' ⟨⟨k, rfl, hk2⟩, rfl⟩))
       | (show AT _ _ _ (wpList _ _ _ (⟨_, Op.box _ _, _, _, _, _⟩ :: _)); refine m_box rfl rfl (fun b3 hb3 => ?_)))
    | (show AT _ _ _ (wpList _ _ _ []); refine c_nil (x_then ?_))
    | (show AT _ _ _ (Code.wp _ _ _); first | refine c_seq ?_ | refine c_region ?_ | refine c_ret ?_))
  refine x_ret1 Tryz.results66 (res_tmp rfl) (fun w' c' => ⟨_, _, rfl, ⟨congrArg Value.bool (decide_eq_decide.2 ?_), rfl⟩, c'.sub (List.nil_sublist _)⟩)
  rw [hk2, hj, mkv_length]
  refine Iff.trans ⟨fun h j hj => ?_, fun h j hj => ?_⟩ (Iff.trans hiff (by simp))
  · have := h j hj; rwa [mkv_get hj] at this
  · rw [mkv_get hj]; exact h j hj
end Go.Proofs.YtnmhdmkfhacdbaaGreat
