import Derived.Test.YtcplmeajmpkpkaaGreatRdIqsp
import Derived.Test.YtcplmeajmpkpkaaGreatSpeqsp
namespace Go.Proofs.YtcplmeajmpkpkaaGreat
open Go.Lg Go.Proofs Go.RowKit
attribute [local irreducible] Code.wp wpList bodyPost Exit.then Exit.inBlock Hp Again Calls Y AT ResV QT Qn QI wpAny wpAnyQ
set_option maxRecDepth 20000
set_option maxHeartbeats 4000000

theorem leading1_ok {w : World} {x : Int} : Does Tryz.prog 126 [iV x] w (fun r H => r = .bool (decide (x ≠ 0)) ∧ H = []) := by
  refine fn_enter Tryz.func126 rfl Tryz.ntmps126 rfl ?_
  repeat' (first | (show oL; first | refine sMv rfl rfl ?_ | refine sAs rfl rfl ?_ | (show oA (.binOp _ _ _ _ _); refine st_y (y_neq rfl rfl) rfl ?_)) | refine xNt ?_ | (show oC; first | refine c_seq ?_ | refine c_region ?_ | refine c_ret ?_))
  exact x_ret1 Tryz.results126 (res_tmp rfl) (fun w c => ⟨_, _, rfl, ⟨rfl, rfl⟩, c⟩)
def LeadP (xs : List Int) (k : Int) : Prop := (k = -1 ∧ ∀ j, j < xs.length → xs.getD j 0 = 0) ∨ ∃ i : Nat, k = i ∧ i < xs.length ∧ xs.getD i 0 ≠ 0 ∧ ∀ j, j < i → xs.getD j 0 = 0
theorem IndexNZ_ok {w : World} {xs : List Int} {v : Value} (hr : Rd w (iT xs) v) : Does Tryz.prog 125 [v, .func (.func 126) #[] #[]] w (fun r H => ∃ k, r = iV k ∧ LeadP xs k ∧ H = []) := by
  obtain ⟨a, c, rfl, hs, hc1, hc2, hget⟩ := hr.ints
  unfold maxLen at hc2
  refine fn_enter Tryz.func125 rfl Tryz.ntmps125 rfl ?_
  repeat' (first | (show oL; first | refine sMv rfl rfl ?_ | refine sAs rfl rfl ?_ | refine sLn tabs rfl rfl rfl ?_) | refine xNt ?_ | (show oC; first | refine c_seq ?_ | refine c_region ?_ | refine c_block ?_))
  refine c_loopH (α := Nat) [0, 1, 7] (fun i => [(8, .int .i64 i)]) (fun i => i ≤ xs.length ∧ ∀ j, j < i → xs.getD j 0 = 0) (fun i => []) (fun i => xs.length - i) 0 rfl sB ?_ ?_ ?_
  · exact ⟨Nat.zero_le _, fun j hj => by omega⟩
  · exact fun w' c' => c'
  · rintro i ⟨hi, hn⟩
    by_cases hin : i < xs.length
    · repeat' (first | (show oL; first | refine sMv rfl rfl ?_ | refine sAs rfl rfl ?_ | (show oA (.load _ _); refine st_y (y_load tabs rfl rfl (hc_w0 (hget i hin))) rfl ?_) | (show oA (.indexAddr _ _ _); refine st_y (y_ix1 tabs (j := i) rfl rfl rfl hs rfl hin) rfl ?_) | (show oA (.binOp _ _ _ _ _); first | refine sAd rfl rfl om rfl ?_ | refine sLs rfl rfl rfl ?_) | (show oA (.call _); (refine m_callv rfl (ent_of Tryz.func126 kr rfl) rfl rfl (fun w c => leading1_ok) ?_; rintro v H' ⟨rfl, rfl⟩))) | refine xNt ?_ | (show oC; first | refine c_seq ?_ | refine c_region ?_ | refine c_skip (x_then ?_) | refine c_skip (x_blk ?_) | refine c_block ?_ | refine c_ret ?_ | refine c_ift rfl aO ?_ | refine c_ifnd rfl (fun h => ?_) (fun h => ?_)) | (show AT _ _ _ _; first | refine x_then ?_ | refine x_then_ret ?_ | refine x_blk_ret ?_))
      · exact x_ret1 Tryz.results125 (res_tmp rfl) (fun w' c' => ⟨_, _, rfl, ⟨i, rfl, .inr ⟨i, rfl, hin, by assumption, hn⟩, rfl⟩, c'⟩)
      · refine x_nx (i + 1) sB ⟨by omega, fun j hj => ?_⟩ (fun w' c' => c') om
        by_cases hji : j = i
        · subst hji; first | assumption | exact Decidable.not_not.1 aS
        · exact hn j om
    · repeat' (first | (show oL; first | refine sAs rfl rfl ?_ | refine sLs rfl rfl rfl ?_) | refine xNt ?_ | (show oC; first | refine c_seq ?_ | refine c_region ?_ | refine c_ret ?_ | refine c_exit ?_ | refine c_iff rfl nN ?_) | (show AT _ _ _ _; first | refine x_then ?_ | refine x_then_exit ?_ | refine x_blk_exit rfl ?_))
      exact x_ret1 Tryz.results125 (res_tmp rfl) (fun w' c' => ⟨_, _, rfl, ⟨-1, rfl, .inl ⟨rfl, fun j hj => hn j om⟩, rfl⟩, c'⟩)
theorem leading_ok {w : World} {xs : List Int} {v : Value} (hr : Rd w (iT xs) v) : Does Tryz.prog 107 [v] w (fun r H => ∃ k, r = iV k ∧ LeadP xs k ∧ H = []) := by
  refine fn_enter Tryz.func107 rfl Tryz.ntmps107 rfl ?_
  repeat' (first | (show oL; first | refine sMv rfl rfl ?_ | refine sAs rfl rfl ?_ | (show oA (.call _); (refine m_call (ent_of Tryz.func125 kr rfl) rfl rfl (fun w c => IndexNZ_ok (c.rd hr)) ?_; rintro v H' ⟨k, rfl, hk, rfl⟩))) | refine xNt ?_ | (show oC; first | refine c_seq ?_ | refine c_region ?_ | refine c_ret ?_))
  exact x_ret1 Tryz.results107 (res_tmp rfl) (fun w' c' => ⟨_, _, rfl, ⟨_, rfl, hk, rfl⟩, c'⟩)
theorem leading_at {w : World} {xs : List Int} {v : Value} {q : Nat} (hr : Rd w (iT xs) v) (hq : q < xs.length) (h1 : xs.getD q 0 ≠ 0) (h2 : ∀ j, j < q → xs.getD j 0 = 0) : Does Tryz.prog 107 [v] w (fun r H => r = iV q ∧ H = []) := by
  refine (leading_ok hr).mono ?_
  rintro e w' ⟨r, H, he, ⟨k, hv, hk, hH⟩, hp⟩
  refine ⟨r, H, he, ⟨?_, hH⟩, hp⟩
  rcases hk with ⟨_, h⟩ | ⟨i, rfl, hi, h3, h4⟩
  · exact absurd (h q hq) h1
  · have : i = q := by
      rcases Nat.lt_trichotomy i q with h | h | h
      · exact absurd (h2 i h) h3
      · exact h
      · exact absurd (h4 q h) h1
    subst this
    exact hv
theorem leading_neg {w : World} {xs : List Int} {v : Value} (hr : Rd w (iT xs) v) : Does Tryz.prog 107 [v] w (fun r H => (∃ k, r = iV k ∧ (k < 0 ↔ ∀ j, j < xs.length → xs.getD j 0 = 0)) ∧ H = []) := by
  refine (leading_ok hr).mono ?_
  rintro e w' ⟨r, H, he, ⟨k, hv, hk, hH⟩, hp⟩
  refine ⟨r, H, he, ⟨⟨k, hv, ?_⟩, hH⟩, hp⟩
  rcases hk with ⟨rfl, h⟩ | ⟨i, rfl, hi, h3, h4⟩
  · exact ⟨fun _ => h, fun _ => by omega⟩
  · exact ⟨fun h => by omega, fun h => absurd (h i hi) h3⟩
theorem addTo_mkv {p k : Int} {C : Nat} {f : Nat → Int} {ys : List Int} : addTo p k (mkv C f) 0 ys C = mkv C (fun b => (f b + k * ys.getD b 0) % p) := by
  have key : ∀ n, n ≤ C → addTo p k (mkv C f) 0 ys n = mkv C (fun b => if b < n then (f b + k * ys.getD b 0) % p else f b) := fun n => by
    induction n with
    | zero => intro _; simp [addTo]
    | succ n ih =>
      intro hn
      rw [addTo, ih om, Nat.zero_add, mkv_get om, mkv_set]
      exact mkv_ext (fun b hb => by
        by_cases h : b = n
        · subst h; simp
        · rw [if_neg h]
          by_cases h2 : b < n
          · rw [if_pos h2, if_pos om]
          · rw [if_neg h2, if_neg om])
  rw [key C (Nat.le_refl _)]
  exact mkv_ext (fun b hb => by rw [if_pos hb])
theorem rest_ok {w : World} {p : Int} {C : Nat} {s : Sp} {xs : List Int} {u v : Value} (hu : Rd w (rowsT 43 s.2) u) (hr : Rd w (iT xs) v) (hs : SpcP p s) (hc : s.1 = C) (hx : xs.length = C) (hxi : InP 0 (p - 1) xs) : Does Tryz.prog 108 [.agg #[iV s.1, u], iV p, v] w (Gives (iT (mkv C (restF p (rowsF s.2) (redTo p s.2.length (rowsF s.2) C).2 (vecF xs) s.2.length))) C) := by
  obtain ⟨C', hc', hC, hl, hF, hn8, hk, hg⟩ := hs.rows
  have : C' = C := by omega
  subst this
  have hp := fieldP_pos hF
  have hlead := fun t (ht : t < s.2.length) => spc_lead hs hc ht
  have hin := hl.inF
  have hv0 : ∀ j, j < C' → 0 ≤ vecF xs j ∧ vecF xs j < p := fun j hj => by
    have := inP_get hxi (i := j) om
    unfold vecF; omega
  generalize (redTo p s.2.length (rowsF s.2) C').2 = piv at *
  have hri := fun n => restF_in (b := rowsF s.2) (l := piv) om hv0 n
  obtain ⟨n, rs⟩ := s
  simp only at hu hl hlead hri hin hc hn8 ⊢
  subst hc
  obtain ⟨a, c, rfl, hsa, hc1, hc2, hget⟩ := rd_rows hu
  have hx0 : xs = mkv C' (vecF xs) := mkv_of hx
  refine fn_enter Tryz.func108 rfl Tryz.ntmps108 rfl ?_
  repeat' (first | (show oL; first | refine sMv rfl rfl ?_ | refine sAs rfl rfl ?_ | refine sFd tabs rfl rfl rfl rfl ?_ | refine sLd 1 tabs rfl rfl rfl rfl rfl ?_ | (show oA (.call _); first | (refine m_call (ent_of Tryz.func89 kr rfl) rfl rfl (fun w c => Clone_ok (c.rd hr) om) ?_; rintro v H' ⟨ao', co, rfl, hso, rfl⟩) | refine sLn tabs rfl rfl rfl ?_) | (show oA (.box _ _); refine m_box rfl rfl (fun b3 hb3 => ?_))) | refine xNt ?_ | (show oC; first | refine c_seq ?_ | refine c_region ?_ | refine c_block ?_))
  rw [hx] at hso ⊢
  refine c_loopH (α := Nat) [1, 7, 13, 14] (fun i => [(15, .int .i64 i)]) (fun i => i ≤ rs.length) (fun i => [.own (iT (mkv C' (restF p (rowsF rs) piv (vecF xs) i))) (.slice ao' C' co), .blk b3 #[iV C', .slice a rs.length c] 26]) (fun i => rs.length - i) 0 rfl sB ?_ ?_ ?_
  · exact Nat.zero_le _
  · intro w' c'
    rw [hx0] at c'
    exact c'
  · intro i hi
    by_cases hin2 : i < rs.length
    · obtain ⟨ys, hy⟩ : ∃ ys, rs[i]? = some ys := ⟨_, List.getElem?_eq_getElem hin2⟩
      obtain ⟨a2, c2, g1, g2⟩ := hget i ys hy
      obtain ⟨hyl, hyi⟩ := hl _ (List.mem_of_getElem? hy)
      obtain ⟨l1, l2, l3⟩ := hlead i hin2
      have hyF : ∀ j, rowsF rs i j = ys.getD j 0 := fun j => by simp [rowsF, List.getD, hy]
      rw [hyl] at g1 g2
      have hq : (mkv C' (restF p (rowsF rs) piv (vecF xs) i)).getD (pv piv i) 0 = restF p (rowsF rs) piv (vecF xs) i (pv piv i) := mkv_get l1
      have hqb := hri i (pv piv i) l1
      obtain ⟨_, _, e2, hs2, _⟩ := g2.ints
      rw [hyl] at hs2 e2
      cases e2
      repeat' (first | (show oL; first | refine sMv rfl rfl ?_ | refine sAs rfl rfl ?_ | (show oA (.load _ _); first | refine st_y (y_load tabs rfl rfl (hc_w0 g1)) rfl ?_ | refine st_y (y_load tabs rfl rfl (hc_own 0 rfl (by rw [mkv_length]; exact l1))) rfl ?_) | (show oA (.indexAddr _ _ _); first | refine st_y (y_ix1 tabs (j := i) rfl rfl rfl hsa rfl hin2) rfl ?_ | refine st_y (y_ix1 tabs (j := pv piv i) rfl rfl rfl hso rfl l1) rfl ?_) | (show oA (.binOp _ _ _ _ _); first | refine st_y (y_sub rfl rfl (by rw [hq]; omega)) rfl ?_ | refine sAd rfl rfl om rfl ?_ | refine sLs rfl rfl rfl ?_) | (show oA (.call _); first | (refine m_call (ent_of Tryz.func107 kr rfl) rfl rfl (fun w c => leading_at (q := pv piv i) (c.rd g2) om (by rw [← hyF, l2]; decide) (fun j hj => by rw [← hyF]; exact l3 j hj)) ?_; rintro v H' ⟨rfl, rfl⟩) | (refine m_callL 0 (ent_of Tryz.func80 kr rfl) rfl rfl rfl (fun w M' hl2 => addMultiple_ok (o := 0) (n := C') (ys := ys) hF (by rw [hq]; omega) hl2 (fun h => hso.get h) (by rw [mkv_length]; omega) om (fun j hj => by rw [Nat.zero_add, mkv_get hj]; have := hri i j hj; omega) (fun j hj => by have := inP_get hyi (i := j) om; omega) hs2 (fun w' xs' c' hxl hxo j hj => by have h := (RdOut.rd (hl2.old g2) c').ints; obtain ⟨_, _, e, _, _, _, hh⟩ := h; cases e; exact hh j om)) ?_; rintro v H' ⟨rfl, rfl⟩))) | (show oN; first | refine c_nil (x_then ?_) | refine c_nil ?_) | (show oC; first | refine c_seq ?_ | refine c_region ?_ | refine c_skip (x_then ?_) | refine c_block ?_ | refine c_ift rfl aO ?_) | (show AT _ _ _ _; first | refine x_then ?_ | refine x_blk ?_))
      refine x_nx (i + 1) sB om (fun w' c' => ?_) om
      rw [addTo_mkv, hq] at c'
      have e0 : mkv C' (fun b => (restF p (rowsF rs) piv (vecF xs) i b + (p - restF p (rowsF rs) piv (vecF xs) i (pv piv i)) * ys.getD b 0) % p) = mkv C' (restF p (rowsF rs) piv (vecF xs) (i + 1)) := mkv_ext (fun b hb => by simp only [restF, hyF])
      rw [e0] at c'
      exact c'
    · have : i = rs.length := by omega
      subst this
      repeat' (first | (show oL; first | refine sMv rfl rfl ?_ | refine sAs rfl rfl ?_ | refine sLs rfl rfl rfl ?_) | refine xNt ?_ | (show oC; first | refine c_seq ?_ | refine c_region ?_ | refine c_ret ?_ | refine c_exit ?_ | refine c_iff rfl nN ?_) | (show AT _ _ _ _; first | refine x_then ?_ | refine x_then_exit ?_ | refine x_blk_exit rfl ?_))
      exact x_ret1 Tryz.results108 (res_tmp rfl) (fun w' c' => ⟨_, _, rfl, ⟨_, _, rfl, hso, rfl⟩, c'.sub (.cons_cons _ (List.nil_sublist _))⟩)
theorem has_ok {w : World} {p : Int} {C : Nat} {s : Sp} {xs : List Int} {u v : Value} (hu : Rd w (rowsT 43 s.2) u) (hr : Rd w (iT xs) v) (hs : SpcP p s) (hc : s.1 = C) (hx : xs.length = C) (hxi : InP 0 (p - 1) xs) : Does Tryz.prog 68 [.agg #[iV s.1, u], iV p, v] w (fun r H => r = .bool (decide (rkL p C (s.2 ++ [xs]) = s.2.length)) ∧ H = []) := by
  obtain ⟨C', hc', hC, hl, hF, hn8, hk, hg⟩ := hs.rows
  have : C' = C := by omega
  subst this
  have hp := fieldP_pos hF
  have hv0 : ∀ j, j < C' → 0 ≤ vecF xs j ∧ vecF xs j < p := fun j hj => by
    have := inP_get hxi (i := j) om
    unfold vecF; omega
  have hiff := rest_iff hs hc hv0
  have hone : RowsP p C' [xs] := fun x hx' => by simp at hx'; subst hx'; exact ⟨hx, hxi⟩
  have hj := rk_join (p := p) (C := C') (A := [xs]) (B := s.2) (M := s.2 ++ [xs]) hF (hl.app hone) hl (fun x h => by simp at h ⊢; exact h.symm) (fun x h => by simp at h ⊢; exact .inr h) (fun x h => by simp [h])
  rw [hk] at hj
  refine fn_enter Tryz.func68 rfl Tryz.ntmps68 rfl ?_
  repeat' (first | (show oL; first | refine sMv rfl rfl ?_ | refine sAs rfl rfl ?_ | refine sLb 0 tabs rfl rfl rfl rfl rfl ?_ | refine sLs rfl rfl rfl ?_ | (show oA (.call _); first | (refine m_call (ent_of Tryz.func108 kr rfl) rfl rfl (fun w c => rest_ok (C := C') (c.rd hu) (c.rd hr) hs hc hx hxi) ?_; rintro v H' ⟨ao', co, rfl, hso, rfl⟩) | (refine m_call (ent_of Tryz.func107 kr rfl) rfl rfl (fun w c => leading_neg (c.own_rd (i := 0) rfl)) ?_; rintro v H' ⟨⟨k, rfl, hk2⟩, rfl⟩)) | (show oA (.box _ _); refine m_box rfl rfl (fun b3 hb3 => ?_))) | refine xNt ?_ | (show oC; first | refine c_seq ?_ | refine c_region ?_ | refine c_ret ?_))
  refine x_ret1 Tryz.results68 (res_tmp rfl) (fun w' c' => ⟨_, _, rfl, ⟨congrArg Value.bool (decide_eq_decide.2 ?_), rfl⟩, c'.sub (List.nil_sublist _)⟩)
  rw [hk2, hj, mkv_length]
  refine Iff.trans ⟨fun h j hj => ?_, fun h j hj => ?_⟩ (Iff.trans hiff (by simp))
  · have := h j hj; rwa [mkv_get hj] at this
  · rw [mkv_get hj]; exact h j hj
end Go.Proofs.YtcplmeajmpkpkaaGreat

namespace Go.Proofs.YtcplmeajmpkpkaaGreat
open Go.Lg Go.Proofs Go.RowKit
theorem y_fld {P : Program} {n : Nat} {K : World → Prop} {s : List (Nat × Value)} {ty t fi : Nat} {x : Operand} {v0 v : Value} (hb : ∀ w, (Instr.field t v0 fi).run P w = .ok v w) (hx : ev s x = some v0) : Y P n K s (.field t x fi) ty v := fun a w f c d pos af g => by
  simp [execOp, f.ev hx, hb]
attribute [local irreducible] Code.wp wpList bodyPost Exit.then Exit.inBlock Hp Again Calls Y AT ResV QT Qn QI wpAny wpAnyQ
set_option maxRecDepth 20000
set_option maxHeartbeats 4000000

theorem fld_sp (r : Int) (a : Option Addr) (m c : Nat) (w : World) : (Instr.field 26 (.agg #[iV r, .slice a m c]) 1).run Tryz.prog w = .ok (.slice a m c) w := by kernel_rfl
def InsP (p : Int) (s : Sp) (v : List Int) : Prop := SpcP p s ∧ VecP p v ∧ (v.length : Int) = s.1 ∧ rkL p s.1.toNat (s.2 ++ [v]) = s.2.length
instance (p : Int) (s : Sp) (v : List Int) : Decidable (InsP p s v) := by unfold InsP; infer_instance
theorem impl_InSpace_ok {w : World} {p : Int} {s : Sp} {xs : List Int} {u v : Value} (hu : Rd w (rowsT 43 s.2) u) (hr : Rd w (iT xs) v) : Does Tryz.prog 28 [iV p, .agg #[iV s.1, u], v] w (fun r H => r = .bool (decide (InsP p s xs)) ∧ H = []) := by
  obtain ⟨a, c, rfl, hsx, _⟩ := hr.ints
  by_cases hA : SpcP p s ∧ VecP p xs ∧ (xs.length : Int) = s.1
  · obtain ⟨h1, h2, h3⟩ := hA
    obtain ⟨C, hc, hC, _⟩ := h1.rows
    refine fn_enter Tryz.func28 rfl Tryz.ntmps28 rfl ?_
    repeat' (first | (show oL; first | refine sMv rfl rfl ?_ | refine sAs rfl rfl ?_ | refine sFd tabs rfl rfl rfl rfl ?_ | (show oA (.load _ _); first | refine sLd 0 tabs rfl rfl rfl rfl rfl ?_ | refine sLb 0 tabs rfl rfl rfl rfl rfl ?_) | (show oA (.binOp _ _ _ _ _); refine st_y (y_eql rfl rfl) rfl ?_) | (show oA (.call _); first | (refine m_call (ent_of Tryz.func12 kr rfl) rfl rfl (fun w c => impl_IsSpace_ok (s := s) (c.rd hu)) ?_; rintro v H' ⟨rfl, rfl⟩) | (refine m_call (ent_of Tryz.func67 kr rfl) rfl rfl (fun w c => impl_IsVector_ok (c.rd hr)) ?_; rintro v H' ⟨rfl, rfl⟩) | (refine m_call (ent_of Tryz.func68 kr rfl) rfl rfl (fun w c => has_ok (C := C) (c.rd hu) (c.rd hr) h1 hc om h2.2.2) ?_; rintro v H' ⟨rfl, rfl⟩) | refine sLn tabs rfl rfl rfl ?_) | (show oA (.pick _ _ _); refine st_y (y_pickt rfl aS rfl) rfl ?_) | (show oA (.box _ _); refine m_box rfl rfl (fun bq hbq => ?_)) | refine st_gdy rfl rfl aS ?_) | refine xNt ?_ | (show oC; first | refine c_seq ?_ | refine c_region ?_ | refine c_ret ?_))
    all_goals first | exact absurd h1 aS | exact absurd h2 aS | exact absurd h3 aS | skip
    refine x_ret1 Tryz.results28 (res_tmp rfl) (fun w' c' => ⟨_, _, rfl, ⟨congrArg Value.bool (decide_eq_decide.2 ?_), rfl⟩, c'.sub (List.nil_sublist _)⟩)
    have hcn : s.1.toNat = C := by omega
    simp [InsP, h1, h2, h3, hcn]
  · have hno : ¬ InsP p s xs := fun h => hA ⟨h.1, h.2.1, h.2.2.1⟩
    rw [decide_eq_false hno]
    have hcs : ¬ SpcP p s ∨ (SpcP p s ∧ ¬ VecP p xs) ∨ (SpcP p s ∧ VecP p xs ∧ ¬ (xs.length : Int) = s.1) := by grind
    refine fn_enter Tryz.func28 rfl Tryz.ntmps28 rfl ?_
    rcases hcs with h1 | ⟨h1, h2⟩ | ⟨h1, h2, h3⟩
    all_goals
      repeat' (first | (show oL; first | refine sMv rfl rfl ?_ | refine sAs rfl rfl ?_ | refine sFd tabs rfl rfl rfl rfl ?_ | (show oA (.load _ _); first | refine sLd 0 tabs rfl rfl rfl rfl rfl ?_ | refine sLb 0 tabs rfl rfl rfl rfl rfl ?_) | (show oA (.binOp _ _ _ _ _); refine st_y (y_eql rfl rfl) rfl ?_) | (show oA (.call _); first | (refine m_call (ent_of Tryz.func12 kr rfl) rfl rfl (fun w c => impl_IsSpace_ok (s := s) (c.rd hu)) ?_; rintro v H' ⟨rfl, rfl⟩) | (refine m_call (ent_of Tryz.func67 kr rfl) rfl rfl (fun w c => impl_IsVector_ok (c.rd hr)) ?_; rintro v H' ⟨rfl, rfl⟩) | refine sLn tabs rfl rfl rfl ?_) | (show oA (.pick _ _ _); first | refine st_y (y_pickt rfl aS rfl) rfl ?_ | refine st_y (y_pickf rfl aS rfl) rfl ?_ | refine st_y (y_pick rfl rfl rfl) rfl ?_) | (show oA (.box _ _); refine m_box rfl rfl (fun bq hbq => ?_)) | refine st_gn rfl rfl rfl ?_ | refine st_gdy rfl rfl aS ?_ | refine st_gdn rfl rfl aS rfl ?_) | refine xNt ?_ | (show oC; first | refine c_seq ?_ | refine c_region ?_ | refine c_ret ?_))
    all_goals exact x_ret1 Tryz.results28 (res_tmp rfl) (fun w' c' => ⟨_, _, rfl, ⟨rfl, rfl⟩, c'.sub (List.nil_sublist _)⟩)
theorem rd_one {M : List Nat} {w0 w : World} {H : List HE} (i : Nat) {e e' m c : Nat} {A : List (List Int)} {xs : List Int} {us usa : List Value} {u : Value} {a : Option Addr} (hi : H[i]? = some (.own (.s e 1 (us.map T.c)) (.slice a m c))) (hus : us = usa ++ [u]) (cw : Hp M w0 H w) (hA : RdC w (A.map iT) usa) (hB : Rd w (iT xs) u) : Rd w (rowsT e' (A ++ [xs])) (.slice a m c) :=
  rd_two i hi hus cw hA (RdC.one hB)
theorem spec_InSpace_ok {w : World} {p : Int} {s : Sp} {xs : List Int} {u v : Value} (hu : Rd w (rowsT 43 s.2) u) (hr : Rd w (iT xs) v) : Does Tryz.prog 29 [iV p, .agg #[iV s.1, u], v] w (fun r H => r = .bool (decide (InsP p s xs)) ∧ H = []) := by
  obtain ⟨a, c, rfl, hsx, _⟩ := hr.ints
  by_cases hA : SpcP p s ∧ VecP p xs ∧ (xs.length : Int) = s.1
  · obtain ⟨h1, h2, h3⟩ := hA
    obtain ⟨C, hc, hC, hl, hF, hn, _⟩ := h1.rows
    have h3' : xs.length = C := by omega
    have hone : RowsP p C [xs] := fun x hx' => by simp at hx'; subst hx'; exact ⟨h3', h2.2.2⟩
    obtain ⟨n, A⟩ := s
    simp only at hc hu hl hn h3
    subst hc
    obtain ⟨usa, nA, rA, lA⟩ := rd_names hu om
    obtain ⟨aa, ca, rfl, _, hsa, hca, h1a⟩ := nA
    have hfin : decide ((((basL p C (A ++ [xs])).length : Nat) : Int) = (usa.length : Nat)) = decide (InsP p (↑C, A) xs) := decide_eq_decide.2 (by
      rw [basL_len, lA]
      simp only [InsP, Int.toNat_natCast]
      exact ⟨fun h => ⟨h1, h2, h3, by omega⟩, fun h => by have := h.2.2.2; omega⟩)
    refine fn_enter Tryz.func29 rfl Tryz.ntmps29 rfl ?_
    repeat' (first | (show oL; first | refine sMv rfl rfl ?_ | refine sAs rfl rfl ?_ | refine sFd tabs rfl rfl rfl rfl ?_ | (show oA (.load _ _); first | refine sLb 0 tabs rfl rfl rfl rfl rfl ?_ | refine sLd 0 tabs rfl rfl rfl rfl rfl ?_) | (show oA (.binOp _ _ _ _ _); refine st_y (y_neq rfl rfl) rfl ?_) | (show oA (.unOp _ _ _); refine st_y (y_notd rfl) rfl ?_) | (show oA (.call _); first | (refine m_call (ent_of Tryz.func32 kr rfl) rfl rfl (fun w c => spec_IsSpace_ok (s := (_, A)) (c.rd hu)) ?_; rintro v H' ⟨rfl, rfl⟩) | (refine m_call (ent_of Tryz.func69 kr rfl) rfl rfl (fun w c => spec_IsVector_ok (c.rd hr)) ?_; rintro v H' ⟨rfl, rfl⟩) | refine sLn tabs rfl rfl rfl ?_) | (show oA (.pick _ _ _); first | refine st_y (y_pickt rfl aS rfl) rfl ?_ | refine st_y (y_pickf rfl aS rfl) rfl ?_ | refine st_y (y_pick rfl rfl rfl) rfl ?_) | (show oA (.box _ _); refine m_box rfl rfl (fun b4 hb4 => ?_)) | refine st_gn rfl rfl rfl ?_ | refine st_gfy rfl rfl aS ?_ | refine st_gfn rfl rfl aS rfl ?_ | refine st_gd rfl rfl (fun h => ?_) (fun h => ?_)) | refine xNt ?_ | (show oC; first | refine c_seq ?_ | refine c_region ?_ | refine c_skip (x_then ?_) | refine c_ret ?_ | refine c_true rfl ?_ | refine c_iff rfl nN ?_) | (show AT _ _ _ _; refine x_then_ret ?_))
    all_goals first | exact absurd h1 aS | exact absurd h2 aS | exact absurd h3 aS | skip
    refine c_all (Hp [] w [.blk b4 #[iV C, .slice aa usa.length ca] 26]) kr (fun _ c => Hp.drew c) ?_
    refine h_take 0 rfl kr kr kr (by exact y_move rfl) rfl (fun _ c => c) ?_
    refine h_take 1 rfl kr kr kr (by exact y_field tabs rfl rfl rfl) rfl (fun _ c => c) ?_
    refine h_take 2 rfl kr kr kr (by exact y_load tabs rfl rfl (hc_blk 0 rfl rfl)) rfl (fun _ c => c) ?_
    refine h_take 4 rfl kr kr kr (by exact y_field tabs rfl rfl rfl) rfl (fun _ c => c) ?_
    refine h_take 5 rfl kr kr kr (by exact y_load tabs rfl rfl (hc_blk 0 rfl rfl)) rfl (fun _ c => c) ?_
    refine h_take 7 rfl kr kr kr (by exact y_move rfl) rfl (fun _ c => c) ?_
    refine h_take 13 rfl kr kr kr (by exact y_field tabs rfl rfl rfl) rfl (fun _ c => c) ?_
    refine h_take 14 rfl kr kr kr (by exact y_load tabs rfl rfl (hc_blk 0 rfl rfl)) rfl (fun _ c => c) ?_
    refine h_take 15 rfl kr kr kr (by exact y_len tabs rfl rfl) rfl (fun _ c => c) ?_
    refine h_two 3 8 rfl rfl kr ?_ ?_
    · (refine m_build0 tabs rfl rfl (fun gb hgb => ?_))
      refine c_nil (x_one (h_keep (fun w c => by exact c.drop) ?_))
      refine h_two 6 8 rfl rfl kr ?_ ?_
      · (refine m_apps tabs (us := []) (us' := usa) (m' := 0 + usa.length) rfl rfl rfl rfl rfl h1a (by simp) (by simp; omega) (by decide) (fun w c => c) (named_src hsa hca) (fun a3 c3 => ?_))
        refine c_nil (x_one (h_keep (fun w c => by exact c.drop) ?_))
        refine h_only 8 rfl kr ?_
        first | (refine m_build1 tabs (us := [.slice a xs.length c]) rfl rfl rfl rfl (by decide) rfl (fun g2 hg2 => ?_)) | (refine m_apps tabs (us := [] ++ usa) (us' := [.slice a xs.length c]) (m' := 0 + usa.length + 1) rfl rfl rfl rfl rfl (by simp [Value.oneCell']) (by simp) (by simp; omega) (by decide) (fun w c => c.front (i := 1) rfl) (fun w c => .inr ⟨_, rfl, fun j u hj => by match j, hj with | 0, hj => (simp at hj; subst hj; exact hc_blk 0 rfl rfl w c) | j + 1, hj => simp at hj⟩) (fun a4 c4 => ?_)) | (refine m_call (ent_of Tryz.func41 kr rfl) rfl rfl (fun w c => l5Span_ok (rd_one (e' := 43) 0 rfl (by simp) c (c.rdC rA) (c.rd hr)) hF (hl.app hone) (by simp; omega) om) ?_; rintro v H' ⟨a', c', rfl, hs, rfl⟩)
        refine c_nil (x_one (h_keep (fun w c => by exact c.drop.drop) ?_))
        refine h_only 9 rfl kr ?_
        first | (refine m_build1 tabs (us := [.slice a xs.length c]) rfl rfl rfl rfl (by decide) rfl (fun g2 hg2 => ?_)) | (refine m_apps tabs (us := [] ++ usa) (us' := [.slice a xs.length c]) (m' := 0 + usa.length + 1) rfl rfl rfl rfl rfl (by simp [Value.oneCell']) (by simp) (by simp; omega) (by decide) (fun w c => c.front (i := 1) rfl) (fun w c => .inr ⟨_, rfl, fun j u hj => by match j, hj with | 0, hj => (simp at hj; subst hj; exact hc_blk 0 rfl rfl w c) | j + 1, hj => simp at hj⟩) (fun a4 c4 => ?_)) | (refine m_call (ent_of Tryz.func41 kr rfl) rfl rfl (fun w c => l5Span_ok (rd_one (e' := 43) 0 rfl (by simp) c (c.rdC rA) (c.rd hr)) hF (hl.app hone) (by simp; omega) om) ?_; rintro v H' ⟨a', c', rfl, hs, rfl⟩)
        refine c_nil (x_one (h_keep (fun w c => by exact c.drop.drop) ?_))
        refine h_only 10 rfl kr ?_
        first | (refine m_build1 tabs (us := [.slice a xs.length c]) rfl rfl rfl rfl (by decide) rfl (fun g2 hg2 => ?_)) | (refine m_apps tabs (us := [] ++ usa) (us' := [.slice a xs.length c]) (m' := 0 + usa.length + 1) rfl rfl rfl rfl rfl (by simp [Value.oneCell']) (by simp) (by simp; omega) (by decide) (fun w c => c.front (i := 1) rfl) (fun w c => .inr ⟨_, rfl, fun j u hj => by match j, hj with | 0, hj => (simp at hj; subst hj; exact hc_blk 0 rfl rfl w c) | j + 1, hj => simp at hj⟩) (fun a4 c4 => ?_)) | (refine m_call (ent_of Tryz.func41 kr rfl) rfl rfl (fun w c => l5Span_ok (rd_one (e' := 43) 0 rfl (by simp) c (c.rdC rA) (c.rd hr)) hF (hl.app hone) (by simp; omega) om) ?_; rintro v H' ⟨a', c', rfl, hs, rfl⟩)
        refine c_nil (x_one (h_keep sS ?_))
        refine h_take 11 rfl kr kr kr (by exact y_fld (fld_sp _ _ _ _) rfl) rfl sS ?_
        refine h_take 12 rfl kr kr kr (by exact y_len tabs rfl rfl) rfl sS ?_
        refine h_take 16 rfl kr kr kr (by exact y_eql rfl rfl) rfl sS ?_
        refine h_take 17 rfl kr kr kr (by exact y_assign rfl) rfl sS ?_
        refine h_end kr ?_
        repeat' (first | (show oC; refine c_ret ?_) | (show AT _ _ _ _; refine x_then ?_))
        rw [hfin]
        exact x_ret1 Tryz.results29 (res_tmp rfl) (fun w' c' => ⟨_, _, rfl, ⟨rfl, rfl⟩, c'.sub (List.nil_sublist _)⟩)
      · (refine m_build1 tabs (us := [.slice a xs.length c]) rfl rfl rfl rfl (by decide) rfl (fun g2 hg2 => ?_))
        refine c_nil (x_one (h_keep (fun w c => by exact c.drop.drop) ?_))
        refine h_only 6 rfl kr ?_
        first | (refine m_apps tabs (us := []) (us' := usa) (m' := 0 + usa.length) rfl rfl rfl rfl rfl h1a (by simp) (by simp; omega) (by decide) (fun w c => c.front (i := 1) rfl) (named_src hsa hca) (fun a3 c3 => ?_)) | (refine m_apps tabs (us := [] ++ usa) (us' := [.slice a xs.length c]) (m' := 0 + usa.length + 1) rfl rfl rfl rfl rfl (by simp [Value.oneCell']) (by simp) (by simp; omega) (by decide) (fun w c => c) (fun w c => .inr ⟨_, rfl, fun j u hj => by match j, hj with | 0, hj => (simp at hj; subst hj; exact hc_blk 1 rfl rfl w c) | j + 1, hj => simp at hj⟩) (fun a4 c4 => ?_)) | (refine m_call (ent_of Tryz.func41 kr rfl) rfl rfl (fun w c => l5Span_ok (rd_one (e' := 43) 0 rfl (by simp) c (c.rdC rA) (c.rd hr)) hF (hl.app hone) (by simp; omega) om) ?_; rintro v H' ⟨a', c', rfl, hs, rfl⟩)
        refine c_nil (x_one (h_keep (fun w c => by exact c.drop.drop) ?_))
        refine h_only 9 rfl kr ?_
        first | (refine m_apps tabs (us := []) (us' := usa) (m' := 0 + usa.length) rfl rfl rfl rfl rfl h1a (by simp) (by simp; omega) (by decide) (fun w c => c.front (i := 1) rfl) (named_src hsa hca) (fun a3 c3 => ?_)) | (refine m_apps tabs (us := [] ++ usa) (us' := [.slice a xs.length c]) (m' := 0 + usa.length + 1) rfl rfl rfl rfl rfl (by simp [Value.oneCell']) (by simp) (by simp; omega) (by decide) (fun w c => c) (fun w c => .inr ⟨_, rfl, fun j u hj => by match j, hj with | 0, hj => (simp at hj; subst hj; exact hc_blk 1 rfl rfl w c) | j + 1, hj => simp at hj⟩) (fun a4 c4 => ?_)) | (refine m_call (ent_of Tryz.func41 kr rfl) rfl rfl (fun w c => l5Span_ok (rd_one (e' := 43) 0 rfl (by simp) c (c.rdC rA) (c.rd hr)) hF (hl.app hone) (by simp; omega) om) ?_; rintro v H' ⟨a', c', rfl, hs, rfl⟩)
        refine c_nil (x_one (h_keep (fun w c => by exact c.drop.drop) ?_))
        refine h_only 10 rfl kr ?_
        first | (refine m_apps tabs (us := []) (us' := usa) (m' := 0 + usa.length) rfl rfl rfl rfl rfl h1a (by simp) (by simp; omega) (by decide) (fun w c => c.front (i := 1) rfl) (named_src hsa hca) (fun a3 c3 => ?_)) | (refine m_apps tabs (us := [] ++ usa) (us' := [.slice a xs.length c]) (m' := 0 + usa.length + 1) rfl rfl rfl rfl rfl (by simp [Value.oneCell']) (by simp) (by simp; omega) (by decide) (fun w c => c) (fun w c => .inr ⟨_, rfl, fun j u hj => by match j, hj with | 0, hj => (simp at hj; subst hj; exact hc_blk 1 rfl rfl w c) | j + 1, hj => simp at hj⟩) (fun a4 c4 => ?_)) | (refine m_call (ent_of Tryz.func41 kr rfl) rfl rfl (fun w c => l5Span_ok (rd_one (e' := 43) 0 rfl (by simp) c (c.rdC rA) (c.rd hr)) hF (hl.app hone) (by simp; omega) om) ?_; rintro v H' ⟨a', c', rfl, hs, rfl⟩)
        refine c_nil (x_one (h_keep sS ?_))
        refine h_take 11 rfl kr kr kr (by exact y_fld (fld_sp _ _ _ _) rfl) rfl sS ?_
        refine h_take 12 rfl kr kr kr (by exact y_len tabs rfl rfl) rfl sS ?_
        refine h_take 16 rfl kr kr kr (by exact y_eql rfl rfl) rfl sS ?_
        refine h_take 17 rfl kr kr kr (by exact y_assign rfl) rfl sS ?_
        refine h_end kr ?_
        repeat' (first | (show oC; refine c_ret ?_) | (show AT _ _ _ _; refine x_then ?_))
        rw [hfin]
        exact x_ret1 Tryz.results29 (res_tmp rfl) (fun w' c' => ⟨_, _, rfl, ⟨rfl, rfl⟩, c'.sub (List.nil_sublist _)⟩)
    · (refine m_build1 tabs (us := [.slice a xs.length c]) rfl rfl rfl rfl (by decide) rfl (fun g2 hg2 => ?_))
      refine c_nil (x_one (h_keep (fun w c => by exact c.drop) ?_))
      refine h_only 3 rfl kr ?_
      first | (refine m_build0 tabs rfl rfl (fun gb hgb => ?_)) | (refine m_apps tabs (us := []) (us' := usa) (m' := 0 + usa.length) rfl rfl rfl rfl rfl h1a (by simp) (by simp; omega) (by decide) (fun w c => c) (named_src hsa hca) (fun a3 c3 => ?_)) | (refine m_apps tabs (us := [] ++ usa) (us' := [.slice a xs.length c]) (m' := 0 + usa.length + 1) rfl rfl rfl rfl rfl (by simp [Value.oneCell']) (by simp) (by simp; omega) (by decide) (fun w c => c) (fun w c => .inr ⟨_, rfl, fun j u hj => by match j, hj with | 0, hj => (simp at hj; subst hj; exact hc_blk 1 rfl rfl w c) | j + 1, hj => simp at hj⟩) (fun a4 c4 => ?_)) | (refine m_call (ent_of Tryz.func41 kr rfl) rfl rfl (fun w c => l5Span_ok (rd_one (e' := 43) 0 rfl (by simp) c (c.rdC rA) (c.rd hr)) hF (hl.app hone) (by simp; omega) om) ?_; rintro v H' ⟨a', c', rfl, hs, rfl⟩)
      refine c_nil (x_one (h_keep (fun w c => by exact c.drop.drop) ?_))
      refine h_only 6 rfl kr ?_
      first | (refine m_build0 tabs rfl rfl (fun gb hgb => ?_)) | (refine m_apps tabs (us := []) (us' := usa) (m' := 0 + usa.length) rfl rfl rfl rfl rfl h1a (by simp) (by simp; omega) (by decide) (fun w c => c) (named_src hsa hca) (fun a3 c3 => ?_)) | (refine m_apps tabs (us := [] ++ usa) (us' := [.slice a xs.length c]) (m' := 0 + usa.length + 1) rfl rfl rfl rfl rfl (by simp [Value.oneCell']) (by simp) (by simp; omega) (by decide) (fun w c => c) (fun w c => .inr ⟨_, rfl, fun j u hj => by match j, hj with | 0, hj => (simp at hj; subst hj; exact hc_blk 1 rfl rfl w c) | j + 1, hj => simp at hj⟩) (fun a4 c4 => ?_)) | (refine m_call (ent_of Tryz.func41 kr rfl) rfl rfl (fun w c => l5Span_ok (rd_one (e' := 43) 0 rfl (by simp) c (c.rdC rA) (c.rd hr)) hF (hl.app hone) (by simp; omega) om) ?_; rintro v H' ⟨a', c', rfl, hs, rfl⟩)
      refine c_nil (x_one (h_keep (fun w c => by exact c.drop.drop) ?_))
      refine h_only 9 rfl kr ?_
      first | (refine m_build0 tabs rfl rfl (fun gb hgb => ?_)) | (refine m_apps tabs (us := []) (us' := usa) (m' := 0 + usa.length) rfl rfl rfl rfl rfl h1a (by simp) (by simp; omega) (by decide) (fun w c => c) (named_src hsa hca) (fun a3 c3 => ?_)) | (refine m_apps tabs (us := [] ++ usa) (us' := [.slice a xs.length c]) (m' := 0 + usa.length + 1) rfl rfl rfl rfl rfl (by simp [Value.oneCell']) (by simp) (by simp; omega) (by decide) (fun w c => c) (fun w c => .inr ⟨_, rfl, fun j u hj => by match j, hj with | 0, hj => (simp at hj; subst hj; exact hc_blk 1 rfl rfl w c) | j + 1, hj => simp at hj⟩) (fun a4 c4 => ?_)) | (refine m_call (ent_of Tryz.func41 kr rfl) rfl rfl (fun w c => l5Span_ok (rd_one (e' := 43) 0 rfl (by simp) c (c.rdC rA) (c.rd hr)) hF (hl.app hone) (by simp; omega) om) ?_; rintro v H' ⟨a', c', rfl, hs, rfl⟩)
      refine c_nil (x_one (h_keep (fun w c => by exact c.drop.drop) ?_))
      refine h_only 10 rfl kr ?_
      first | (refine m_build0 tabs rfl rfl (fun gb hgb => ?_)) | (refine m_apps tabs (us := []) (us' := usa) (m' := 0 + usa.length) rfl rfl rfl rfl rfl h1a (by simp) (by simp; omega) (by decide) (fun w c => c) (named_src hsa hca) (fun a3 c3 => ?_)) | (refine m_apps tabs (us := [] ++ usa) (us' := [.slice a xs.length c]) (m' := 0 + usa.length + 1) rfl rfl rfl rfl rfl (by simp [Value.oneCell']) (by simp) (by simp; omega) (by decide) (fun w c => c) (fun w c => .inr ⟨_, rfl, fun j u hj => by match j, hj with | 0, hj => (simp at hj; subst hj; exact hc_blk 1 rfl rfl w c) | j + 1, hj => simp at hj⟩) (fun a4 c4 => ?_)) | (refine m_call (ent_of Tryz.func41 kr rfl) rfl rfl (fun w c => l5Span_ok (rd_one (e' := 43) 0 rfl (by simp) c (c.rdC rA) (c.rd hr)) hF (hl.app hone) (by simp; omega) om) ?_; rintro v H' ⟨a', c', rfl, hs, rfl⟩)
      refine c_nil (x_one (h_keep sS ?_))
      refine h_take 11 rfl kr kr kr (by exact y_fld (fld_sp _ _ _ _) rfl) rfl sS ?_
      refine h_take 12 rfl kr kr kr (by exact y_len tabs rfl rfl) rfl sS ?_
      refine h_take 16 rfl kr kr kr (by exact y_eql rfl rfl) rfl sS ?_
      refine h_take 17 rfl kr kr kr (by exact y_assign rfl) rfl sS ?_
      refine h_end kr ?_
      repeat' (first | (show oC; refine c_ret ?_) | (show AT _ _ _ _; refine x_then ?_))
      rw [hfin]
      exact x_ret1 Tryz.results29 (res_tmp rfl) (fun w' c' => ⟨_, _, rfl, ⟨rfl, rfl⟩, c'.sub (List.nil_sublist _)⟩)
  · have hno : ¬ InsP p s xs := fun h => hA ⟨h.1, h.2.1, h.2.2.1⟩
    rw [decide_eq_false hno]
    have hcs : ¬ SpcP p s ∨ (SpcP p s ∧ ¬ VecP p xs) ∨ (SpcP p s ∧ VecP p xs ∧ ¬ (xs.length : Int) = s.1) := by grind
    refine fn_enter Tryz.func29 rfl Tryz.ntmps29 rfl ?_
    rcases hcs with h1 | ⟨h1, h2⟩ | ⟨h1, h2, h3⟩
    all_goals
      repeat' (first | (show oL; first | refine sMv rfl rfl ?_ | refine sAs rfl rfl ?_ | refine sFd tabs rfl rfl rfl rfl ?_ | (show oA (.load _ _); first | refine sLd 0 tabs rfl rfl rfl rfl rfl ?_ | refine sLb 0 tabs rfl rfl rfl rfl rfl ?_) | (show oA (.binOp _ _ _ _ _); refine st_y (y_neq rfl rfl) rfl ?_) | (show oA (.unOp _ _ _); refine st_y (y_notd rfl) rfl ?_) | (show oA (.call _); first | (refine m_call (ent_of Tryz.func32 kr rfl) rfl rfl (fun w c => spec_IsSpace_ok (s := s) (c.rd hu)) ?_; rintro v H' ⟨rfl, rfl⟩) | (refine m_call (ent_of Tryz.func69 kr rfl) rfl rfl (fun w c => spec_IsVector_ok (c.rd hr)) ?_; rintro v H' ⟨rfl, rfl⟩) | refine sLn tabs rfl rfl rfl ?_) | (show oA (.pick _ _ _); first | refine st_y (y_pickt rfl aS rfl) rfl ?_ | refine st_y (y_pickf rfl aS rfl) rfl ?_ | refine st_y (y_pick rfl rfl rfl) rfl ?_) | (show oA (.box _ _); refine m_box rfl rfl (fun bq hbq => ?_)) | refine st_gn rfl rfl rfl ?_ | refine st_gfy rfl rfl aS ?_ | refine st_gfn rfl rfl aS rfl ?_ | refine st_gd rfl rfl (fun h => ?_) (fun h => ?_)) | refine xNt ?_ | (show oC; first | refine c_seq ?_ | refine c_region ?_ | refine c_ret ?_ | refine c_true rfl ?_ | refine c_ift rfl aO ?_) | (show AT _ _ _ _; refine x_then_ret ?_))
    all_goals exact x_ret1 Tryz.results29 (res_tmp rfl) (fun w' c' => ⟨_, _, rfl, ⟨rfl, rfl⟩, c'.sub (List.nil_sublist _)⟩)
theorem isWithin1_ok {w : World} {p : Int} {C : Nat} {s : Sp} {xs : List Int} {u v : Value} {bb bp : Nat} (hb0 : w.cell? ⟨bb, 0, none⟩ = some (iV s.1)) (hb1 : w.cell? ⟨bb, 0 + 1, none⟩ = some u) (hbp : w.cell? ⟨bp, 0, none⟩ = some (iV p)) (hu : Rd w (rowsT 43 s.2) u) (hr : Rd w (iT xs) v) (hs : SpcP p s) (hc : s.1 = C) (hx : xs.length = C) (hxi : InP 0 (p - 1) xs) :
    Does Tryz.prog 85 [v, .pointer (some ⟨bb, 0, none⟩), .pointer (some ⟨bp, 0, none⟩)] w (fun r H => r = .bool (decide (¬ rkL p C (s.2 ++ [xs]) = s.2.length)) ∧ H = []) := by
  refine fn_enter Tryz.func85 rfl Tryz.ntmps85 rfl ?_
  repeat' (first | (show oL; first | refine sMv rfl rfl ?_ | refine sAs rfl rfl ?_ | (show oA (.load _ _); first | refine st_y (y_load2 tabs rfl rfl (hc_w0 hb0) (hc_w0 hb1)) rfl ?_ | refine st_y (y_load tabs rfl rfl (hc_w0 hbp)) rfl ?_) | (show oA (.unOp _ _ _); refine st_y (y_notd rfl) rfl ?_) | (show oA (.call _); (refine m_call (ent_of Tryz.func68 kr rfl) rfl rfl (fun w c => has_ok (C := C) (c.rd hu) (c.rd hr) hs hc hx hxi) ?_; rintro v H' ⟨rfl, rfl⟩))) | refine xNt ?_ | (show oC; first | refine c_seq ?_ | refine c_region ?_ | refine c_ret ?_))
  refine x_ret1 Tryz.results85 (res_tmp rfl) (fun w' c' => ⟨_, _, rfl, ⟨?_, rfl⟩, c'⟩)
  rw [decide_not]
def WthP (p : Int) (a b : Sp) : Prop := SumP p a b ∧ rkL p a.1.toNat (a.2 ++ b.2) = b.2.length
instance (p : Int) (a b : Sp) : Decidable (WthP p a b) := by unfold WthP; infer_instance
theorem within_iff {p : Int} {C : Nat} {A : List (List Int)} {b : Sp} (hb : SpcP p b) (hc : b.1 = C) (hA : RowsP p C A) : (∀ x ∈ A, rkL p C (b.2 ++ [x]) = b.2.length) ↔ rkL p C (A ++ b.2) = b.2.length := by
  obtain ⟨C', hc', hC, hl, hF, hn8, hk, hg⟩ := hb.rows
  have : C' = C := by omega
  subst this
  have h1 := rk_join (p := p) (C := C') (A := A) (B := b.2) (M := A ++ b.2) hF (hA.app hl) hl (fun x h => List.mem_append.1 h) (fun x h => by simp [h]) (fun x h => by simp [h])
  rw [hk] at h1
  rw [h1]
  have h2 := fun x (hx : x ∈ A) => by
    have hone : RowsP p C' [x] := fun y hy => by simp at hy; subst hy; exact hA _ hx
    have := rk_join (p := p) (C := C') (A := [x]) (B := b.2) (M := b.2 ++ [x]) hF (hl.app hone) hl (fun x h => by simp at h ⊢; exact h.symm) (fun x h => by simp at h ⊢; exact .inr h) (fun x h => by simp [h])
    rw [hk] at this
    exact this
  refine ⟨fun h x hx => ?_, fun h x hx => ?_⟩
  · exact (h2 x hx).1 (h x hx) x (by simp)
  · exact (h2 x hx).2 (fun y hy => by simp at hy; subst hy; exact h _ hx)
theorem isWithin_ok {w : World} {p : Int} {C : Nat} {n : Int} {A : List (List Int)} {b : Sp} {u v : Value} (hu : Rd w (rowsT 43 A) u) (hv : Rd w (rowsT 43 b.2) v) (hA : RowsP p C A) (hb : SpcP p b) (hc : b.1 = C) : Does Tryz.prog 44 [iV p, .agg #[iV n, u], .agg #[iV b.1, v]] w (fun r H => r = .bool (decide (rkL p C (A ++ b.2) = b.2.length)) ∧ H = []) := by
  refine fn_enter Tryz.func44 rfl Tryz.ntmps44 rfl ?_
  repeat' (first | (show oL; first | refine sAs rfl rfl ?_ | refine sFd tabs rfl rfl rfl rfl ?_ | refine sLd 1 tabs rfl rfl rfl rfl rfl ?_ | (show oA (.unOp _ _ _); refine st_y (y_notd rfl) rfl ?_) | (show oA (.call _); (refine m_call (ent_of Tryz.func84 kr rfl) rfl rfl (fun w c => ContainsFuncR_ok (p := fun xs => ¬ rkL p C (b.2 ++ [xs]) = b.2.length) (c.rd hu) (ent_of Tryz.func85 kr rfl) (fun w' xs u hm hu' c' => isWithin1_ok (s := b) (C := C) (c'.cell (hc_blk 0 rfl rfl w c)) (c'.cell (hc_blk 0 rfl rfl w c)) (c'.cell (hc_blk 2 rfl rfl w c)) (c'.rd (c.rd hv)) hu' hb hc (hA xs hm).1 (hA xs hm).2)) ?_; rintro v H' ⟨rfl, rfl⟩)) | (show oA (.makeFunc _ _ _); refine st_y (y_fn rfl rfl) rfl ?_) | (show oA (.box _ _); refine m_box rfl rfl (fun bq hbq => ?_))) | refine xNt ?_ | (show oC; first | refine c_seq ?_ | refine c_region ?_ | refine c_ret ?_))
  refine x_ret1 Tryz.results44 (res_tmp rfl) (fun w' c' => ⟨_, _, rfl, ⟨congrArg Value.bool ?_, rfl⟩, c'.sub (List.nil_sublist _)⟩)
  refine decide_eq_decide.2 ?_
  rw [← within_iff hb hc hA]
  simp
theorem impl_IsWithin_ok {w : World} {p : Int} {a b : Sp} {u v : Value} (hu : Rd w (rowsT 43 a.2) u) (hv : Rd w (rowsT 43 b.2) v) : Does Tryz.prog 11 [iV p, .agg #[iV a.1, u], .agg #[iV b.1, v]] w (fun r H => r = .bool (decide (WthP p a b)) ∧ H = []) := by
  by_cases hA : SumP p a b
  · have hA' : SpcP p a ∧ SpcP p b ∧ a.1 = b.1 := hA
    obtain ⟨C, hc, hC, hl, hF, hn, _⟩ := hA.1.rows
    have hcn : a.1.toNat = C := by omega
    refine fn_enter Tryz.func11 rfl Tryz.ntmps11 rfl ?_
    repeat' (first | (show oL; first | refine sMv rfl rfl ?_ | refine sAs rfl rfl ?_ | (show oA (.load _ _); first | refine sLb 0 tabs rfl rfl rfl rfl rfl ?_ | refine sLb 1 tabs rfl rfl rfl rfl rfl ?_) | (show oA (.call _); first | (refine m_call (ent_of Tryz.func35 kr rfl) rfl rfl (fun w c => areSpaces_ok (a := a) (b := b) (c.rd hu) (c.rd hv)) ?_; rintro v H' ⟨rfl, rfl⟩) | (refine m_call (ent_of Tryz.func44 kr rfl) rfl rfl (fun w c => isWithin_ok (C := C) (b := b) (c.rd hu) (c.rd hv) hl hA.2.1 (by rw [← hA.2.2]; exact hc)) ?_; rintro v H' ⟨rfl, rfl⟩)) | (show oA (.pick _ _ _); refine st_y (y_pickt rfl aS rfl) rfl ?_) | (show oA (.box _ _); refine m_box rfl rfl (fun bq hbq => ?_)) | refine st_gdy rfl rfl aS ?_) | refine xNt ?_ | (show oC; first | refine c_seq ?_ | refine c_region ?_ | refine c_ret ?_))
    all_goals first | exact absurd hA' aS | skip
    refine x_ret1 Tryz.results11 (res_tmp rfl) (fun w' c' => ⟨_, _, rfl, ⟨congrArg Value.bool (decide_eq_decide.2 ?_), rfl⟩, c'.sub (List.nil_sublist _)⟩)
    simp [WthP, hA, hcn]
  · have hno : ¬ WthP p a b := fun h => hA h.1
    have hA' : ¬ (SpcP p a ∧ SpcP p b ∧ a.1 = b.1) := hA
    rw [decide_eq_false hno]
    refine fn_enter Tryz.func11 rfl Tryz.ntmps11 rfl ?_
    repeat' (first | (show oL; first | refine sMv rfl rfl ?_ | refine sAs rfl rfl ?_ | (show oA (.load _ _); first | refine sLb 0 tabs rfl rfl rfl rfl rfl ?_ | refine sLb 1 tabs rfl rfl rfl rfl rfl ?_) | (show oA (.call _); (refine m_call (ent_of Tryz.func35 kr rfl) rfl rfl (fun w c => areSpaces_ok (a := a) (b := b) (c.rd hu) (c.rd hv)) ?_; rintro v H' ⟨rfl, rfl⟩)) | (show oA (.pick _ _ _); refine st_y (y_pickf rfl aS rfl) rfl ?_) | (show oA (.box _ _); refine m_box rfl rfl (fun bq hbq => ?_)) | refine st_gdn rfl rfl aS rfl ?_) | refine xNt ?_ | (show oC; first | refine c_seq ?_ | refine c_region ?_ | refine c_ret ?_))
    all_goals first | exact absurd aS hA' | skip
    exact x_ret1 Tryz.results11 (res_tmp rfl) (fun w' c' => ⟨_, _, rfl, ⟨rfl, rfl⟩, c'.sub (List.nil_sublist _)⟩)
theorem spec_IsWithin_ok {w : World} {p : Int} {a b : Sp} {u v : Value} (hu : Rd w (rowsT 43 a.2) u) (hv : Rd w (rowsT 43 b.2) v) : Does Tryz.prog 30 [iV p, .agg #[iV a.1, u], .agg #[iV b.1, v]] w (fun r H => r = .bool (decide (WthP p a b)) ∧ H = []) := by
  obtain ⟨av, cv, rfl, _⟩ := rd_rows hv
  refine fn_enter Tryz.func30 rfl Tryz.ntmps30 rfl ?_
  repeat' (first | (show oL; first | refine sMv rfl rfl ?_ | refine sAs rfl rfl ?_ | refine sFd tabs rfl rfl rfl rfl ?_ | (show oA (.load _ _); first | refine sLb 0 tabs rfl rfl rfl rfl rfl ?_ | refine sLb 1 tabs rfl rfl rfl rfl rfl ?_ | refine sLd 0 tabs rfl rfl rfl rfl rfl ?_ | refine sLd 2 tabs rfl rfl rfl rfl rfl ?_) | (show oA (.binOp _ _ _ _ _); refine st_y (y_eql rfl rfl) rfl ?_) | (show oA (.call _); first | (refine m_call (ent_of Tryz.func9 kr rfl) rfl rfl (fun w c => spec_AddSpaces_ok (a := a) (b := b) (c.rd hu) (c.rd hv)) ?_; rintro v H' ⟨a', c', rfl, hs, rfl⟩) | refine sLn tabs rfl rfl rfl ?_) | (show oA (.extract _ _); refine st_y (y_ext rfl rfl) rfl ?_) | (show oA (.pick _ _ _); first | refine st_y (y_pickt rfl aS rfl) rfl ?_ | refine st_y (y_pickf rfl aS rfl) rfl ?_) | (show oA (.store _ _ _); refine m_storeb 0 tabs rfl rfl rfl rfl rfl rfl rfl ?_) | (show oA (.box _ _); refine m_box rfl rfl (fun bq hbq => ?_)) | (show oA (.alloc _); refine m_alloc tabs rfl rfl (fun b7 hb7 => ?_)) | refine st_gdy rfl rfl aS ?_ | refine st_gdn rfl rfl aS rfl ?_ | refine st_gd rfl rfl (fun h => ?_) (fun h => ?_)) | refine xNt ?_ | (show oC; first | refine c_seq ?_ | refine c_region ?_ | refine c_ret ?_))
  · refine x_ret1 Tryz.results30 (res_tmp rfl) (fun w' c' => ⟨_, _, rfl, ⟨congrArg Value.bool (decide_eq_decide.2 ?_), rfl⟩, c'.sub (List.nil_sublist _)⟩)
    have hA : SumP p a b := by assumption
    simp only [WthP, sumS, if_pos hA, basL_len]
    exact ⟨fun h => ⟨hA, by omega⟩, fun h => by have := h.2; omega⟩
  · refine x_ret1 Tryz.results30 (res_tmp rfl) (fun w' c' => ⟨_, _, rfl, ⟨congrArg Value.bool ?_, rfl⟩, c'.sub (List.nil_sublist _)⟩)
    have hA : ¬ SumP p a b := by assumption
    simp [WthP, hA]
end Go.Proofs.YtcplmeajmpkpkaaGreat
