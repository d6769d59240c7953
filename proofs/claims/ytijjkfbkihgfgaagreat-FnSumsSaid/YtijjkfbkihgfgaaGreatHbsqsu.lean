import Derived.Test.YtijjkfbkihgfgaaGreatFitqsu
import Derived.Test.YtijjkfbkihgfgaaGreatHmbqsu
import Derived.Test.YtijjkfbkihgfgaaGreatHomqsu
import Derived.Test.YtijjkfbkihgfgaaGreatMxfqsu
namespace Go.Proofs.YtijjkfbkihgfgaaGreat
open Go.Lg Go.Proofs Go.RowKit
attribute [local irreducible] Code.wp wpList bodyPost Exit.then Exit.inBlock Hp Again Calls Y AT ResV QT Qn QI wpAny wpAnyQ
set_option maxRecDepth 20000
set_option maxHeartbeats 4000000

def czM (a b : Rp) (i : Nat) : Mat := ((dN b.d (a.q.2.2.getD i 0) : Nat), (dN a.d (a.q.2.1.getD i 0) : Nat), mk (dN b.d (a.q.2.2.getD i 0)) (dN a.d (a.q.2.1.getD i 0)) (fun _ _ => 0))
theorem tabM_succ {F : Nat → Mat} {n : Nat} : tabM F (n + 1) = tabM F n ++ [F n] := by simp [tabM, List.range_succ]
theorem cz_flat {a b : Rp} : ∀ n, (flatL (tabM (czM a b) n)).length = (idxN a b n).length
  | 0 => rfl
  | n + 1 => by
    have ih := cz_flat (a := a) (b := b) n
    rw [tabM_succ, flatL, List.flatMap_append, List.length_append, idxN_succ, List.length_append, rowsI_length, ← ih]
    simp [czM, flatL]
theorem zn_flat {da db : List Int} : ∀ n, (flatL (znMs da db n)).length = offN da db n
  | 0 => rfl
  | n + 1 => by
    have ih := zn_flat (da := da) (db := db) n
    have e : znMs da db (n + 1) = znMs da db n ++ [znM da db n] := by simp [znMs, List.range_succ]
    rw [e, flatL, List.flatMap_append, List.length_append, offN, ← ih]
    simp [znM, flatL, szV, Nat.mul_comm]
theorem cz_at {a b : Rp} {i : Nat} (hF : FitP a b) (hi : i < a.q.2.1.length) : ∃ (s t x z : Nat), a.q.2.1.getD i 0 = s ∧ a.q.2.2.getD i 0 = t ∧ s < a.d.length ∧ t < b.d.length ∧ t < a.d.length ∧ i < a.q.2.2.length ∧ a.d.getD s 0 = z ∧ b.d.getD t 0 = x ∧ x ≤ 4 ∧ z ≤ 4 ∧ dN b.d (a.q.2.2.getD i 0) = x ∧ dN a.d (a.q.2.1.getD i 0) = z ∧ czM a b i = ((x : Int), (z : Int), mk x z (fun _ _ => 0)) := by
  have hQ := hF.1.2.1.1
  have hs := inP_get hQ.2.2.2.1 (i := i) hi
  have ht := inP_get hQ.2.2.2.2 (i := i) (by have := hQ.2.2.1; omega)
  have hdl := hF.1.2.1.2.1
  have hl := hF.dl
  have d1 := hF.1.dg (a.q.2.1.getD i 0).toNat
  have d2 := hF.2.1.dg (a.q.2.2.getD i 0).toNat
  refine ⟨(a.q.2.1.getD i 0).toNat, (a.q.2.2.getD i 0).toNat, dN b.d (a.q.2.2.getD i 0), dN a.d (a.q.2.1.getD i 0), by omega, by omega, by omega, by omega, by omega, by have := hQ.2.2.1; omega, by unfold dN; omega, by unfold dN; omega, by unfold dN; omega, by unfold dN; omega, rfl, rfl, rfl⟩
theorem cocycleZeros_ok {w : World} {a b : Rp} {u0 u1 u2 u3 v0 v1 v2 v3 : Value} (h0 : Rd w (iT a.q.2.1) u0) (h1 : Rd w (iT a.q.2.2) u1) (h2 : Rd w (iT a.d) u2) (k2 : Rd w (iT b.d) v2) (hF : FitP a b) :
    Does Tryz.prog 271 [.agg #[iV a.p, iV a.q.1, u0, u1, u2, u3], .agg #[iV b.p, iV b.q.1, v0, v1, v2, v3]] w (GivesMs (tabM (czM a b) a.q.2.1.length)) := by
  obtain ⟨a0, c0, rfl, hs0, _, _, hg0⟩ := h0.ints
  obtain ⟨a1, c1, rfl, hs1, _, _, hg1⟩ := h1.ints
  obtain ⟨a2, c2, rfl, hs2, _, _, hg2⟩ := h2.ints
  obtain ⟨d2, f2, rfl, hk2, _, _, hh2⟩ := k2.ints
  have hql := hF.1.2.1.1.2.1
  refine fn_enter Tryz.func271 rfl Tryz.ntmps271 rfl ?_
  repeat' (first | (show oL; first | refine sMv rfl rfl ?_ | refine sAs rfl rfl ?_ | refine sFd tabs rfl rfl rfl rfl ?_ | refine sLd 1 tabs rfl rfl rfl rfl rfl ?_ | refine sLn tabs rfl rfl rfl ?_ | (show oA (.box _ _); refine m_box rfl rfl (fun b4 hb4 => ?_))) | refine xNt ?_ | (show oC; first | refine c_seq ?_ | refine c_region ?_ | refine c_block ?_))
  rename_i b3 hb3
  refine c_loopH (α := Nat × Option Addr × Nat) [2, 3, 10, 11] (fun s => [(5, .slice s.2.1 s.1 s.2.2), (12, .int .i64 s.1)]) (fun s => s.1 ≤ a.q.2.1.length) (fun s => [.own (matsT 47 (tabM (czM a b) s.1)) (.slice s.2.1 s.1 s.2.2), .blk b4 #[iV b.p, iV b.q.1, v0, v1, .slice d2 b.d.length f2, v3] 60, .blk b3 #[iV a.p, iV a.q.1, .slice a0 a.q.2.1.length c0, .slice a1 a.q.2.2.length c1, .slice a2 a.d.length c2, u3] 60]) (fun s => a.q.2.1.length - s.1) (0, none, 0) rfl sB ?_ ?_ ?_
  · exact Nat.zero_le _
  · exact fun w' c' => Hp.nilp _ _ c'
  · rintro ⟨i, al, cl⟩ hi
    simp only at hi ⊢
    by_cases hin : i < a.q.2.1.length
    · obtain ⟨s, t, x, z, es, et, hsl, htl, htl', hiT, ez, ex, hx, hz, _, _, hM⟩ := cz_at hF hin
      have gF := hg0 i hin
      rw [es] at gF
      have gT := hg1 i hiT
      rw [et] at gT
      have gA := hg2 s hsl
      rw [ez] at gA
      have gB := hh2 t htl
      rw [ex] at gB
      repeat' (first | (show oL; first | refine sMv rfl rfl ?_ | refine sAs rfl rfl ?_ | (show oA (.load _ _); refine st_y (y_load tabs rfl rfl (hc_w0 gF)) rfl ?_) | (show oA (.indexAddr _ _ _); refine st_y (y_ix1 tabs (j := i) rfl rfl rfl hs0 rfl hin) rfl ?_) | refine sLs rfl rfl rfl ?_) | refine xNt ?_ | (show oC; first | refine c_seq ?_ | refine c_region ?_ | refine c_skip (x_then ?_) | refine c_block ?_ | refine c_ift rfl aO ?_))
      refine c_all (Hp [] w [.blk b4 #[iV b.p, iV b.q.1, v0, v1, .slice d2 b.d.length f2, v3] 60, .blk b3 #[iV a.p, iV a.q.1, .slice a0 a.q.2.1.length c0, .slice a1 a.q.2.2.length c1, .slice a2 a.d.length c2, u3] 60]) kr (fun _ c => Hp.drew c) ?_
      refine h_take 0 rfl kr kr kr (by exact y_move rfl) rfl (fun w c => by exact c.drop) ?_
      refine h_take 1 rfl kr kr kr (by exact y_field tabs rfl rfl rfl) rfl (fun w c => by exact c.drop) ?_
      refine h_take 2 rfl kr kr kr (by exact y_load tabs rfl rfl (hc_blk 0 rfl rfl)) rfl (fun w c => by exact c.drop) ?_
      refine h_take 3 rfl kr kr kr (by exact y_field tabs rfl rfl rfl) rfl (fun w c => by exact c.drop) ?_
      refine h_take 4 rfl kr kr kr (by exact y_field tabs rfl rfl rfl) rfl (fun w c => by exact c.drop) ?_
      refine h_take 5 rfl kr kr kr (by exact y_load tabs rfl rfl (hc_blk 1 rfl rfl)) rfl (fun w c => by exact c.drop) ?_
      refine h_take 6 rfl kr kr kr (by exact y_move rfl) rfl (fun w c => by exact c.drop) ?_
      refine h_take 7 rfl kr kr kr (by exact y_ix1 tabs (j := i) rfl rfl rfl hs1 rfl hiT) rfl (fun w c => by exact c.drop) ?_
      refine h_take 8 rfl kr kr kr (by exact y_load tabs rfl rfl (hc_w0 gT)) rfl (fun w c => by exact c.drop) ?_
      refine h_take 9 rfl kr kr kr (by exact y_ix1 tabs (j := t) rfl rfl rfl hk2 rfl htl) rfl (fun w c => by exact c.drop) ?_
      refine h_take 10 rfl kr kr kr (by exact y_load tabs rfl rfl (hc_w0 gB)) rfl (fun w c => by exact c.drop) ?_
      refine h_take 11 rfl kr kr kr (by exact y_field tabs rfl rfl rfl) rfl (fun w c => by exact c.drop) ?_
      refine h_take 12 rfl kr kr kr (by exact y_load tabs rfl rfl (hc_blk 1 rfl rfl)) rfl (fun w c => by exact c.drop) ?_
      refine h_take 13 rfl kr kr kr (by exact y_move rfl) rfl (fun w c => by exact c.drop) ?_
      refine h_take 14 rfl kr kr kr (by exact y_ix1 tabs (j := s) rfl rfl rfl hs2 rfl hsl) rfl (fun w c => by exact c.drop) ?_
      refine h_take 15 rfl kr kr kr (by exact y_load tabs rfl rfl (hc_w0 gA)) rfl (fun w c => by exact c.drop) ?_
      refine h_only 16 rfl kr ?_
      first | (refine m_build1 tabs (us := [iV x, iV z, .slice a7 (x * z) c7]) rfl rfl rfl rfl (by decide) rfl (fun g5 hg5 => ?_)) | (refine m_call (ent_of Tryz.func231 kr rfl) rfl rfl (fun w c => zero_ok (R := x) (C := z) om om) ?_; rintro v H' ⟨a7, c7, rfl, hs7, rfl⟩) | (refine m_push1 [iV x, iV z] 0 0 tabs (m' := i) rfl rfl rfl rfl rfl rfl rfl (by rw [flatMap_length matT_length, tabM_length]) (by rw [flatMap_length matT_length, tabM_length]; omega) (by decide) rfl rfl (fun a10 c10 => ?_))
      refine c_nil (x_one (h_keep (fun w c => by exact c.drop.drop) ?_))
      refine h_only 17 rfl kr ?_
      first | (refine m_build1 tabs (us := [iV x, iV z, .slice a7 (x * z) c7]) rfl rfl rfl rfl (by decide) rfl (fun g5 hg5 => ?_)) | (refine m_call (ent_of Tryz.func231 kr rfl) rfl rfl (fun w c => zero_ok (R := x) (C := z) om om) ?_; rintro v H' ⟨a7, c7, rfl, hs7, rfl⟩) | (refine m_push1 [iV x, iV z] 0 0 tabs (m' := i) rfl rfl rfl rfl rfl rfl rfl (by rw [flatMap_length matT_length, tabM_length]) (by rw [flatMap_length matT_length, tabM_length]; omega) (by decide) rfl rfl (fun a10 c10 => ?_))
      refine c_nil (x_one (h_keep sS ?_))
      refine h_only 18 rfl kr ?_
      first | (refine m_build1 tabs (us := [iV x, iV z, .slice a7 (x * z) c7]) rfl rfl rfl rfl (by decide) rfl (fun g5 hg5 => ?_)) | (refine m_call (ent_of Tryz.func231 kr rfl) rfl rfl (fun w c => zero_ok (R := x) (C := z) om om) ?_; rintro v H' ⟨a7, c7, rfl, hs7, rfl⟩) | (refine m_push1 [iV x, iV z] 0 0 tabs (m' := i) rfl rfl rfl rfl rfl rfl rfl (by rw [flatMap_length matT_length, tabM_length]) (by rw [flatMap_length matT_length, tabM_length]; omega) (by decide) rfl rfl (fun a10 c10 => ?_))
      refine c_nil (x_one (h_keep (fun w c => by exact c.drop) ?_))
      refine h_take 19 rfl kr kr kr (by exact y_assign rfl) rfl (fun w c => by exact c.drop) ?_
      refine h_end kr ?_
      repeat' (first | (show oL; first | refine sMv rfl rfl ?_ | refine sAd rfl rfl om rfl ?_) | refine xNt ?_ | (show oC; refine c_region ?_) | (show AT _ _ _ _; first | refine x_then ?_ | refine x_blk ?_))
      refine x_nx (i + 1, a10, c10) sB (by simp only; omega) (fun w' c' => ?_) (by simp only; omega)
      rw [tabM_next hM] at c'
      exact c'
    · have : i = a.q.2.1.length := by omega
      subst this
      refine AT.fact (mats_sl 0 rfl) (fun hsl => ?_)
      rw [tabM_length] at hsl
      repeat' (first | (show oL; first | refine sMv rfl rfl ?_ | refine sAs rfl rfl ?_ | refine sLs rfl rfl rfl ?_) | refine xNt ?_ | (show oC; first | refine c_seq ?_ | refine c_region ?_ | refine c_ret ?_ | refine c_exit ?_ | refine c_iff rfl nN ?_) | (show AT _ _ _ _; first | refine x_then ?_ | refine x_then_exit ?_ | refine x_blk_exit rfl ?_))
      exact x_ret1 Tryz.results271 (res_tmp rfl) (fun w' c' => ⟨_, _, rfl, ⟨al, cl, by rw [tabM_length], by rw [tabM_length]; exact hsl, by rw [tabM_length]⟩, c'.sub (.cons_cons _ (List.nil_sublist _))⟩)
def bcol (a b : Rp) (c : Nat) : List Int := (idxN a b a.q.2.1.length).map (fun t => eqE a b t.1 t.2.1 t.2.2 c)
def bcols (a b : Rp) (n : Nat) : List (List Int) := (List.range n).map (bcol a b)
theorem bcols_length {a b : Rp} {n : Nat} : (bcols a b n).length = n := by simp [bcols]
theorem bcols_next {a b : Rp} {n : Nat} : (bcols a b n).flatMap rowT ++ (List.map T.c [] ++ [iT (bcol a b n)]) = (bcols a b (n + 1)).flatMap rowT := by simp [bcols, List.range_succ, rowT_map]
theorem bcol_length {a b : Rp} {c : Nat} : (bcol a b c).length = (idxN a b a.q.2.1.length).length := by simp [bcol]
theorem bcols_len {a b : Rp} {n : Nat} : ∀ (k : Nat) (xs : List Int), (bcols a b n)[k]? = some xs → xs.length = (idxN a b a.q.2.1.length).length := fun k xs h => by
  obtain ⟨i, _, rfl⟩ := List.mem_map.1 (List.mem_of_getElem? h)
  exact bcol_length
theorem bmat_eq {a b : Rp} {n : Nat} : mk (idxN a b a.q.2.1.length).length n (fromF (bcols a b n)) = mk (idxN a b a.q.2.1.length).length n (eqsF a b) := mk_ext (fun i j hi hj => by
  have e1 : (bcols a b n).getD j [] = bcol a b j := by simp [bcols, List.getD, hj]
  rw [fromF, e1, eqsF, bcol]
  simp [List.getD, hi])
theorem boundaries_ok {w : World} {a b : Rp} {e e' : Nat} {u0 u1 u2 u3 v0 v1 v2 v3 : Value} (h0 : Rd w (iT a.q.2.1) u0) (h1 : Rd w (iT a.q.2.2) u1) (h2 : Rd w (iT a.d) u2) (h3 : Rd w (matsT e a.m) u3) (k2 : Rd w (iT b.d) v2) (k3 : Rd w (matsT e' b.m) v3) (hF : FitP a b) :
    Does Tryz.prog 206 [.agg #[iV a.p, iV a.q.1, u0, u1, u2, u3], .agg #[iV b.p, iV b.q.1, v0, v1, v2, v3]] w (GivesK (idxN a b a.q.2.1.length).length (offN a.d b.d a.d.length) (eqsF a b)) := by
  have hp := fieldP_pos hF.1.1
  have hn := off_le hF
  have hI := idx_le hF
  have hdl := (RepP.dd hF.1).2
  have hzf := zn_flat (da := a.d) (db := b.d) a.d.length
  have hcf := cz_flat (a := a) (b := b) a.q.2.1.length
  obtain ⟨n, en⟩ : ∃ n, n = offN a.d b.d a.d.length := ⟨_, rfl⟩
  rw [← en] at hn hzf ⊢
  refine fn_enter Tryz.func206 rfl Tryz.ntmps206 rfl ?_
  repeat' (first | (show oL; first | refine sMv rfl rfl ?_ | refine sAs rfl rfl ?_ | (show oA (.load _ _); first | refine sLb 1 tabs rfl rfl rfl rfl rfl ?_ | refine sLb 2 tabs rfl rfl rfl rfl rfl ?_) | (show oA (.call _); first | (refine m_call (ent_of Tryz.func171 kr rfl) rfl rfl (fun w c => zeros_ok (a := a) (b := b) (c.rd h2) (c.rd k2) hF) ?_; rintro v H' ⟨az, cz, rfl, hsz, rfl⟩) | (refine m_call (ent_of Tryz.func209 kr rfl) rfl rfl (fun w c => flat_ok (c.own_rd (i := 0) rfl) om) ?_; rintro v H' ⟨af, cf, rfl, hsf, rfl⟩; rw [hzf]) | refine sLn tabs rfl rfl rfl ?_) | (show oA (.box _ _); refine m_box rfl rfl (fun b4 hb4 => ?_)) | (show oA (.alloc _); refine m_alloc tabs rfl rfl (fun b5 hb5 => ?_))) | refine xNt ?_ | (show oC; first | refine c_seq ?_ | refine c_region ?_ | refine c_block ?_))
  rename_i b3 hb3
  refine c_loopH (α := Nat × Option Addr × Nat) [2, 3, 4, 5, 6, 16] (fun s => [(7, .slice s.2.1 s.1 s.2.2), (17, .int .i64 s.1)]) (fun s => s.1 ≤ n) (fun s => [.own (rowsT 43 (bcols a b s.1)) (.slice s.2.1 s.1 s.2.2), .own (matsT 47 (znMs a.d b.d a.d.length)) (.slice az (znMs a.d b.d a.d.length).length cz), .blk b5 #[iV 0, iV 0, .slice none 0 0] 47, .blk b4 #[iV b.p, iV b.q.1, v0, v1, v2, v3] 60, .blk b3 #[iV a.p, iV a.q.1, u0, u1, u2, u3] 60]) (fun s => n - s.1) (0, none, 0) rfl sB ?_ ?_ ?_
  · exact Nat.zero_le _
  · exact fun w' c' => Hp.nilp _ _ (c'.sub sL)
  · rintro ⟨i, al, cl⟩ hi
    simp only at hi ⊢
    by_cases hin : i < n
    · have hlen : (mkv n (fun q => if q = i then 1 else 0)).length = n := mkv_length
      have hA : AreP a b (cutL a.d b.d (mkv n (fun q => if q = i then 1 else 0))) := cut_are hF (by rw [hlen, en]) (fun x hx => by
        simp only [mkv, List.mem_map, List.mem_range] at hx
        obtain ⟨q, _, rfl⟩ := hx
        split <;> omega)
      have hfl : flatL (cobN a b (cutL a.d b.d (mkv n (fun q => if q = i then 1 else 0))) a.q.2.1.length) = bcol a b i := cobN_flat hF en a.q.2.1.length (Nat.le_refl _)
      have hfc := bcol_length (a := a) (b := b) (c := i)
      repeat' (first | (show oL; first | refine sMv rfl rfl ?_ | refine sAs rfl rfl ?_ | (show oA (.indexAddr _ _ _); refine st_y (y_ix1 tabs (j := i) rfl rfl rfl .mk rfl hin) rfl ?_) | refine sLs rfl rfl rfl ?_ | (show oA (.store _ _ _); refine m_storeo 0 tabs rfl rfl rfl rfl (by rw [List.length_replicate]; exact hin) ?_) | (show oA (.makeSlice _ _ _); refine m_maken tabs (m := n) rfl rfl rfl rfl om rfl (fun gg hgg => ?_))) | refine xNt ?_ | (show oC; first | refine c_seq ?_ | refine c_region ?_ | refine c_skip (x_then ?_) | refine c_block ?_ | refine c_ift rfl aO ?_))
      refine c_all (Hp [] w [.blk b4 #[iV b.p, iV b.q.1, v0, v1, v2, v3] 60, .blk b3 #[iV a.p, iV a.q.1, u0, u1, u2, u3] 60]) kr (fun _ c => Hp.drew c) ?_
      refine h_take 0 rfl kr kr kr (by exact y_move rfl) rfl sS ?_
      refine h_take 1 rfl kr kr kr (by exact y_loadb 1 tabs rfl rfl rfl rfl) rfl sS ?_
      refine h_take 2 rfl kr kr kr (by exact y_loadb 0 tabs rfl rfl rfl rfl) rfl sS ?_
      refine h_take 3 rfl kr kr kr (by exact y_move rfl) rfl sS ?_
      refine h_take 4 rfl kr kr kr (by exact y_move rfl) rfl sS ?_
      refine h_only 5 rfl kr ?_
      first | (refine m_build1 tabs (us := [.slice a7 (bcol a b i).length c7]) rfl rfl rfl rfl (by decide) rfl (fun g2 hg2 => ?_)) | (refine m_call (ent_of Tryz.func269 kr rfl) rfl rfl (fun w c => shaped_ok (x := mkv n (fun q => if q = i then 1 else 0)) (c.own_rd (i := 2) rfl) (by have := c.own_rd (i := 0) rfl; simp only [mkv_zero, mkv_set] at this; exact this) (by rw [hlen, en]) om om) ?_; rintro v H' ⟨a5, c5, rfl, hs5, rfl⟩) | (refine m_call (ent_of Tryz.func154 kr rfl) rfl rfl (fun w c => coboundary_ok (a := a) (b := b) (c.rd h0) (c.rd h1) (c.rd h3) (c.rd k3) (c.own_rd (i := 0) rfl) hA) ?_; rintro v H' ⟨a6, c6, rfl, hs6, rfl⟩) | (refine m_call (ent_of Tryz.func209 kr rfl) rfl rfl (fun w c => by have h := flat_ok (c.own_rd (i := 0) rfl) (by rw [hfl]; omega); rw [hfl] at h; exact h) ?_; rintro v H' ⟨a7, c7, rfl, hs7, rfl⟩) | (refine m_push1 [] 3 0 tabs (m' := i) rfl rfl rfl rfl rfl rfl rfl (by simp [bcols, rowT_map]) (by simp [bcols, rowT_map]; omega) (by decide) rfl rfl (fun a3 c3 => ?_))
      refine c_nil (x_one (h_keep sS ?_))
      refine h_only 6 rfl kr ?_
      first | (refine m_build1 tabs (us := [.slice a7 (bcol a b i).length c7]) rfl rfl rfl rfl (by decide) rfl (fun g2 hg2 => ?_)) | (refine m_call (ent_of Tryz.func269 kr rfl) rfl rfl (fun w c => shaped_ok (x := mkv n (fun q => if q = i then 1 else 0)) (c.own_rd (i := 2) rfl) (by have := c.own_rd (i := 0) rfl; simp only [mkv_zero, mkv_set] at this; exact this) (by rw [hlen, en]) om om) ?_; rintro v H' ⟨a5, c5, rfl, hs5, rfl⟩) | (refine m_call (ent_of Tryz.func154 kr rfl) rfl rfl (fun w c => coboundary_ok (a := a) (b := b) (c.rd h0) (c.rd h1) (c.rd h3) (c.rd k3) (c.own_rd (i := 0) rfl) hA) ?_; rintro v H' ⟨a6, c6, rfl, hs6, rfl⟩) | (refine m_call (ent_of Tryz.func209 kr rfl) rfl rfl (fun w c => by have h := flat_ok (c.own_rd (i := 0) rfl) (by rw [hfl]; omega); rw [hfl] at h; exact h) ?_; rintro v H' ⟨a7, c7, rfl, hs7, rfl⟩) | (refine m_push1 [] 3 0 tabs (m' := i) rfl rfl rfl rfl rfl rfl rfl (by simp [bcols, rowT_map]) (by simp [bcols, rowT_map]; omega) (by decide) rfl rfl (fun a3 c3 => ?_))
      refine c_nil (x_one (h_keep sS ?_))
      refine h_only 7 rfl kr ?_
      first | (refine m_build1 tabs (us := [.slice a7 (bcol a b i).length c7]) rfl rfl rfl rfl (by decide) rfl (fun g2 hg2 => ?_)) | (refine m_call (ent_of Tryz.func269 kr rfl) rfl rfl (fun w c => shaped_ok (x := mkv n (fun q => if q = i then 1 else 0)) (c.own_rd (i := 2) rfl) (by have := c.own_rd (i := 0) rfl; simp only [mkv_zero, mkv_set] at this; exact this) (by rw [hlen, en]) om om) ?_; rintro v H' ⟨a5, c5, rfl, hs5, rfl⟩) | (refine m_call (ent_of Tryz.func154 kr rfl) rfl rfl (fun w c => coboundary_ok (a := a) (b := b) (c.rd h0) (c.rd h1) (c.rd h3) (c.rd k3) (c.own_rd (i := 0) rfl) hA) ?_; rintro v H' ⟨a6, c6, rfl, hs6, rfl⟩) | (refine m_call (ent_of Tryz.func209 kr rfl) rfl rfl (fun w c => by have h := flat_ok (c.own_rd (i := 0) rfl) (by rw [hfl]; omega); rw [hfl] at h; exact h) ?_; rintro v H' ⟨a7, c7, rfl, hs7, rfl⟩) | (refine m_push1 [] 3 0 tabs (m' := i) rfl rfl rfl rfl rfl rfl rfl (by simp [bcols, rowT_map]) (by simp [bcols, rowT_map]; omega) (by decide) rfl rfl (fun a3 c3 => ?_))
      refine c_nil (x_one (h_keep sS ?_))
      refine h_only 8 rfl kr ?_
      first | (refine m_build1 tabs (us := [.slice a7 (bcol a b i).length c7]) rfl rfl rfl rfl (by decide) rfl (fun g2 hg2 => ?_)) | (refine m_call (ent_of Tryz.func269 kr rfl) rfl rfl (fun w c => shaped_ok (x := mkv n (fun q => if q = i then 1 else 0)) (c.own_rd (i := 2) rfl) (by have := c.own_rd (i := 0) rfl; simp only [mkv_zero, mkv_set] at this; exact this) (by rw [hlen, en]) om om) ?_; rintro v H' ⟨a5, c5, rfl, hs5, rfl⟩) | (refine m_call (ent_of Tryz.func154 kr rfl) rfl rfl (fun w c => coboundary_ok (a := a) (b := b) (c.rd h0) (c.rd h1) (c.rd h3) (c.rd k3) (c.own_rd (i := 0) rfl) hA) ?_; rintro v H' ⟨a6, c6, rfl, hs6, rfl⟩) | (refine m_call (ent_of Tryz.func209 kr rfl) rfl rfl (fun w c => by have h := flat_ok (c.own_rd (i := 0) rfl) (by rw [hfl]; omega); rw [hfl] at h; exact h) ?_; rintro v H' ⟨a7, c7, rfl, hs7, rfl⟩) | (refine m_push1 [] 3 0 tabs (m' := i) rfl rfl rfl rfl rfl rfl rfl (by simp [bcols, rowT_map]) (by simp [bcols, rowT_map]; omega) (by decide) rfl rfl (fun a3 c3 => ?_))
      refine c_nil (x_one (h_keep sS ?_))
      refine h_only 9 rfl kr ?_
      first | (refine m_build1 tabs (us := [.slice a7 (bcol a b i).length c7]) rfl rfl rfl rfl (by decide) rfl (fun g2 hg2 => ?_)) | (refine m_call (ent_of Tryz.func269 kr rfl) rfl rfl (fun w c => shaped_ok (x := mkv n (fun q => if q = i then 1 else 0)) (c.own_rd (i := 2) rfl) (by have := c.own_rd (i := 0) rfl; simp only [mkv_zero, mkv_set] at this; exact this) (by rw [hlen, en]) om om) ?_; rintro v H' ⟨a5, c5, rfl, hs5, rfl⟩) | (refine m_call (ent_of Tryz.func154 kr rfl) rfl rfl (fun w c => coboundary_ok (a := a) (b := b) (c.rd h0) (c.rd h1) (c.rd h3) (c.rd k3) (c.own_rd (i := 0) rfl) hA) ?_; rintro v H' ⟨a6, c6, rfl, hs6, rfl⟩) | (refine m_call (ent_of Tryz.func209 kr rfl) rfl rfl (fun w c => by have h := flat_ok (c.own_rd (i := 0) rfl) (by rw [hfl]; omega); rw [hfl] at h; exact h) ?_; rintro v H' ⟨a7, c7, rfl, hs7, rfl⟩) | (refine m_push1 [] 3 0 tabs (m' := i) rfl rfl rfl rfl rfl rfl rfl (by simp [bcols, rowT_map]) (by simp [bcols, rowT_map]; omega) (by decide) rfl rfl (fun a3 c3 => ?_))
      refine c_nil (x_one (h_keep sS ?_))
      refine h_take 10 rfl kr kr kr (by exact y_assign rfl) rfl sS ?_
      refine h_end kr ?_
      repeat' (first | (show oL; first | refine sMv rfl rfl ?_ | refine sAd rfl rfl om rfl ?_) | refine xNt ?_ | (show oC; refine c_region ?_) | (show AT _ _ _ _; first | refine x_then ?_ | refine x_blk ?_))
      refine x_nx (i + 1, a3, c3) sB (by simp only; omega) (fun w' c' => ?_) (by simp only; omega)
      rw [bcols_next] at c'
      exact c'.sub sL
    · have : i = n := by omega
      subst this
      repeat' (first | (show oL; first | refine sMv rfl rfl ?_ | (show oA (.load _ _); first | refine sLb 3 tabs rfl rfl rfl rfl rfl ?_ | refine sLb 4 tabs rfl rfl rfl rfl rfl ?_) | refine sLs rfl rfl rfl ?_ | (show oA (.call _); first | (refine m_call (ent_of Tryz.func271 kr rfl) rfl rfl (fun w c => cocycleZeros_ok (a := a) (b := b) (c.rd h0) (c.rd h1) (c.rd h2) (c.rd k2) hF) ?_; rintro v H' ⟨a6, c6, rfl, hs6, rfl⟩) | (refine m_call (ent_of Tryz.func209 kr rfl) rfl rfl (fun w c => flat_ok (c.own_rd (i := 0) rfl) om) ?_; rintro v H' ⟨a7, c7, rfl, hs7, rfl⟩; rw [hcf]) | (refine m_call (ent_of Tryz.func218 kr rfl) rfl rfl (fun w c => fromColumns_ok (R := (idxN a b a.q.2.1.length).length) (C := i) (cols := bcols a b i) (by exact c.own_rd (i := 2) rfl) bcols_length om om bcols_len) ?_; rintro v H' ⟨a8, c8, rfl, hs8, rfl⟩) | refine sLn tabs rfl rfl rfl ?_) | (show oA (.store _ _ _); refine m_storeb 5 tabs rfl rfl rfl rfl rfl rfl rfl ?_)) | refine xNt ?_ | (show oC; first | refine c_seq ?_ | refine c_region ?_ | refine c_ret ?_ | refine c_exit ?_ | refine c_iff rfl nN ?_) | (show AT _ _ _ _; first | refine x_then ?_ | refine x_then_exit ?_ | refine x_blk_exit rfl ?_))
      rw [bmat_eq]
      exact x_ret1 Tryz.results206 (res_cellb 5 tabs rfl rfl rfl rfl) (fun w' c' => ⟨_, _, rfl, ⟨a8, c8, rfl, hs8, rfl⟩, c'.sub (.cons_cons _ (List.nil_sublist _))⟩)
end Go.Proofs.YtijjkfbkihgfgaaGreat

namespace Go.Proofs.YtijjkfbkihgfgaaGreat
open Go.Lg Go.Proofs Go.RowKit
attribute [local irreducible] Code.wp wpList bodyPost Exit.then Exit.inBlock Hp Again Calls Y AT ResV QT Qn QI wpAny wpAnyQ
set_option maxRecDepth 20000
set_option maxHeartbeats 4000000

def hkL (a b : Rp) : List (List Int) := kerL a.p (offN a.d b.d a.d.length) (redTo a.p (idxN a b a.q.2.1.length).length (eqsF a b) (offN a.d b.d a.d.length)).1 (redTo a.p (idxN a b a.q.2.1.length).length (eqsF a b) (offN a.d b.d a.d.length)).2 (freeN (redTo a.p (idxN a b a.q.2.1.length).length (eqsF a b) (offN a.d b.d a.d.length)).2 (offN a.d b.d a.d.length))
end Go.Proofs.YtijjkfbkihgfgaaGreat
