import Derived.Test.YtijjkfbkihgfgaaGreatZerqmo
namespace Go.Proofs.YtijjkfbkihgfgaaGreat
open Go.Lg Go.Proofs Go.RowKit
attribute [local irreducible] Code.wp wpList bodyPost Exit.then Exit.inBlock Hp Again Calls Y AT ResV QT Qn QI wpAny wpAnyQ
set_option maxRecDepth 20000
set_option maxHeartbeats 4000000

/-! ### lists of matrices: of one, of zeros -/
def GivesMs (ms : List Mat) (v : Value) (H : List HE) : Prop := ∃ a c, v = .slice a ms.length c ∧ SA a ms.length ∧ H = [.own (matsT 47 ms) (.slice a ms.length c)]
def GivesMsB (ms : List Mat) (b : Bool) (v : Value) (H : List HE) : Prop := ∃ a c, v = .tuple #[.slice a ms.length c, .bool b] ∧ SA a ms.length ∧ H = [.own (matsT 47 ms) (.slice a ms.length c)]
def idM (d : List Int) (i : Nat) : Mat := (((d.getD i 0).toNat : Nat), ((d.getD i 0).toNat : Nat), mk (d.getD i 0).toNat (d.getD i 0).toNat idF)
def idMs (d : List Int) (n : Nat) : List Mat := (List.range n).map (idM d)
@[simp] theorem idMs_length {d : List Int} {n : Nat} : (idMs d n).length = n := by simp [idMs]
theorem idM_at {d : List Int} {k : Int} (hd : ∀ n, 0 ≤ d.getD n 0 ∧ d.getD n 0 ≤ k) (i : Nat) : ∃ n : Nat, d.getD i 0 = n ∧ (n : Int) ≤ k ∧ idM d i = ((n : Int), (n : Int), mk n n idF) := by
  have := hd i
  exact ⟨(d.getD i 0).toNat, by omega, by omega, rfl⟩
theorem idMs_next {d : List Int} {i n : Nat} (hz : idM d i = ((n : Int), (n : Int), mk n n idF)) : (idMs d i).flatMap matT ++ (List.map T.c [iV n, iV n] ++ [iT (mk n n idF)]) = (idMs d (i + 1)).flatMap matT := by
  have e1 : idMs d (i + 1) = idMs d i ++ [idM d i] := by simp [idMs, List.range_succ]
  rw [e1, List.flatMap_append, hz]; rfl
theorem identities_ok {w : World} {d : List Int} {u : Value} (hu : Rd w (iT d) u) (hd : ∀ n, 0 ≤ d.getD n 0 ∧ d.getD n 0 ≤ 8) (hl : d.length ≤ 64) : Does Tryz.prog 167 [u] w (GivesMs (idMs d d.length)) := by
  obtain ⟨a0, c0, rfl, hs0, _, _, hg0⟩ := hu.ints
  refine fn_enter Tryz.func167 rfl Tryz.ntmps167 rfl ?_
  repeat' (first | (show oL; first | (show oA (.move _); refine st_y (y_move rfl) rfl ?_) | (show oA (.assign _); refine st_y (y_assign rfl) rfl ?_) | (show oA (.call _); refine st_y (y_len tabs rfl rfl) rfl ?_)) | (show oN; refine c_nil (x_then ?_)) | (show oC; first | refine c_seq ?_ | refine c_region ?_ | refine c_block ?_))
  refine c_loopH (α := Nat × Option Addr × Nat) [6, 7] (fun s => [(3, .slice s.2.1 s.1 s.2.2), (8, .int .i64 s.1)]) (fun s => s.1 ≤ d.length) (fun s => [.own (matsT 47 (idMs d s.1)) (.slice s.2.1 s.1 s.2.2)]) (fun s => d.length - s.1) (0, none, 0) rfl sB ?_ ?_ ?_
  · exact Nat.zero_le _
  · exact fun w' c' => Hp.nilp _ _ c'
  · rintro ⟨i, am, cm⟩ hi
    simp only at hi ⊢
    by_cases hin : i < d.length
    · obtain ⟨n, hn, hnb, hz⟩ := idM_at hd i
      repeat' (first | (show oL; first | (show oA (.move _); refine st_y (y_move rfl) rfl ?_) | (show oA (.assign _); refine st_y (y_assign rfl) rfl ?_) | (show oA (.load _ _); refine st_y (y_load tabs rfl rfl (hc_w0 (hg0 i hin))) rfl ?_) | (show oA (.indexAddr _ _ _); refine st_y (y_ix1 tabs (j := i) rfl rfl rfl hs0 rfl hin) rfl ?_) | (show oA (.binOp _ _ _ _ _); first | refine st_y (y_add rfl rfl om) rfl ?_ | refine st_y (y_lss rfl rfl) rfl ?_) | (show oA (.call _); first | (refine m_call (ent_of Tryz.func250 kr rfl) rfl rfl (fun w c => (by rw [hn]; exact identity_ok (n := n) om)) ?_; rintro v H' ⟨az, cz, rfl, hsz, rfl⟩) | refine m_push1 [iV n, iV n] 0 0 tabs (m' := i) rfl rfl rfl rfl rfl rfl rfl (by rw [flatMap_length matT_length, idMs_length]) (by rw [flatMap_length matT_length, idMs_length]; omega) (by decide) rfl rfl (fun a3 c3 => ?_)) | (show oA (.buildSlice _ _ _); refine m_build1 tabs (us := [iV n, iV n, .slice az (n * n) cz]) rfl rfl rfl rfl (by decide) rfl (fun g2 hg2 => ?_))) | (show oN; first | refine c_nil (x_then ?_) | refine c_nil ?_) | (show oC; first | refine c_seq ?_ | refine c_region ?_ | refine c_skip (x_then ?_) | refine c_block ?_ | refine c_ift rfl aO ?_) | (show AT _ _ _ _; first | refine x_then ?_ | refine x_blk ?_))
      refine x_nx (i + 1, a3, c3) sB (by simp only; omega) (fun w' c' => ?_) (by simp only; omega)
      rw [idMs_next hz] at c'
      exact c'
    · have : i = d.length := by omega
      subst this
      refine AT.fact (mats_sl 0 rfl) (fun hsl => ?_)
      rw [idMs_length] at hsl
      repeat' (first | (show oL; first | (show oA (.move _); refine st_y (y_move rfl) rfl ?_) | (show oA (.assign _); refine st_y (y_assign rfl) rfl ?_) | (show oA (.binOp _ _ _ _ _); refine st_y (y_lss rfl rfl) rfl ?_)) | (show oN; refine c_nil (x_then ?_)) | (show oC; first | refine c_seq ?_ | refine c_region ?_ | refine c_ret ?_ | refine c_exit ?_ | refine c_iff rfl nN ?_) | (show AT _ _ _ _; first | refine x_then ?_ | refine x_then_exit ?_ | refine x_blk_exit rfl ?_))
      exact x_ret1 Tryz.results167 (res_tmp rfl) (fun w' c' => ⟨_, _, rfl, ⟨am, cm, by rw [idMs_length], by rw [idMs_length]; exact hsl, by rw [idMs_length]⟩, c'.sub (.cons_cons _ (List.nil_sublist _))⟩)

theorem l3Identity_ok {w : World} {n : Nat} (hn : n ≤ 1024) : Does Tryz.prog 169 [iV n] w (GivesK n n idF) := by
  have hnn := rc_le hn hn
  refine fn_enter Tryz.func169 rfl Tryz.ntmps169 rfl ?_
  repeat' (first | (show oL; first | (show oA (.move _); refine st_y (y_move rfl) rfl ?_) | (show oA (.assign _); refine st_y (y_assign rfl) rfl ?_) | (show oA (.call _); (refine m_call (ent_of Tryz.func172 kr rfl) rfl rfl (fun w c => l3Zero_ok hn hn) ?_; rintro v H' ⟨a, c, rfl, hs, rfl⟩)) | (show oA (.store _ _ _); refine m_storeb 0 tabs rfl rfl rfl rfl rfl rfl rfl ?_) | (show oA (.alloc _); refine m_alloc tabs rfl rfl (fun b2 hb2 => ?_))) | (show oN; refine c_nil (x_then ?_)) | (show oC; first | refine c_seq ?_ | refine c_region ?_ | refine c_block ?_))
  rename_i b1 hb1
  refine c_loopH (α := Nat) [0, 2, 3] (fun i => [(4, .int .i64 i)]) (fun i => i ≤ n) (fun i => [.blk b2 #[iV n, iV n, .slice a (n * n) c] 47, .own (iT (mk n n (idTo i))) (.slice a (n * n) c), .blk b1 #[iV 0, iV 0, .slice none 0 0] 47]) (fun i => n - i) 0 rfl sB ?_ ?_ ?_
  · omega
  · intro w' c'
    have e0 : idTo 0 = (fun _ _ => 0) := by funext i j; simp [idTo]
    rw [e0]
    exact c'
  · intro i hi
    by_cases hin : i < n
    · have hc := cell_lt hin hin
      repeat' (first | (show oL; first | (show oA (.move _); refine st_y (y_move rfl) rfl ?_) | (show oA (.assign _); refine st_y (y_assign rfl) rfl ?_) | (show oA (.fieldAddr _ _ _); refine st_y (y_field tabs rfl rfl rfl) rfl ?_) | (show oA (.load _ _); refine st_y (y_load tabs rfl rfl (hc_blk 0 rfl rfl)) rfl ?_) | (show oA (.indexAddr _ _ _); refine st_y (y_ix1 tabs (j := i * n + i) rfl rfl rfl hs rfl hc) rfl ?_) | (show oA (.binOp _ _ _ _ _); first | refine st_y (y_muln rfl rfl rfl rfl (Nat.le_trans (Nat.mul_le_mul_right n hi) om)) rfl ?_ | refine st_y (y_addn (b := i) rfl rfl rfl rfl om) rfl ?_ | refine st_y (y_add rfl rfl om) rfl ?_ | refine st_y (y_lss rfl rfl) rfl ?_) | (show oA (.store _ _ _); refine m_storeo 1 tabs rfl rfl rfl rfl (by rw [mk_length]; exact hc) ?_)) | (show oN; first | refine c_nil (x_then ?_) | refine c_nil ?_) | (show oC; first | refine c_seq ?_ | refine c_region ?_ | refine c_skip (x_then ?_) | refine c_block ?_ | refine c_ift rfl aO ?_) | (show AT _ _ _ _; first | refine x_then ?_ | refine x_blk ?_))
      refine x_nx (i + 1) sB om (fun w' c' => ?_) om
      simp only [List.set_cons_succ, List.set_cons_zero] at c'
      rw [mk_set hin hin, idTo_next] at c'
      exact c'
    · have : i = n := by omega
      subst this
      have e0 : mk i i (idTo i) = mk i i idF := mk_ext (fun a b ha hb => by unfold idTo idF; grind)
      rw [e0]
      repeat' (first | (show oL; first | (show oA (.move _); refine st_y (y_move rfl) rfl ?_) | (show oA (.load _ _); refine st_y (y_loadb 0 tabs rfl rfl rfl rfl) rfl ?_) | (show oA (.binOp _ _ _ _ _); refine st_y (y_lss rfl rfl) rfl ?_) | (show oA (.store _ _ _); refine m_storeb 2 tabs rfl rfl rfl rfl rfl rfl rfl ?_)) | (show oN; refine c_nil (x_then ?_)) | (show oC; first | refine c_seq ?_ | refine c_region ?_ | refine c_ret ?_ | refine c_exit ?_ | refine c_iff rfl nN ?_) | (show AT _ _ _ _; first | refine x_then ?_ | refine x_then_exit ?_ | refine x_blk_exit rfl ?_))
      exact x_ret1 Tryz.results169 (res_cellb 2 tabs rfl rfl rfl rfl) (fun w' c' => ⟨_, _, rfl, ⟨a, c, rfl, hs, rfl⟩, c'.sub (.cons _ (.cons_cons _ (List.nil_sublist _)))⟩)
theorem RepP.dd {r : Rp} (h : RepP r) : (∀ n, 0 ≤ r.d.getD n 0 ∧ r.d.getD n 0 ≤ 4) ∧ r.d.length ≤ 5 := by
  obtain ⟨_, ⟨⟨hV, _⟩, hdV, hdi, _⟩, _⟩ := h
  refine ⟨fun n => ?_, by omega⟩
  rcases Nat.lt_or_ge n r.d.length with h1 | h1
  · exact hdi _ (List.mem_of_getElem? (getD_some (z := 0) h1))
  · rw [List.getD_eq_getElem?_getD, List.getElem?_eq_none h1]; exact ⟨by simp, by simp⟩
def idL (r : Rp) : List Mat := if RepP r then idMs r.d r.d.length else []
theorem impl_IdentityMorphism_ok {w : World} {r : Rp} {e : Nat} {u0 u1 u2 u3 : Value} (h0 : Rd w (iT r.q.2.1) u0) (h1 : Rd w (iT r.q.2.2) u1) (h2 : Rd w (iT r.d) u2) (h3 : Rd w (matsT e r.m) u3) :
    Does Tryz.prog 56 [.agg #[iV r.p, iV r.q.1, u0, u1, u2, u3]] w (GivesMsB (idL r) (decide (RepP r))) := by
  by_cases hR : RepP r
  · have hdd := RepP.dd hR
    rw [idL, if_pos hR, decide_eq_true hR]
    refine fn_enter Tryz.func56 rfl Tryz.ntmps56 rfl ?_
    repeat' (first | (show oL; first | (show oA (.assign _); refine st_y (y_assign rfl) rfl ?_) | (show oA (.fieldAddr _ _ _); refine st_y (y_field tabs rfl rfl rfl) rfl ?_) | (show oA (.load _ _); first | refine st_y (y_load tabs rfl rfl (hc_blk 0 rfl rfl)) rfl ?_ | refine st_y (y_loadb 0 tabs rfl rfl rfl rfl) rfl ?_) | (show oA (.unOp _ _ _); refine st_y (y_notd rfl) rfl ?_) | (show oA (.call _); first | (refine m_call (ent_of Tryz.func166 kr rfl) rfl rfl (fun w c => impl_IsRep_ok (r := r) (c.rd h0) (c.rd h1) (c.rd h2) (c.rd h3)) ?_; rintro v H' ⟨rfl, rfl⟩) | (refine m_call (ent_of Tryz.func167 kr rfl) rfl rfl (fun w c => identities_ok (c.rd h2) (fun n => by have := hdd.1 n; omega) (by have := hdd.2; omega)) ?_; rintro v H' ⟨a, c, rfl, hs, rfl⟩)) | (show oA (.box _ _); refine m_box rfl rfl (fun b hb => ?_))) | (show oN; refine c_nil (x_then ?_)) | (show oC; first | refine c_seq ?_ | refine c_region ?_ | refine c_skip (x_then ?_) | refine c_ret ?_ | refine c_iff rfl nN ?_))
    exact x_ret2 Tryz.results56 (res_tmp rfl) (res_tmp rfl) (fun w' c' => ⟨_, _, rfl, ⟨a, c, rfl, hs, rfl⟩, c'.sub (.cons_cons _ (List.nil_sublist _))⟩)
  · rw [idL, if_neg hR, decide_eq_false hR]
    refine fn_enter Tryz.func56 rfl Tryz.ntmps56 rfl ?_
    repeat' (first | (show oL; first | (show oA (.assign _); refine st_y (y_assign rfl) rfl ?_) | (show oA (.load _ _); refine st_y (y_loadb 0 tabs rfl rfl rfl rfl) rfl ?_) | (show oA (.unOp _ _ _); refine st_y (y_notd rfl) rfl ?_) | (show oA (.call _); (refine m_call (ent_of Tryz.func166 kr rfl) rfl rfl (fun w c => impl_IsRep_ok (r := r) (c.rd h0) (c.rd h1) (c.rd h2) (c.rd h3)) ?_; rintro v H' ⟨rfl, rfl⟩)) | (show oA (.box _ _); refine m_box rfl rfl (fun b hb => ?_))) | (show oN; refine c_nil (x_then ?_)) | (show oC; first | refine c_seq ?_ | refine c_region ?_ | refine c_ret ?_ | refine c_ift rfl aO ?_) | (show AT _ _ _ _; refine x_then_ret ?_))
    exact x_ret2 Tryz.results56 (res_tmp rfl) (res_tmp rfl) (fun w' c' => ⟨_, _, rfl, ⟨none, 0, rfl, .inl rfl, rfl⟩, Hp.nilp _ _ (c'.sub (List.nil_sublist _))⟩)
theorem spec_IdentityMorphism_ok {w : World} {r : Rp} {e : Nat} {u0 u1 u2 u3 : Value} (h0 : Rd w (iT r.q.2.1) u0) (h1 : Rd w (iT r.q.2.2) u1) (h2 : Rd w (iT r.d) u2) (h3 : Rd w (matsT e r.m) u3) :
    Does Tryz.prog 58 [.agg #[iV r.p, iV r.q.1, u0, u1, u2, u3]] w (GivesMsB (idL r) (decide (RepP r))) := by
  obtain ⟨a2, c2, rfl, hs2, hcl2, hd2, hg2⟩ := h2.ints
  unfold maxLen at hd2
  refine fn_enter Tryz.func58 rfl Tryz.ntmps58 rfl ?_
  repeat' (first | (show oL; first | (show oA (.assign _); refine st_y (y_assign rfl) rfl ?_) | (show oA (.box _ _); refine m_box rfl rfl (fun b hb => ?_)) | (show oA (.buildSlice _ _ _); refine m_build0 tabs rfl rfl (fun g hg => ?_))) | (show oN; refine c_nil (x_then ?_)) | (show oC; first | refine c_seq ?_ | refine c_region ?_ | refine c_block ?_))
  refine c_loopH (α := Nat × Option Addr × Nat) [1] (fun s => [(4, .slice s.2.1 s.1 s.2.2), (5, .int .i64 s.1)]) (fun s => s.1 ≤ r.d.length ∧ (s.1 = 0 ∨ RepP r)) (fun s => [.own (matsT 47 (idMs r.d s.1)) (.slice s.2.1 s.1 s.2.2), .blk b #[iV r.p, iV r.q.1, u0, u1, .slice a2 r.d.length c2, u3] 60]) (fun s => r.d.length - s.1) (0, some ⟨g, 0, none⟩, 0) rfl sB ?_ ?_ ?_
  · exact ⟨Nat.zero_le _, .inl rfl⟩
  · exact fun w' c' => c'
  · rintro ⟨i, am, cm⟩ ⟨hi, hz0⟩
    simp only at hi hz0 ⊢
    refine AT.fact (mats_sl 0 rfl) (fun hsl => ?_)
    rw [idMs_length] at hsl
    by_cases hR : RepP r
    · have hdd := RepP.dd hR
      by_cases hin : i < r.d.length
      · obtain ⟨n, hn, hnb, hz⟩ := idM_at hdd.1 i
        repeat' (first | (show oL; first | (show oA (.move _); refine st_y (y_move rfl) rfl ?_) | (show oA (.assign _); refine st_y (y_assign rfl) rfl ?_) | (show oA (.fieldAddr _ _ _); refine st_y (y_field tabs rfl rfl rfl) rfl ?_) | (show oA (.load _ _); first | refine st_y (y_loadb 1 tabs rfl rfl rfl rfl) rfl ?_ | refine st_y (y_load tabs rfl rfl (hc_w0 (hg2 i hin))) rfl ?_ | refine st_y (y_load tabs rfl rfl (hc_blk 1 rfl rfl)) rfl ?_) | (show oA (.indexAddr _ _ _); refine st_y (y_ix1 tabs (j := i) rfl rfl rfl hs2 rfl hin) rfl ?_) | (show oA (.binOp _ _ _ _ _); first | refine st_y (y_add rfl rfl om) rfl ?_ | refine st_y (y_lss rfl rfl) rfl ?_) | (show oA (.call _); first | (refine m_call (ent_of Tryz.func148 kr rfl) rfl rfl (fun w c => spec_IsRep_ok (r := r) (c.rd h0) (c.rd h1) (c.rd h2) (c.rd h3)) ?_; rintro v H' ⟨rfl, rfl⟩) | (refine m_call (ent_of Tryz.func169 kr rfl) rfl rfl (fun w c => (by rw [hn]; exact l3Identity_ok (n := n) om)) ?_; rintro v H' ⟨az, cz, rfl, hsz, rfl⟩) | refine m_push1 [iV n, iV n] 0 0 tabs (m' := i) rfl rfl rfl rfl rfl rfl rfl (by rw [flatMap_length matT_length, idMs_length]) (by rw [flatMap_length matT_length, idMs_length]; omega) (by decide) rfl rfl (fun a3 c3 => ?_) | refine st_y (y_len tabs rfl rfl) rfl ?_) | (show oA (.pick _ _ _); refine st_y (y_pickt rfl aO rfl) rfl ?_) | (show oA (.buildSlice _ _ _); refine m_build1 tabs (us := [iV n, iV n, .slice az (n * n) cz]) rfl rfl rfl rfl (by decide) rfl (fun g2 hg2 => ?_)) | refine st_gdy rfl rfl aO ?_) | (show oN; first | refine c_nil (x_then ?_) | refine c_nil ?_) | (show oC; first | refine c_seq ?_ | refine c_region ?_ | refine c_skip (x_then ?_) | refine c_block ?_ | refine c_ift rfl aO ?_) | (show AT _ _ _ _; first | refine x_then ?_ | refine x_blk ?_))
        refine x_nx (i + 1, a3, c3) sB ⟨by simp only; omega, .inr hR⟩ (fun w' c' => ?_) (by simp only; omega)
        rw [idMs_next hz] at c'
        exact c'
      · have : i = r.d.length := by omega
        subst this
        repeat' (first | (show oL; first | (show oA (.move _); refine st_y (y_move rfl) rfl ?_) | (show oA (.assign _); refine st_y (y_assign rfl) rfl ?_) | (show oA (.fieldAddr _ _ _); refine st_y (y_field tabs rfl rfl rfl) rfl ?_) | (show oA (.load _ _); first | refine st_y (y_loadb 1 tabs rfl rfl rfl rfl) rfl ?_ | refine st_y (y_load tabs rfl rfl (hc_blk 1 rfl rfl)) rfl ?_) | (show oA (.binOp _ _ _ _ _); refine st_y (y_lss rfl rfl) rfl ?_) | (show oA (.call _); first | (refine m_call (ent_of Tryz.func148 kr rfl) rfl rfl (fun w c => spec_IsRep_ok (r := r) (c.rd h0) (c.rd h1) (c.rd h2) (c.rd h3)) ?_; rintro v H' ⟨rfl, rfl⟩) | refine st_y (y_len tabs rfl rfl) rfl ?_) | (show oA (.pick _ _ _); refine st_y (y_pickf rfl aO rfl) rfl ?_) | refine st_gdn rfl rfl aO rfl ?_) | (show oN; refine c_nil (x_then ?_)) | (show oC; first | refine c_seq ?_ | refine c_region ?_ | refine c_ret ?_ | refine c_exit ?_ | refine c_false rfl ?_) | (show AT _ _ _ _; first | refine x_then ?_ | refine x_then_exit ?_ | refine x_blk_exit rfl ?_))
        rw [idL, if_pos hR]
        exact x_ret2 Tryz.results58 (res_tmp rfl) (res_tmp rfl) (fun w' c' => ⟨_, _, rfl, ⟨am, cm, by rw [idMs_length], by rw [idMs_length]; exact hsl, by rw [idMs_length]⟩, c'.sub (.cons_cons _ (List.nil_sublist _))⟩)
    · have hi0 : i = 0 := by rcases hz0 with h | h; · exact h
                             · exact absurd h hR
      subst hi0
      have e0 : idL r = idMs r.d 0 := by rw [idL, if_neg hR]; rfl
      repeat' (first | (show oL; first | (show oA (.move _); refine st_y (y_move rfl) rfl ?_) | (show oA (.assign _); refine st_y (y_assign rfl) rfl ?_) | (show oA (.fieldAddr _ _ _); refine st_y (y_field tabs rfl rfl rfl) rfl ?_) | (show oA (.load _ _); first | refine st_y (y_loadb 1 tabs rfl rfl rfl rfl) rfl ?_ | refine st_y (y_load tabs rfl rfl (hc_blk 1 rfl rfl)) rfl ?_) | (show oA (.binOp _ _ _ _ _); refine st_y (y_lss rfl rfl) rfl ?_) | (show oA (.call _); first | (refine m_call (ent_of Tryz.func148 kr rfl) rfl rfl (fun w c => spec_IsRep_ok (r := r) (c.rd h0) (c.rd h1) (c.rd h2) (c.rd h3)) ?_; rintro v H' ⟨rfl, rfl⟩) | refine st_y (y_len tabs rfl rfl) rfl ?_) | (show oA (.pick _ _ _); first | refine st_y (y_pickt rfl aO rfl) rfl ?_ | refine st_y (y_pickf rfl aO rfl) rfl ?_) | refine st_gdy rfl rfl aO ?_ | refine st_gdn rfl rfl aO rfl ?_ | refine st_gd rfl rfl (fun h => ?_) (fun h => ?_)) | (show oN; refine c_nil (x_then ?_)) | (show oC; first | refine c_seq ?_ | refine c_region ?_ | refine c_ret ?_ | refine c_exit ?_ | refine c_false rfl ?_ | refine c_iff rfl nN ?_) | (show AT _ _ _ _; first | refine x_then ?_ | refine x_then_exit ?_ | refine x_blk_exit rfl ?_))
      all_goals rw [e0]
      all_goals exact x_ret2 Tryz.results58 (res_tmp rfl) (res_tmp rfl) (fun w' c' => ⟨_, _, rfl, ⟨am, cm, by rw [idMs_length], by rw [idMs_length]; exact hsl, by rw [idMs_length]⟩, c'.sub (.cons_cons _ (List.nil_sublist _))⟩)
/-! ### the morphism of zeros -/
def znM (da db : List Int) (i : Nat) : Mat := (((db.getD i 0).toNat : Nat), ((da.getD i 0).toNat : Nat), mk (db.getD i 0).toNat (da.getD i 0).toNat (fun _ _ => 0))
def znMs (da db : List Int) (n : Nat) : List Mat := (List.range n).map (znM da db)
@[simp] theorem znMs_length {da db : List Int} {n : Nat} : (znMs da db n).length = n := by simp [znMs]
theorem znM_at {da db : List Int} {k : Int} (ha : ∀ n, 0 ≤ da.getD n 0 ∧ da.getD n 0 ≤ k) (hb : ∀ n, 0 ≤ db.getD n 0 ∧ db.getD n 0 ≤ k) (i : Nat) : ∃ x y : Nat, db.getD i 0 = x ∧ da.getD i 0 = y ∧ (x : Int) ≤ k ∧ (y : Int) ≤ k ∧ znM da db i = ((x : Int), (y : Int), mk x y (fun _ _ => 0)) := by
  have := ha i
  have := hb i
  exact ⟨(db.getD i 0).toNat, (da.getD i 0).toNat, by omega, by omega, by omega, by omega, rfl⟩
theorem znMs_next {da db : List Int} {i x y : Nat} (hz : znM da db i = ((x : Int), (y : Int), mk x y (fun _ _ => 0))) : (znMs da db i).flatMap matT ++ (List.map T.c [iV x, iV y] ++ [iT (mk x y (fun _ _ => 0))]) = (znMs da db (i + 1)).flatMap matT := by
  have e1 : znMs da db (i + 1) = znMs da db i ++ [znM da db i] := by simp [znMs, List.range_succ]
  rw [e1, List.flatMap_append, hz]; rfl
def zmL (a b : Rp) : List Mat := if FitP a b then znMs a.d b.d a.d.length else []
theorem FitP.dl {a b : Rp} (h : FitP a b) : a.d.length = b.d.length := by
  obtain ⟨⟨_, ⟨_, h1, _⟩, _⟩, ⟨_, ⟨_, h2, _⟩, _⟩, _, h3⟩ := h
  rw [h3] at h1
  omega
theorem zeros_ok {w : World} {a b : Rp} {u0 u1 u2 u3 v0 v1 v2 v3 : Value} (h2 : Rd w (iT a.d) u2) (k2 : Rd w (iT b.d) v2) (hF : FitP a b) :
    Does Tryz.prog 171 [.agg #[iV a.p, iV a.q.1, u0, u1, u2, u3], .agg #[iV b.p, iV b.q.1, v0, v1, v2, v3]] w (GivesMs (znMs a.d b.d a.d.length)) := by
  have hl := hF.dl
  have hda := RepP.dd hF.1
  have hdb := RepP.dd hF.2.1
  obtain ⟨a2, c2, rfl, hs2, i1, i2, hg2⟩ := h2.ints
  obtain ⟨d2, e2, rfl, hk2, i3, i4, hh2⟩ := k2.ints
  refine fn_enter Tryz.func171 rfl Tryz.ntmps171 rfl ?_
  repeat' (first | (show oL; first | (show oA (.move _); refine st_y (y_move rfl) rfl ?_) | (show oA (.assign _); refine st_y (y_assign rfl) rfl ?_) | (show oA (.fieldAddr _ _ _); refine st_y (y_field tabs rfl rfl rfl) rfl ?_) | (show oA (.load _ _); refine st_y (y_load tabs rfl rfl (hc_blk 1 rfl rfl)) rfl ?_) | (show oA (.call _); refine st_y (y_len tabs rfl rfl) rfl ?_) | (show oA (.box _ _); refine m_box rfl rfl (fun b1 hb1 => ?_))) | (show oN; refine c_nil (x_then ?_)) | (show oC; first | refine c_seq ?_ | refine c_region ?_ | refine c_block ?_))
  rename_i b2 hb2
  refine c_loopH (α := Nat × Option Addr × Nat) [3, 9, 10] (fun s => [(5, .slice s.2.1 s.1 s.2.2), (11, .int .i64 s.1)]) (fun s => s.1 ≤ a.d.length) (fun s => [.own (matsT 47 (znMs a.d b.d s.1)) (.slice s.2.1 s.1 s.2.2), .blk b1 #[iV b.p, iV b.q.1, v0, v1, .slice d2 b.d.length e2, v3] 60]) (fun s => a.d.length - s.1) (0, none, 0) rfl sB ?_ ?_ ?_
  · exact Nat.zero_le _
  · exact fun w' c' => Hp.nilp _ _ (c'.sub sL)
  · rintro ⟨i, am, cm⟩ hi
    simp only at hi ⊢
    by_cases hin : i < a.d.length
    · obtain ⟨x, y, hx, hy, hxb, hyb, hz⟩ := znM_at hda.1 hdb.1 i
      have hin' : i < b.d.length := by omega
      have hxy := rc_le (R := x) (C := y) om om
      repeat' (first | (show oL; first | (show oA (.move _); refine st_y (y_move rfl) rfl ?_) | (show oA (.assign _); refine st_y (y_assign rfl) rfl ?_) | (show oA (.fieldAddr _ _ _); refine st_y (y_field tabs rfl rfl rfl) rfl ?_) | (show oA (.load _ _); first | refine st_y (y_load tabs rfl rfl (hc_w0 (hg2 i hin))) rfl ?_ | refine st_y (y_load tabs rfl rfl (hc_w0 (hh2 i hin'))) rfl ?_ | refine st_y (y_load tabs rfl rfl (hc_blk 1 rfl rfl)) rfl ?_) | (show oA (.indexAddr _ _ _); first | refine st_y (y_ix1 tabs (j := i) rfl rfl rfl hs2 rfl hin) rfl ?_ | refine st_y (y_ix1 tabs (j := i) rfl rfl rfl hk2 rfl hin') rfl ?_) | (show oA (.binOp _ _ _ _ _); first | refine st_y (y_add rfl rfl om) rfl ?_ | refine st_y (y_lss rfl rfl) rfl ?_) | (show oA (.call _); first | (refine m_call (ent_of Tryz.func231 kr rfl) rfl rfl (fun w c => (by rw [hx, hy]; exact zero_ok (R := x) (C := y) om om)) ?_; rintro v H' ⟨az, cz, rfl, hsz, rfl⟩) | refine m_push1 [iV x, iV y] 0 0 tabs (m' := i) rfl rfl rfl rfl rfl rfl rfl (by rw [flatMap_length matT_length, znMs_length]) (by rw [flatMap_length matT_length, znMs_length]; omega) (by decide) rfl rfl (fun a3 c3 => ?_)) | (show oA (.buildSlice _ _ _); refine m_build1 tabs (us := [iV x, iV y, .slice az (x * y) cz]) rfl rfl rfl rfl (by decide) rfl (fun g2 hg2 => ?_))) | (show oN; first | refine c_nil (x_then ?_) | refine c_nil ?_) | (show oC; first | refine c_seq ?_ | refine c_region ?_ | refine c_skip (x_then ?_) | refine c_block ?_ | refine c_ift rfl aO ?_) | (show AT _ _ _ _; first | refine x_then ?_ | refine x_blk ?_))
      refine x_nx (i + 1, a3, c3) sB (by simp only; omega) (fun w' c' => ?_) (by simp only; omega)
      rw [znMs_next hz] at c'
      exact c'
    · have : i = a.d.length := by omega
      subst this
      refine AT.fact (mats_sl 0 rfl) (fun hsl => ?_)
      rw [znMs_length] at hsl
      repeat' (first | (show oL; first | (show oA (.move _); refine st_y (y_move rfl) rfl ?_) | (show oA (.assign _); refine st_y (y_assign rfl) rfl ?_) | (show oA (.binOp _ _ _ _ _); refine st_y (y_lss rfl rfl) rfl ?_)) | (show oN; refine c_nil (x_then ?_)) | (show oC; first | refine c_seq ?_ | refine c_region ?_ | refine c_ret ?_ | refine c_exit ?_ | refine c_iff rfl nN ?_) | (show AT _ _ _ _; first | refine x_then ?_ | refine x_then_exit ?_ | refine x_blk_exit rfl ?_))
      exact x_ret1 Tryz.results171 (res_tmp rfl) (fun w' c' => ⟨_, _, rfl, ⟨am, cm, by rw [znMs_length], by rw [znMs_length]; exact hsl, by rw [znMs_length]⟩, c'.sub (.cons_cons _ (List.nil_sublist _))⟩)
theorem impl_ZeroMorphism_ok {w : World} {a b : Rp} {e e' : Nat} {u0 u1 u2 u3 v0 v1 v2 v3 : Value} (h0 : Rd w (iT a.q.2.1) u0) (h1 : Rd w (iT a.q.2.2) u1) (h2 : Rd w (iT a.d) u2) (h3 : Rd w (matsT e a.m) u3) (k0 : Rd w (iT b.q.2.1) v0) (k1 : Rd w (iT b.q.2.2) v1) (k2 : Rd w (iT b.d) v2) (k3 : Rd w (matsT e' b.m) v3) :
    Does Tryz.prog 60 [.agg #[iV a.p, iV a.q.1, u0, u1, u2, u3], .agg #[iV b.p, iV b.q.1, v0, v1, v2, v3]] w (GivesMsB (zmL a b) (decide (FitP a b))) := by
  by_cases hF : FitP a b
  · rw [zmL, if_pos hF, decide_eq_true hF]
    refine fn_enter Tryz.func60 rfl Tryz.ntmps60 rfl ?_
    repeat' (first | (show oL; first | (show oA (.assign _); refine st_y (y_assign rfl) rfl ?_) | (show oA (.load _ _); first | refine st_y (y_loadb 0 tabs rfl rfl rfl rfl) rfl ?_ | refine st_y (y_loadb 1 tabs rfl rfl rfl rfl) rfl ?_) | (show oA (.unOp _ _ _); refine st_y (y_notd rfl) rfl ?_) | (show oA (.call _); first | (refine m_call (ent_of Tryz.func164 kr rfl) rfl rfl (fun w c => fit_ok (a := a) (b := b) (c.rd h0) (c.rd h1) (c.rd h2) (c.rd h3) (c.rd k0) (c.rd k1) (c.rd k2) (c.rd k3)) ?_; rintro v H' ⟨rfl, rfl⟩) | (refine m_call (ent_of Tryz.func171 kr rfl) rfl rfl (fun w c => zeros_ok (a := a) (b := b) (c.rd h2) (c.rd k2) hF) ?_; rintro v H' ⟨am, cm, rfl, hs, rfl⟩)) | (show oA (.box _ _); refine m_box rfl rfl (fun b1 hb1 => ?_))) | (show oN; refine c_nil (x_then ?_)) | (show oC; first | refine c_seq ?_ | refine c_region ?_ | refine c_skip (x_then ?_) | refine c_ret ?_ | refine c_iff rfl nN ?_))
    exact x_ret2 Tryz.results60 (res_tmp rfl) (res_tmp rfl) (fun w' c' => ⟨_, _, rfl, ⟨am, cm, rfl, hs, rfl⟩, c'.sub (.cons_cons _ (List.nil_sublist _))⟩)
  · rw [zmL, if_neg hF, decide_eq_false hF]
    refine fn_enter Tryz.func60 rfl Tryz.ntmps60 rfl ?_
    repeat' (first | (show oL; first | (show oA (.assign _); refine st_y (y_assign rfl) rfl ?_) | (show oA (.load _ _); first | refine st_y (y_loadb 0 tabs rfl rfl rfl rfl) rfl ?_ | refine st_y (y_loadb 1 tabs rfl rfl rfl rfl) rfl ?_) | (show oA (.unOp _ _ _); refine st_y (y_notd rfl) rfl ?_) | (show oA (.call _); (refine m_call (ent_of Tryz.func164 kr rfl) rfl rfl (fun w c => fit_ok (a := a) (b := b) (c.rd h0) (c.rd h1) (c.rd h2) (c.rd h3) (c.rd k0) (c.rd k1) (c.rd k2) (c.rd k3)) ?_; rintro v H' ⟨rfl, rfl⟩)) | (show oA (.box _ _); refine m_box rfl rfl (fun b1 hb1 => ?_))) | (show oN; refine c_nil (x_then ?_)) | (show oC; first | refine c_seq ?_ | refine c_region ?_ | refine c_ret ?_ | refine c_ift rfl aO ?_) | (show AT _ _ _ _; refine x_then_ret ?_))
    exact x_ret2 Tryz.results60 (res_tmp rfl) (res_tmp rfl) (fun w' c' => ⟨_, _, rfl, ⟨none, 0, rfl, .inl rfl, rfl⟩, Hp.nilp _ _ (c'.sub (List.nil_sublist _))⟩)
theorem spec_ZeroMorphism_ok {w : World} {a b : Rp} {e e' : Nat} {u0 u1 u2 u3 v0 v1 v2 v3 : Value} (h0 : Rd w (iT a.q.2.1) u0) (h1 : Rd w (iT a.q.2.2) u1) (h2 : Rd w (iT a.d) u2) (h3 : Rd w (matsT e a.m) u3) (k0 : Rd w (iT b.q.2.1) v0) (k1 : Rd w (iT b.q.2.2) v1) (k2 : Rd w (iT b.d) v2) (k3 : Rd w (matsT e' b.m) v3) :
    Does Tryz.prog 61 [.agg #[iV a.p, iV a.q.1, u0, u1, u2, u3], .agg #[iV b.p, iV b.q.1, v0, v1, v2, v3]] w (GivesMsB (zmL a b) (decide (FitP a b))) := by
  obtain ⟨a2, c2, rfl, hs2, hc2, hcc2, hg2⟩ := h2.ints
  obtain ⟨d2, e2, rfl, hk2, i3, i4, hh2⟩ := k2.ints
  refine fn_enter Tryz.func61 rfl Tryz.ntmps61 rfl ?_
  repeat' (first | (show oL; first | (show oA (.move _); refine st_y (y_move rfl) rfl ?_) | (show oA (.assign _); refine st_y (y_assign rfl) rfl ?_) | (show oA (.load _ _); first | refine st_y (y_loadb 1 tabs rfl rfl rfl rfl) rfl ?_ | refine st_y (y_loadb 2 tabs rfl rfl rfl rfl) rfl ?_) | (show oA (.unOp _ _ _); refine st_y (y_notd rfl) rfl ?_) | (show oA (.call _); (refine m_call (ent_of Tryz.func165 kr rfl) rfl rfl (fun w c => l9Fit_ok (a := a) (b := b) (c.rd h0) (c.rd h1) (c.rd h2) (c.rd h3) (c.rd k0) (c.rd k1) (c.rd k2) (c.rd k3)) ?_; rintro v H' ⟨rfl, rfl⟩)) | (show oA (.box _ _); refine m_box rfl rfl (fun b1 hb1 => ?_)) | (show oA (.buildSlice _ _ _); refine m_build0 tabs rfl rfl (fun g hg => ?_))) | (show oN; refine c_nil (x_then ?_)) | (show oC; first | refine c_seq ?_ | refine c_region ?_ | refine c_skip (x_then ?_) | refine c_block ?_ | refine c_ret ?_ | refine c_ifnd rfl (fun h => ?_) (fun h => ?_)) | (show AT _ _ _ _; refine x_then_ret ?_))
  · have hF : ¬ FitP a b := by first | assumption | exact of_not_not aS
    rw [zmL, if_neg hF, decide_eq_false hF]
    exact x_ret2 Tryz.results61 (res_tmp rfl) (res_tmp rfl) (fun w' c' => ⟨_, _, rfl, ⟨_, 0, rfl, .inl rfl, rfl⟩, c'.sub (.cons_cons _ (List.nil_sublist _))⟩)
  have hF : FitP a b := by first | assumption | exact Decidable.not_not.1 aS
  rename_i b2 hb2
  have hl := hF.dl
  have hda := RepP.dd hF.1
  have hdb := RepP.dd hF.2.1
  rw [zmL, if_pos hF, decide_eq_true hF]
  refine c_loopH (α := Nat × Option Addr × Nat) [2, 3] (fun s => [(6, .slice s.2.1 s.1 s.2.2), (7, .int .i64 s.1)]) (fun s => s.1 ≤ a.d.length) (fun s => [.own (matsT 47 (znMs a.d b.d s.1)) (.slice s.2.1 s.1 s.2.2), .blk b1 #[iV b.p, iV b.q.1, v0, v1, .slice d2 b.d.length e2, v3] 60, .blk b2 #[iV a.p, iV a.q.1, u0, u1, .slice a2 a.d.length c2, u3] 60]) (fun s => a.d.length - s.1) (0, some ⟨g, 0, none⟩, 0) rfl sB ?_ ?_ ?_
  · exact Nat.zero_le _
  · exact fun w' c' => c'
  · rintro ⟨i, am, cm⟩ hi
    simp only at hi ⊢
    by_cases hin : i < a.d.length
    · obtain ⟨x, y, hx, hy, hxb, hyb, hz⟩ := znM_at hda.1 hdb.1 i
      have hin' : i < b.d.length := by omega
      have hxy := rc_le (R := x) (C := y) om om
      repeat' (first | (show oL; first | (show oA (.move _); refine st_y (y_move rfl) rfl ?_) | (show oA (.fieldAddr _ _ _); refine st_y (y_field tabs rfl rfl rfl) rfl ?_) | (show oA (.load _ _); refine st_y (y_load tabs rfl rfl (hc_blk 2 rfl rfl)) rfl ?_) | (show oA (.binOp _ _ _ _ _); refine st_y (y_lss rfl rfl) rfl ?_) | (show oA (.call _); refine st_y (y_len tabs rfl rfl) rfl ?_)) | (show oN; refine c_nil (x_then ?_)) | (show oC; first | refine c_seq ?_ | refine c_region ?_ | refine c_skip (x_then ?_) | refine c_block ?_ | refine c_ift rfl aO ?_))
      refine c_all (Hp [] w [.blk b1 #[iV b.p, iV b.q.1, v0, v1, .slice d2 b.d.length e2, v3] 60, .blk b2 #[iV a.p, iV a.q.1, u0, u1, .slice a2 a.d.length c2, u3] 60]) kr (fun _ c => Hp.drew c) ?_
      refine h_take 0 rfl kr kr kr (by exact y_move rfl) rfl (fun w c => by exact c.drop) ?_
      refine h_take 1 rfl kr kr kr (by exact y_field tabs rfl rfl rfl) rfl (fun w c => by exact c.drop) ?_
      refine h_take 2 rfl kr kr kr (by exact y_load tabs rfl rfl (hc_blk 0 rfl rfl)) rfl (fun w c => by exact c.drop) ?_
      refine h_take 3 rfl kr kr kr (by exact y_move rfl) rfl (fun w c => by exact c.drop) ?_
      refine h_take 4 rfl kr kr kr (by exact y_ix1 tabs (j := i) rfl rfl rfl hk2 rfl hin') rfl (fun w c => by exact c.drop) ?_
      refine h_take 5 rfl kr kr kr (by exact y_load tabs rfl rfl (hc_w0 (hh2 i hin'))) rfl (fun w c => by exact c.drop) ?_
      refine h_take 6 rfl kr kr kr (by exact y_field tabs rfl rfl rfl) rfl (fun w c => by exact c.drop) ?_
      refine h_take 7 rfl kr kr kr (by exact y_load tabs rfl rfl (hc_blk 1 rfl rfl)) rfl (fun w c => by exact c.drop) ?_
      refine h_take 8 rfl kr kr kr (by exact y_move rfl) rfl (fun w c => by exact c.drop) ?_
      refine h_take 9 rfl kr kr kr (by exact y_ix1 tabs (j := i) rfl rfl rfl hs2 rfl hin) rfl (fun w c => by exact c.drop) ?_
      refine h_take 10 rfl kr kr kr (by exact y_load tabs rfl rfl (hc_w0 (hg2 i hin))) rfl (fun w c => by exact c.drop) ?_
      refine h_only 11 rfl kr ?_
      first | (refine m_build1 tabs (us := [iV x, iV y, .slice az (x * y) cz]) rfl rfl rfl rfl (by decide) rfl (fun g2 hg2 => ?_)) | (refine m_call (ent_of Tryz.func172 kr rfl) rfl rfl (fun w c => (by rw [hx, hy]; exact l3Zero_ok (R := x) (C := y) om om)) ?_; rintro v H' ⟨az, cz, rfl, hsz, rfl⟩) | (refine m_push1 [iV x, iV y] 0 0 tabs (m' := i) rfl rfl rfl rfl rfl rfl rfl (by rw [flatMap_length matT_length, znMs_length]) (by rw [flatMap_length matT_length, znMs_length]; omega) (by decide) rfl rfl (fun a3 c3 => ?_))
      refine c_nil (x_one (h_keep (fun w c => by exact c.drop.drop) ?_))
      refine h_only 12 rfl kr ?_
      first | (refine m_build1 tabs (us := [iV x, iV y, .slice az (x * y) cz]) rfl rfl rfl rfl (by decide) rfl (fun g2 hg2 => ?_)) | (refine m_call (ent_of Tryz.func172 kr rfl) rfl rfl (fun w c => (by rw [hx, hy]; exact l3Zero_ok (R := x) (C := y) om om)) ?_; rintro v H' ⟨az, cz, rfl, hsz, rfl⟩) | (refine m_push1 [iV x, iV y] 0 0 tabs (m' := i) rfl rfl rfl rfl rfl rfl rfl (by rw [flatMap_length matT_length, znMs_length]) (by rw [flatMap_length matT_length, znMs_length]; omega) (by decide) rfl rfl (fun a3 c3 => ?_))
      refine c_nil (x_one (h_keep (fun w c => by exact c.sub sL) ?_))
      refine h_only 13 rfl kr ?_
      first | (refine m_build1 tabs (us := [iV x, iV y, .slice az (x * y) cz]) rfl rfl rfl rfl (by decide) rfl (fun g2 hg2 => ?_)) | (refine m_call (ent_of Tryz.func172 kr rfl) rfl rfl (fun w c => (by rw [hx, hy]; exact l3Zero_ok (R := x) (C := y) om om)) ?_; rintro v H' ⟨az, cz, rfl, hsz, rfl⟩) | (refine m_push1 [iV x, iV y] 0 0 tabs (m' := i) rfl rfl rfl rfl rfl rfl rfl (by rw [flatMap_length matT_length, znMs_length]) (by rw [flatMap_length matT_length, znMs_length]; omega) (by decide) rfl rfl (fun a3 c3 => ?_))
      refine c_nil (x_one (h_keep (fun w c => by exact c.drop) ?_))
      refine h_take 14 rfl kr kr kr (by exact y_assign rfl) rfl (fun w c => by exact c.drop) ?_
      refine h_end kr ?_
      repeat' (first | (show oL; first | (show oA (.move _); refine st_y (y_move rfl) rfl ?_) | (show oA (.assign _); refine st_y (y_assign rfl) rfl ?_) | (show oA (.binOp _ _ _ _ _); refine st_y (y_add rfl rfl om) rfl ?_)) | (show oN; refine c_nil (x_then ?_)) | (show oC; refine c_region ?_) | (show AT _ _ _ _; first | refine x_then ?_ | refine x_blk ?_))
      refine x_nx (i + 1, a3, c3) sB (by simp only; omega) (fun w' c' => ?_) (by simp only; omega)
      rw [znMs_next hz] at c'
      exact c'
    · have : i = a.d.length := by omega
      subst this
      refine AT.fact (mats_sl 0 rfl) (fun hsl => ?_)
      rw [znMs_length] at hsl
      repeat' (first | (show oL; first | (show oA (.move _); refine st_y (y_move rfl) rfl ?_) | (show oA (.assign _); refine st_y (y_assign rfl) rfl ?_) | (show oA (.fieldAddr _ _ _); refine st_y (y_field tabs rfl rfl rfl) rfl ?_) | (show oA (.load _ _); refine st_y (y_load tabs rfl rfl (hc_blk 2 rfl rfl)) rfl ?_) | (show oA (.binOp _ _ _ _ _); refine st_y (y_lss rfl rfl) rfl ?_) | (show oA (.call _); refine st_y (y_len tabs rfl rfl) rfl ?_)) | (show oN; refine c_nil (x_then ?_)) | (show oC; first | refine c_seq ?_ | refine c_region ?_ | refine c_ret ?_ | refine c_exit ?_ | refine c_iff rfl nN ?_) | (show AT _ _ _ _; first | refine x_then ?_ | refine x_then_exit ?_ | refine x_blk_exit rfl ?_))
      exact x_ret2 Tryz.results61 (res_tmp rfl) (res_tmp rfl) (fun w' c' => ⟨_, _, rfl, ⟨am, cm, by rw [znMs_length], by rw [znMs_length]; exact hsl, by rw [znMs_length]⟩, c'.sub (.cons_cons _ (List.nil_sublist _))⟩)
end Go.Proofs.YtijjkfbkihgfgaaGreat
