import Derived.Test.YtooffimgfnacoaaPat
namespace Go.Proofs.Ytooffimgfnacoaa
open Go.Lg Go.Proofs Go.RowKit
attribute [local irreducible] Code.wp wpList bodyPost Exit.then Exit.inBlock Hp Again Calls Y AT ResV QT Qn QI wpAny wpAnyQ
set_option maxRecDepth 20000
set_option maxHeartbeats 4000000

/-! ### the map along a path -/
theorem matP_cells {p : Int} {m : Mat} (h : MatP p m) : ∃ R C : Nat, m.1 = R ∧ m.2.1 = C ∧ R ≤ 8 ∧ C ≤ 8 ∧ m.2.2 = mk R C (matF m) ∧ inF p R C (matF m) := by
  obtain ⟨R, C, f, rfl, hR, hC, _, hin⟩ := matP_mk h
  refine ⟨R, C, rfl, rfl, hR, hC, mk_ext (fun i j hi hj => (matF_mk hi hj).symm), fun i j hi hj => ?_⟩
  rw [matF_mk hi hj]
  exact hin i j hi hj
/-- the dimension at the vertex behind k arrows -/
def dimA (r : Rp) (x : Pa) (k : Nat) : Nat := (r.d.getD (atP r.q x k).toNat 0).toNat
def alF (r : Rp) (x : Pa) : Nat → Nat → Nat → Int
  | 0 => idF
  | k + 1 => mulF r.p (dimA r x k) (matF (r.m.getD (x.2.getD k 0).toNat mat0)) (alF r x k)
def alP (r : Rp) (x : Pa) : Prop := RepP r ∧ PathP r.q x
instance (r : Rp) (x : Pa) : Decidable (alP r x) := by unfold alP; infer_instance
def alM (r : Rp) (x : Pa) : Mat := if alP r x then ((dimA r x x.2.length : Int), (dimA r x 0 : Int), mk (dimA r x x.2.length) (dimA r x 0) (alF r x x.2.length)) else mat0
theorem RepP.dg {r : Rp} (h : RepP r) (n : Nat) : 0 ≤ r.d.getD n 0 ∧ r.d.getD n 0 ≤ 4 := (RepP.dd h).1 n
theorem dimA_le {r : Rp} {x : Pa} (h : RepP r) (k : Nat) : dimA r x k ≤ 4 := by
  have := h.dg (atP r.q x k).toNat
  unfold dimA; omega
/-- the vertices on the way -/
theorem atP_in {q : Qv} {x : Pa} (h : PathP q x) : ∀ k, k ≤ x.2.length → 0 ≤ atP q x k ∧ atP q x k ≤ q.1 - 1
  | 0, _ => h.2.1
  | k + 1, hk => by
    have hs := (h.2.2.2 k (by omega)).1
    have hl := h.1.2.2.1
    exact inP_get h.1.2.2.2.2 (by omega)
theorem alF_in {r : Rp} {x : Pa} (hF : FieldP r.p) {R C : Nat} : ∀ k, inF r.p R C (alF r x k)
  | 0 => fun i j _ _ => by have := fieldP_pos hF; unfold alF idF; split <;> omega
  | k + 1 => inF_mul (by have := fieldP_pos hF; omega)
/-- the matrix of the k-th arrow -/
theorem arr_at {r : Rp} {x : Pa} {k : Nat} (h : alP r x) (hk : k < x.2.length) : ∃ n : Nat, x.2.getD k 0 = n ∧ n < r.m.length ∧ ∃ m : Mat, r.m[n]? = some m ∧ m.1 = dimA r x (k + 1) ∧ m.2.1 = dimA r x k ∧ m.2.2 = mk (dimA r x (k + 1)) (dimA r x k) (matF m) ∧ inF r.p (dimA r x (k + 1)) (dimA r x k) (matF m) ∧ r.m.getD (x.2.getD k 0).toNat mat0 = m := by
  obtain ⟨hR, hP⟩ := h
  obtain ⟨hs1, hs2⟩ := hP.2.2.2 k hk
  have hml := hR.2.2.1
  refine ⟨(x.2.getD k 0).toNat, by omega, by omega, ?_⟩
  have hn : (x.2.getD k 0).toNat < r.m.length := by omega
  obtain ⟨m, hm⟩ : ∃ m, r.m[(x.2.getD k 0).toNat]? = some m := ⟨_, List.getElem?_eq_getElem hn⟩
  have hmd : r.m.getD (x.2.getD k 0).toNat mat0 = m := by rw [List.getD, hm]; rfl
  obtain ⟨hM1, hM2, hM3⟩ := hR.2.2.2 _ hn
  rw [hmd] at hM1 hM2 hM3
  obtain ⟨R, C, e1, e2, _, _, e3, e4⟩ := matP_cells hM1
  have d1 : dimA r x (k + 1) = R := by unfold dimA; simp only [atP]; rw [← hM3]; omega
  have d2 : dimA r x k = C := by unfold dimA; rw [← hs2, ← hM2]; omega
  refine ⟨m, hm, ?_, ?_, ?_, ?_, hmd⟩
  · rw [d1, e1]
  · rw [d2, e2]
  · rw [d1, d2]; exact e3
  · rw [d1, d2]; exact e4
theorem along_ok {w : World} {r : Rp} {x : Pa} {e : Nat} {u0 u1 u2 u3 ux : Value} (h2 : Rd w (iT r.d) u2) (h3 : Rd w (matsT e r.m) u3) (hx : Rd w (iT x.2) ux) (hA : alP r x) :
    Does Try.prog 133 [.agg #[iV r.p, iV r.q.1, u0, u1, u2, u3], .agg #[iV x.1, ux]] w (GivesK (dimA r x x.2.length) (dimA r x 0) (alF r x x.2.length)) := by
  have hR := hA.1
  have hP := hA.2
  obtain ⟨a2, c2, rfl, hs2, _, hd2, hg2⟩ := h2.ints
  obtain ⟨a3, c3, rfl, hs3, _, hd3, hg3⟩ := rd_mats h3
  obtain ⟨ax, cx, rfl, hsx, _, hdx, hgx⟩ := hx.ints
  have hl20 := hP.2.2.1
  have hdl := hR.2.1.2.1
  have h00 := atP_in hP 0 (Nat.zero_le _)
  have hda := fun k => dimA_le (x := x) hR k
  have hdg := hR.dg (atP r.q x 0).toNat
  obtain ⟨s0, hs0⟩ : ∃ s0 : Nat, x.1 = s0 := ⟨x.1.toNat, by have := hP.2.1; omega⟩
  have hs0l : s0 < r.d.length := by simp only [atP] at h00; omega
  have hd0 : r.d.getD s0 0 = dimA r x 0 := by
    have : (atP r.q x 0).toNat = s0 := by simp only [atP]; omega
    rw [this] at hdg
    unfold dimA; rw [this]; omega
  refine fn_enter Try.func133 rfl Try.ntmps133 rfl ?_
  repeat' (first
    | (show AT _ _ _ (wpList _ _ _ (_ :: _)); first
       | (show AT _ _ _ (wpList _ _ _ (⟨_, Op.move _, _, _, _, _⟩ :: _)); refine st_y (y_move rfl) rfl ?_)
       | (show AT _ _ _ (wpList _ _ _ (⟨_, Op.fieldAddr _ _ _, _, _, _, _⟩ :: _)); refine st_y (y_field tabs rfl rfl rfl) rfl ?_)
       | (show AT _ _ _ (wpList _ _ _ (⟨_, Op.load _ _, _, _, _, _⟩ :: _)); first | refine st_y (y_load tabs rfl rfl (hc_w0 (hg2 s0 hs0l))) rfl ?_ | refine st_y (y_load tabs rfl rfl (hc_blk 1 rfl rfl)) rfl ?_ | refine st_y (y_load tabs rfl rfl (hc_blk 2 rfl rfl)) rfl ?_ | refine st_y (y_load tabs rfl rfl (hc_blk 3 rfl rfl)) rfl ?_)
       | (show AT _ _ _ (wpList _ _ _ (⟨_, Op.indexAddr _ _ _, _, _, _, _⟩ :: _)); refine st_y (y_ix1 tabs (j := s0) rfl rfl rfl hs2 hs0 hs0l) rfl ?_)
       | (show AT _ _ _ (wpList _ _ _ (⟨_, Op.call _, _, _, _, _⟩ :: _)); first | (refine m_call (ent_of Try.func183 (by kernel_rfl) rfl) rfl rfl (fun w c => (by rw [hd0]; exact identity_ok (n := dimA r x 0) (by have := hda 0; omega))) ?_; rintro v H' ⟨am, cm, rfl, hsm, rfl⟩) | refine st_y (y_len tabs rfl rfl) rfl ?_)
       | (show AT _ _ _ (wpList _ _ _ (⟨_, Op.store _ _ _, _, _, _, _⟩ :: _)); refine m_storeb 0 tabs rfl rfl rfl rfl rfl rfl rfl ?_)
       | (show AT _ _ _ (wpList _ _ _ (⟨_, Op.box _ _, _, _, _, _⟩ :: _)); refine m_box rfl rfl (fun b3 hb3 => ?_))
       | (show AT _ _ _ (wpList _ _ _ (⟨_, Op.alloc _, _, _, _, _⟩ :: _)); refine m_alloc tabs rfl rfl (fun b5 hb5 => ?_)))
    | (show AT _ _ _ (wpList _ _ _ []); refine c_nil (x_then ?_))
    | (show AT _ _ _ (Code.wp _ _ _); first | refine c_seq ?_ | refine c_region ?_ | refine c_block ?_))
  rename_i b2 hb2 b4 hb4
  refine c_loopH (α := Nat × Option Addr × Nat) [2, 4, 5, 16, 17] (fun s => [(18, .int .i64 s.1)]) (fun s => s.1 ≤ x.2.length ∧ SA s.2.1 (dimA r x s.1 * dimA r x 0)) (fun s => [.own (iT (mk (dimA r x s.1) (dimA r x 0) (alF r x s.1))) (.slice s.2.1 (dimA r x s.1 * dimA r x 0) s.2.2), .blk b5 #[iV (dimA r x s.1), iV (dimA r x 0), .slice s.2.1 (dimA r x s.1 * dimA r x 0) s.2.2] 80, .blk b4 #[iV 0, iV 0, .slice none 0 0] 80, .blk b3 #[iV x.1, .slice ax x.2.length cx] 83, .blk b2 #[iV r.p, iV r.q.1, u0, u1, .slice a2 r.d.length c2, .slice a3 r.m.length c3] 50]) (fun s => x.2.length - s.1) (0, am, cm) rfl (by repeat' (first | exact Sub.nil | refine Sub.cons rfl ?_ | refine Sub.consi rfl (by omega) ?_)) ?_ ?_ ?_
  · exact ⟨Nat.zero_le _, hsm⟩
  · exact fun w' c' => c'.front (i := 1) rfl
  · rintro ⟨k, a, c⟩ ⟨hk, hsa⟩
    simp only at hk hsa ⊢
    by_cases hkl : k < x.2.length
    · obtain ⟨n, hn, hnl, m, hm, e1, e2, e3, e4, e5⟩ := arr_at hA hkl
      obtain ⟨a6, c6, g1, g2, g3, g4⟩ := hg3 n m hm
      rw [e1] at g1
      rw [e2] at g2
      rw [e3] at g4
      rw [e3, mk_length] at g3
      have hml : m.2.2.length = dimA r x (k + 1) * dimA r x k := by rw [e3, mk_length]
      rw [mk_length] at g4
      have gx := hgx k hkl
      rw [hn] at gx
      repeat' (first
        | (show AT _ _ _ (wpList _ _ _ (_ :: _)); first
           | (show AT _ _ _ (wpList _ _ _ (⟨_, Op.assign _, _, _, _, _⟩ :: _)); refine st_y (y_assign rfl) rfl ?_)
           | (show AT _ _ _ (wpList _ _ _ (⟨_, Op.load _ _, _, _, _, _⟩ :: _)); refine st_y (y_load tabs rfl rfl (hc_w0 gx)) rfl ?_)
           | (show AT _ _ _ (wpList _ _ _ (⟨_, Op.indexAddr _ _ _, _, _, _, _⟩ :: _)); refine st_y (y_ix1 tabs (j := k) rfl rfl rfl hsx rfl hkl) rfl ?_)
           | (show AT _ _ _ (wpList _ _ _ (⟨_, Op.binOp _ _ _ _ _, _, _, _, _⟩ :: _)); refine st_y (y_lss rfl rfl) rfl ?_))
        | (show AT _ _ _ (wpList _ _ _ []); refine c_nil (x_then ?_))
        | (show AT _ _ _ (Code.wp _ _ _); first | refine c_seq ?_ | refine c_region ?_ | refine c_skip (x_then ?_) | refine c_block ?_ | refine c_ift rfl (by first | assumption | omega) ?_))
      refine c_mixR (Hp [] w [.blk b5 #[iV (dimA r x k), iV (dimA r x 0), .slice a (dimA r x k * dimA r x 0) c] 80, .blk b2 #[iV r.p, iV r.q.1, u0, u1, .slice a2 r.d.length c2, .slice a3 r.m.length c3] 50]) 9 (by kernel_rfl) (by kernel_rfl) (by kernel_rfl) (by kernel_rfl) (by kernel_rfl) (fun _ c => Hp.drew c) ?_
      refine h_take 0 rfl (by kernel_rfl) (by kernel_rfl) (by kernel_rfl) (by exact y_field tabs rfl rfl rfl) rfl (fun w c => by exact c.sub (by repeat' first | exact List.Sublist.refl _ | exact List.nil_sublist _ | apply List.Sublist.cons_cons | apply List.Sublist.cons)) ?_
      refine h_take 1 rfl (by kernel_rfl) (by kernel_rfl) (by kernel_rfl) (by exact y_load tabs rfl rfl (hc_blk 1 rfl rfl)) rfl (fun w c => by exact c.sub (by repeat' first | exact List.Sublist.refl _ | exact List.nil_sublist _ | apply List.Sublist.cons_cons | apply List.Sublist.cons)) ?_
      refine h_take 2 rfl (by kernel_rfl) (by kernel_rfl) (by kernel_rfl) (by exact y_field tabs rfl rfl rfl) rfl (fun w c => by exact c.sub (by repeat' first | exact List.Sublist.refl _ | exact List.nil_sublist _ | apply List.Sublist.cons_cons | apply List.Sublist.cons)) ?_
      refine h_take 3 rfl (by kernel_rfl) (by kernel_rfl) (by kernel_rfl) (by exact y_load tabs rfl rfl (hc_blk 1 rfl rfl)) rfl (fun w c => by exact c.sub (by repeat' first | exact List.Sublist.refl _ | exact List.nil_sublist _ | apply List.Sublist.cons_cons | apply List.Sublist.cons)) ?_
      refine h_take 4 rfl (by kernel_rfl) (by kernel_rfl) (by kernel_rfl) (by exact y_move rfl) rfl (fun w c => by exact c.sub (by repeat' first | exact List.Sublist.refl _ | exact List.nil_sublist _ | apply List.Sublist.cons_cons | apply List.Sublist.cons)) ?_
      refine h_take 5 rfl (by kernel_rfl) (by kernel_rfl) (by kernel_rfl) (by exact y_ixa tabs rfl rfl rfl hs3 (by omega) (by omega)) rfl (fun w c => by exact c.sub (by repeat' first | exact List.Sublist.refl _ | exact List.nil_sublist _ | apply List.Sublist.cons_cons | apply List.Sublist.cons)) ?_
      refine h_take 6 rfl (by kernel_rfl) (by kernel_rfl) (by kernel_rfl) (by exact y_load3 tabs rfl rfl (hc_w0 g1) (hc_w0 g2) (hc_w0 g3)) rfl (fun w c => by exact c.sub (by repeat' first | exact List.Sublist.refl _ | exact List.nil_sublist _ | apply List.Sublist.cons_cons | apply List.Sublist.cons)) ?_
      refine h_take 7 rfl (by kernel_rfl) (by kernel_rfl) (by kernel_rfl) (by exact y_loadb 0 tabs rfl rfl rfl rfl) rfl (fun w c => by exact c.sub (by repeat' first | exact List.Sublist.refl _ | exact List.nil_sublist _ | apply List.Sublist.cons_cons | apply List.Sublist.cons)) ?_
      refine h_only 8 rfl (by kernel_rfl) ?_
      (refine m_call (ent_of Try.func175 (by kernel_rfl) rfl) rfl rfl (fun w c => times_ok (c.rd g4) (c.own_rd (i := 0) rfl) hR.1 (by have := hda (k + 1); omega) (by have := hda k; omega) (by have := hda 0; omega) e4 (alF_in hR.1 k)) ?_; rintro v H' ⟨a7, c7, rfl, hs7, rfl⟩)
      refine c_nil (x_one (h_keep (fun w c => by exact c.sub (by repeat' first | exact List.Sublist.refl _ | exact List.nil_sublist _ | apply List.Sublist.cons_cons | apply List.Sublist.cons)) ?_))
      refine h_end (by kernel_rfl) ?_
      repeat' (first
        | (show AT _ _ _ (wpList _ _ _ (_ :: _)); first
           | (show AT _ _ _ (wpList _ _ _ (⟨_, Op.move _, _, _, _, _⟩ :: _)); refine st_y (y_move rfl) rfl ?_)
           | (show AT _ _ _ (wpList _ _ _ (⟨_, Op.binOp _ _ _ _ _, _, _, _, _⟩ :: _)); refine st_y (y_add rfl rfl (by omega)) rfl ?_)
           | (show AT _ _ _ (wpList _ _ _ (⟨_, Op.store _ _ _, _, _, _, _⟩ :: _)); refine m_storeb 2 tabs rfl rfl rfl rfl rfl rfl rfl ?_))
        | (show AT _ _ _ (wpList _ _ _ []); first | refine c_nil (x_then ?_) | refine c_nil ?_)
        | (show AT _ _ _ (Code.wp _ _ _); refine c_region ?_)
        | (show AT _ _ _ _; first | refine x_then ?_ | refine x_blk ?_))
      refine x_nx (k + 1, a7, c7) (by repeat' (first | exact Sub.nil | refine Sub.cons rfl ?_ | refine Sub.consi rfl (by omega) ?_)) ⟨by simp only; omega, hs7⟩ (fun w' c' => ?_) (by simp only; omega)
      have e0 : mulF r.p (dimA r x k) (matF m) (alF r x k) = alF r x (k + 1) := by rw [alF, e5]
      rw [e0] at c'
      exact c'.sub (.cons_cons _ (.cons _ (List.Sublist.refl _)))
    · have : k = x.2.length := by omega
      subst this
      repeat' (first
        | (show AT _ _ _ (wpList _ _ _ (_ :: _)); first
           | (show AT _ _ _ (wpList _ _ _ (⟨_, Op.load _ _, _, _, _, _⟩ :: _)); refine st_y (y_loadb 1 tabs rfl rfl rfl rfl) rfl ?_)
           | (show AT _ _ _ (wpList _ _ _ (⟨_, Op.binOp _ _ _ _ _, _, _, _, _⟩ :: _)); refine st_y (y_lss rfl rfl) rfl ?_)
           | (show AT _ _ _ (wpList _ _ _ (⟨_, Op.store _ _ _, _, _, _, _⟩ :: _)); refine m_storeb 2 tabs rfl rfl rfl rfl rfl rfl rfl ?_))
        | (show AT _ _ _ (wpList _ _ _ []); refine c_nil (x_then ?_))
        | (show AT _ _ _ (Code.wp _ _ _); first | refine c_seq ?_ | refine c_region ?_ | refine c_ret ?_ | refine c_exit ?_ | refine c_iff rfl (by first | assumption | exact not_not_intro (by assumption) | omega) ?_)
        | (show AT _ _ _ _; first | refine x_then ?_ | refine x_then_exit ?_ | refine x_blk_exit rfl ?_))
      exact x_ret1 Try.results133 (res_cellb 2 tabs rfl rfl rfl rfl) (fun w' c' => ⟨_, _, rfl, ⟨_, _, rfl, hsa, rfl⟩, c'.sub (.cons_cons _ (List.nil_sublist _))⟩)
theorem alM_sz (r : Rp) (x : Pa) : (alM r x).2.2.length ≤ 64 := by
  unfold alM
  split
  · rename_i h
    simp only [mk_length]
    exact Nat.le_trans (Nat.mul_le_mul (dimA_le h.1 _) (dimA_le h.1 _)) (by omega)
  · simp [mat0]
theorem impl_MapAlong_ok {w : World} {r : Rp} {x : Pa} {e : Nat} {u0 u1 u2 u3 ux : Value} (h0 : Rd w (iT r.q.2.1) u0) (h1 : Rd w (iT r.q.2.2) u1) (h2 : Rd w (iT r.d) u2) (h3 : Rd w (matsT e r.m) u3) (hx : Rd w (iT x.2) ux) :
    Does Try.prog 64 [.agg #[iV r.p, iV r.q.1, u0, u1, u2, u3], .agg #[iV x.1, ux]] w (GivesMB (alM r x) (decide (alP r x))) := by
  by_cases hA : alP r x
  · have hA1 := hA.1
    have hA2 := hA.2
    rw [alM, if_pos hA, decide_eq_true hA]
    refine fn_enter Try.func64 rfl Try.ntmps64 rfl ?_
    repeat' (first
      | (show AT _ _ _ (wpList _ _ _ (_ :: _)); first
         | (show AT _ _ _ (wpList _ _ _ (⟨_, Op.move _, _, _, _, _⟩ :: _)); refine st_y (y_move rfl) rfl ?_)
         | (show AT _ _ _ (wpList _ _ _ (⟨_, Op.assign _, _, _, _, _⟩ :: _)); refine st_y (y_assign rfl) rfl ?_)
         | (show AT _ _ _ (wpList _ _ _ (⟨_, Op.fieldAddr _ _ _, _, _, _, _⟩ :: _)); refine st_y (y_field tabs rfl rfl rfl) rfl ?_)
         | (show AT _ _ _ (wpList _ _ _ (⟨_, Op.load _ _, _, _, _, _⟩ :: _)); first | refine st_y (y_load3 tabs rfl rfl (hc_blk 2 rfl rfl) (hc_blk 2 rfl rfl) (hc_blk 2 rfl rfl)) rfl ?_ | refine st_y (y_loadb 1 tabs rfl rfl rfl rfl) rfl ?_ | refine st_y (y_loadb 2 tabs rfl rfl rfl rfl) rfl ?_)
         | (show AT _ _ _ (wpList _ _ _ (⟨_, Op.unOp _ _ _, _, _, _, _⟩ :: _)); refine st_y (y_notd rfl) rfl ?_)
         | (show AT _ _ _ (wpList _ _ _ (⟨_, Op.call _, _, _, _, _⟩ :: _)); first | (refine m_call (ent_of Try.func105 (by kernel_rfl) rfl) rfl rfl (fun w c => impl_IsRep_ok (r := r) (c.rd h0) (c.rd h1) (c.rd h2) (c.rd h3)) ?_; rintro v H' ⟨rfl, rfl⟩) | (refine m_call (ent_of Try.func132 (by kernel_rfl) rfl) rfl rfl (fun w c => impl_IsPath_ok (q := r.q) (x := x) (c.rd h0) (c.rd h1) (c.rd hx)) ?_; rintro v H' ⟨rfl, rfl⟩) | (refine m_call (ent_of Try.func133 (by kernel_rfl) rfl) rfl rfl (fun w c => along_ok (r := r) (x := x) (c.rd h2) (c.rd h3) (c.rd hx) hA) ?_; rintro v H' ⟨a, c, rfl, hs, rfl⟩))
         | (show AT _ _ _ (wpList _ _ _ (⟨_, Op.pick _ _ _, _, _, _, _⟩ :: _)); first | refine st_y (y_pickt rfl (by assumption) rfl) rfl ?_ | refine st_y (y_pickf rfl (by assumption) rfl) rfl ?_)
         | (show AT _ _ _ (wpList _ _ _ (⟨_, Op.store _ _ _, _, _, _, _⟩ :: _)); refine m_storeb 1 tabs rfl rfl rfl rfl rfl rfl rfl ?_)
         | (show AT _ _ _ (wpList _ _ _ (⟨_, Op.box _ _, _, _, _, _⟩ :: _)); refine m_box rfl rfl (fun b3 hb3 => ?_))
         | (show AT _ _ _ (wpList _ _ _ (⟨_, Op.alloc _, _, _, _, _⟩ :: _)); refine m_alloc tabs rfl rfl (fun b5 hb5 => ?_))
         | refine st_gfy rfl rfl (by assumption) ?_ | refine st_gfn rfl rfl (by assumption) rfl ?_ | refine st_gd rfl rfl (fun h => ?_) (fun h => ?_))
      | (show AT _ _ _ (wpList _ _ _ []); refine c_nil (x_then ?_))
      | (show AT _ _ _ (Code.wp _ _ _); first | refine c_seq ?_ | refine c_region ?_ | refine c_skip (x_then ?_) | refine c_ret ?_ | refine c_true rfl ?_ | refine c_iff rfl (by first | assumption | exact not_not_intro (by assumption) | omega) ?_))
    all_goals first | exact absurd hA1 (by assumption) | exact absurd hA2 (by assumption) | skip
    exact x_ret2 Try.results64 (res_cellb 1 tabs rfl rfl rfl rfl) (res_tmp rfl) (fun w' c' => ⟨_, _, rfl, ⟨a, c, by simp, by simpa using hs, by simp⟩, c'.sub (.cons_cons _ (List.nil_sublist _))⟩)
  · rw [alM, if_neg hA, decide_eq_false hA]
    have hcs : ¬ RepP r ∨ (RepP r ∧ ¬ PathP r.q x) := by unfold alP at hA; grind
    refine fn_enter Try.func64 rfl Try.ntmps64 rfl ?_
    rcases hcs with hA1 | ⟨hA1, hA2⟩
    all_goals
      repeat' (first
        | (show AT _ _ _ (wpList _ _ _ (_ :: _)); first
           | (show AT _ _ _ (wpList _ _ _ (⟨_, Op.move _, _, _, _, _⟩ :: _)); refine st_y (y_move rfl) rfl ?_)
           | (show AT _ _ _ (wpList _ _ _ (⟨_, Op.assign _, _, _, _, _⟩ :: _)); refine st_y (y_assign rfl) rfl ?_)
           | (show AT _ _ _ (wpList _ _ _ (⟨_, Op.fieldAddr _ _ _, _, _, _, _⟩ :: _)); refine st_y (y_field tabs rfl rfl rfl) rfl ?_)
           | (show AT _ _ _ (wpList _ _ _ (⟨_, Op.load _ _, _, _, _, _⟩ :: _)); first | refine st_y (y_load3 tabs rfl rfl (hc_blk 2 rfl rfl) (hc_blk 2 rfl rfl) (hc_blk 2 rfl rfl)) rfl ?_ | refine st_y (y_loadb 1 tabs rfl rfl rfl rfl) rfl ?_ | refine st_y (y_loadb 2 tabs rfl rfl rfl rfl) rfl ?_)
           | (show AT _ _ _ (wpList _ _ _ (⟨_, Op.unOp _ _ _, _, _, _, _⟩ :: _)); refine st_y (y_notd rfl) rfl ?_)
           | (show AT _ _ _ (wpList _ _ _ (⟨_, Op.call _, _, _, _, _⟩ :: _)); first | (refine m_call (ent_of Try.func105 (by kernel_rfl) rfl) rfl rfl (fun w c => impl_IsRep_ok (r := r) (c.rd h0) (c.rd h1) (c.rd h2) (c.rd h3)) ?_; rintro v H' ⟨rfl, rfl⟩) | (refine m_call (ent_of Try.func132 (by kernel_rfl) rfl) rfl rfl (fun w c => impl_IsPath_ok (q := r.q) (x := x) (c.rd h0) (c.rd h1) (c.rd hx)) ?_; rintro v H' ⟨rfl, rfl⟩))
           | (show AT _ _ _ (wpList _ _ _ (⟨_, Op.pick _ _ _, _, _, _, _⟩ :: _)); first | refine st_y (y_pickt rfl (by assumption) rfl) rfl ?_ | refine st_y (y_pickf rfl (by assumption) rfl) rfl ?_)
           | (show AT _ _ _ (wpList _ _ _ (⟨_, Op.store _ _ _, _, _, _, _⟩ :: _)); refine m_storeb 0 tabs rfl rfl rfl rfl rfl rfl rfl ?_)
           | (show AT _ _ _ (wpList _ _ _ (⟨_, Op.box _ _, _, _, _, _⟩ :: _)); refine m_box rfl rfl (fun b3 hb3 => ?_))
           | (show AT _ _ _ (wpList _ _ _ (⟨_, Op.alloc _, _, _, _, _⟩ :: _)); refine m_alloc tabs rfl rfl (fun b5 hb5 => ?_))
           | (show AT _ _ _ (wpList _ _ _ (⟨_, Op.build _ _, _, _, _, _⟩ :: _)); refine st_y (y_bld0 bld_mat0) rfl ?_)
           | refine st_gfy rfl rfl (by assumption) ?_ | refine st_gfn rfl rfl (by assumption) rfl ?_ | refine st_gd rfl rfl (fun h => ?_) (fun h => ?_))
        | (show AT _ _ _ (wpList _ _ _ []); refine c_nil (x_then ?_))
        | (show AT _ _ _ (Code.wp _ _ _); first | refine c_seq ?_ | refine c_region ?_ | refine c_ret ?_ | refine c_true rfl ?_ | refine c_ift rfl (by first | assumption | omega) ?_)
        | (show AT _ _ _ _; refine x_then_ret ?_))
    all_goals exact x_ret2 Try.results64 (res_cellb 0 tabs rfl rfl rfl rfl) (res_tmp rfl) (fun w' c' => ⟨_, _, rfl, ⟨none, 0, rfl, .inl rfl, rfl⟩, Hp.nilp _ _ (c'.sub (List.nil_sublist _))⟩)
theorem spec_MapAlong_ok {w : World} {r : Rp} {x : Pa} {e : Nat} {u0 u1 u2 u3 ux : Value} (h0 : Rd w (iT r.q.2.1) u0) (h1 : Rd w (iT r.q.2.2) u1) (h2 : Rd w (iT r.d) u2) (h3 : Rd w (matsT e r.m) u3) (hx : Rd w (iT x.2) ux) :
    Does Try.prog 62 [.agg #[iV r.p, iV r.q.1, u0, u1, u2, u3], .agg #[iV x.1, ux]] w (GivesMB (alM r x) (decide (alP r x))) := by
  by_cases hA : alP r x
  · have hR := hA.1
    have hP := hA.2
    rw [alM, if_pos hA, decide_eq_true hA]
    obtain ⟨a2, c2, rfl, hs2, _, hd2, hg2⟩ := h2.ints
    obtain ⟨a3, c3, rfl, hs3, _, hd3, hg3⟩ := rd_mats h3
    obtain ⟨ax, cx, rfl, hsx, _, hdx, hgx⟩ := hx.ints
    have hl20 := hP.2.2.1
    have hdl := hR.2.1.2.1
    have h00 := atP_in hP 0 (Nat.zero_le _)
    have hda := fun k => dimA_le (x := x) hR k
    have hdg := hR.dg (atP r.q x 0).toNat
    obtain ⟨s0, hs0⟩ : ∃ s0 : Nat, x.1 = s0 := ⟨x.1.toNat, by have := hP.2.1; omega⟩
    have hs0l : s0 < r.d.length := by simp only [atP] at h00; omega
    have hd0 : r.d.getD s0 0 = dimA r x 0 := by
      have : (atP r.q x 0).toNat = s0 := by simp only [atP]; omega
      rw [this] at hdg
      unfold dimA; rw [this]; omega
    refine fn_enter Try.func62 rfl Try.ntmps62 rfl ?_
    repeat' (first
      | (show AT _ _ _ (wpList _ _ _ (_ :: _)); first
         | (show AT _ _ _ (wpList _ _ _ (⟨_, Op.move _, _, _, _, _⟩ :: _)); refine st_y (y_move rfl) rfl ?_)
         | (show AT _ _ _ (wpList _ _ _ (⟨_, Op.assign _, _, _, _, _⟩ :: _)); refine st_y (y_assign rfl) rfl ?_)
         | (show AT _ _ _ (wpList _ _ _ (⟨_, Op.fieldAddr _ _ _, _, _, _, _⟩ :: _)); refine st_y (y_field tabs rfl rfl rfl) rfl ?_)
         | (show AT _ _ _ (wpList _ _ _ (⟨_, Op.load _ _, _, _, _, _⟩ :: _)); first | refine st_y (y_load3 tabs rfl rfl (hc_blk 2 rfl rfl) (hc_blk 2 rfl rfl) (hc_blk 2 rfl rfl)) rfl ?_ | refine st_y (y_load tabs rfl rfl (hc_w0 (hg2 s0 hs0l))) rfl ?_ | refine st_y (y_load tabs rfl rfl (hc_blk 1 rfl rfl)) rfl ?_ | refine st_y (y_load tabs rfl rfl (hc_blk 2 rfl rfl)) rfl ?_ | refine st_y (y_loadb 1 tabs rfl rfl rfl rfl) rfl ?_ | refine st_y (y_loadb 2 tabs rfl rfl rfl rfl) rfl ?_)
         | (show AT _ _ _ (wpList _ _ _ (⟨_, Op.indexAddr _ _ _, _, _, _, _⟩ :: _)); refine st_y (y_ix1 tabs (j := s0) rfl rfl rfl hs2 hs0 hs0l) rfl ?_)
         | (show AT _ _ _ (wpList _ _ _ (⟨_, Op.unOp _ _ _, _, _, _, _⟩ :: _)); refine st_y (y_notd rfl) rfl ?_)
         | (show AT _ _ _ (wpList _ _ _ (⟨_, Op.call _, _, _, _, _⟩ :: _)); first | (refine m_call (ent_of Try.func103 (by kernel_rfl) rfl) rfl rfl (fun w c => spec_IsRep_ok (r := r) (c.rd h0) (c.rd h1) (c.rd h2) (c.rd h3)) ?_; rintro v H' ⟨rfl, rfl⟩) | (refine m_call (ent_of Try.func130 (by kernel_rfl) rfl) rfl rfl (fun w c => spec_IsPath_ok (q := r.q) (x := x) (c.rd h0) (c.rd h1) (c.rd hx)) ?_; rintro v H' ⟨rfl, rfl⟩) | (refine m_call (ent_of Try.func131 (by kernel_rfl) rfl) rfl rfl (fun w c => (by rw [hd0]; exact l3Identity_ok (n := dimA r x 0) (by have := hda 0; omega))) ?_; rintro v H' ⟨am, cm, rfl, hsm, rfl⟩))
         | (show AT _ _ _ (wpList _ _ _ (⟨_, Op.pick _ _ _, _, _, _, _⟩ :: _)); first | refine st_y (y_pickt rfl (by assumption) rfl) rfl ?_ | refine st_y (y_pickf rfl (by assumption) rfl) rfl ?_)
         | (show AT _ _ _ (wpList _ _ _ (⟨_, Op.store _ _ _, _, _, _, _⟩ :: _)); refine m_storeb 0 tabs rfl rfl rfl rfl rfl rfl rfl ?_)
         | (show AT _ _ _ (wpList _ _ _ (⟨_, Op.box _ _, _, _, _, _⟩ :: _)); refine m_box rfl rfl (fun b3 hb3 => ?_))
         | (show AT _ _ _ (wpList _ _ _ (⟨_, Op.alloc _, _, _, _, _⟩ :: _)); refine m_alloc tabs rfl rfl (fun b5 hb5 => ?_))
         | refine st_gfy rfl rfl (by assumption) ?_ | refine st_gfn rfl rfl (by assumption) rfl ?_ | refine st_gd rfl rfl (fun h => ?_) (fun h => ?_))
      | (show AT _ _ _ (wpList _ _ _ []); refine c_nil (x_then ?_))
      | (show AT _ _ _ (Code.wp _ _ _); first | refine c_seq ?_ | refine c_region ?_ | refine c_skip (x_then ?_) | refine c_block ?_ | refine c_true rfl ?_ | refine c_iff rfl (by first | assumption | exact not_not_intro (by assumption) | omega) ?_))
    all_goals first | exact absurd hR (by assumption) | exact absurd hP (by assumption) | skip
    rename_i b2 hb2 b4 hb4
    refine c_loopH (α := Nat × Option Addr × Nat) [2, 3, 4, 6] (fun s => [(7, .int .i64 s.1)]) (fun s => s.1 ≤ x.2.length ∧ SA s.2.1 (dimA r x s.1 * dimA r x 0)) (fun s => [.own (iT (mk (dimA r x s.1) (dimA r x 0) (alF r x s.1))) (.slice s.2.1 (dimA r x s.1 * dimA r x 0) s.2.2), .blk b5 #[iV (dimA r x s.1), iV (dimA r x 0), .slice s.2.1 (dimA r x s.1 * dimA r x 0) s.2.2] 80, .blk b4 #[iV 0, iV 0, .slice none 0 0] 80, .blk b3 #[iV x.1, .slice ax x.2.length cx] 83, .blk b2 #[iV r.p, iV r.q.1, u0, u1, .slice a2 r.d.length c2, .slice a3 r.m.length c3] 50]) (fun s => x.2.length - s.1) (0, am, cm) rfl (by repeat' (first | exact Sub.nil | refine Sub.cons rfl ?_ | refine Sub.consi rfl (by omega) ?_)) ?_ ?_ ?_
    · exact ⟨Nat.zero_le _, hsm⟩
    · exact fun w' c' => c'.front (i := 1) rfl
    · rintro ⟨k, a, c⟩ ⟨hk, hsa⟩
      simp only at hk hsa ⊢
      by_cases hkl : k < x.2.length
      · obtain ⟨n, hn, hnl, m, hm, e1, e2, e3, e4, e5⟩ := arr_at hA hkl
        obtain ⟨a6, c6, g1, g2, g3, g4⟩ := hg3 n m hm
        rw [e1] at g1
        rw [e2] at g2
        rw [e3] at g4
        rw [e3, mk_length] at g3
        rw [mk_length] at g4
        have gx := hgx k hkl
        rw [hn] at gx
        repeat' (first
          | (show AT _ _ _ (wpList _ _ _ (_ :: _)); first
             | (show AT _ _ _ (wpList _ _ _ (⟨_, Op.move _, _, _, _, _⟩ :: _)); refine st_y (y_move rfl) rfl ?_)
             | (show AT _ _ _ (wpList _ _ _ (⟨_, Op.fieldAddr _ _ _, _, _, _, _⟩ :: _)); refine st_y (y_field tabs rfl rfl rfl) rfl ?_)
             | (show AT _ _ _ (wpList _ _ _ (⟨_, Op.load _ _, _, _, _, _⟩ :: _)); refine st_y (y_load tabs rfl rfl (hc_blk 3 rfl rfl)) rfl ?_)
             | (show AT _ _ _ (wpList _ _ _ (⟨_, Op.binOp _ _ _ _ _, _, _, _, _⟩ :: _)); refine st_y (y_lss rfl rfl) rfl ?_)
             | (show AT _ _ _ (wpList _ _ _ (⟨_, Op.call _, _, _, _, _⟩ :: _)); refine st_y (y_len tabs rfl rfl) rfl ?_))
          | (show AT _ _ _ (wpList _ _ _ []); refine c_nil (x_then ?_))
          | (show AT _ _ _ (Code.wp _ _ _); first | refine c_seq ?_ | refine c_region ?_ | refine c_skip (x_then ?_) | refine c_block ?_ | refine c_ift rfl (by first | assumption | omega) ?_))
        refine c_mixR (Hp [] w [.blk b5 #[iV (dimA r x k), iV (dimA r x 0), .slice a (dimA r x k * dimA r x 0) c] 80, .blk b3 #[iV x.1, .slice ax x.2.length cx] 83, .blk b2 #[iV r.p, iV r.q.1, u0, u1, .slice a2 r.d.length c2, .slice a3 r.m.length c3] 50]) 13 (by kernel_rfl) (by kernel_rfl) (by kernel_rfl) (by kernel_rfl) (by kernel_rfl) (fun _ c => Hp.drew c) ?_
        refine h_take 0 rfl (by kernel_rfl) (by kernel_rfl) (by kernel_rfl) (by exact y_field tabs rfl rfl rfl) rfl (fun w c => by exact c.sub (by repeat' first | exact List.Sublist.refl _ | exact List.nil_sublist _ | apply List.Sublist.cons_cons | apply List.Sublist.cons)) ?_
        refine h_take 1 rfl (by kernel_rfl) (by kernel_rfl) (by kernel_rfl) (by exact y_load tabs rfl rfl (hc_blk 2 rfl rfl)) rfl (fun w c => by exact c.sub (by repeat' first | exact List.Sublist.refl _ | exact List.nil_sublist _ | apply List.Sublist.cons_cons | apply List.Sublist.cons)) ?_
        refine h_take 2 rfl (by kernel_rfl) (by kernel_rfl) (by kernel_rfl) (by exact y_field tabs rfl rfl rfl) rfl (fun w c => by exact c.sub (by repeat' first | exact List.Sublist.refl _ | exact List.nil_sublist _ | apply List.Sublist.cons_cons | apply List.Sublist.cons)) ?_
        refine h_take 3 rfl (by kernel_rfl) (by kernel_rfl) (by kernel_rfl) (by exact y_load tabs rfl rfl (hc_blk 2 rfl rfl)) rfl (fun w c => by exact c.sub (by repeat' first | exact List.Sublist.refl _ | exact List.nil_sublist _ | apply List.Sublist.cons_cons | apply List.Sublist.cons)) ?_
        refine h_take 4 rfl (by kernel_rfl) (by kernel_rfl) (by kernel_rfl) (by exact y_field tabs rfl rfl rfl) rfl (fun w c => by exact c.sub (by repeat' first | exact List.Sublist.refl _ | exact List.nil_sublist _ | apply List.Sublist.cons_cons | apply List.Sublist.cons)) ?_
        refine h_take 5 rfl (by kernel_rfl) (by kernel_rfl) (by kernel_rfl) (by exact y_load tabs rfl rfl (hc_blk 1 rfl rfl)) rfl (fun w c => by exact c.sub (by repeat' first | exact List.Sublist.refl _ | exact List.nil_sublist _ | apply List.Sublist.cons_cons | apply List.Sublist.cons)) ?_
        refine h_take 6 rfl (by kernel_rfl) (by kernel_rfl) (by kernel_rfl) (by exact y_move rfl) rfl (fun w c => by exact c.sub (by repeat' first | exact List.Sublist.refl _ | exact List.nil_sublist _ | apply List.Sublist.cons_cons | apply List.Sublist.cons)) ?_
        refine h_take 7 rfl (by kernel_rfl) (by kernel_rfl) (by kernel_rfl) (by exact y_ix1 tabs (j := k) rfl rfl rfl hsx rfl hkl) rfl (fun w c => by exact c.sub (by repeat' first | exact List.Sublist.refl _ | exact List.nil_sublist _ | apply List.Sublist.cons_cons | apply List.Sublist.cons)) ?_
        refine h_take 8 rfl (by kernel_rfl) (by kernel_rfl) (by kernel_rfl) (by exact y_load tabs rfl rfl (hc_w0 gx)) rfl (fun w c => by exact c.sub (by repeat' first | exact List.Sublist.refl _ | exact List.nil_sublist _ | apply List.Sublist.cons_cons | apply List.Sublist.cons)) ?_
        refine h_take 9 rfl (by kernel_rfl) (by kernel_rfl) (by kernel_rfl) (by exact y_ixa tabs rfl rfl rfl hs3 (by omega) (by omega)) rfl (fun w c => by exact c.sub (by repeat' first | exact List.Sublist.refl _ | exact List.nil_sublist _ | apply List.Sublist.cons_cons | apply List.Sublist.cons)) ?_
        refine h_take 10 rfl (by kernel_rfl) (by kernel_rfl) (by kernel_rfl) (by exact y_load3 tabs rfl rfl (hc_w0 g1) (hc_w0 g2) (hc_w0 g3)) rfl (fun w c => by exact c.sub (by repeat' first | exact List.Sublist.refl _ | exact List.nil_sublist _ | apply List.Sublist.cons_cons | apply List.Sublist.cons)) ?_
        refine h_take 11 rfl (by kernel_rfl) (by kernel_rfl) (by kernel_rfl) (by exact y_loadb 0 tabs rfl rfl rfl rfl) rfl (fun w c => by exact c.sub (by repeat' first | exact List.Sublist.refl _ | exact List.nil_sublist _ | apply List.Sublist.cons_cons | apply List.Sublist.cons)) ?_
        refine h_only 12 rfl (by kernel_rfl) ?_
        (refine m_call (ent_of Try.func114 (by kernel_rfl) rfl) rfl rfl (fun w c => l3Multiply_ok (c.rd g4) (c.own_rd (i := 0) rfl) hR.1 (by have := hda (k + 1); omega) (by have := hda k; omega) (by have := hda 0; omega) e4 (alF_in hR.1 k)) ?_; rintro v H' ⟨a7, c7, rfl, hs7, rfl⟩)
        refine c_nil (x_one (h_keep (fun w c => by exact c.sub (by repeat' first | exact List.Sublist.refl _ | exact List.nil_sublist _ | apply List.Sublist.cons_cons | apply List.Sublist.cons)) ?_))
        refine h_end (by kernel_rfl) ?_
        repeat' (first
          | (show AT _ _ _ (wpList _ _ _ (_ :: _)); first
             | (show AT _ _ _ (wpList _ _ _ (⟨_, Op.move _, _, _, _, _⟩ :: _)); refine st_y (y_move rfl) rfl ?_)
             | (show AT _ _ _ (wpList _ _ _ (⟨_, Op.assign _, _, _, _, _⟩ :: _)); refine st_y (y_assign rfl) rfl ?_)
             | (show AT _ _ _ (wpList _ _ _ (⟨_, Op.binOp _ _ _ _ _, _, _, _, _⟩ :: _)); refine st_y (y_add rfl rfl (by omega)) rfl ?_)
             | (show AT _ _ _ (wpList _ _ _ (⟨_, Op.store _ _ _, _, _, _, _⟩ :: _)); refine m_storeb 2 tabs rfl rfl rfl rfl rfl rfl rfl ?_))
          | (show AT _ _ _ (wpList _ _ _ []); first | refine c_nil (x_then ?_) | refine c_nil ?_)
          | (show AT _ _ _ (Code.wp _ _ _); refine c_region ?_)
          | (show AT _ _ _ _; first | refine x_then ?_ | refine x_blk ?_))
        refine x_nx (k + 1, a7, c7) (by repeat' (first | exact Sub.nil | refine Sub.cons rfl ?_ | refine Sub.consi rfl (by omega) ?_)) ⟨by simp only; omega, hs7⟩ (fun w' c' => ?_) (by simp only; omega)
        have e0 : mulF r.p (dimA r x k) (matF m) (alF r x k) = alF r x (k + 1) := by rw [alF, e5]
        rw [e0] at c'
        exact c'.sub (.cons_cons _ (.cons _ (List.Sublist.refl _)))
      · have : k = x.2.length := by omega
        subst this
        repeat' (first
          | (show AT _ _ _ (wpList _ _ _ (_ :: _)); first
             | (show AT _ _ _ (wpList _ _ _ (⟨_, Op.move _, _, _, _, _⟩ :: _)); refine st_y (y_move rfl) rfl ?_)
             | (show AT _ _ _ (wpList _ _ _ (⟨_, Op.assign _, _, _, _, _⟩ :: _)); refine st_y (y_assign rfl) rfl ?_)
             | (show AT _ _ _ (wpList _ _ _ (⟨_, Op.fieldAddr _ _ _, _, _, _, _⟩ :: _)); refine st_y (y_field tabs rfl rfl rfl) rfl ?_)
             | (show AT _ _ _ (wpList _ _ _ (⟨_, Op.load _ _, _, _, _, _⟩ :: _)); first | refine st_y (y_load tabs rfl rfl (hc_blk 3 rfl rfl)) rfl ?_ | refine st_y (y_loadb 1 tabs rfl rfl rfl rfl) rfl ?_)
             | (show AT _ _ _ (wpList _ _ _ (⟨_, Op.binOp _ _ _ _ _, _, _, _, _⟩ :: _)); refine st_y (y_lss rfl rfl) rfl ?_)
             | (show AT _ _ _ (wpList _ _ _ (⟨_, Op.call _, _, _, _, _⟩ :: _)); refine st_y (y_len tabs rfl rfl) rfl ?_)
             | (show AT _ _ _ (wpList _ _ _ (⟨_, Op.store _ _ _, _, _, _, _⟩ :: _)); refine m_storeb 2 tabs rfl rfl rfl rfl rfl rfl rfl ?_))
          | (show AT _ _ _ (wpList _ _ _ []); refine c_nil (x_then ?_))
          | (show AT _ _ _ (Code.wp _ _ _); first | refine c_seq ?_ | refine c_region ?_ | refine c_ret ?_ | refine c_exit ?_ | refine c_iff rfl (by first | assumption | exact not_not_intro (by assumption) | omega) ?_)
          | (show AT _ _ _ _; first | refine x_then ?_ | refine x_then_exit ?_ | refine x_blk_exit rfl ?_))
        exact x_ret2 Try.results62 (res_cellb 2 tabs rfl rfl rfl rfl) (res_tmp rfl) (fun w' c' => ⟨_, _, rfl, ⟨a, c, by simp, by simpa using hsa, by simp⟩, c'.sub (.cons_cons _ (List.nil_sublist _))⟩)
  · rw [alM, if_neg hA, decide_eq_false hA]
    have hcs : ¬ RepP r ∨ (RepP r ∧ ¬ PathP r.q x) := by unfold alP at hA; grind
    refine fn_enter Try.func62 rfl Try.ntmps62 rfl ?_
    rcases hcs with hA1 | ⟨hA1, hA2⟩
    all_goals
      repeat' (first
        | (show AT _ _ _ (wpList _ _ _ (_ :: _)); first
           | (show AT _ _ _ (wpList _ _ _ (⟨_, Op.move _, _, _, _, _⟩ :: _)); refine st_y (y_move rfl) rfl ?_)
           | (show AT _ _ _ (wpList _ _ _ (⟨_, Op.assign _, _, _, _, _⟩ :: _)); refine st_y (y_assign rfl) rfl ?_)
           | (show AT _ _ _ (wpList _ _ _ (⟨_, Op.fieldAddr _ _ _, _, _, _, _⟩ :: _)); refine st_y (y_field tabs rfl rfl rfl) rfl ?_)
           | (show AT _ _ _ (wpList _ _ _ (⟨_, Op.load _ _, _, _, _, _⟩ :: _)); first | refine st_y (y_load3 tabs rfl rfl (hc_blk 2 rfl rfl) (hc_blk 2 rfl rfl) (hc_blk 2 rfl rfl)) rfl ?_ | refine st_y (y_loadb 1 tabs rfl rfl rfl rfl) rfl ?_ | refine st_y (y_loadb 2 tabs rfl rfl rfl rfl) rfl ?_)
           | (show AT _ _ _ (wpList _ _ _ (⟨_, Op.unOp _ _ _, _, _, _, _⟩ :: _)); refine st_y (y_notd rfl) rfl ?_)
           | (show AT _ _ _ (wpList _ _ _ (⟨_, Op.call _, _, _, _, _⟩ :: _)); first | (refine m_call (ent_of Try.func103 (by kernel_rfl) rfl) rfl rfl (fun w c => spec_IsRep_ok (r := r) (c.rd h0) (c.rd h1) (c.rd h2) (c.rd h3)) ?_; rintro v H' ⟨rfl, rfl⟩) | (refine m_call (ent_of Try.func130 (by kernel_rfl) rfl) rfl rfl (fun w c => spec_IsPath_ok (q := r.q) (x := x) (c.rd h0) (c.rd h1) (c.rd hx)) ?_; rintro v H' ⟨rfl, rfl⟩))
           | (show AT _ _ _ (wpList _ _ _ (⟨_, Op.pick _ _ _, _, _, _, _⟩ :: _)); first | refine st_y (y_pickt rfl (by assumption) rfl) rfl ?_ | refine st_y (y_pickf rfl (by assumption) rfl) rfl ?_)
           | (show AT _ _ _ (wpList _ _ _ (⟨_, Op.store _ _ _, _, _, _, _⟩ :: _)); refine m_storeb 0 tabs rfl rfl rfl rfl rfl rfl rfl ?_)
           | (show AT _ _ _ (wpList _ _ _ (⟨_, Op.box _ _, _, _, _, _⟩ :: _)); refine m_box rfl rfl (fun b3 hb3 => ?_))
           | (show AT _ _ _ (wpList _ _ _ (⟨_, Op.alloc _, _, _, _, _⟩ :: _)); refine m_alloc tabs rfl rfl (fun b5 hb5 => ?_))
           | (show AT _ _ _ (wpList _ _ _ (⟨_, Op.build _ _, _, _, _, _⟩ :: _)); refine st_y (y_bld0 bld_mat0) rfl ?_)
           | refine st_gfy rfl rfl (by assumption) ?_ | refine st_gfn rfl rfl (by assumption) rfl ?_ | refine st_gd rfl rfl (fun h => ?_) (fun h => ?_))
        | (show AT _ _ _ (wpList _ _ _ []); refine c_nil (x_then ?_))
        | (show AT _ _ _ (Code.wp _ _ _); first | refine c_seq ?_ | refine c_region ?_ | refine c_ret ?_ | refine c_true rfl ?_ | refine c_ift rfl (by first | assumption | omega) ?_)
        | (show AT _ _ _ _; refine x_then_ret ?_))
    all_goals exact x_ret2 Try.results62 (res_cellb 0 tabs rfl rfl rfl rfl) (res_tmp rfl) (fun w' c' => ⟨_, _, rfl, ⟨none, 0, rfl, .inl rfl, rfl⟩, Hp.nilp _ _ (c'.sub (List.nil_sublist _))⟩)
end Go.Proofs.Ytooffimgfnacoaa
