import Derived.Test.YtnmhdmkfhacdbaaGreatCobqA
import Derived.Test.YtnmhdmkfhacdbaaGreatIdmqA
import Derived.Test.YtnmhdmkfhacdbaaGreatLEqA
namespace Go.Proofs.YtnmhdmkfhacdbaaGreat
open Go.Lg Go.Proofs Go.RowKit
attribute [local irreducible] Code.wp wpList bodyPost Exit.then Exit.inBlock Hp Again Calls Y AT ResV QT Qn QI wpAny wpAnyQ
set_option maxRecDepth 20000
set_option maxHeartbeats 4000000

/-! ### parts of a representation -/
def fN (r : Rp) (i : Nat) : Nat := (r.q.2.1.getD i 0).toNat
def tN (r : Rp) (i : Nat) : Nat := (r.q.2.2.getD i 0).toNat
def VrtP (r : Rp) (ss : List Sp) (v : Nat) : Prop := SpcP r.p (ss.getD v sp0) ∧ (ss.getD v sp0).1 = r.d.getD v 0
instance (r : Rp) (ss : List Sp) (v : Nat) : Decidable (VrtP r ss v) := by unfold VrtP; infer_instance
def ArwP (r : Rp) (ss : List Sp) (i : Nat) : Prop := WthP r.p (imsS r.p (r.m.getD i mat0) (ss.getD (fN r i) sp0)) (ss.getD (tN r i) sp0)
instance (r : Rp) (ss : List Sp) (i : Nat) : Decidable (ArwP r ss i) := by unfold ArwP; infer_instance
def SubP (r : Rp) (ss : List Sp) : Prop := (RepP r ∧ ss.length = r.d.length) ∧ (∀ v, v < ss.length → VrtP r ss v) ∧ ∀ i, i < r.m.length → ArwP r ss i
instance (r : Rp) (ss : List Sp) : Decidable (SubP r ss) := by unfold SubP; infer_instance
/-- what there is at an arrow -/
theorem sub_at {r : Rp} {ss : List Sp} {i : Nat} (hR : RepP r) (hl : ss.length = r.d.length) (hV : ∀ v, v < ss.length → VrtP r ss v) (hi : i < r.m.length) :
    ∃ (s t R C : Nat) (m : Mat) (A B : Sp), r.q.2.1.getD i 0 = s ∧ r.q.2.2.getD i 0 = t ∧ s < ss.length ∧ t < ss.length ∧ i < r.q.2.1.length ∧ i < r.q.2.2.length ∧ fN r i = s ∧ tN r i = t ∧
      r.m[i]? = some m ∧ ss[s]? = some A ∧ ss[t]? = some B ∧ R ≤ 4 ∧ C ≤ 4 ∧ MatP r.p m ∧ CellsP r.p m R C ∧ SpcP r.p A ∧ A.1 = C ∧ SpcP r.p B ∧ B.1 = R ∧ RowsP r.p C A.2 ∧ A.2.length ≤ 8 ∧ RowsP r.p R B.2 ∧ B.2.length ≤ 8 ∧
      ImsP r.p m A ∧ imsS r.p m A = ((R : Int), basL r.p R (imsL r.p R C (matF m) A.2)) ∧
      (ArwP r ss i ↔ rkL r.p R (basL r.p R (imsL r.p R C (matF m) A.2) ++ B.2) = B.2.length) := by
  have hF := hR.1
  have hQ := hR.2.1.1
  have hml := hR.2.2.1
  have hdl := hR.2.1.2.1
  have hi1 : i < r.q.2.1.length := by omega
  have hi2 : i < r.q.2.2.length := by have := hQ.2.2.1; omega
  have hs := inP_get hQ.2.2.2.1 (i := i) hi1
  have ht := inP_get hQ.2.2.2.2 (i := i) hi2
  obtain ⟨s, es⟩ : ∃ s : Nat, r.q.2.1.getD i 0 = s := ⟨(r.q.2.1.getD i 0).toNat, by omega⟩
  obtain ⟨t, et⟩ : ∃ t : Nat, r.q.2.2.getD i 0 = t := ⟨(r.q.2.2.getD i 0).toNat, by omega⟩
  have fs : fN r i = s := by unfold fN; rw [es]; rfl
  have ft : tN r i = t := by unfold tN; rw [et]; rfl
  have hsl : s < ss.length := by omega
  have htl : t < ss.length := by omega
  obtain ⟨m, hm⟩ : ∃ m, r.m[i]? = some m := ⟨_, List.getElem?_eq_getElem hi⟩
  obtain ⟨A, hA⟩ : ∃ A, ss[s]? = some A := ⟨_, List.getElem?_eq_getElem hsl⟩
  obtain ⟨B, hB⟩ : ∃ B, ss[t]? = some B := ⟨_, List.getElem?_eq_getElem htl⟩
  have gm : r.m.getD i mat0 = m := by rw [List.getD, hm]; rfl
  have gA : ss.getD s sp0 = A := by rw [List.getD, hA]; rfl
  have gB : ss.getD t sp0 = B := by rw [List.getD, hB]; rfl
  obtain ⟨m1, m2, m3⟩ := hR.2.2.2 i hi
  rw [gm] at m1 m2 m3
  rw [es, Int.toNat_natCast] at m2
  rw [et, Int.toNat_natCast] at m3
  obtain ⟨a1, a2⟩ := hV s hsl
  obtain ⟨b1, b2⟩ := hV t htl
  rw [gA] at a1 a2
  rw [gB] at b1 b2
  have d1 := hR.dg s
  have d2 := hR.dg t
  obtain ⟨C, hc, _, al, _, an, _⟩ := a1.rows
  obtain ⟨R, hr, _, bl, _, bn, _⟩ := b1.rows
  have c1 := cellsP_of (R := R) (C := C) m1 (by omega) (by omega)
  have hI : ImsP r.p m A := ⟨m1, a1, by omega⟩
  have e1 : m.1.toNat = R := by omega
  have e2 : m.2.1.toNat = C := by omega
  have e0 : imsS r.p m A = ((R : Int), basL r.p R (imsL r.p R C (matF m) A.2)) := by
    rw [imsS, if_pos hI, e1, e2]
    exact Prod.ext (by simp only; omega) rfl
  refine ⟨s, t, R, C, m, A, B, es, et, hsl, htl, hi1, hi2, fs, ft, hm, hA, hB, by omega, by omega, m1, c1, a1, hc, b1, hr, al, an, bl, bn, hI, e0, ?_⟩
  unfold ArwP WthP
  rw [fs, ft, gm, gA, gB, e0]
  simp only [Int.toNat_natCast]
  exact ⟨fun h => h.2, fun h => ⟨⟨spcP_span hF (by omega) (imsL_rows hF), b1, by rw [hr]⟩, h⟩⟩
theorem impl_IsSub_ok {w : World} {r : Rp} {ss : List Sp} {e e' : Nat} {u0 u1 u2 u3 v : Value} (h0 : Rd w (iT r.q.2.1) u0) (h1 : Rd w (iT r.q.2.2) u1) (h2 : Rd w (iT r.d) u2) (h3 : Rd w (matsT e r.m) u3) (hv : Rd w (spsT e' ss) v) :
    Does Tryz.prog 26 [.agg #[iV r.p, iV r.q.1, u0, u1, u2, u3], v] w (fun r' H => r' = .bool (decide (SubP r ss)) ∧ H = []) := by
  have h00 := h0
  have h10 := h1
  have h20 := h2
  have h30 := h3
  obtain ⟨a0, c0, rfl, hs0, _, _, hg0⟩ := h0.ints
  obtain ⟨a1, c1, rfl, hs1, _, _, hg1⟩ := h1.ints
  obtain ⟨a2, c2, rfl, hs2, _, _, hg2⟩ := h2.ints
  obtain ⟨a3, c3, rfl, hs3, _, _, hg3⟩ := rd_mats h3
  obtain ⟨av, cv, rfl, hsv, _, _, hgv⟩ := rd_sps hv
  by_cases hB : RepP r ∧ ss.length = r.d.length
  · obtain ⟨hR, hl⟩ := hB
    have hF := hR.1
    have h5 := (RepP.dd hR).2
    have h6 : r.m.length ≤ 6 := by have := hR.2.2.1; have := hR.2.1.1.2.1; omega
    refine fn_enter Tryz.func26 rfl Tryz.ntmps26 rfl ?_
    repeat' (first
      | (show AT _ _ _ (wpList _ _ _ (_ :: _)); first
         | (show AT _ _ _ (wpList _ _ _ (⟨_, Op.move _, _, _, _, _⟩ :: _)); refine st_y (y_move rfl) rfl ?_)
         | (show AT _ _ _ (wpList _ _ _ (⟨_, Op.assign _, _, _, _, _⟩ :: _)); refine st_y (y_assign rfl) rfl ?_)
         | (show AT _ _ _ (wpList _ _ _ (⟨_, Op.fieldAddr _ _ _, _, _, _, _⟩ :: _)); refine st_y (y_field tabs rfl rfl rfl) rfl ?_)
         | (show AT _ _ _ (wpList _ _ _ (⟨_, Op.load _ _, _, _, _, _⟩ :: _)); first | refine st_y (y_loadb 0 tabs rfl rfl rfl rfl) rfl ?_ | refine st_y (y_load tabs rfl rfl (hc_blk 0 rfl rfl)) rfl ?_)
         | (show AT _ _ _ (wpList _ _ _ (⟨_, Op.binOp _ _ _ _ _, _, _, _, _⟩ :: _)); refine st_y (y_neq rfl rfl) rfl ?_)
         | (show AT _ _ _ (wpList _ _ _ (⟨_, Op.unOp _ _ _, _, _, _, _⟩ :: _)); refine st_y (y_notd rfl) rfl ?_)
         | (show AT _ _ _ (wpList _ _ _ (⟨_, Op.call _, _, _, _, _⟩ :: _)); first | (refine m_call (ent_of Tryz.func42 (by kernel_rfl) rfl) rfl rfl (fun w c => impl_IsRep_ok (r := r) (c.rd h00) (c.rd h10) (c.rd h20) (c.rd h30)) ?_; rintro v H' ⟨rfl, rfl⟩) | refine st_y (y_len tabs rfl rfl) rfl ?_)
         | (show AT _ _ _ (wpList _ _ _ (⟨_, Op.pick _ _ _, _, _, _, _⟩ :: _)); first | refine st_y (y_pickt rfl (by first | assumption | omega) rfl) rfl ?_ | refine st_y (y_pickf rfl (by first | assumption | omega) rfl) rfl ?_)
         | (show AT _ _ _ (wpList _ _ _ (⟨_, Op.box _ _, _, _, _, _⟩ :: _)); refine m_box rfl rfl (fun b2 hb2 => ?_))
         | refine st_gfy rfl rfl (by first | assumption | omega) ?_ | refine st_gfn rfl rfl (by first | assumption | omega) rfl ?_ | refine st_gd rfl rfl (fun h => ?_) (fun h => ?_))
      | (show AT _ _ _ (wpList _ _ _ []); refine c_nil (x_then ?_))
      | (show AT _ _ _ (Code.wp _ _ _); first | refine c_seq ?_ | refine c_region ?_ | refine c_skip (x_then ?_) | refine c_block ?_ | refine c_ret ?_ | refine c_true rfl ?_ | refine c_iff rfl (by first | assumption | exact not_not_intro (by assumption) | omega) ?_)
      | (show AT _ _ _ _; refine x_then_ret ?_))
    all_goals first | exact absurd hR (by assumption) | exact absurd hl (by omega) | skip
    refine c_loopH (α := Nat) [1, 2, 20, 21] (fun i => [(22, .int .i64 i)]) (fun i => i ≤ ss.length ∧ ∀ v, v < i → VrtP r ss v) (fun i => [.blk b2 #[iV r.p, iV r.q.1, .slice a0 r.q.2.1.length c0, .slice a1 r.q.2.2.length c1, .slice a2 r.d.length c2, .slice a3 r.m.length c3] 35]) (fun i => ss.length - i) 0 rfl (by repeat' (first | exact Sub.nil | refine Sub.cons rfl ?_ | refine Sub.consi rfl (by omega) ?_)) ?_ ?_ ?_
    · exact ⟨Nat.zero_le _, fun v hv => by omega⟩
    · exact fun w' c' => c'
    · rintro i ⟨hi, hV⟩
      by_cases hin : i < ss.length
      · obtain ⟨A, hA⟩ : ∃ A, ss[i]? = some A := ⟨_, List.getElem?_eq_getElem hin⟩
        obtain ⟨a5, c5, g1, g2, g3⟩ := hgv i A hA
        have gA : ss.getD i sp0 = A := by rw [List.getD, hA]; rfl
        have hid : i < r.d.length := by omega
        have gD := hg2 i hid
        by_cases hS : SpcP r.p A
        · have hS2 : ¬ ¬ SpcP r.p A := fun h => h hS
          repeat' (first
            | (show AT _ _ _ (wpList _ _ _ (_ :: _)); first
               | (show AT _ _ _ (wpList _ _ _ (⟨_, Op.move _, _, _, _, _⟩ :: _)); refine st_y (y_move rfl) rfl ?_)
               | (show AT _ _ _ (wpList _ _ _ (⟨_, Op.assign _, _, _, _, _⟩ :: _)); refine st_y (y_assign rfl) rfl ?_)
               | (show AT _ _ _ (wpList _ _ _ (⟨_, Op.load _ _, _, _, _, _⟩ :: _)); refine st_y (y_load2 tabs rfl rfl (hc_w0 g1) (hc_w0 g2)) rfl ?_)
               | (show AT _ _ _ (wpList _ _ _ (⟨_, Op.indexAddr _ _ _, _, _, _, _⟩ :: _)); refine st_y (y_ixa tabs rfl rfl rfl hsv (by omega) (by omega)) rfl ?_)
               | (show AT _ _ _ (wpList _ _ _ (⟨_, Op.binOp _ _ _ _ _, _, _, _, _⟩ :: _)); first | refine st_y (y_add rfl rfl (by omega)) rfl ?_ | refine st_y (y_lss rfl rfl) rfl ?_)
               | (show AT _ _ _ (wpList _ _ _ (⟨_, Op.store _ _ _, _, _, _, _⟩ :: _)); refine m_storeb 0 tabs rfl rfl rfl rfl rfl rfl rfl ?_)
               | (show AT _ _ _ (wpList _ _ _ (⟨_, Op.alloc _, _, _, _, _⟩ :: _)); refine m_alloc tabs rfl rfl (fun b6 hb6 => ?_)))
            | (show AT _ _ _ (wpList _ _ _ []); refine c_nil (x_then ?_))
            | (show AT _ _ _ (Code.wp _ _ _); first | refine c_seq ?_ | refine c_region ?_ | refine c_skip (x_then ?_) | refine c_skip (x_blk ?_) | refine c_block ?_ | refine c_ret ?_ | refine c_draw (by kernel_rfl) (by kernel_rfl) (fun _ c => Hp.drew c) ?_ | refine c_ift rfl (by first | assumption | omega) ?_ | refine c_ifnd rfl (fun h => ?_) (fun h => ?_))
            | (show QT _ _ _ _ _ _ (_ :: _); first
               | (show QT _ _ _ _ _ _ (⟨_, Op.move _, _, _, _, _⟩ :: _); refine q_y (y_move rfl) rfl ?_)
               | (show QT _ _ _ _ _ _ (⟨_, Op.fieldAddr _ _ _, _, _, _, _⟩ :: _); refine q_y (y_field tabs rfl rfl rfl) rfl ?_)
               | (show QT _ _ _ _ _ _ (⟨_, Op.load _ _, _, _, _, _⟩ :: _); first | refine q_y (y_load tabs rfl rfl (hc_blk 0 rfl rfl)) rfl ?_ | refine q_y (y_load tabs rfl rfl (hc_blk 1 rfl rfl)) rfl ?_ | refine q_y (y_load tabs rfl rfl (hc_w0 gD)) rfl ?_ | refine q_y (y_loadb 0 tabs rfl rfl rfl rfl) rfl ?_)
               | (show QT _ _ _ _ _ _ (⟨_, Op.indexAddr _ _ _, _, _, _, _⟩ :: _); refine q_y (y_ix1 tabs (j := i) rfl rfl rfl hs2 rfl hid) rfl ?_)
               | (show QT _ _ _ _ _ _ (⟨_, Op.binOp _ _ _ _ _, _, _, _, _⟩ :: _); refine q_y (y_neq rfl rfl) rfl ?_)
               | (show QT _ _ _ _ _ _ (⟨_, Op.unOp _ _ _, _, _, _, _⟩ :: _); refine q_y (y_notd rfl) rfl ?_)
               | (show QT _ _ _ _ _ _ (⟨_, Op.call _, _, _, _, _⟩ :: _); refine q_call (ent_of Tryz.func43 (by kernel_rfl) rfl) rfl rfl (fun w c => impl_IsSpace_ok (s := A) (c.rd g3)) (fun u H' h => h.1) ?_)
               | (show QT _ _ _ _ _ _ (⟨_, Op.pick _ _ _, _, _, _, _⟩ :: _); refine q_y (y_pickf rfl (by assumption) rfl) rfl ?_)
               | refine q_gfy rfl rfl (by assumption) ?_)
            | (show QT _ _ _ _ _ _ []; refine q_nil (x_then ?_))
            | (show AT _ _ _ _; first | refine x_then ?_ | refine x_then_ret ?_ | refine x_blk_ret ?_))
          · have hno : ¬ SubP r ss := fun h => by
              have h1 := (h.2.1 i hin).2
              rw [gA] at h1
              exact absurd h1 (by assumption)
            rw [decide_eq_false hno]
            exact x_ret1 Tryz.results26 (res_tmp rfl) (fun w' c' => ⟨_, _, rfl, ⟨rfl, rfl⟩, c'.sub (List.nil_sublist _)⟩)
          · refine x_nx (i + 1) (by repeat' (first | exact Sub.nil | refine Sub.cons rfl ?_ | refine Sub.consi rfl (by omega) ?_)) ⟨by omega, fun v hv => ?_⟩ (fun w' c' => c'.sub (by repeat' first | exact List.Sublist.refl _ | exact List.nil_sublist _ | apply List.Sublist.cons_cons | apply List.Sublist.cons)) (by omega)
            by_cases hvi : v = i
            · subst hvi
              refine ⟨by rw [gA]; exact hS, ?_⟩
              rw [gA]
              first | assumption | exact Decidable.not_not.1 (by assumption)
            · exact hV v (by omega)
        · have hno : ¬ SubP r ss := fun h => hS (by have h1 := (h.2.1 i hin).1; rwa [gA] at h1)
          rw [decide_eq_false hno]
          repeat' (first
            | (show AT _ _ _ (wpList _ _ _ (_ :: _)); first
               | (show AT _ _ _ (wpList _ _ _ (⟨_, Op.move _, _, _, _, _⟩ :: _)); refine st_y (y_move rfl) rfl ?_)
               | (show AT _ _ _ (wpList _ _ _ (⟨_, Op.assign _, _, _, _, _⟩ :: _)); refine st_y (y_assign rfl) rfl ?_)
               | (show AT _ _ _ (wpList _ _ _ (⟨_, Op.load _ _, _, _, _, _⟩ :: _)); refine st_y (y_load2 tabs rfl rfl (hc_w0 g1) (hc_w0 g2)) rfl ?_)
               | (show AT _ _ _ (wpList _ _ _ (⟨_, Op.indexAddr _ _ _, _, _, _, _⟩ :: _)); refine st_y (y_ixa tabs rfl rfl rfl hsv (by omega) (by omega)) rfl ?_)
               | (show AT _ _ _ (wpList _ _ _ (⟨_, Op.binOp _ _ _ _ _, _, _, _, _⟩ :: _)); refine st_y (y_lss rfl rfl) rfl ?_)
               | (show AT _ _ _ (wpList _ _ _ (⟨_, Op.store _ _ _, _, _, _, _⟩ :: _)); refine m_storeb 0 tabs rfl rfl rfl rfl rfl rfl rfl ?_)
               | (show AT _ _ _ (wpList _ _ _ (⟨_, Op.alloc _, _, _, _, _⟩ :: _)); refine m_alloc tabs rfl rfl (fun b6 hb6 => ?_)))
            | (show AT _ _ _ (wpList _ _ _ []); refine c_nil (x_then ?_))
            | (show AT _ _ _ (Code.wp _ _ _); first | refine c_seq ?_ | refine c_region ?_ | refine c_skip (x_then ?_) | refine c_block ?_ | refine c_ret ?_ | refine c_draw (by kernel_rfl) (by kernel_rfl) (fun _ c => Hp.drew c) ?_ | refine c_true rfl ?_ | refine c_ift rfl (by first | assumption | omega) ?_)
            | (show QT _ _ _ _ _ _ (_ :: _); first
               | (show QT _ _ _ _ _ _ (⟨_, Op.move _, _, _, _, _⟩ :: _); refine q_y (y_move rfl) rfl ?_)
               | (show QT _ _ _ _ _ _ (⟨_, Op.fieldAddr _ _ _, _, _, _, _⟩ :: _); refine q_y (y_field tabs rfl rfl rfl) rfl ?_)
               | (show QT _ _ _ _ _ _ (⟨_, Op.load _ _, _, _, _, _⟩ :: _); first | refine q_y (y_load tabs rfl rfl (hc_blk 1 rfl rfl)) rfl ?_ | refine q_y (y_loadb 0 tabs rfl rfl rfl rfl) rfl ?_)
               | (show QT _ _ _ _ _ _ (⟨_, Op.unOp _ _ _, _, _, _, _⟩ :: _); refine q_y (y_notd rfl) rfl ?_)
               | (show QT _ _ _ _ _ _ (⟨_, Op.call _, _, _, _, _⟩ :: _); refine q_call (ent_of Tryz.func43 (by kernel_rfl) rfl) rfl rfl (fun w c => impl_IsSpace_ok (s := A) (c.rd g3)) (fun u H' h => h.1) ?_)
               | (show QT _ _ _ _ _ _ (⟨_, Op.pick _ _ _, _, _, _, _⟩ :: _); refine q_y (y_pickt rfl (by assumption) rfl) rfl ?_)
               | refine q_gfn rfl rfl (by assumption) rfl ?_)
            | (show QT _ _ _ _ _ _ []; refine q_nil (x_then ?_))
            | (show AT _ _ _ _; first | refine x_then_ret ?_ | refine x_blk_ret ?_))
          all_goals first | exact absurd (by assumption) hS | skip
          exact x_ret1 Tryz.results26 (res_tmp rfl) (fun w' c' => ⟨_, _, rfl, ⟨rfl, rfl⟩, c'.sub (List.nil_sublist _)⟩)
      · have : i = ss.length := by omega
        subst this
        repeat' (first
          | (show AT _ _ _ (wpList _ _ _ (_ :: _)); first
             | (show AT _ _ _ (wpList _ _ _ (⟨_, Op.move _, _, _, _, _⟩ :: _)); refine st_y (y_move rfl) rfl ?_)
             | (show AT _ _ _ (wpList _ _ _ (⟨_, Op.fieldAddr _ _ _, _, _, _, _⟩ :: _)); refine st_y (y_field tabs rfl rfl rfl) rfl ?_)
             | (show AT _ _ _ (wpList _ _ _ (⟨_, Op.load _ _, _, _, _, _⟩ :: _)); refine st_y (y_load tabs rfl rfl (hc_blk 0 rfl rfl)) rfl ?_)
             | (show AT _ _ _ (wpList _ _ _ (⟨_, Op.binOp _ _ _ _ _, _, _, _, _⟩ :: _)); refine st_y (y_lss rfl rfl) rfl ?_)
             | (show AT _ _ _ (wpList _ _ _ (⟨_, Op.call _, _, _, _, _⟩ :: _)); refine st_y (y_len tabs rfl rfl) rfl ?_))
          | (show AT _ _ _ (wpList _ _ _ []); refine c_nil (x_then ?_))
          | (show AT _ _ _ (Code.wp _ _ _); first | refine c_seq ?_ | refine c_region ?_ | refine c_block ?_ | refine c_exit ?_ | refine c_iff rfl (by first | assumption | exact not_not_intro (by assumption) | omega) ?_)
          | (show AT _ _ _ _; first | refine x_then ?_ | refine x_then_exit ?_ | refine x_blk_exit rfl ?_))
        refine c_loopH (α := Nat) [1, 2, 44, 45] (fun i => [(46, .int .i64 i)]) (fun i => i ≤ r.m.length ∧ ∀ v, v < i → ArwP r ss v) (fun i => [.blk b2 #[iV r.p, iV r.q.1, .slice a0 r.q.2.1.length c0, .slice a1 r.q.2.2.length c1, .slice a2 r.d.length c2, .slice a3 r.m.length c3] 35]) (fun i => r.m.length - i) 0 rfl (by repeat' (first | exact Sub.nil | refine Sub.cons rfl ?_ | refine Sub.consi rfl (by omega) ?_)) ?_ ?_ ?_
        · exact ⟨Nat.zero_le _, fun v hv => by omega⟩
        · exact fun w' c' => c'
        · rintro i ⟨hi, hW⟩
          by_cases hin : i < r.m.length
          · obtain ⟨s, t, R, C, m, A, B, es, et, hsl, htl, hi1, hi2, fs, ft, hm, hA, hB, hR4, hC4, hM, ⟨m1, m2, m3, m4⟩, hSA, hAC, hSB, hBR, hAr, hAn, hBr, hBn, hI, eI, hiff⟩ := sub_at hR hl hV hin
            obtain ⟨a6, c6, k1, k2, k3, k4⟩ := hg3 i m hm
            rw [m1] at k1; rw [m2] at k2; rw [m3] at k3 k4; rw [mk_length] at k3 k4
            obtain ⟨a7, c7, p1, p2, p3⟩ := hgv s A hA
            obtain ⟨a8, c8, q1, q2, q3⟩ := hgv t B hB
            have gF := hg0 i hi1
            rw [es] at gF
            have gT := hg1 i hi2
            rw [et] at gT
            repeat' (first
              | (show AT _ _ _ (wpList _ _ _ (_ :: _)); first
                 | (show AT _ _ _ (wpList _ _ _ (⟨_, Op.move _, _, _, _, _⟩ :: _)); refine st_y (y_move rfl) rfl ?_)
                 | (show AT _ _ _ (wpList _ _ _ (⟨_, Op.assign _, _, _, _, _⟩ :: _)); refine st_y (y_assign rfl) rfl ?_)
                 | (show AT _ _ _ (wpList _ _ _ (⟨_, Op.load _ _, _, _, _, _⟩ :: _)); refine st_y (y_load3 tabs rfl rfl (hc_w0 k1) (hc_w0 k2) (hc_w0 k3)) rfl ?_)
                 | (show AT _ _ _ (wpList _ _ _ (⟨_, Op.indexAddr _ _ _, _, _, _, _⟩ :: _)); refine st_y (y_ixa tabs rfl rfl rfl hs3 (by omega) (by omega)) rfl ?_)
                 | (show AT _ _ _ (wpList _ _ _ (⟨_, Op.binOp _ _ _ _ _, _, _, _, _⟩ :: _)); refine st_y (y_lss rfl rfl) rfl ?_)
                 | (show AT _ _ _ (wpList _ _ _ (⟨_, Op.store _ _ _, _, _, _, _⟩ :: _)); refine m_storeb 0 tabs rfl rfl rfl rfl rfl rfl rfl ?_)
                 | (show AT _ _ _ (wpList _ _ _ (⟨_, Op.alloc _, _, _, _, _⟩ :: _)); refine m_alloc tabs rfl rfl (fun b8 hb8 => ?_)))
              | (show AT _ _ _ (wpList _ _ _ []); refine c_nil (x_then ?_))
              | (show AT _ _ _ (Code.wp _ _ _); first | refine c_seq ?_ | refine c_region ?_ | refine c_skip (x_then ?_) | refine c_block ?_ | refine c_ift rfl (by first | assumption | omega) ?_))
            refine c_all (Hp [] w [.blk b8 #[iV R, iV C, .slice a6 (R * C) c6] 72, .blk b2 #[iV r.p, iV r.q.1, .slice a0 r.q.2.1.length c0, .slice a1 r.q.2.2.length c1, .slice a2 r.d.length c2, .slice a3 r.m.length c3] 35]) (by kernel_rfl) (fun _ c => Hp.drew c) ?_
            refine h_take 0 rfl (by kernel_rfl) (by kernel_rfl) (by kernel_rfl) (by exact y_field tabs rfl rfl rfl) rfl (fun _ c => c) ?_
            refine h_take 1 rfl (by kernel_rfl) (by kernel_rfl) (by kernel_rfl) (by exact y_load tabs rfl rfl (hc_blk 1 rfl rfl)) rfl (fun _ c => c) ?_
            refine h_take 2 rfl (by kernel_rfl) (by kernel_rfl) (by kernel_rfl) (by exact y_field tabs rfl rfl rfl) rfl (fun _ c => c) ?_
            refine h_take 3 rfl (by kernel_rfl) (by kernel_rfl) (by kernel_rfl) (by exact y_load tabs rfl rfl (hc_blk 1 rfl rfl)) rfl (fun _ c => c) ?_
            refine h_take 4 rfl (by kernel_rfl) (by kernel_rfl) (by kernel_rfl) (by first | exact y_loadb 0 tabs rfl rfl rfl rfl | exact y_loadb 0 tabs rfl rfl rfl rfl) rfl (fun _ c => c) ?_
            refine h_take 5 rfl (by kernel_rfl) (by kernel_rfl) (by kernel_rfl) (by exact y_move rfl) rfl (fun _ c => c) ?_
            refine h_take 6 rfl (by kernel_rfl) (by kernel_rfl) (by kernel_rfl) (by exact y_field tabs rfl rfl rfl) rfl (fun _ c => c) ?_
            refine h_take 7 rfl (by kernel_rfl) (by kernel_rfl) (by kernel_rfl) (by exact y_field tabs rfl rfl rfl) rfl (fun _ c => c) ?_
            refine h_take 8 rfl (by kernel_rfl) (by kernel_rfl) (by kernel_rfl) (by exact y_load tabs rfl rfl (hc_blk 1 rfl rfl)) rfl (fun _ c => c) ?_
            refine h_take 9 rfl (by kernel_rfl) (by kernel_rfl) (by kernel_rfl) (by exact y_move rfl) rfl (fun _ c => c) ?_
            refine h_take 10 rfl (by kernel_rfl) (by kernel_rfl) (by kernel_rfl) (by exact y_ix1 tabs (j := i) rfl rfl rfl hs0 rfl hi1) rfl (fun _ c => c) ?_
            refine h_take 11 rfl (by kernel_rfl) (by kernel_rfl) (by kernel_rfl) (by exact y_load tabs rfl rfl (hc_w0 gF)) rfl (fun _ c => c) ?_
            refine h_take 12 rfl (by kernel_rfl) (by kernel_rfl) (by kernel_rfl) (by exact y_ixa tabs rfl rfl rfl hsv (by omega) (by omega)) rfl (fun _ c => c) ?_
            refine h_take 13 rfl (by kernel_rfl) (by kernel_rfl) (by kernel_rfl) (by exact y_load2 tabs rfl rfl (hc_w0 p1) (hc_w0 p2)) rfl (fun _ c => c) ?_
            refine h_take 15 rfl (by kernel_rfl) (by kernel_rfl) (by kernel_rfl) (by exact y_move rfl) rfl (fun _ c => c) ?_
            refine h_take 16 rfl (by kernel_rfl) (by kernel_rfl) (by kernel_rfl) (by exact y_field tabs rfl rfl rfl) rfl (fun _ c => c) ?_
            refine h_take 17 rfl (by kernel_rfl) (by kernel_rfl) (by kernel_rfl) (by exact y_field tabs rfl rfl rfl) rfl (fun _ c => c) ?_
            refine h_take 18 rfl (by kernel_rfl) (by kernel_rfl) (by kernel_rfl) (by exact y_load tabs rfl rfl (hc_blk 1 rfl rfl)) rfl (fun _ c => c) ?_
            refine h_take 19 rfl (by kernel_rfl) (by kernel_rfl) (by kernel_rfl) (by exact y_move rfl) rfl (fun _ c => c) ?_
            refine h_take 20 rfl (by kernel_rfl) (by kernel_rfl) (by kernel_rfl) (by exact y_ix1 tabs (j := i) rfl rfl rfl hs1 rfl hi2) rfl (fun _ c => c) ?_
            refine h_take 21 rfl (by kernel_rfl) (by kernel_rfl) (by kernel_rfl) (by exact y_load tabs rfl rfl (hc_w0 gT)) rfl (fun _ c => c) ?_
            refine h_take 22 rfl (by kernel_rfl) (by kernel_rfl) (by kernel_rfl) (by exact y_ixa tabs rfl rfl rfl hsv (by omega) (by omega)) rfl (fun _ c => c) ?_
            refine h_take 23 rfl (by kernel_rfl) (by kernel_rfl) (by kernel_rfl) (by exact y_load2 tabs rfl rfl (hc_w0 q1) (hc_w0 q2)) rfl (fun _ c => c) ?_
            refine h_only 14 rfl (by kernel_rfl) ?_
            first | (refine m_call (ent_of Tryz.func45 (by kernel_rfl) rfl) rfl rfl (fun w c => imageOf_ok (A := A.2) (c.rd k4) (c.rd p3) hF (by omega) (by omega) m4 hAr (by omega)) ?_; rintro v H' ⟨a9, c9, rfl, hs9, rfl⟩) | (refine m_call (ent_of Tryz.func44 (by kernel_rfl) rfl) rfl rfl (fun w c => isWithin_ok (A := basL r.p R (imsL r.p R C (matF m) A.2)) (b := B) (c.own_rd (i := 0) rfl) (c.rd q3) (basL_rows hF (imsL_rows hF)) hSB hBR) ?_; rintro v H' ⟨rfl, rfl⟩)
            refine c_nil (x_one (h_keep (fun w c => by exact c.drop) ?_))
            refine h_only 24 rfl (by kernel_rfl) ?_
            first | (refine m_call (ent_of Tryz.func45 (by kernel_rfl) rfl) rfl rfl (fun w c => imageOf_ok (A := A.2) (c.rd k4) (c.rd p3) hF (by omega) (by omega) m4 hAr (by omega)) ?_; rintro v H' ⟨a9, c9, rfl, hs9, rfl⟩) | (refine m_call (ent_of Tryz.func44 (by kernel_rfl) rfl) rfl rfl (fun w c => isWithin_ok (A := basL r.p R (imsL r.p R C (matF m) A.2)) (b := B) (c.own_rd (i := 0) rfl) (c.rd q3) (basL_rows hF (imsL_rows hF)) hSB hBR) ?_; rintro v H' ⟨rfl, rfl⟩)
            refine c_nil (x_one (h_keep (fun w c => by exact c.drop) ?_))
            refine h_take 25 rfl (by kernel_rfl) (by kernel_rfl) (by kernel_rfl) (by exact y_notd rfl) rfl (fun w c => by exact c.drop) ?_
            refine h_end (by kernel_rfl) ?_
            repeat' (first
              | (show AT _ _ _ (wpList _ _ _ (_ :: _)); first
                 | (show AT _ _ _ (wpList _ _ _ (⟨_, Op.move _, _, _, _, _⟩ :: _)); refine st_y (y_move rfl) rfl ?_)
                 | (show AT _ _ _ (wpList _ _ _ (⟨_, Op.assign _, _, _, _, _⟩ :: _)); refine st_y (y_assign rfl) rfl ?_)
                 | (show AT _ _ _ (wpList _ _ _ (⟨_, Op.binOp _ _ _ _ _, _, _, _, _⟩ :: _)); refine st_y (y_add rfl rfl (by omega)) rfl ?_))
              | (show AT _ _ _ (wpList _ _ _ []); refine c_nil (x_then ?_))
              | (show AT _ _ _ (Code.wp _ _ _); first | refine c_seq ?_ | refine c_region ?_ | refine c_skip (x_blk ?_) | refine c_ret ?_ | refine c_ifnd rfl (fun h => ?_) (fun h => ?_))
              | (show AT _ _ _ _; first | refine x_then ?_ | refine x_then_ret ?_ | refine x_blk_ret ?_))
            · have hno : ¬ SubP r ss := fun h => absurd (hiff.1 (h.2.2 i hin)) (by assumption)
              rw [decide_eq_false hno]
              exact x_ret1 Tryz.results26 (res_tmp rfl) (fun w' c' => ⟨_, _, rfl, ⟨rfl, rfl⟩, c'.sub (List.nil_sublist _)⟩)
            · refine x_nx (i + 1) (by repeat' (first | exact Sub.nil | refine Sub.cons rfl ?_ | refine Sub.consi rfl (by omega) ?_)) ⟨by omega, fun v hv => ?_⟩ (fun w' c' => c'.sub (by repeat' first | exact List.Sublist.refl _ | exact List.nil_sublist _ | apply List.Sublist.cons_cons | apply List.Sublist.cons)) (by omega)
              by_cases hvi : v = i
              · subst hvi
                exact hiff.2 (by first | assumption | exact Decidable.not_not.1 (by assumption))
              · exact hW v (by omega)
          · have : i = r.m.length := by omega
            subst this
            have hyes : SubP r ss := ⟨⟨hR, hl⟩, hV, hW⟩
            rw [decide_eq_true hyes]
            repeat' (first
              | (show AT _ _ _ (wpList _ _ _ (_ :: _)); first
                 | (show AT _ _ _ (wpList _ _ _ (⟨_, Op.assign _, _, _, _, _⟩ :: _)); refine st_y (y_assign rfl) rfl ?_)
                 | (show AT _ _ _ (wpList _ _ _ (⟨_, Op.binOp _ _ _ _ _, _, _, _, _⟩ :: _)); refine st_y (y_lss rfl rfl) rfl ?_))
              | (show AT _ _ _ (wpList _ _ _ []); refine c_nil (x_then ?_))
              | (show AT _ _ _ (Code.wp _ _ _); first | refine c_seq ?_ | refine c_region ?_ | refine c_ret ?_ | refine c_exit ?_ | refine c_iff rfl (by first | assumption | exact not_not_intro (by assumption) | omega) ?_)
              | (show AT _ _ _ _; first | refine x_then ?_ | refine x_then_exit ?_ | refine x_blk_exit rfl ?_))
            exact x_ret1 Tryz.results26 (res_tmp rfl) (fun w' c' => ⟨_, _, rfl, ⟨rfl, rfl⟩, c'.sub (List.nil_sublist _)⟩)
  · have hno : ¬ SubP r ss := fun h => hB h.1
    rw [decide_eq_false hno]
    refine fn_enter Tryz.func26 rfl Tryz.ntmps26 rfl ?_
    repeat' (first
      | (show AT _ _ _ (wpList _ _ _ (_ :: _)); first
         | (show AT _ _ _ (wpList _ _ _ (⟨_, Op.move _, _, _, _, _⟩ :: _)); refine st_y (y_move rfl) rfl ?_)
         | (show AT _ _ _ (wpList _ _ _ (⟨_, Op.assign _, _, _, _, _⟩ :: _)); refine st_y (y_assign rfl) rfl ?_)
         | (show AT _ _ _ (wpList _ _ _ (⟨_, Op.fieldAddr _ _ _, _, _, _, _⟩ :: _)); refine st_y (y_field tabs rfl rfl rfl) rfl ?_)
         | (show AT _ _ _ (wpList _ _ _ (⟨_, Op.load _ _, _, _, _, _⟩ :: _)); first | refine st_y (y_loadb 0 tabs rfl rfl rfl rfl) rfl ?_ | refine st_y (y_load tabs rfl rfl (hc_blk 0 rfl rfl)) rfl ?_)
         | (show AT _ _ _ (wpList _ _ _ (⟨_, Op.binOp _ _ _ _ _, _, _, _, _⟩ :: _)); refine st_y (y_neq rfl rfl) rfl ?_)
         | (show AT _ _ _ (wpList _ _ _ (⟨_, Op.unOp _ _ _, _, _, _, _⟩ :: _)); refine st_y (y_notd rfl) rfl ?_)
         | (show AT _ _ _ (wpList _ _ _ (⟨_, Op.call _, _, _, _, _⟩ :: _)); first | (refine m_call (ent_of Tryz.func42 (by kernel_rfl) rfl) rfl rfl (fun w c => impl_IsRep_ok (r := r) (c.rd h00) (c.rd h10) (c.rd h20) (c.rd h30)) ?_; rintro v H' ⟨rfl, rfl⟩) | refine st_y (y_len tabs rfl rfl) rfl ?_)
         | (show AT _ _ _ (wpList _ _ _ (⟨_, Op.pick _ _ _, _, _, _, _⟩ :: _)); first | refine st_y (y_pickt rfl (by assumption) rfl) rfl ?_ | refine st_y (y_pickf rfl (by assumption) rfl) rfl ?_)
         | (show AT _ _ _ (wpList _ _ _ (⟨_, Op.box _ _, _, _, _, _⟩ :: _)); refine m_box rfl rfl (fun b2 hb2 => ?_))
         | refine st_gfy rfl rfl (by assumption) ?_ | refine st_gfn rfl rfl (by assumption) rfl ?_ | refine st_gd rfl rfl (fun h => ?_) (fun h => ?_))
      | (show AT _ _ _ (wpList _ _ _ []); refine c_nil (x_then ?_))
      | (show AT _ _ _ (Code.wp _ _ _); first | refine c_seq ?_ | refine c_region ?_ | refine c_skip (x_then ?_) | refine c_block ?_ | refine c_ret ?_ | refine c_true rfl ?_ | refine c_ifnd rfl (fun h => ?_) (fun h => ?_))
      | (show AT _ _ _ _; refine x_then_ret ?_))
    all_goals first
      | exact (hB ⟨by first | assumption | exact Decidable.not_not.1 (by assumption), by omega⟩).elim
      | exact x_ret1 Tryz.results26 (res_tmp rfl) (fun w' c' => ⟨_, _, rfl, ⟨rfl, rfl⟩, c'.sub (List.nil_sublist _)⟩)
end Go.Proofs.YtnmhdmkfhacdbaaGreat
