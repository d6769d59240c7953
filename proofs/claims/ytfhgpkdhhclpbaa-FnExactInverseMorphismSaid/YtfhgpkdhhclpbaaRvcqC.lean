import Derived.Test.YtfhgpkdhhclpbaaLEqC
import Derived.Test.YtfhgpkdhhclpbaaMphqC
import Derived.Test.YtfhgpkdhhclpbaaRksqC
namespace Go.Proofs.Ytfhgpkdhhclpbaa
open Go.Lg Go.Proofs Go.RowKit
attribute [local irreducible] Code.wp wpList bodyPost Exit.then Exit.inBlock Hp Again Calls Y AT ResV QT Qn QI wpAny wpAnyQ
set_option maxRecDepth 20000
set_option maxHeartbeats 4000000

/-! ### the ranks of a morphism -/
theorem AreP.mat {a b : Rp} {ms : List Mat} (h : AreP a b ms) {i : Nat} (hi : i < ms.length) : ∃ m, ms[i]? = some m ∧ ms.getD i mat0 = m ∧ MatP a.p m := by
  obtain ⟨m, hm⟩ : ∃ m, ms[i]? = some m := ⟨_, List.getElem?_eq_getElem hi⟩
  have hmd : ms.getD i mat0 = m := by simp [List.getD, hm]
  have := (h.2.2 i hi).1
  rw [hmd] at this
  exact ⟨m, hm, hmd, this⟩
theorem AreP.ml5 {a b : Rp} {ms : List Mat} (h : AreP a b ms) : ms.length ≤ 5 := by
  have h1 := (RepP.dd h.1.1).2
  have h2 := h.2.1
  omega
theorem ranks_ok {w : World} {p : Int} {ms : List Mat} {e : Nat} {v : Value} (hr : Rd w (matsT e ms) v) (hM : ∀ i, i < ms.length → MatP p (ms.getD i mat0)) (hb : ms.length ≤ 1000) :
    Does Try.prog 166 [iV p, v] w (GivesIL (rkN p ms ms.length)) := by
  obtain ⟨a3, c3, rfl, hs3, hc3, hd3, hg3⟩ := rd_mats hr
  refine fn_enter Try.func166 rfl Try.ntmps166 rfl ?_
  repeat' (first
    | (show AT _ _ _ (wpList _ _ _ (_ :: _)); first
       | (show AT _ _ _ (wpList _ _ _ (⟨_, Op.move _, _, _, _, _⟩ :: _)); refine st_y (y_move rfl) rfl ?_)
       | (show AT _ _ _ (wpList _ _ _ (⟨_, Op.assign _, _, _, _, _⟩ :: _)); refine st_y (y_assign rfl) rfl ?_)
       | (show AT _ _ _ (wpList _ _ _ (⟨_, Op.call _, _, _, _, _⟩ :: _)); refine st_y (y_len tabs rfl rfl) rfl ?_))
    | (show AT _ _ _ (wpList _ _ _ []); refine c_nil (x_then ?_))
    | (show AT _ _ _ (Code.wp _ _ _); first | refine c_seq ?_ | refine c_region ?_ | refine c_block ?_))
  refine c_loopH (α := Nat × Option Addr × Nat) [0, 8, 9] (fun s => [(5, .slice s.2.1 (rkN p ms s.1).length s.2.2), (10, .int .i64 s.1)]) (fun s => s.1 ≤ ms.length) (fun s => [.own (iT (rkN p ms s.1)) (.slice s.2.1 (rkN p ms s.1).length s.2.2)]) (fun s => ms.length - s.1) (0, none, 0) rfl (by repeat' (first | exact Sub.nil | refine Sub.cons rfl ?_ | refine Sub.consi rfl (by omega) ?_)) ?_ ?_ ?_
  · exact Nat.zero_le _
  · exact fun w' c' => Hp.nilp _ _ c'
  · rintro ⟨i, al, cl⟩ hi
    simp only at hi ⊢
    have hln := rkN_len p ms i
    by_cases hin : i < ms.length
    · obtain ⟨m, hm⟩ : ∃ m, ms[i]? = some m := ⟨_, List.getElem?_eq_getElem hin⟩
      obtain ⟨a4, c4, g1, g2, g3, g4⟩ := hg3 i m hm
      have hmd : ms.getD i mat0 = m := by simp [List.getD, hm]
      have hM1 : MatP p m := by have := hM i hin; rwa [hmd] at this
      repeat' (first
        | (show AT _ _ _ (wpList _ _ _ (_ :: _)); first
           | (show AT _ _ _ (wpList _ _ _ (⟨_, Op.move _, _, _, _, _⟩ :: _)); refine st_y (y_move rfl) rfl ?_)
           | (show AT _ _ _ (wpList _ _ _ (⟨_, Op.assign _, _, _, _, _⟩ :: _)); refine st_y (y_assign rfl) rfl ?_)
           | (show AT _ _ _ (wpList _ _ _ (⟨_, Op.load _ _, _, _, _, _⟩ :: _)); first | refine st_y (y_load3 tabs rfl rfl (hc_w0 g1) (hc_w0 g2) (hc_w0 g3)) rfl ?_ | refine st_y (y_loadb 0 tabs rfl rfl rfl rfl) rfl ?_)
           | (show AT _ _ _ (wpList _ _ _ (⟨_, Op.indexAddr _ _ _, _, _, _, _⟩ :: _)); refine st_y (y_ixa tabs rfl rfl rfl (by first | assumption | exact .mk) (by omega) (by omega)) rfl ?_)
           | (show AT _ _ _ (wpList _ _ _ (⟨_, Op.binOp _ _ _ _ _, _, _, _, _⟩ :: _)); first | refine st_y (y_add rfl rfl (by omega)) rfl ?_ | refine st_y (y_lss rfl rfl) rfl ?_)
           | (show AT _ _ _ (wpList _ _ _ (⟨_, Op.call _, _, _, _, _⟩ :: _)); first | (refine m_call (ent_of Try.func132 (by kernel_rfl) rfl) rfl rfl (fun w c => rank_ok (m := m) (c.rd g4) hM1.g) ?_; rintro v H' ⟨rfl, rfl⟩) | refine m_pushn 1 tabs (k := ((redL p m).length : Int)) (m := (rkN p ms i).length) rfl rfl rfl rfl rfl rfl (by omega) (fun a6 c6 => ?_))
           | (show AT _ _ _ (wpList _ _ _ (⟨_, Op.store _ _ _, _, _, _, _⟩ :: _)); refine m_storeb 0 tabs rfl rfl rfl rfl rfl rfl rfl ?_)
           | (show AT _ _ _ (wpList _ _ _ (⟨_, Op.alloc _, _, _, _, _⟩ :: _)); refine m_alloc tabs rfl rfl (fun b5 hb5 => ?_))
           | (show AT _ _ _ (wpList _ _ _ (⟨_, Op.buildSlice _ _ _, _, _, _, _⟩ :: _)); refine m_build1 tabs (us := [iV (redL p m).length]) rfl rfl rfl rfl (by decide) rfl (fun g5 hg5 => ?_)))
        | (show AT _ _ _ (wpList _ _ _ []); first | refine c_nil (x_then ?_) | refine c_nil ?_)
        | (show AT _ _ _ (Code.wp _ _ _); first | refine c_seq ?_ | refine c_region ?_ | refine c_skip (x_then ?_) | refine c_block ?_ | refine c_ift rfl (by first | assumption | omega) ?_)
        | (show AT _ _ _ _; first | refine x_then ?_ | refine x_blk ?_))
      refine x_nx (i + 1, a6, c6) (by rw [rkN, hmd, List.length_append, List.length_singleton]; exact (by repeat' (first | exact Sub.nil | refine Sub.cons rfl ?_ | refine Sub.consi rfl (by omega) ?_))) (by simp only; omega) (fun w' c' => ?_) (by simp only; omega)
      simp only [rkN, hmd, List.length_append, List.length_singleton]
      exact c'.sub (.cons_cons _ (List.nil_sublist _))
    · have : i = ms.length := by omega
      subst this
      refine AT.fact (own_sl 0 rfl) (fun hsl => ?_)
      obtain ⟨a4, c4, e4, hs4⟩ := hsl
      cases e4
      repeat' (first
        | (show AT _ _ _ (wpList _ _ _ (_ :: _)); first
           | (show AT _ _ _ (wpList _ _ _ (⟨_, Op.move _, _, _, _, _⟩ :: _)); refine st_y (y_move rfl) rfl ?_)
           | (show AT _ _ _ (wpList _ _ _ (⟨_, Op.assign _, _, _, _, _⟩ :: _)); refine st_y (y_assign rfl) rfl ?_)
           | (show AT _ _ _ (wpList _ _ _ (⟨_, Op.binOp _ _ _ _ _, _, _, _, _⟩ :: _)); refine st_y (y_lss rfl rfl) rfl ?_))
        | (show AT _ _ _ (wpList _ _ _ []); refine c_nil (x_then ?_))
        | (show AT _ _ _ (Code.wp _ _ _); first | refine c_seq ?_ | refine c_region ?_ | refine c_ret ?_ | refine c_exit ?_ | refine c_iff rfl (by first | assumption | exact not_not_intro (by assumption) | omega) ?_)
        | (show AT _ _ _ _; first | refine x_then ?_ | refine x_then_exit ?_ | refine x_blk_exit rfl ?_))
      exact x_ret1 Try.results166 (res_tmp rfl) (fun w' c' => ⟨_, _, rfl, ⟨_, _, rfl, hs4, rfl⟩, c'.sub (.cons_cons _ (List.nil_sublist _))⟩)
def rvL (a b : Rp) (ms : List Mat) : List Int := if MorP a b ms then rkN a.p ms ms.length else []
theorem AreP.all {a b : Rp} {ms : List Mat} (h : AreP a b ms) : ∀ i, i < ms.length → MatP a.p (ms.getD i mat0) := fun i hi => (h.2.2 i hi).1
theorem spec_RankVector_ok {w : World} {a b : Rp} {ms : List Mat} {e e' e2 : Nat} {u0 u1 u2 u3 v0 v1 v2 v3 um : Value} (h0 : Rd w (iT a.q.2.1) u0) (h1 : Rd w (iT a.q.2.2) u1) (h2 : Rd w (iT a.d) u2) (h3 : Rd w (matsT e a.m) u3) (k0 : Rd w (iT b.q.2.1) v0) (k1 : Rd w (iT b.q.2.2) v1) (k2 : Rd w (iT b.d) v2) (k3 : Rd w (matsT e' b.m) v3) (hm : Rd w (matsT e2 ms) um) :
    Does Try.prog 164 [.agg #[iV a.p, iV a.q.1, u0, u1, u2, u3], .agg #[iV b.p, iV b.q.1, v0, v1, v2, v3], um] w (GivesIL (rvL a b ms)) := by
  have hm0 := hm
  obtain ⟨am, cm, rfl, hsm, hcm, hdm, hgm⟩ := rd_mats hm
  unfold maxLen at hdm
  refine fn_enter Try.func164 rfl Try.ntmps164 rfl ?_
  repeat' (first
    | (show AT _ _ _ (wpList _ _ _ (_ :: _)); first
       | (show AT _ _ _ (wpList _ _ _ (⟨_, Op.assign _, _, _, _, _⟩ :: _)); refine st_y (y_assign rfl) rfl ?_)
       | (show AT _ _ _ (wpList _ _ _ (⟨_, Op.box _ _, _, _, _, _⟩ :: _)); refine m_box rfl rfl (fun b4 hb4 => ?_))
       | (show AT _ _ _ (wpList _ _ _ (⟨_, Op.buildSlice _ _ _, _, _, _, _⟩ :: _)); refine m_build0 tabs rfl rfl (fun g hg => ?_)))
    | (show AT _ _ _ (wpList _ _ _ []); refine c_nil (x_then ?_))
    | (show AT _ _ _ (Code.wp _ _ _); first | refine c_seq ?_ | refine c_region ?_ | refine c_block ?_))
  rename_i b3 hb3
  refine c_loopH (α := Nat × Option Addr × Nat) [2, 3, 4] (fun s => [(7, .slice s.2.1 (rkN a.p ms s.1).length s.2.2), (8, .int .i64 s.1)]) (fun s => s.1 ≤ ms.length ∧ (s.1 = 0 ∨ MorP a b ms)) (fun s => [.own (iT (rkN a.p ms s.1)) (.slice s.2.1 (rkN a.p ms s.1).length s.2.2), .blk b4 #[iV b.p, iV b.q.1, v0, v1, v2, v3] 35, .blk b3 #[iV a.p, iV a.q.1, u0, u1, u2, u3] 35]) (fun s => ms.length - s.1) (0, some ⟨g, 0, none⟩, 0) rfl (by repeat' (first | exact Sub.nil | refine Sub.cons rfl ?_ | refine Sub.consi rfl (by omega) ?_)) ?_ ?_ ?_
  · exact ⟨Nat.zero_le _, .inl rfl⟩
  · exact fun w' c' => c'
  · rintro ⟨i, al, cl⟩ ⟨hi, hz0⟩
    simp only at hi hz0 ⊢
    have hln := rkN_len a.p ms i
    refine AT.fact (own_sl 0 rfl) (fun hsl => ?_)
    obtain ⟨a4, c4, e4, hs4⟩ := hsl
    cases e4
    by_cases hM : MorP a b ms
    · by_cases hin : i < ms.length
      · obtain ⟨m, hmi, hmd, hM1⟩ := hM.1.mat hin
        obtain ⟨a5, c5, g1, g2, g3, g4⟩ := hgm i m hmi
        have hk : rankF a.p m = (redL a.p m).length := by rw [rankF, if_pos hM1]
        have hml := hM.1.ml5
        repeat' (first
          | (show AT _ _ _ (wpList _ _ _ (_ :: _)); first
             | (show AT _ _ _ (wpList _ _ _ (⟨_, Op.move _, _, _, _, _⟩ :: _)); refine st_y (y_move rfl) rfl ?_)
             | (show AT _ _ _ (wpList _ _ _ (⟨_, Op.load _ _, _, _, _, _⟩ :: _)); first | refine st_y (y_loadb 1 tabs rfl rfl rfl rfl) rfl ?_ | refine st_y (y_loadb 2 tabs rfl rfl rfl rfl) rfl ?_)
             | (show AT _ _ _ (wpList _ _ _ (⟨_, Op.binOp _ _ _ _ _, _, _, _, _⟩ :: _)); refine st_y (y_lss rfl rfl) rfl ?_)
             | (show AT _ _ _ (wpList _ _ _ (⟨_, Op.call _, _, _, _, _⟩ :: _)); first | (refine m_call (ent_of Try.func85 (by kernel_rfl) rfl) rfl rfl (fun w c => spec_IsMorphism_ok (a := a) (b := b) (ms := ms) (c.rd h0) (c.rd h1) (c.rd h2) (c.rd h3) (c.rd k0) (c.rd k1) (c.rd k2) (c.rd k3) (c.rd hm0)) ?_; rintro v H' ⟨rfl, rfl⟩) | refine st_y (y_len tabs rfl rfl) rfl ?_)
             | (show AT _ _ _ (wpList _ _ _ (⟨_, Op.pick _ _ _, _, _, _, _⟩ :: _)); refine st_y (y_pickt rfl (by first | assumption | omega) rfl) rfl ?_)
             | refine st_gdy rfl rfl (by first | assumption | omega) ?_)
          | (show AT _ _ _ (wpList _ _ _ []); refine c_nil (x_then ?_))
          | (show AT _ _ _ (Code.wp _ _ _); first | refine c_seq ?_ | refine c_region ?_ | refine c_skip (x_then ?_) | refine c_block ?_ | refine c_ift rfl (by first | assumption | omega) ?_))
        refine c_all (Hp [] w [.blk b4 #[iV b.p, iV b.q.1, v0, v1, v2, v3] 35, .blk b3 #[iV a.p, iV a.q.1, u0, u1, u2, u3] 35]) (by kernel_rfl) (fun _ c => Hp.drew c) ?_
        refine h_take 0 rfl (by kernel_rfl) (by kernel_rfl) (by kernel_rfl) (by exact y_move rfl) rfl (fun w c => by exact c.drop) ?_
        refine h_take 1 rfl (by kernel_rfl) (by kernel_rfl) (by kernel_rfl) (by exact y_field tabs rfl rfl rfl) rfl (fun w c => by exact c.drop) ?_
        refine h_take 2 rfl (by kernel_rfl) (by kernel_rfl) (by kernel_rfl) (by exact y_load tabs rfl rfl (hc_blk 1 rfl rfl)) rfl (fun w c => by exact c.drop) ?_
        refine h_take 3 rfl (by kernel_rfl) (by kernel_rfl) (by kernel_rfl) (by exact y_move rfl) rfl (fun w c => by exact c.drop) ?_
        refine h_take 4 rfl (by kernel_rfl) (by kernel_rfl) (by kernel_rfl) (by exact y_move rfl) rfl (fun w c => by exact c.drop) ?_
        refine h_take 5 rfl (by kernel_rfl) (by kernel_rfl) (by kernel_rfl) (by exact y_ixa tabs rfl rfl rfl hsm (by omega) (by omega)) rfl (fun w c => by exact c.drop) ?_
        refine h_take 6 rfl (by kernel_rfl) (by kernel_rfl) (by kernel_rfl) (by exact y_load3 tabs rfl rfl (hc_w0 g1) (hc_w0 g2) (hc_w0 g3)) rfl (fun w c => by exact c.drop) ?_
        refine h_only 7 rfl (by kernel_rfl) ?_
        first | (refine m_build1 tabs (us := [iV (redL a.p m).length]) rfl rfl rfl rfl (by decide) rfl (fun g5 hg5 => ?_)) | (refine m_call (ent_of Try.func168 (by kernel_rfl) rfl) rfl rfl (fun w c => (by have := spec_RankOf_ok (p := a.p) (m := m) (c.rd g4); rw [hk] at this; exact this)) ?_; rintro v H' ⟨rfl, rfl⟩) | (refine m_pushn 0 tabs (k := ((redL a.p m).length : Int)) (m := (rkN a.p ms i).length) rfl rfl rfl rfl rfl rfl (by omega) (fun a6 c6 => ?_))
        refine c_nil (x_one (h_keep (fun w c => by exact c.drop) ?_))
        refine h_only 8 rfl (by kernel_rfl) ?_
        first | (refine m_build1 tabs (us := [iV (redL a.p m).length]) rfl rfl rfl rfl (by decide) rfl (fun g5 hg5 => ?_)) | (refine m_call (ent_of Try.func168 (by kernel_rfl) rfl) rfl rfl (fun w c => (by have := spec_RankOf_ok (p := a.p) (m := m) (c.rd g4); rw [hk] at this; exact this)) ?_; rintro v H' ⟨rfl, rfl⟩) | (refine m_pushn 0 tabs (k := ((redL a.p m).length : Int)) (m := (rkN a.p ms i).length) rfl rfl rfl rfl rfl rfl (by omega) (fun a6 c6 => ?_))
        refine c_nil (x_one (h_keep (fun w c => by exact c.drop.drop) ?_))
        refine h_only 9 rfl (by kernel_rfl) ?_
        first | (refine m_build1 tabs (us := [iV (redL a.p m).length]) rfl rfl rfl rfl (by decide) rfl (fun g5 hg5 => ?_)) | (refine m_call (ent_of Try.func168 (by kernel_rfl) rfl) rfl rfl (fun w c => (by have := spec_RankOf_ok (p := a.p) (m := m) (c.rd g4); rw [hk] at this; exact this)) ?_; rintro v H' ⟨rfl, rfl⟩) | (refine m_pushn 0 tabs (k := ((redL a.p m).length : Int)) (m := (rkN a.p ms i).length) rfl rfl rfl rfl rfl rfl (by omega) (fun a6 c6 => ?_))
        refine c_nil (x_one (h_keep (fun w c => by exact c.drop) ?_))
        refine h_take 10 rfl (by kernel_rfl) (by kernel_rfl) (by kernel_rfl) (by exact y_assign rfl) rfl (fun w c => by exact c.drop) ?_
        refine h_end (by kernel_rfl) ?_
        repeat' (first
          | (show AT _ _ _ (wpList _ _ _ (_ :: _)); first
             | (show AT _ _ _ (wpList _ _ _ (⟨_, Op.move _, _, _, _, _⟩ :: _)); refine st_y (y_move rfl) rfl ?_)
             | (show AT _ _ _ (wpList _ _ _ (⟨_, Op.assign _, _, _, _, _⟩ :: _)); refine st_y (y_assign rfl) rfl ?_)
             | (show AT _ _ _ (wpList _ _ _ (⟨_, Op.binOp _ _ _ _ _, _, _, _, _⟩ :: _)); refine st_y (y_add rfl rfl (by omega)) rfl ?_))
          | (show AT _ _ _ (wpList _ _ _ []); refine c_nil (x_then ?_))
          | (show AT _ _ _ (Code.wp _ _ _); refine c_region ?_)
          | (show AT _ _ _ _; first | refine x_then ?_ | refine x_blk ?_))
        refine x_nx (i + 1, a6, c6) (by rw [rkN, hmd, List.length_append, List.length_singleton]; exact (by repeat' (first | exact Sub.nil | refine Sub.cons rfl ?_ | refine Sub.consi rfl (by omega) ?_))) ⟨by simp only; omega, .inr hM⟩ (fun w' c' => ?_) (by simp only; omega)
        simp only [rkN, hmd, List.length_append, List.length_singleton]
        exact c'
      · have : i = ms.length := by omega
        subst this
        repeat' (first
          | (show AT _ _ _ (wpList _ _ _ (_ :: _)); first
             | (show AT _ _ _ (wpList _ _ _ (⟨_, Op.move _, _, _, _, _⟩ :: _)); refine st_y (y_move rfl) rfl ?_)
             | (show AT _ _ _ (wpList _ _ _ (⟨_, Op.assign _, _, _, _, _⟩ :: _)); refine st_y (y_assign rfl) rfl ?_)
             | (show AT _ _ _ (wpList _ _ _ (⟨_, Op.binOp _ _ _ _ _, _, _, _, _⟩ :: _)); refine st_y (y_lss rfl rfl) rfl ?_)
             | (show AT _ _ _ (wpList _ _ _ (⟨_, Op.call _, _, _, _, _⟩ :: _)); refine st_y (y_len tabs rfl rfl) rfl ?_)
             | (show AT _ _ _ (wpList _ _ _ (⟨_, Op.pick _ _ _, _, _, _, _⟩ :: _)); refine st_y (y_pickf rfl (by first | assumption | omega) rfl) rfl ?_)
             | refine st_gdn rfl rfl (by first | assumption | omega) rfl ?_)
          | (show AT _ _ _ (wpList _ _ _ []); refine c_nil (x_then ?_))
          | (show AT _ _ _ (Code.wp _ _ _); first | refine c_seq ?_ | refine c_region ?_ | refine c_ret ?_ | refine c_exit ?_ | refine c_false rfl ?_)
          | (show AT _ _ _ _; first | refine x_then ?_ | refine x_then_exit ?_ | refine x_blk_exit rfl ?_))
        rw [rvL, if_pos hM]
        exact x_ret1 Try.results164 (res_tmp rfl) (fun w' c' => ⟨_, _, rfl, ⟨_, _, rfl, hs4, rfl⟩, c'.sub (.cons_cons _ (List.nil_sublist _))⟩)
    · have hi0 : i = 0 := by rcases hz0 with h | h; · exact h
                             · exact absurd h hM
      subst hi0
      have e0 : rvL a b ms = rkN a.p ms 0 := by rw [rvL, if_neg hM]; rfl
      repeat' (first
        | (show AT _ _ _ (wpList _ _ _ (_ :: _)); first
           | (show AT _ _ _ (wpList _ _ _ (⟨_, Op.move _, _, _, _, _⟩ :: _)); refine st_y (y_move rfl) rfl ?_)
           | (show AT _ _ _ (wpList _ _ _ (⟨_, Op.assign _, _, _, _, _⟩ :: _)); refine st_y (y_assign rfl) rfl ?_)
           | (show AT _ _ _ (wpList _ _ _ (⟨_, Op.load _ _, _, _, _, _⟩ :: _)); first | refine st_y (y_loadb 1 tabs rfl rfl rfl rfl) rfl ?_ | refine st_y (y_loadb 2 tabs rfl rfl rfl rfl) rfl ?_)
           | (show AT _ _ _ (wpList _ _ _ (⟨_, Op.binOp _ _ _ _ _, _, _, _, _⟩ :: _)); refine st_y (y_lss rfl rfl) rfl ?_)
           | (show AT _ _ _ (wpList _ _ _ (⟨_, Op.call _, _, _, _, _⟩ :: _)); first | (refine m_call (ent_of Try.func85 (by kernel_rfl) rfl) rfl rfl (fun w c => spec_IsMorphism_ok (a := a) (b := b) (ms := ms) (c.rd h0) (c.rd h1) (c.rd h2) (c.rd h3) (c.rd k0) (c.rd k1) (c.rd k2) (c.rd k3) (c.rd hm0)) ?_; rintro v H' ⟨rfl, rfl⟩) | refine st_y (y_len tabs rfl rfl) rfl ?_)
           | (show AT _ _ _ (wpList _ _ _ (⟨_, Op.pick _ _ _, _, _, _, _⟩ :: _)); first | refine st_y (y_pickt rfl (by first | assumption | omega) rfl) rfl ?_ | refine st_y (y_pickf rfl (by first | assumption | omega) rfl) rfl ?_)
           | refine st_gdy rfl rfl (by first | assumption | omega) ?_ | refine st_gdn rfl rfl (by first | assumption | omega) rfl ?_ | refine st_gd rfl rfl (fun h => ?_) (fun h => ?_))
        | (show AT _ _ _ (wpList _ _ _ []); refine c_nil (x_then ?_))
        | (show AT _ _ _ (Code.wp _ _ _); first | refine c_seq ?_ | refine c_region ?_ | refine c_ret ?_ | refine c_exit ?_ | refine c_false rfl ?_ | refine c_iff rfl (by first | assumption | exact not_not_intro (by assumption) | omega) ?_)
        | (show AT _ _ _ _; first | refine x_then ?_ | refine x_then_exit ?_ | refine x_blk_exit rfl ?_))
      all_goals rw [e0]
      all_goals exact x_ret1 Try.results164 (res_tmp rfl) (fun w' c' => ⟨_, _, rfl, ⟨_, _, rfl, hs4, rfl⟩, c'.sub (.cons_cons _ (List.nil_sublist _))⟩)

theorem impl_IsInjective_ok {w : World} {a b : Rp} {ms : List Mat} {e e' e2 : Nat} {u0 u1 u2 u3 v0 v1 v2 v3 um : Value} (h0 : Rd w (iT a.q.2.1) u0) (h1 : Rd w (iT a.q.2.2) u1) (h2 : Rd w (iT a.d) u2) (h3 : Rd w (matsT e a.m) u3) (k0 : Rd w (iT b.q.2.1) v0) (k1 : Rd w (iT b.q.2.2) v1) (k2 : Rd w (iT b.d) v2) (k3 : Rd w (matsT e' b.m) v3) (hm : Rd w (matsT e2 ms) um) :
    Does Try.prog 115 [.agg #[iV a.p, iV a.q.1, u0, u1, u2, u3], .agg #[iV b.p, iV b.q.1, v0, v1, v2, v3], um] w (fun r H => r = .bool (decide (MorP a b ms ∧ rkN a.p ms ms.length = a.d)) ∧ H = []) := by
  by_cases hM : MorP a b ms
  · refine fn_enter Try.func115 rfl Try.ntmps115 rfl ?_
    repeat' (first
      | (show AT _ _ _ (wpList _ _ _ (_ :: _)); first
         | (show AT _ _ _ (wpList _ _ _ (⟨_, Op.assign _, _, _, _, _⟩ :: _)); refine st_y (y_assign rfl) rfl ?_)
         | (show AT _ _ _ (wpList _ _ _ (⟨_, Op.box _ _, _, _, _, _⟩ :: _)); refine m_box rfl rfl (fun b4 hb4 => ?_)))
      | (show AT _ _ _ (wpList _ _ _ []); refine c_nil (x_then ?_))
      | (show AT _ _ _ (Code.wp _ _ _); first | refine c_seq ?_ | refine c_region ?_))
    rename_i b3 hb3
    refine c_all (Hp [] w [.blk b4 #[iV b.p, iV b.q.1, v0, v1, v2, v3] 35, .blk b3 #[iV a.p, iV a.q.1, u0, u1, u2, u3] 35]) (by kernel_rfl) (fun _ c => Hp.drew c) ?_
    refine h_take 0 rfl (by kernel_rfl) (by kernel_rfl) (by kernel_rfl) (by exact y_loadb 1 tabs rfl rfl rfl rfl) rfl (fun _ c => c) ?_
    refine h_take 1 rfl (by kernel_rfl) (by kernel_rfl) (by kernel_rfl) (by exact y_loadb 0 tabs rfl rfl rfl rfl) rfl (fun _ c => c) ?_
    refine h_take 2 rfl (by kernel_rfl) (by kernel_rfl) (by kernel_rfl) (by exact y_move rfl) rfl (fun _ c => c) ?_
    refine h_only 3 rfl (by kernel_rfl) ?_
    first | (refine m_call (ent_of Try.func91 (by kernel_rfl) rfl) rfl rfl (fun w c => impl_IsMorphism_ok (a := a) (b := b) (ms := ms) (c.rd h0) (c.rd h1) (c.rd h2) (c.rd h3) (c.rd k0) (c.rd k1) (c.rd k2) (c.rd k3) (c.rd hm)) ?_; rintro v H' ⟨rfl, rfl⟩) | (refine m_call (ent_of Try.func166 (by kernel_rfl) rfl) rfl rfl (fun w c => ranks_ok (c.rd hm) hM.1.all (by have := hM.1.ml5; omega)) ?_; rintro v H' ⟨ar, cr, rfl, hsr, rfl⟩) | (refine m_call (ent_of Try.func165 (by kernel_rfl) rfl) rfl rfl (fun w c => Equal_ok w _ _ (rkN a.p ms ms.length) a.d (c.own_rd (i := 0) rfl) (c.rd h2)) ?_; rintro v H' ⟨rfl, rfl⟩)
    refine c_nil (x_one (h_keep (fun _ c => c) ?_))
    refine h_take 4 rfl (by kernel_rfl) (by kernel_rfl) (by kernel_rfl) (by exact y_move rfl) rfl (fun _ c => c) ?_
    refine h_takeg 5 rfl (by kernel_rfl) (by kernel_rfl) (by kernel_rfl) rfl rfl (by assumption) (by exact y_field tabs rfl rfl rfl) rfl (fun _ c => c) ?_
    refine h_takeg 6 rfl (by kernel_rfl) (by kernel_rfl) (by kernel_rfl) rfl rfl (by assumption) (by first | exact y_load tabs rfl rfl (hc_blk 1 rfl rfl) | exact y_load tabs rfl rfl (hc_blk 1 rfl rfl)) rfl (fun _ c => c) ?_
    refine h_takeg 7 rfl (by kernel_rfl) (by kernel_rfl) (by kernel_rfl) rfl rfl (by assumption) (by exact y_move rfl) rfl (fun _ c => c) ?_
    refine h_takeg 9 rfl (by kernel_rfl) (by kernel_rfl) (by kernel_rfl) rfl rfl (by assumption) (by exact y_field tabs rfl rfl rfl) rfl (fun _ c => c) ?_
    refine h_takeg 10 rfl (by kernel_rfl) (by kernel_rfl) (by kernel_rfl) rfl rfl (by assumption) (by first | exact y_load tabs rfl rfl (hc_blk 1 rfl rfl) | exact y_load tabs rfl rfl (hc_blk 1 rfl rfl)) rfl (fun _ c => c) ?_
    refine h_only 8 rfl (by kernel_rfl) (st_gdy rfl rfl (by assumption) ?_)
    first | (refine m_call (ent_of Try.func91 (by kernel_rfl) rfl) rfl rfl (fun w c => impl_IsMorphism_ok (a := a) (b := b) (ms := ms) (c.rd h0) (c.rd h1) (c.rd h2) (c.rd h3) (c.rd k0) (c.rd k1) (c.rd k2) (c.rd k3) (c.rd hm)) ?_; rintro v H' ⟨rfl, rfl⟩) | (refine m_call (ent_of Try.func166 (by kernel_rfl) rfl) rfl rfl (fun w c => ranks_ok (c.rd hm) hM.1.all (by have := hM.1.ml5; omega)) ?_; rintro v H' ⟨ar, cr, rfl, hsr, rfl⟩) | (refine m_call (ent_of Try.func165 (by kernel_rfl) rfl) rfl rfl (fun w c => Equal_ok w _ _ (rkN a.p ms ms.length) a.d (c.own_rd (i := 0) rfl) (c.rd h2)) ?_; rintro v H' ⟨rfl, rfl⟩)
    refine c_nil (x_one (h_keep (fun w c => by exact c.drop) ?_))
    refine h_only 11 rfl (by kernel_rfl) (st_gdy rfl rfl (by assumption) ?_)
    first | (refine m_call (ent_of Try.func91 (by kernel_rfl) rfl) rfl rfl (fun w c => impl_IsMorphism_ok (a := a) (b := b) (ms := ms) (c.rd h0) (c.rd h1) (c.rd h2) (c.rd h3) (c.rd k0) (c.rd k1) (c.rd k2) (c.rd k3) (c.rd hm)) ?_; rintro v H' ⟨rfl, rfl⟩) | (refine m_call (ent_of Try.func166 (by kernel_rfl) rfl) rfl rfl (fun w c => ranks_ok (c.rd hm) hM.1.all (by have := hM.1.ml5; omega)) ?_; rintro v H' ⟨ar, cr, rfl, hsr, rfl⟩) | (refine m_call (ent_of Try.func165 (by kernel_rfl) rfl) rfl rfl (fun w c => Equal_ok w _ _ (rkN a.p ms ms.length) a.d (c.own_rd (i := 0) rfl) (c.rd h2)) ?_; rintro v H' ⟨rfl, rfl⟩)
    refine c_nil (x_one (h_keep (fun w c => by exact c.drop) ?_))
    refine h_take 12 rfl (by kernel_rfl) (by kernel_rfl) (by kernel_rfl) (by exact y_pickt rfl (by assumption) rfl) rfl (fun w c => by exact c.drop) ?_
    refine h_take 13 rfl (by kernel_rfl) (by kernel_rfl) (by kernel_rfl) (by exact y_assign rfl) rfl (fun w c => by exact c.drop) ?_
    refine h_end (by kernel_rfl) ?_
    repeat' (first
      | (show AT _ _ _ (Code.wp _ _ _); refine c_ret ?_)
      | (show AT _ _ _ _; refine x_then ?_))
    refine x_ret1 Try.results115 (res_tmp rfl) (fun w' c' => ⟨_, _, rfl, ⟨congrArg Value.bool ?_, rfl⟩, c'.sub (List.nil_sublist _)⟩)
    exact decide_eq_decide.2 ⟨fun h => ⟨hM, h⟩, fun h => h.2⟩
  · have hno : ¬ (MorP a b ms ∧ rkN a.p ms ms.length = a.d) := fun h => hM h.1
    rw [decide_eq_false hno]
    refine fn_enter Try.func115 rfl Try.ntmps115 rfl ?_
    repeat' (first
      | (show AT _ _ _ (wpList _ _ _ (_ :: _)); first
         | (show AT _ _ _ (wpList _ _ _ (⟨_, Op.assign _, _, _, _, _⟩ :: _)); refine st_y (y_assign rfl) rfl ?_)
         | (show AT _ _ _ (wpList _ _ _ (⟨_, Op.box _ _, _, _, _, _⟩ :: _)); refine m_box rfl rfl (fun b4 hb4 => ?_)))
      | (show AT _ _ _ (wpList _ _ _ []); refine c_nil (x_then ?_))
      | (show AT _ _ _ (Code.wp _ _ _); first | refine c_seq ?_ | refine c_region ?_))
    rename_i b3 hb3
    refine c_all (Hp [] w [.blk b4 #[iV b.p, iV b.q.1, v0, v1, v2, v3] 35, .blk b3 #[iV a.p, iV a.q.1, u0, u1, u2, u3] 35]) (by kernel_rfl) (fun _ c => Hp.drew c) ?_
    refine h_take 0 rfl (by kernel_rfl) (by kernel_rfl) (by kernel_rfl) (by exact y_loadb 1 tabs rfl rfl rfl rfl) rfl (fun _ c => c) ?_
    refine h_take 1 rfl (by kernel_rfl) (by kernel_rfl) (by kernel_rfl) (by exact y_loadb 0 tabs rfl rfl rfl rfl) rfl (fun _ c => c) ?_
    refine h_take 2 rfl (by kernel_rfl) (by kernel_rfl) (by kernel_rfl) (by exact y_move rfl) rfl (fun _ c => c) ?_
    refine h_only 3 rfl (by kernel_rfl) ?_
    (refine m_call (ent_of Try.func91 (by kernel_rfl) rfl) rfl rfl (fun w c => impl_IsMorphism_ok (a := a) (b := b) (ms := ms) (c.rd h0) (c.rd h1) (c.rd h2) (c.rd h3) (c.rd k0) (c.rd k1) (c.rd k2) (c.rd k3) (c.rd hm)) ?_; rintro v H' ⟨rfl, rfl⟩)
    refine c_nil (x_one (h_keep (fun _ c => c) ?_))
    refine h_take 4 rfl (by kernel_rfl) (by kernel_rfl) (by kernel_rfl) (by exact y_move rfl) rfl (fun _ c => c) ?_
    refine h_takeu 5 rfl (by kernel_rfl) (by kernel_rfl) (by kernel_rfl) rfl rfl (by assumption) rfl (fun _ c => c) ?_
    refine h_takeu 6 rfl (by kernel_rfl) (by kernel_rfl) (by kernel_rfl) rfl rfl (by assumption) rfl (fun _ c => c) ?_
    refine h_takeu 7 rfl (by kernel_rfl) (by kernel_rfl) (by kernel_rfl) rfl rfl (by assumption) rfl (fun _ c => c) ?_
    refine h_takeu 8 rfl (by kernel_rfl) (by kernel_rfl) (by kernel_rfl) rfl rfl (by assumption) rfl (fun _ c => c) ?_
    refine h_takeu 9 rfl (by kernel_rfl) (by kernel_rfl) (by kernel_rfl) rfl rfl (by assumption) rfl (fun _ c => c) ?_
    refine h_takeu 10 rfl (by kernel_rfl) (by kernel_rfl) (by kernel_rfl) rfl rfl (by assumption) rfl (fun _ c => c) ?_
    refine h_takeu 11 rfl (by kernel_rfl) (by kernel_rfl) (by kernel_rfl) rfl rfl (by assumption) rfl (fun _ c => c) ?_
    refine h_take 12 rfl (by kernel_rfl) (by kernel_rfl) (by kernel_rfl) (by exact y_pickf rfl (by assumption) rfl) rfl (fun _ c => c) ?_
    refine h_take 13 rfl (by kernel_rfl) (by kernel_rfl) (by kernel_rfl) (by exact y_assign rfl) rfl (fun _ c => c) ?_
    refine h_end (by kernel_rfl) ?_
    repeat' (first
      | (show AT _ _ _ (Code.wp _ _ _); refine c_ret ?_)
      | (show AT _ _ _ _; refine x_then ?_))
    exact x_ret1 Try.results115 (res_tmp rfl) (fun w' c' => ⟨_, _, rfl, ⟨rfl, rfl⟩, c'.sub (List.nil_sublist _)⟩)

theorem impl_IsSurjective_ok {w : World} {a b : Rp} {ms : List Mat} {e e' e2 : Nat} {u0 u1 u2 u3 v0 v1 v2 v3 um : Value} (h0 : Rd w (iT a.q.2.1) u0) (h1 : Rd w (iT a.q.2.2) u1) (h2 : Rd w (iT a.d) u2) (h3 : Rd w (matsT e a.m) u3) (k0 : Rd w (iT b.q.2.1) v0) (k1 : Rd w (iT b.q.2.2) v1) (k2 : Rd w (iT b.d) v2) (k3 : Rd w (matsT e' b.m) v3) (hm : Rd w (matsT e2 ms) um) :
    Does Try.prog 116 [.agg #[iV a.p, iV a.q.1, u0, u1, u2, u3], .agg #[iV b.p, iV b.q.1, v0, v1, v2, v3], um] w (fun r H => r = .bool (decide (MorP a b ms ∧ rkN a.p ms ms.length = b.d)) ∧ H = []) := by
  by_cases hM : MorP a b ms
  · refine fn_enter Try.func116 rfl Try.ntmps116 rfl ?_
    repeat' (first
      | (show AT _ _ _ (wpList _ _ _ (_ :: _)); first
         | (show AT _ _ _ (wpList _ _ _ (⟨_, Op.assign _, _, _, _, _⟩ :: _)); refine st_y (y_assign rfl) rfl ?_)
         | (show AT _ _ _ (wpList _ _ _ (⟨_, Op.box _ _, _, _, _, _⟩ :: _)); refine m_box rfl rfl (fun b4 hb4 => ?_)))
      | (show AT _ _ _ (wpList _ _ _ []); refine c_nil (x_then ?_))
      | (show AT _ _ _ (Code.wp _ _ _); first | refine c_seq ?_ | refine c_region ?_))
    rename_i b3 hb3
    refine c_all (Hp [] w [.blk b4 #[iV b.p, iV b.q.1, v0, v1, v2, v3] 35, .blk b3 #[iV a.p, iV a.q.1, u0, u1, u2, u3] 35]) (by kernel_rfl) (fun _ c => Hp.drew c) ?_
    refine h_take 0 rfl (by kernel_rfl) (by kernel_rfl) (by kernel_rfl) (by exact y_loadb 1 tabs rfl rfl rfl rfl) rfl (fun _ c => c) ?_
    refine h_take 1 rfl (by kernel_rfl) (by kernel_rfl) (by kernel_rfl) (by exact y_loadb 0 tabs rfl rfl rfl rfl) rfl (fun _ c => c) ?_
    refine h_take 2 rfl (by kernel_rfl) (by kernel_rfl) (by kernel_rfl) (by exact y_move rfl) rfl (fun _ c => c) ?_
    refine h_only 3 rfl (by kernel_rfl) ?_
    first | (refine m_call (ent_of Try.func91 (by kernel_rfl) rfl) rfl rfl (fun w c => impl_IsMorphism_ok (a := a) (b := b) (ms := ms) (c.rd h0) (c.rd h1) (c.rd h2) (c.rd h3) (c.rd k0) (c.rd k1) (c.rd k2) (c.rd k3) (c.rd hm)) ?_; rintro v H' ⟨rfl, rfl⟩) | (refine m_call (ent_of Try.func166 (by kernel_rfl) rfl) rfl rfl (fun w c => ranks_ok (c.rd hm) hM.1.all (by have := hM.1.ml5; omega)) ?_; rintro v H' ⟨ar, cr, rfl, hsr, rfl⟩) | (refine m_call (ent_of Try.func165 (by kernel_rfl) rfl) rfl rfl (fun w c => Equal_ok w _ _ (rkN a.p ms ms.length) b.d (c.own_rd (i := 0) rfl) (c.rd k2)) ?_; rintro v H' ⟨rfl, rfl⟩)
    refine c_nil (x_one (h_keep (fun _ c => c) ?_))
    refine h_take 4 rfl (by kernel_rfl) (by kernel_rfl) (by kernel_rfl) (by exact y_move rfl) rfl (fun _ c => c) ?_
    refine h_takeg 5 rfl (by kernel_rfl) (by kernel_rfl) (by kernel_rfl) rfl rfl (by assumption) (by exact y_field tabs rfl rfl rfl) rfl (fun _ c => c) ?_
    refine h_takeg 6 rfl (by kernel_rfl) (by kernel_rfl) (by kernel_rfl) rfl rfl (by assumption) (by exact y_load tabs rfl rfl (hc_blk 1 rfl rfl)) rfl (fun _ c => c) ?_
    refine h_takeg 7 rfl (by kernel_rfl) (by kernel_rfl) (by kernel_rfl) rfl rfl (by assumption) (by exact y_move rfl) rfl (fun _ c => c) ?_
    refine h_takeg 9 rfl (by kernel_rfl) (by kernel_rfl) (by kernel_rfl) rfl rfl (by assumption) (by exact y_field tabs rfl rfl rfl) rfl (fun _ c => c) ?_
    refine h_takeg 10 rfl (by kernel_rfl) (by kernel_rfl) (by kernel_rfl) rfl rfl (by assumption) (by first | exact y_load tabs rfl rfl (hc_blk 0 rfl rfl) | exact y_load tabs rfl rfl (hc_blk 0 rfl rfl)) rfl (fun _ c => c) ?_
    refine h_only 8 rfl (by kernel_rfl) (st_gdy rfl rfl (by assumption) ?_)
    first | (refine m_call (ent_of Try.func91 (by kernel_rfl) rfl) rfl rfl (fun w c => impl_IsMorphism_ok (a := a) (b := b) (ms := ms) (c.rd h0) (c.rd h1) (c.rd h2) (c.rd h3) (c.rd k0) (c.rd k1) (c.rd k2) (c.rd k3) (c.rd hm)) ?_; rintro v H' ⟨rfl, rfl⟩) | (refine m_call (ent_of Try.func166 (by kernel_rfl) rfl) rfl rfl (fun w c => ranks_ok (c.rd hm) hM.1.all (by have := hM.1.ml5; omega)) ?_; rintro v H' ⟨ar, cr, rfl, hsr, rfl⟩) | (refine m_call (ent_of Try.func165 (by kernel_rfl) rfl) rfl rfl (fun w c => Equal_ok w _ _ (rkN a.p ms ms.length) b.d (c.own_rd (i := 0) rfl) (c.rd k2)) ?_; rintro v H' ⟨rfl, rfl⟩)
    refine c_nil (x_one (h_keep (fun w c => by exact c.drop) ?_))
    refine h_only 11 rfl (by kernel_rfl) (st_gdy rfl rfl (by assumption) ?_)
    first | (refine m_call (ent_of Try.func91 (by kernel_rfl) rfl) rfl rfl (fun w c => impl_IsMorphism_ok (a := a) (b := b) (ms := ms) (c.rd h0) (c.rd h1) (c.rd h2) (c.rd h3) (c.rd k0) (c.rd k1) (c.rd k2) (c.rd k3) (c.rd hm)) ?_; rintro v H' ⟨rfl, rfl⟩) | (refine m_call (ent_of Try.func166 (by kernel_rfl) rfl) rfl rfl (fun w c => ranks_ok (c.rd hm) hM.1.all (by have := hM.1.ml5; omega)) ?_; rintro v H' ⟨ar, cr, rfl, hsr, rfl⟩) | (refine m_call (ent_of Try.func165 (by kernel_rfl) rfl) rfl rfl (fun w c => Equal_ok w _ _ (rkN a.p ms ms.length) b.d (c.own_rd (i := 0) rfl) (c.rd k2)) ?_; rintro v H' ⟨rfl, rfl⟩)
    refine c_nil (x_one (h_keep (fun w c => by exact c.drop) ?_))
    refine h_take 12 rfl (by kernel_rfl) (by kernel_rfl) (by kernel_rfl) (by exact y_pickt rfl (by assumption) rfl) rfl (fun w c => by exact c.drop) ?_
    refine h_take 13 rfl (by kernel_rfl) (by kernel_rfl) (by kernel_rfl) (by exact y_assign rfl) rfl (fun w c => by exact c.drop) ?_
    refine h_end (by kernel_rfl) ?_
    repeat' (first
      | (show AT _ _ _ (Code.wp _ _ _); refine c_ret ?_)
      | (show AT _ _ _ _; refine x_then ?_))
    refine x_ret1 Try.results116 (res_tmp rfl) (fun w' c' => ⟨_, _, rfl, ⟨congrArg Value.bool ?_, rfl⟩, c'.sub (List.nil_sublist _)⟩)
    exact decide_eq_decide.2 ⟨fun h => ⟨hM, h⟩, fun h => h.2⟩
  · have hno : ¬ (MorP a b ms ∧ rkN a.p ms ms.length = b.d) := fun h => hM h.1
    rw [decide_eq_false hno]
    refine fn_enter Try.func116 rfl Try.ntmps116 rfl ?_
    repeat' (first
      | (show AT _ _ _ (wpList _ _ _ (_ :: _)); first
         | (show AT _ _ _ (wpList _ _ _ (⟨_, Op.assign _, _, _, _, _⟩ :: _)); refine st_y (y_assign rfl) rfl ?_)
         | (show AT _ _ _ (wpList _ _ _ (⟨_, Op.box _ _, _, _, _, _⟩ :: _)); refine m_box rfl rfl (fun b4 hb4 => ?_)))
      | (show AT _ _ _ (wpList _ _ _ []); refine c_nil (x_then ?_))
      | (show AT _ _ _ (Code.wp _ _ _); first | refine c_seq ?_ | refine c_region ?_))
    rename_i b3 hb3
    refine c_all (Hp [] w [.blk b4 #[iV b.p, iV b.q.1, v0, v1, v2, v3] 35, .blk b3 #[iV a.p, iV a.q.1, u0, u1, u2, u3] 35]) (by kernel_rfl) (fun _ c => Hp.drew c) ?_
    refine h_take 0 rfl (by kernel_rfl) (by kernel_rfl) (by kernel_rfl) (by exact y_loadb 1 tabs rfl rfl rfl rfl) rfl (fun _ c => c) ?_
    refine h_take 1 rfl (by kernel_rfl) (by kernel_rfl) (by kernel_rfl) (by exact y_loadb 0 tabs rfl rfl rfl rfl) rfl (fun _ c => c) ?_
    refine h_take 2 rfl (by kernel_rfl) (by kernel_rfl) (by kernel_rfl) (by exact y_move rfl) rfl (fun _ c => c) ?_
    refine h_only 3 rfl (by kernel_rfl) ?_
    (refine m_call (ent_of Try.func91 (by kernel_rfl) rfl) rfl rfl (fun w c => impl_IsMorphism_ok (a := a) (b := b) (ms := ms) (c.rd h0) (c.rd h1) (c.rd h2) (c.rd h3) (c.rd k0) (c.rd k1) (c.rd k2) (c.rd k3) (c.rd hm)) ?_; rintro v H' ⟨rfl, rfl⟩)
    refine c_nil (x_one (h_keep (fun _ c => c) ?_))
    refine h_take 4 rfl (by kernel_rfl) (by kernel_rfl) (by kernel_rfl) (by exact y_move rfl) rfl (fun _ c => c) ?_
    refine h_takeu 5 rfl (by kernel_rfl) (by kernel_rfl) (by kernel_rfl) rfl rfl (by assumption) rfl (fun _ c => c) ?_
    refine h_takeu 6 rfl (by kernel_rfl) (by kernel_rfl) (by kernel_rfl) rfl rfl (by assumption) rfl (fun _ c => c) ?_
    refine h_takeu 7 rfl (by kernel_rfl) (by kernel_rfl) (by kernel_rfl) rfl rfl (by assumption) rfl (fun _ c => c) ?_
    refine h_takeu 8 rfl (by kernel_rfl) (by kernel_rfl) (by kernel_rfl) rfl rfl (by assumption) rfl (fun _ c => c) ?_
    refine h_takeu 9 rfl (by kernel_rfl) (by kernel_rfl) (by kernel_rfl) rfl rfl (by assumption) rfl (fun _ c => c) ?_
    refine h_takeu 10 rfl (by kernel_rfl) (by kernel_rfl) (by kernel_rfl) rfl rfl (by assumption) rfl (fun _ c => c) ?_
    refine h_takeu 11 rfl (by kernel_rfl) (by kernel_rfl) (by kernel_rfl) rfl rfl (by assumption) rfl (fun _ c => c) ?_
    refine h_take 12 rfl (by kernel_rfl) (by kernel_rfl) (by kernel_rfl) (by exact y_pickf rfl (by assumption) rfl) rfl (fun _ c => c) ?_
    refine h_take 13 rfl (by kernel_rfl) (by kernel_rfl) (by kernel_rfl) (by exact y_assign rfl) rfl (fun _ c => c) ?_
    refine h_end (by kernel_rfl) ?_
    repeat' (first
      | (show AT _ _ _ (Code.wp _ _ _); refine c_ret ?_)
      | (show AT _ _ _ _; refine x_then ?_))
    exact x_ret1 Try.results116 (res_tmp rfl) (fun w' c' => ⟨_, _, rfl, ⟨rfl, rfl⟩, c'.sub (List.nil_sublist _)⟩)

theorem spec_IsInjective_ok {w : World} {a b : Rp} {ms : List Mat} {e e' e2 : Nat} {u0 u1 u2 u3 v0 v1 v2 v3 um : Value} (h0 : Rd w (iT a.q.2.1) u0) (h1 : Rd w (iT a.q.2.2) u1) (h2 : Rd w (iT a.d) u2) (h3 : Rd w (matsT e a.m) u3) (k0 : Rd w (iT b.q.2.1) v0) (k1 : Rd w (iT b.q.2.2) v1) (k2 : Rd w (iT b.d) v2) (k3 : Rd w (matsT e' b.m) v3) (hm : Rd w (matsT e2 ms) um) :
    Does Try.prog 112 [.agg #[iV a.p, iV a.q.1, u0, u1, u2, u3], .agg #[iV b.p, iV b.q.1, v0, v1, v2, v3], um] w (fun r H => r = .bool (decide (MorP a b ms ∧ rkN a.p ms ms.length = a.d)) ∧ H = []) := by
  by_cases hM : MorP a b ms
  · refine fn_enter Try.func112 rfl Try.ntmps112 rfl ?_
    repeat' (first
      | (show AT _ _ _ (wpList _ _ _ (_ :: _)); first
         | (show AT _ _ _ (wpList _ _ _ (⟨_, Op.assign _, _, _, _, _⟩ :: _)); refine st_y (y_assign rfl) rfl ?_)
         | (show AT _ _ _ (wpList _ _ _ (⟨_, Op.box _ _, _, _, _, _⟩ :: _)); refine m_box rfl rfl (fun b4 hb4 => ?_)))
      | (show AT _ _ _ (wpList _ _ _ []); refine c_nil (x_then ?_))
      | (show AT _ _ _ (Code.wp _ _ _); first | refine c_seq ?_ | refine c_region ?_))
    rename_i b3 hb3
    refine c_all (Hp [] w [.blk b4 #[iV b.p, iV b.q.1, v0, v1, v2, v3] 35, .blk b3 #[iV a.p, iV a.q.1, u0, u1, u2, u3] 35]) (by kernel_rfl) (fun _ c => Hp.drew c) ?_
    refine h_take 0 rfl (by kernel_rfl) (by kernel_rfl) (by kernel_rfl) (by exact y_loadb 1 tabs rfl rfl rfl rfl) rfl (fun _ c => c) ?_
    refine h_take 1 rfl (by kernel_rfl) (by kernel_rfl) (by kernel_rfl) (by exact y_loadb 0 tabs rfl rfl rfl rfl) rfl (fun _ c => c) ?_
    refine h_take 2 rfl (by kernel_rfl) (by kernel_rfl) (by kernel_rfl) (by exact y_move rfl) rfl (fun _ c => c) ?_
    refine h_only 3 rfl (by kernel_rfl) ?_
    first | (refine m_call (ent_of Try.func85 (by kernel_rfl) rfl) rfl rfl (fun w c => spec_IsMorphism_ok (a := a) (b := b) (ms := ms) (c.rd h0) (c.rd h1) (c.rd h2) (c.rd h3) (c.rd k0) (c.rd k1) (c.rd k2) (c.rd k3) (c.rd hm)) ?_; rintro v H' ⟨rfl, rfl⟩) | (refine m_call (ent_of Try.func164 (by kernel_rfl) rfl) rfl rfl (fun w c => by have h := spec_RankVector_ok (a := a) (b := b) (ms := ms) (c.rd h0) (c.rd h1) (c.rd h2) (c.rd h3) (c.rd k0) (c.rd k1) (c.rd k2) (c.rd k3) (c.rd hm); rw [rvL, if_pos hM] at h; exact h) ?_; rintro v H' ⟨ar, cr, rfl, hsr, rfl⟩) | (refine m_call (ent_of Try.func163 (by kernel_rfl) rfl) rfl rfl (fun w c => l6Same_ok w _ _ (rkN a.p ms ms.length) a.d (c.own_rd (i := 0) rfl) (c.rd h2)) ?_; rintro v H' ⟨rfl, rfl⟩)
    refine c_nil (x_one (h_keep (fun _ c => c) ?_))
    refine h_take 4 rfl (by kernel_rfl) (by kernel_rfl) (by kernel_rfl) (by exact y_move rfl) rfl (fun _ c => c) ?_
    refine h_takeg 5 rfl (by kernel_rfl) (by kernel_rfl) (by kernel_rfl) rfl rfl (by assumption) (by exact y_loadb 1 tabs rfl rfl rfl rfl) rfl (fun _ c => c) ?_
    refine h_takeg 6 rfl (by kernel_rfl) (by kernel_rfl) (by kernel_rfl) rfl rfl (by assumption) (by exact y_loadb 0 tabs rfl rfl rfl rfl) rfl (fun _ c => c) ?_
    refine h_takeg 7 rfl (by kernel_rfl) (by kernel_rfl) (by kernel_rfl) rfl rfl (by assumption) (by exact y_move rfl) rfl (fun _ c => c) ?_
    refine h_takeg 9 rfl (by kernel_rfl) (by kernel_rfl) (by kernel_rfl) rfl rfl (by assumption) (by exact y_field tabs rfl rfl rfl) rfl (fun _ c => c) ?_
    refine h_takeg 10 rfl (by kernel_rfl) (by kernel_rfl) (by kernel_rfl) rfl rfl (by assumption) (by first | exact y_load tabs rfl rfl (hc_blk 1 rfl rfl) | exact y_load tabs rfl rfl (hc_blk 1 rfl rfl)) rfl (fun _ c => c) ?_
    refine h_only 8 rfl (by kernel_rfl) (st_gdy rfl rfl (by assumption) ?_)
    first | (refine m_call (ent_of Try.func85 (by kernel_rfl) rfl) rfl rfl (fun w c => spec_IsMorphism_ok (a := a) (b := b) (ms := ms) (c.rd h0) (c.rd h1) (c.rd h2) (c.rd h3) (c.rd k0) (c.rd k1) (c.rd k2) (c.rd k3) (c.rd hm)) ?_; rintro v H' ⟨rfl, rfl⟩) | (refine m_call (ent_of Try.func164 (by kernel_rfl) rfl) rfl rfl (fun w c => by have h := spec_RankVector_ok (a := a) (b := b) (ms := ms) (c.rd h0) (c.rd h1) (c.rd h2) (c.rd h3) (c.rd k0) (c.rd k1) (c.rd k2) (c.rd k3) (c.rd hm); rw [rvL, if_pos hM] at h; exact h) ?_; rintro v H' ⟨ar, cr, rfl, hsr, rfl⟩) | (refine m_call (ent_of Try.func163 (by kernel_rfl) rfl) rfl rfl (fun w c => l6Same_ok w _ _ (rkN a.p ms ms.length) a.d (c.own_rd (i := 0) rfl) (c.rd h2)) ?_; rintro v H' ⟨rfl, rfl⟩)
    refine c_nil (x_one (h_keep (fun w c => by exact c.drop) ?_))
    refine h_only 11 rfl (by kernel_rfl) (st_gdy rfl rfl (by assumption) ?_)
    first | (refine m_call (ent_of Try.func85 (by kernel_rfl) rfl) rfl rfl (fun w c => spec_IsMorphism_ok (a := a) (b := b) (ms := ms) (c.rd h0) (c.rd h1) (c.rd h2) (c.rd h3) (c.rd k0) (c.rd k1) (c.rd k2) (c.rd k3) (c.rd hm)) ?_; rintro v H' ⟨rfl, rfl⟩) | (refine m_call (ent_of Try.func164 (by kernel_rfl) rfl) rfl rfl (fun w c => by have h := spec_RankVector_ok (a := a) (b := b) (ms := ms) (c.rd h0) (c.rd h1) (c.rd h2) (c.rd h3) (c.rd k0) (c.rd k1) (c.rd k2) (c.rd k3) (c.rd hm); rw [rvL, if_pos hM] at h; exact h) ?_; rintro v H' ⟨ar, cr, rfl, hsr, rfl⟩) | (refine m_call (ent_of Try.func163 (by kernel_rfl) rfl) rfl rfl (fun w c => l6Same_ok w _ _ (rkN a.p ms ms.length) a.d (c.own_rd (i := 0) rfl) (c.rd h2)) ?_; rintro v H' ⟨rfl, rfl⟩)
    refine c_nil (x_one (h_keep (fun w c => by exact c.drop) ?_))
    refine h_take 12 rfl (by kernel_rfl) (by kernel_rfl) (by kernel_rfl) (by exact y_pickt rfl (by assumption) rfl) rfl (fun w c => by exact c.drop) ?_
    refine h_take 13 rfl (by kernel_rfl) (by kernel_rfl) (by kernel_rfl) (by exact y_assign rfl) rfl (fun w c => by exact c.drop) ?_
    refine h_end (by kernel_rfl) ?_
    repeat' (first
      | (show AT _ _ _ (Code.wp _ _ _); refine c_ret ?_)
      | (show AT _ _ _ _; refine x_then ?_))
    refine x_ret1 Try.results112 (res_tmp rfl) (fun w' c' => ⟨_, _, rfl, ⟨congrArg Value.bool ?_, rfl⟩, c'.sub (List.nil_sublist _)⟩)
    exact decide_eq_decide.2 ⟨fun h => ⟨hM, h⟩, fun h => h.2⟩
  · have hno : ¬ (MorP a b ms ∧ rkN a.p ms ms.length = a.d) := fun h => hM h.1
    rw [decide_eq_false hno]
    refine fn_enter Try.func112 rfl Try.ntmps112 rfl ?_
    repeat' (first
      | (show AT _ _ _ (wpList _ _ _ (_ :: _)); first
         | (show AT _ _ _ (wpList _ _ _ (⟨_, Op.assign _, _, _, _, _⟩ :: _)); refine st_y (y_assign rfl) rfl ?_)
         | (show AT _ _ _ (wpList _ _ _ (⟨_, Op.box _ _, _, _, _, _⟩ :: _)); refine m_box rfl rfl (fun b4 hb4 => ?_)))
      | (show AT _ _ _ (wpList _ _ _ []); refine c_nil (x_then ?_))
      | (show AT _ _ _ (Code.wp _ _ _); first | refine c_seq ?_ | refine c_region ?_))
    rename_i b3 hb3
    refine c_all (Hp [] w [.blk b4 #[iV b.p, iV b.q.1, v0, v1, v2, v3] 35, .blk b3 #[iV a.p, iV a.q.1, u0, u1, u2, u3] 35]) (by kernel_rfl) (fun _ c => Hp.drew c) ?_
    refine h_take 0 rfl (by kernel_rfl) (by kernel_rfl) (by kernel_rfl) (by exact y_loadb 1 tabs rfl rfl rfl rfl) rfl (fun _ c => c) ?_
    refine h_take 1 rfl (by kernel_rfl) (by kernel_rfl) (by kernel_rfl) (by exact y_loadb 0 tabs rfl rfl rfl rfl) rfl (fun _ c => c) ?_
    refine h_take 2 rfl (by kernel_rfl) (by kernel_rfl) (by kernel_rfl) (by exact y_move rfl) rfl (fun _ c => c) ?_
    refine h_only 3 rfl (by kernel_rfl) ?_
    (refine m_call (ent_of Try.func85 (by kernel_rfl) rfl) rfl rfl (fun w c => spec_IsMorphism_ok (a := a) (b := b) (ms := ms) (c.rd h0) (c.rd h1) (c.rd h2) (c.rd h3) (c.rd k0) (c.rd k1) (c.rd k2) (c.rd k3) (c.rd hm)) ?_; rintro v H' ⟨rfl, rfl⟩)
    refine c_nil (x_one (h_keep (fun _ c => c) ?_))
    refine h_take 4 rfl (by kernel_rfl) (by kernel_rfl) (by kernel_rfl) (by exact y_move rfl) rfl (fun _ c => c) ?_
    refine h_takeu 5 rfl (by kernel_rfl) (by kernel_rfl) (by kernel_rfl) rfl rfl (by assumption) rfl (fun _ c => c) ?_
    refine h_takeu 6 rfl (by kernel_rfl) (by kernel_rfl) (by kernel_rfl) rfl rfl (by assumption) rfl (fun _ c => c) ?_
    refine h_takeu 7 rfl (by kernel_rfl) (by kernel_rfl) (by kernel_rfl) rfl rfl (by assumption) rfl (fun _ c => c) ?_
    refine h_takeu 8 rfl (by kernel_rfl) (by kernel_rfl) (by kernel_rfl) rfl rfl (by assumption) rfl (fun _ c => c) ?_
    refine h_takeu 9 rfl (by kernel_rfl) (by kernel_rfl) (by kernel_rfl) rfl rfl (by assumption) rfl (fun _ c => c) ?_
    refine h_takeu 10 rfl (by kernel_rfl) (by kernel_rfl) (by kernel_rfl) rfl rfl (by assumption) rfl (fun _ c => c) ?_
    refine h_takeu 11 rfl (by kernel_rfl) (by kernel_rfl) (by kernel_rfl) rfl rfl (by assumption) rfl (fun _ c => c) ?_
    refine h_take 12 rfl (by kernel_rfl) (by kernel_rfl) (by kernel_rfl) (by exact y_pickf rfl (by assumption) rfl) rfl (fun _ c => c) ?_
    refine h_take 13 rfl (by kernel_rfl) (by kernel_rfl) (by kernel_rfl) (by exact y_assign rfl) rfl (fun _ c => c) ?_
    refine h_end (by kernel_rfl) ?_
    repeat' (first
      | (show AT _ _ _ (Code.wp _ _ _); refine c_ret ?_)
      | (show AT _ _ _ _; refine x_then ?_))
    exact x_ret1 Try.results112 (res_tmp rfl) (fun w' c' => ⟨_, _, rfl, ⟨rfl, rfl⟩, c'.sub (List.nil_sublist _)⟩)

theorem spec_IsSurjective_ok {w : World} {a b : Rp} {ms : List Mat} {e e' e2 : Nat} {u0 u1 u2 u3 v0 v1 v2 v3 um : Value} (h0 : Rd w (iT a.q.2.1) u0) (h1 : Rd w (iT a.q.2.2) u1) (h2 : Rd w (iT a.d) u2) (h3 : Rd w (matsT e a.m) u3) (k0 : Rd w (iT b.q.2.1) v0) (k1 : Rd w (iT b.q.2.2) v1) (k2 : Rd w (iT b.d) v2) (k3 : Rd w (matsT e' b.m) v3) (hm : Rd w (matsT e2 ms) um) :
    Does Try.prog 113 [.agg #[iV a.p, iV a.q.1, u0, u1, u2, u3], .agg #[iV b.p, iV b.q.1, v0, v1, v2, v3], um] w (fun r H => r = .bool (decide (MorP a b ms ∧ rkN a.p ms ms.length = b.d)) ∧ H = []) := by
  by_cases hM : MorP a b ms
  · refine fn_enter Try.func113 rfl Try.ntmps113 rfl ?_
    repeat' (first
      | (show AT _ _ _ (wpList _ _ _ (_ :: _)); first
         | (show AT _ _ _ (wpList _ _ _ (⟨_, Op.assign _, _, _, _, _⟩ :: _)); refine st_y (y_assign rfl) rfl ?_)
         | (show AT _ _ _ (wpList _ _ _ (⟨_, Op.box _ _, _, _, _, _⟩ :: _)); refine m_box rfl rfl (fun b4 hb4 => ?_)))
      | (show AT _ _ _ (wpList _ _ _ []); refine c_nil (x_then ?_))
      | (show AT _ _ _ (Code.wp _ _ _); first | refine c_seq ?_ | refine c_region ?_))
    rename_i b3 hb3
    refine c_all (Hp [] w [.blk b4 #[iV b.p, iV b.q.1, v0, v1, v2, v3] 35, .blk b3 #[iV a.p, iV a.q.1, u0, u1, u2, u3] 35]) (by kernel_rfl) (fun _ c => Hp.drew c) ?_
    refine h_take 0 rfl (by kernel_rfl) (by kernel_rfl) (by kernel_rfl) (by exact y_loadb 1 tabs rfl rfl rfl rfl) rfl (fun _ c => c) ?_
    refine h_take 1 rfl (by kernel_rfl) (by kernel_rfl) (by kernel_rfl) (by exact y_loadb 0 tabs rfl rfl rfl rfl) rfl (fun _ c => c) ?_
    refine h_take 2 rfl (by kernel_rfl) (by kernel_rfl) (by kernel_rfl) (by exact y_move rfl) rfl (fun _ c => c) ?_
    refine h_only 3 rfl (by kernel_rfl) ?_
    first | (refine m_call (ent_of Try.func85 (by kernel_rfl) rfl) rfl rfl (fun w c => spec_IsMorphism_ok (a := a) (b := b) (ms := ms) (c.rd h0) (c.rd h1) (c.rd h2) (c.rd h3) (c.rd k0) (c.rd k1) (c.rd k2) (c.rd k3) (c.rd hm)) ?_; rintro v H' ⟨rfl, rfl⟩) | (refine m_call (ent_of Try.func164 (by kernel_rfl) rfl) rfl rfl (fun w c => by have h := spec_RankVector_ok (a := a) (b := b) (ms := ms) (c.rd h0) (c.rd h1) (c.rd h2) (c.rd h3) (c.rd k0) (c.rd k1) (c.rd k2) (c.rd k3) (c.rd hm); rw [rvL, if_pos hM] at h; exact h) ?_; rintro v H' ⟨ar, cr, rfl, hsr, rfl⟩) | (refine m_call (ent_of Try.func163 (by kernel_rfl) rfl) rfl rfl (fun w c => l6Same_ok w _ _ (rkN a.p ms ms.length) b.d (c.own_rd (i := 0) rfl) (c.rd k2)) ?_; rintro v H' ⟨rfl, rfl⟩)
    refine c_nil (x_one (h_keep (fun _ c => c) ?_))
    refine h_take 4 rfl (by kernel_rfl) (by kernel_rfl) (by kernel_rfl) (by exact y_move rfl) rfl (fun _ c => c) ?_
    refine h_takeg 5 rfl (by kernel_rfl) (by kernel_rfl) (by kernel_rfl) rfl rfl (by assumption) (by exact y_loadb 1 tabs rfl rfl rfl rfl) rfl (fun _ c => c) ?_
    refine h_takeg 6 rfl (by kernel_rfl) (by kernel_rfl) (by kernel_rfl) rfl rfl (by assumption) (by exact y_loadb 0 tabs rfl rfl rfl rfl) rfl (fun _ c => c) ?_
    refine h_takeg 7 rfl (by kernel_rfl) (by kernel_rfl) (by kernel_rfl) rfl rfl (by assumption) (by exact y_move rfl) rfl (fun _ c => c) ?_
    refine h_takeg 9 rfl (by kernel_rfl) (by kernel_rfl) (by kernel_rfl) rfl rfl (by assumption) (by exact y_field tabs rfl rfl rfl) rfl (fun _ c => c) ?_
    refine h_takeg 10 rfl (by kernel_rfl) (by kernel_rfl) (by kernel_rfl) rfl rfl (by assumption) (by first | exact y_load tabs rfl rfl (hc_blk 0 rfl rfl) | exact y_load tabs rfl rfl (hc_blk 0 rfl rfl)) rfl (fun _ c => c) ?_
    refine h_only 8 rfl (by kernel_rfl) (st_gdy rfl rfl (by assumption) ?_)
    first | (refine m_call (ent_of Try.func85 (by kernel_rfl) rfl) rfl rfl (fun w c => spec_IsMorphism_ok (a := a) (b := b) (ms := ms) (c.rd h0) (c.rd h1) (c.rd h2) (c.rd h3) (c.rd k0) (c.rd k1) (c.rd k2) (c.rd k3) (c.rd hm)) ?_; rintro v H' ⟨rfl, rfl⟩) | (refine m_call (ent_of Try.func164 (by kernel_rfl) rfl) rfl rfl (fun w c => by have h := spec_RankVector_ok (a := a) (b := b) (ms := ms) (c.rd h0) (c.rd h1) (c.rd h2) (c.rd h3) (c.rd k0) (c.rd k1) (c.rd k2) (c.rd k3) (c.rd hm); rw [rvL, if_pos hM] at h; exact h) ?_; rintro v H' ⟨ar, cr, rfl, hsr, rfl⟩) | (refine m_call (ent_of Try.func163 (by kernel_rfl) rfl) rfl rfl (fun w c => l6Same_ok w _ _ (rkN a.p ms ms.length) b.d (c.own_rd (i := 0) rfl) (c.rd k2)) ?_; rintro v H' ⟨rfl, rfl⟩)
    refine c_nil (x_one (h_keep (fun w c => by exact c.drop) ?_))
    refine h_only 11 rfl (by kernel_rfl) (st_gdy rfl rfl (by assumption) ?_)
    first | (refine m_call (ent_of Try.func85 (by kernel_rfl) rfl) rfl rfl (fun w c => spec_IsMorphism_ok (a := a) (b := b) (ms := ms) (c.rd h0) (c.rd h1) (c.rd h2) (c.rd h3) (c.rd k0) (c.rd k1) (c.rd k2) (c.rd k3) (c.rd hm)) ?_; rintro v H' ⟨rfl, rfl⟩) | (refine m_call (ent_of Try.func164 (by kernel_rfl) rfl) rfl rfl (fun w c => by have h := spec_RankVector_ok (a := a) (b := b) (ms := ms) (c.rd h0) (c.rd h1) (c.rd h2) (c.rd h3) (c.rd k0) (c.rd k1) (c.rd k2) (c.rd k3) (c.rd hm); rw [rvL, if_pos hM] at h; exact h) ?_; rintro v H' ⟨ar, cr, rfl, hsr, rfl⟩) | (refine m_call (ent_of Try.func163 (by kernel_rfl) rfl) rfl rfl (fun w c => l6Same_ok w _ _ (rkN a.p ms ms.length) b.d (c.own_rd (i := 0) rfl) (c.rd k2)) ?_; rintro v H' ⟨rfl, rfl⟩)
    refine c_nil (x_one (h_keep (fun w c => by exact c.drop) ?_))
    refine h_take 12 rfl (by kernel_rfl) (by kernel_rfl) (by kernel_rfl) (by exact y_pickt rfl (by assumption) rfl) rfl (fun w c => by exact c.drop) ?_
    refine h_take 13 rfl (by kernel_rfl) (by kernel_rfl) (by kernel_rfl) (by exact y_assign rfl) rfl (fun w c => by exact c.drop) ?_
    refine h_end (by kernel_rfl) ?_
    repeat' (first
      | (show AT _ _ _ (Code.wp _ _ _); refine c_ret ?_)
      | (show AT _ _ _ _; refine x_then ?_))
    refine x_ret1 Try.results113 (res_tmp rfl) (fun w' c' => ⟨_, _, rfl, ⟨congrArg Value.bool ?_, rfl⟩, c'.sub (List.nil_sublist _)⟩)
    exact decide_eq_decide.2 ⟨fun h => ⟨hM, h⟩, fun h => h.2⟩
  · have hno : ¬ (MorP a b ms ∧ rkN a.p ms ms.length = b.d) := fun h => hM h.1
    rw [decide_eq_false hno]
    refine fn_enter Try.func113 rfl Try.ntmps113 rfl ?_
    repeat' (first
      | (show AT _ _ _ (wpList _ _ _ (_ :: _)); first
         | (show AT _ _ _ (wpList _ _ _ (⟨_, Op.assign _, _, _, _, _⟩ :: _)); refine st_y (y_assign rfl) rfl ?_)
         | (show AT _ _ _ (wpList _ _ _ (⟨_, Op.box _ _, _, _, _, _⟩ :: _)); refine m_box rfl rfl (fun b4 hb4 => ?_)))
      | (show AT _ _ _ (wpList _ _ _ []); refine c_nil (x_then ?_))
      | (show AT _ _ _ (Code.wp _ _ _); first | refine c_seq ?_ | refine c_region ?_))
    rename_i b3 hb3
    refine c_all (Hp [] w [.blk b4 #[iV b.p, iV b.q.1, v0, v1, v2, v3] 35, .blk b3 #[iV a.p, iV a.q.1, u0, u1, u2, u3] 35]) (by kernel_rfl) (fun _ c => Hp.drew c) ?_
    refine h_take 0 rfl (by kernel_rfl) (by kernel_rfl) (by kernel_rfl) (by exact y_loadb 1 tabs rfl rfl rfl rfl) rfl (fun _ c => c) ?_
    refine h_take 1 rfl (by kernel_rfl) (by kernel_rfl) (by kernel_rfl) (by exact y_loadb 0 tabs rfl rfl rfl rfl) rfl (fun _ c => c) ?_
    refine h_take 2 rfl (by kernel_rfl) (by kernel_rfl) (by kernel_rfl) (by exact y_move rfl) rfl (fun _ c => c) ?_
    refine h_only 3 rfl (by kernel_rfl) ?_
    (refine m_call (ent_of Try.func85 (by kernel_rfl) rfl) rfl rfl (fun w c => spec_IsMorphism_ok (a := a) (b := b) (ms := ms) (c.rd h0) (c.rd h1) (c.rd h2) (c.rd h3) (c.rd k0) (c.rd k1) (c.rd k2) (c.rd k3) (c.rd hm)) ?_; rintro v H' ⟨rfl, rfl⟩)
    refine c_nil (x_one (h_keep (fun _ c => c) ?_))
    refine h_take 4 rfl (by kernel_rfl) (by kernel_rfl) (by kernel_rfl) (by exact y_move rfl) rfl (fun _ c => c) ?_
    refine h_takeu 5 rfl (by kernel_rfl) (by kernel_rfl) (by kernel_rfl) rfl rfl (by assumption) rfl (fun _ c => c) ?_
    refine h_takeu 6 rfl (by kernel_rfl) (by kernel_rfl) (by kernel_rfl) rfl rfl (by assumption) rfl (fun _ c => c) ?_
    refine h_takeu 7 rfl (by kernel_rfl) (by kernel_rfl) (by kernel_rfl) rfl rfl (by assumption) rfl (fun _ c => c) ?_
    refine h_takeu 8 rfl (by kernel_rfl) (by kernel_rfl) (by kernel_rfl) rfl rfl (by assumption) rfl (fun _ c => c) ?_
    refine h_takeu 9 rfl (by kernel_rfl) (by kernel_rfl) (by kernel_rfl) rfl rfl (by assumption) rfl (fun _ c => c) ?_
    refine h_takeu 10 rfl (by kernel_rfl) (by kernel_rfl) (by kernel_rfl) rfl rfl (by assumption) rfl (fun _ c => c) ?_
    refine h_takeu 11 rfl (by kernel_rfl) (by kernel_rfl) (by kernel_rfl) rfl rfl (by assumption) rfl (fun _ c => c) ?_
    refine h_take 12 rfl (by kernel_rfl) (by kernel_rfl) (by kernel_rfl) (by exact y_pickf rfl (by assumption) rfl) rfl (fun _ c => c) ?_
    refine h_take 13 rfl (by kernel_rfl) (by kernel_rfl) (by kernel_rfl) (by exact y_assign rfl) rfl (fun _ c => c) ?_
    refine h_end (by kernel_rfl) ?_
    repeat' (first
      | (show AT _ _ _ (Code.wp _ _ _); refine c_ret ?_)
      | (show AT _ _ _ _; refine x_then ?_))
    exact x_ret1 Try.results113 (res_tmp rfl) (fun w' c' => ⟨_, _, rfl, ⟨rfl, rfl⟩, c'.sub (List.nil_sublist _)⟩)

def IsoP (a b : Rp) (ms : List Mat) : Prop := (MorP a b ms ∧ rkN a.p ms ms.length = a.d) ∧ MorP a b ms ∧ rkN a.p ms ms.length = b.d
instance (a b : Rp) (ms : List Mat) : Decidable (IsoP a b ms) := by unfold IsoP; infer_instance
theorem impl_IsIsomorphism_ok {w : World} {a b : Rp} {ms : List Mat} {e e' e2 : Nat} {u0 u1 u2 u3 v0 v1 v2 v3 um : Value} (h0 : Rd w (iT a.q.2.1) u0) (h1 : Rd w (iT a.q.2.2) u1) (h2 : Rd w (iT a.d) u2) (h3 : Rd w (matsT e a.m) u3) (k0 : Rd w (iT b.q.2.1) v0) (k1 : Rd w (iT b.q.2.2) v1) (k2 : Rd w (iT b.d) v2) (k3 : Rd w (matsT e' b.m) v3) (hm : Rd w (matsT e2 ms) um) :
    Does Try.prog 66 [.agg #[iV a.p, iV a.q.1, u0, u1, u2, u3], .agg #[iV b.p, iV b.q.1, v0, v1, v2, v3], um] w (fun r H => r = .bool (decide (IsoP a b ms)) ∧ H = []) := by
  refine fn_enter Try.func66 rfl Try.ntmps66 rfl ?_
  repeat' (first
    | (show AT _ _ _ (wpList _ _ _ (_ :: _)); first
       | (show AT _ _ _ (wpList _ _ _ (⟨_, Op.move _, _, _, _, _⟩ :: _)); refine st_y (y_move rfl) rfl ?_)
       | (show AT _ _ _ (wpList _ _ _ (⟨_, Op.assign _, _, _, _, _⟩ :: _)); refine st_y (y_assign rfl) rfl ?_)
       | (show AT _ _ _ (wpList _ _ _ (⟨_, Op.load _ _, _, _, _, _⟩ :: _)); first | refine st_y (y_loadb 0 tabs rfl rfl rfl rfl) rfl ?_ | refine st_y (y_loadb 1 tabs rfl rfl rfl rfl) rfl ?_)
       | (show AT _ _ _ (wpList _ _ _ (⟨_, Op.call _, _, _, _, _⟩ :: _)); first | (refine m_call (ent_of Try.func115 (by kernel_rfl) rfl) rfl rfl (fun w c => impl_IsInjective_ok (a := a) (b := b) (ms := ms) (c.rd h0) (c.rd h1) (c.rd h2) (c.rd h3) (c.rd k0) (c.rd k1) (c.rd k2) (c.rd k3) (c.rd hm)) ?_; rintro v H' ⟨rfl, rfl⟩) | (refine m_call (ent_of Try.func116 (by kernel_rfl) rfl) rfl rfl (fun w c => impl_IsSurjective_ok (a := a) (b := b) (ms := ms) (c.rd h0) (c.rd h1) (c.rd h2) (c.rd h3) (c.rd k0) (c.rd k1) (c.rd k2) (c.rd k3) (c.rd hm)) ?_; rintro v H' ⟨rfl, rfl⟩))
       | (show AT _ _ _ (wpList _ _ _ (⟨_, Op.pick _ _ _, _, _, _, _⟩ :: _)); first | refine st_y (y_pickt rfl (by assumption) rfl) rfl ?_ | refine st_y (y_pickf rfl (by assumption) rfl) rfl ?_)
       | (show AT _ _ _ (wpList _ _ _ (⟨_, Op.box _ _, _, _, _, _⟩ :: _)); refine m_box rfl rfl (fun b4 hb4 => ?_))
       | refine st_gdy rfl rfl (by assumption) ?_ | refine st_gdn rfl rfl (by assumption) rfl ?_ | refine st_gd rfl rfl (fun h => ?_) (fun h => ?_))
    | (show AT _ _ _ (wpList _ _ _ []); refine c_nil (x_then ?_))
    | (show AT _ _ _ (Code.wp _ _ _); first | refine c_seq ?_ | refine c_region ?_ | refine c_ret ?_))
  all_goals refine x_ret1 Try.results66 (res_tmp rfl) (fun w' c' => ⟨_, _, rfl, ⟨congrArg Value.bool ?_, rfl⟩, c'.sub (List.nil_sublist _)⟩)
  all_goals first | exact decide_eq_decide.2 ⟨fun h => ⟨by assumption, h⟩, fun h => h.2⟩ | exact (decide_eq_false (fun h => absurd h.1 (by assumption))).symm

theorem spec_IsIsomorphism_ok {w : World} {a b : Rp} {ms : List Mat} {e e' e2 : Nat} {u0 u1 u2 u3 v0 v1 v2 v3 um : Value} (h0 : Rd w (iT a.q.2.1) u0) (h1 : Rd w (iT a.q.2.2) u1) (h2 : Rd w (iT a.d) u2) (h3 : Rd w (matsT e a.m) u3) (k0 : Rd w (iT b.q.2.1) v0) (k1 : Rd w (iT b.q.2.2) v1) (k2 : Rd w (iT b.d) v2) (k3 : Rd w (matsT e' b.m) v3) (hm : Rd w (matsT e2 ms) um) :
    Does Try.prog 62 [.agg #[iV a.p, iV a.q.1, u0, u1, u2, u3], .agg #[iV b.p, iV b.q.1, v0, v1, v2, v3], um] w (fun r H => r = .bool (decide (IsoP a b ms)) ∧ H = []) := by
  refine fn_enter Try.func62 rfl Try.ntmps62 rfl ?_
  repeat' (first
    | (show AT _ _ _ (wpList _ _ _ (_ :: _)); first
       | (show AT _ _ _ (wpList _ _ _ (⟨_, Op.move _, _, _, _, _⟩ :: _)); refine st_y (y_move rfl) rfl ?_)
       | (show AT _ _ _ (wpList _ _ _ (⟨_, Op.assign _, _, _, _, _⟩ :: _)); refine st_y (y_assign rfl) rfl ?_)
       | (show AT _ _ _ (wpList _ _ _ (⟨_, Op.load _ _, _, _, _, _⟩ :: _)); first | refine st_y (y_loadb 0 tabs rfl rfl rfl rfl) rfl ?_ | refine st_y (y_loadb 1 tabs rfl rfl rfl rfl) rfl ?_)
       | (show AT _ _ _ (wpList _ _ _ (⟨_, Op.call _, _, _, _, _⟩ :: _)); first | (refine m_call (ent_of Try.func112 (by kernel_rfl) rfl) rfl rfl (fun w c => spec_IsInjective_ok (a := a) (b := b) (ms := ms) (c.rd h0) (c.rd h1) (c.rd h2) (c.rd h3) (c.rd k0) (c.rd k1) (c.rd k2) (c.rd k3) (c.rd hm)) ?_; rintro v H' ⟨rfl, rfl⟩) | (refine m_call (ent_of Try.func113 (by kernel_rfl) rfl) rfl rfl (fun w c => spec_IsSurjective_ok (a := a) (b := b) (ms := ms) (c.rd h0) (c.rd h1) (c.rd h2) (c.rd h3) (c.rd k0) (c.rd k1) (c.rd k2) (c.rd k3) (c.rd hm)) ?_; rintro v H' ⟨rfl, rfl⟩))
       | (show AT _ _ _ (wpList _ _ _ (⟨_, Op.pick _ _ _, _, _, _, _⟩ :: _)); first | refine st_y (y_pickt rfl (by assumption) rfl) rfl ?_ | refine st_y (y_pickf rfl (by assumption) rfl) rfl ?_)
       | (show AT _ _ _ (wpList _ _ _ (⟨_, Op.box _ _, _, _, _, _⟩ :: _)); refine m_box rfl rfl (fun b4 hb4 => ?_))
       | refine st_gdy rfl rfl (by assumption) ?_ | refine st_gdn rfl rfl (by assumption) rfl ?_ | refine st_gd rfl rfl (fun h => ?_) (fun h => ?_))
    | (show AT _ _ _ (wpList _ _ _ []); refine c_nil (x_then ?_))
    | (show AT _ _ _ (Code.wp _ _ _); first | refine c_seq ?_ | refine c_region ?_ | refine c_ret ?_))
  all_goals refine x_ret1 Try.results62 (res_tmp rfl) (fun w' c' => ⟨_, _, rfl, ⟨congrArg Value.bool ?_, rfl⟩, c'.sub (List.nil_sublist _)⟩)
  all_goals first | exact decide_eq_decide.2 ⟨fun h => ⟨by assumption, h⟩, fun h => h.2⟩ | exact (decide_eq_false (fun h => absurd h.1 (by assumption))).symm

end Go.Proofs.Ytfhgpkdhhclpbaa
