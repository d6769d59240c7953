import Derived.Test.YtijjkfbkihgfgaaGreatCmpqsu
import Derived.Test.YtijjkfbkihgfgaaGreatLEqsu
import Derived.Test.YtijjkfbkihgfgaaGreatRksqsu
namespace Go.Proofs.YtijjkfbkihgfgaaGreat
open Go.Lg Go.Proofs Go.RowKit
attribute [local irreducible] Code.wp wpList bodyPost Exit.then Exit.inBlock Hp Again Calls Y AT ResV QT Qn QI wpAny wpAnyQ
set_option maxRecDepth 20000
set_option maxHeartbeats 4000000

theorem AreP.mat {a b : Rp} {ms : List Mat} (h : AreP a b ms) {i : Nat} (hi : i < ms.length) : ∃ m, ms[i]? = some m ∧ ms.getD i mat0 = m ∧ MatP a.p m := by
  obtain ⟨m, hm⟩ : ∃ m, ms[i]? = some m := ⟨_, List.getElem?_eq_getElem hi⟩
  have hmd : ms.getD i mat0 = m := by simp [List.getD, hm]
  have := (h.2.2 i hi).1
  rw [hmd] at this
  exact ⟨m, hm, hmd, this⟩
theorem AreP.ml5 {a b : Rp} {ms : List Mat} (h : AreP a b ms) : ms.length ≤ 5 := by
  have h1 := (RepP.dd h.1.1).2
  have h2 := h.2.1
  omega
theorem ranks_ok {w : World} {p : Int} {ms : List Mat} {e : Nat} {v : Value} (hr : Rd w (matsT e ms) v) (hM : ∀ i, i < ms.length → MatP p (ms.getD i mat0)) (hb : ms.length ≤ 1000) :
    Does Tryz.prog 161 [iV p, v] w (GivesIL (rkN p ms ms.length)) := by
  obtain ⟨a3, c3, rfl, hs3, hc3, hd3, hg3⟩ := rd_mats hr
  refine fn_enter Tryz.func161 rfl Tryz.ntmps161 rfl ?_
  repeat' (first | (show oL; first | refine sMv rfl rfl ?_ | refine sAs rfl rfl ?_ | refine sLn tabs rfl rfl rfl ?_) | refine xNt ?_ | (show oC; first | refine c_seq ?_ | refine c_region ?_ | refine c_block ?_))
  refine c_loopH (α := Nat × Option Addr × Nat) [0, 8, 9] (fun s => [(5, .slice s.2.1 (rkN p ms s.1).length s.2.2), (10, .int .i64 s.1)]) (fun s => s.1 ≤ ms.length) (fun s => [.own (iT (rkN p ms s.1)) (.slice s.2.1 (rkN p ms s.1).length s.2.2)]) (fun s => ms.length - s.1) (0, none, 0) rfl sB ?_ ?_ ?_
  · exact Nat.zero_le _
  · exact fun w' c' => Hp.nilp _ _ c'
  · rintro ⟨i, al, cl⟩ hi
    simp only at hi ⊢
    have hln := rkN_len p ms i
    by_cases hin : i < ms.length
    · obtain ⟨m, hm⟩ : ∃ m, ms[i]? = some m := ⟨_, List.getElem?_eq_getElem hin⟩
      obtain ⟨a4, c4, g1, g2, g3, g4⟩ := hg3 i m hm
      have hmd : ms.getD i mat0 = m := by simp [List.getD, hm]
      have hM1 : MatP p m := by have := hM i hin; rwa [hmd] at this
      repeat' (first | (show oL; first | refine sMv rfl rfl ?_ | refine sAs rfl rfl ?_ | (show oA (.load _ _); first | refine st_y (y_load3 tabs rfl rfl (hc_w0 g1) (hc_w0 g2) (hc_w0 g3)) rfl ?_ | refine sLb 0 tabs rfl rfl rfl rfl rfl ?_) | (show oA (.indexAddr _ _ _); refine st_y (y_ixa tabs rfl rfl rfl mK om om) rfl ?_) | (show oA (.binOp _ _ _ _ _); first | refine sAd rfl rfl om rfl ?_ | refine sLs rfl rfl rfl ?_) | (show oA (.call _); first | (refine m_call (ent_of Tryz.func252 kr rfl) rfl rfl (fun w c => rank_ok (m := m) (c.rd g4) hM1.g) ?_; rintro v H' ⟨rfl, rfl⟩) | refine m_pushn 1 tabs (k := ((redL p m).length : Int)) (m := (rkN p ms i).length) rfl rfl rfl rfl rfl rfl om (fun a6 c6 => ?_)) | (show oA (.store _ _ _); refine m_storeb 0 tabs rfl rfl rfl rfl rfl rfl rfl ?_) | (show oA (.alloc _); refine m_alloc tabs rfl rfl (fun b5 hb5 => ?_)) | (show oA (.buildSlice _ _ _); refine m_build1 tabs (us := [iV (redL p m).length]) rfl rfl rfl rfl (by decide) rfl (fun g5 hg5 => ?_))) | (show oN; first | refine c_nil (x_then ?_) | refine c_nil ?_) | (show oC; first | refine c_seq ?_ | refine c_region ?_ | refine c_skip (x_then ?_) | refine c_block ?_ | refine c_ift rfl aO ?_) | (show AT _ _ _ _; first | refine x_then ?_ | refine x_blk ?_))
      refine x_nx (i + 1, a6, c6) (by rw [rkN, hmd, List.length_append, List.length_singleton]; exact sB) (by simp only; omega) (fun w' c' => ?_) (by simp only; omega)
      simp only [rkN, hmd, List.length_append, List.length_singleton]
      exact c'.sub (.cons_cons _ (List.nil_sublist _))
    · have : i = ms.length := by omega
      subst this
      refine AT.fact (own_sl 0 rfl) (fun hsl => ?_)
      obtain ⟨a4, c4, e4, hs4⟩ := hsl
      cases e4
      repeat' (first | (show oL; first | refine sMv rfl rfl ?_ | refine sAs rfl rfl ?_ | refine sLs rfl rfl rfl ?_) | refine xNt ?_ | (show oC; first | refine c_seq ?_ | refine c_region ?_ | refine c_ret ?_ | refine c_exit ?_ | refine c_iff rfl nN ?_) | (show AT _ _ _ _; first | refine x_then ?_ | refine x_then_exit ?_ | refine x_blk_exit rfl ?_))
      exact x_ret1 Tryz.results161 (res_tmp rfl) (fun w' c' => ⟨_, _, rfl, ⟨_, _, rfl, hs4, rfl⟩, c'.sub (.cons_cons _ (List.nil_sublist _))⟩)
theorem AreP.all {a b : Rp} {ms : List Mat} (h : AreP a b ms) : ∀ i, i < ms.length → MatP a.p (ms.getD i mat0) := fun i hi => (h.2.2 i hi).1
theorem impl_IsInjective_ok {w : World} {a b : Rp} {ms : List Mat} {e e' e2 : Nat} {u0 u1 u2 u3 v0 v1 v2 v3 um : Value} (h0 : Rd w (iT a.q.2.1) u0) (h1 : Rd w (iT a.q.2.2) u1) (h2 : Rd w (iT a.d) u2) (h3 : Rd w (matsT e a.m) u3) (k0 : Rd w (iT b.q.2.1) v0) (k1 : Rd w (iT b.q.2.2) v1) (k2 : Rd w (iT b.d) v2) (k3 : Rd w (matsT e' b.m) v3) (hm : Rd w (matsT e2 ms) um) :
    Does Tryz.prog 47 [.agg #[iV a.p, iV a.q.1, u0, u1, u2, u3], .agg #[iV b.p, iV b.q.1, v0, v1, v2, v3], um] w (fun r H => r = .bool (decide (MorP a b ms ∧ rkN a.p ms ms.length = a.d)) ∧ H = []) := by
  by_cases hM : MorP a b ms
  · refine fn_enter Tryz.func47 rfl Tryz.ntmps47 rfl ?_
    repeat' (first | (show oL; first | refine sAs rfl rfl ?_ | (show oA (.box _ _); refine m_box rfl rfl (fun b4 hb4 => ?_))) | refine xNt ?_ | (show oC; first | refine c_seq ?_ | refine c_region ?_))
    rename_i b3 hb3
    refine c_all (Hp [] w [.blk b4 #[iV b.p, iV b.q.1, v0, v1, v2, v3] 60, .blk b3 #[iV a.p, iV a.q.1, u0, u1, u2, u3] 60]) kr (fun _ c => Hp.drew c) ?_
    refine h_take 0 rfl kr kr kr (by exact y_loadb 1 tabs rfl rfl rfl rfl) rfl (fun _ c => c) ?_
    refine h_take 1 rfl kr kr kr (by exact y_loadb 0 tabs rfl rfl rfl rfl) rfl (fun _ c => c) ?_
    refine h_take 2 rfl kr kr kr (by exact y_move rfl) rfl (fun _ c => c) ?_
    refine h_only 3 rfl kr ?_
    first | (refine m_call (ent_of Tryz.func41 kr rfl) rfl rfl (fun w c => impl_IsMorphism_ok (a := a) (b := b) (ms := ms) (c.rd h0) (c.rd h1) (c.rd h2) (c.rd h3) (c.rd k0) (c.rd k1) (c.rd k2) (c.rd k3) (c.rd hm)) ?_; rintro v H' ⟨rfl, rfl⟩) | (refine m_call (ent_of Tryz.func161 kr rfl) rfl rfl (fun w c => ranks_ok (c.rd hm) hM.1.all (by have := hM.1.ml5; omega)) ?_; rintro v H' ⟨ar, cr, rfl, hsr, rfl⟩) | (refine m_call (ent_of Tryz.func142 kr rfl) rfl rfl (fun w c => Equal_ok w _ _ (rkN a.p ms ms.length) a.d (c.own_rd (i := 0) rfl) (c.rd h2)) ?_; rintro v H' ⟨rfl, rfl⟩)
    refine c_nil (x_one (h_keep (fun _ c => c) ?_))
    refine h_take 4 rfl kr kr kr (by exact y_move rfl) rfl (fun _ c => c) ?_
    refine h_takeg 5 rfl kr kr kr rfl rfl aS (by exact y_field tabs rfl rfl rfl) rfl (fun _ c => c) ?_
    refine h_takeg 6 rfl kr kr kr rfl rfl aS (by first | exact y_load tabs rfl rfl (hc_blk 1 rfl rfl) | exact y_load tabs rfl rfl (hc_blk 1 rfl rfl)) rfl (fun _ c => c) ?_
    refine h_takeg 7 rfl kr kr kr rfl rfl aS (by exact y_move rfl) rfl (fun _ c => c) ?_
    refine h_takeg 9 rfl kr kr kr rfl rfl aS (by exact y_field tabs rfl rfl rfl) rfl (fun _ c => c) ?_
    refine h_takeg 10 rfl kr kr kr rfl rfl aS (by first | exact y_load tabs rfl rfl (hc_blk 1 rfl rfl) | exact y_load tabs rfl rfl (hc_blk 1 rfl rfl)) rfl (fun _ c => c) ?_
    refine h_only 8 rfl kr (st_gdy rfl rfl aS ?_)
    first | (refine m_call (ent_of Tryz.func41 kr rfl) rfl rfl (fun w c => impl_IsMorphism_ok (a := a) (b := b) (ms := ms) (c.rd h0) (c.rd h1) (c.rd h2) (c.rd h3) (c.rd k0) (c.rd k1) (c.rd k2) (c.rd k3) (c.rd hm)) ?_; rintro v H' ⟨rfl, rfl⟩) | (refine m_call (ent_of Tryz.func161 kr rfl) rfl rfl (fun w c => ranks_ok (c.rd hm) hM.1.all (by have := hM.1.ml5; omega)) ?_; rintro v H' ⟨ar, cr, rfl, hsr, rfl⟩) | (refine m_call (ent_of Tryz.func142 kr rfl) rfl rfl (fun w c => Equal_ok w _ _ (rkN a.p ms ms.length) a.d (c.own_rd (i := 0) rfl) (c.rd h2)) ?_; rintro v H' ⟨rfl, rfl⟩)
    refine c_nil (x_one (h_keep (fun w c => by exact c.drop) ?_))
    refine h_only 11 rfl kr (st_gdy rfl rfl aS ?_)
    first | (refine m_call (ent_of Tryz.func41 kr rfl) rfl rfl (fun w c => impl_IsMorphism_ok (a := a) (b := b) (ms := ms) (c.rd h0) (c.rd h1) (c.rd h2) (c.rd h3) (c.rd k0) (c.rd k1) (c.rd k2) (c.rd k3) (c.rd hm)) ?_; rintro v H' ⟨rfl, rfl⟩) | (refine m_call (ent_of Tryz.func161 kr rfl) rfl rfl (fun w c => ranks_ok (c.rd hm) hM.1.all (by have := hM.1.ml5; omega)) ?_; rintro v H' ⟨ar, cr, rfl, hsr, rfl⟩) | (refine m_call (ent_of Tryz.func142 kr rfl) rfl rfl (fun w c => Equal_ok w _ _ (rkN a.p ms ms.length) a.d (c.own_rd (i := 0) rfl) (c.rd h2)) ?_; rintro v H' ⟨rfl, rfl⟩)
    refine c_nil (x_one (h_keep (fun w c => by exact c.drop) ?_))
    refine h_take 12 rfl kr kr kr (by exact y_pickt rfl aS rfl) rfl (fun w c => by exact c.drop) ?_
    refine h_take 13 rfl kr kr kr (by exact y_assign rfl) rfl (fun w c => by exact c.drop) ?_
    refine h_end kr ?_
    repeat' (first | (show oC; refine c_ret ?_) | (show AT _ _ _ _; refine x_then ?_))
    refine x_ret1 Tryz.results47 (res_tmp rfl) (fun w' c' => ⟨_, _, rfl, ⟨congrArg Value.bool ?_, rfl⟩, c'.sub (List.nil_sublist _)⟩)
    exact decide_eq_decide.2 ⟨fun h => ⟨hM, h⟩, fun h => h.2⟩
  · have hno : ¬ (MorP a b ms ∧ rkN a.p ms ms.length = a.d) := fun h => hM h.1
    rw [decide_eq_false hno]
    refine fn_enter Tryz.func47 rfl Tryz.ntmps47 rfl ?_
    repeat' (first | (show oL; first | refine sAs rfl rfl ?_ | (show oA (.box _ _); refine m_box rfl rfl (fun b4 hb4 => ?_))) | refine xNt ?_ | (show oC; first | refine c_seq ?_ | refine c_region ?_))
    rename_i b3 hb3
    refine c_all (Hp [] w [.blk b4 #[iV b.p, iV b.q.1, v0, v1, v2, v3] 60, .blk b3 #[iV a.p, iV a.q.1, u0, u1, u2, u3] 60]) kr (fun _ c => Hp.drew c) ?_
    refine h_take 0 rfl kr kr kr (by exact y_loadb 1 tabs rfl rfl rfl rfl) rfl (fun _ c => c) ?_
    refine h_take 1 rfl kr kr kr (by exact y_loadb 0 tabs rfl rfl rfl rfl) rfl (fun _ c => c) ?_
    refine h_take 2 rfl kr kr kr (by exact y_move rfl) rfl (fun _ c => c) ?_
    refine h_only 3 rfl kr ?_
    (refine m_call (ent_of Tryz.func41 kr rfl) rfl rfl (fun w c => impl_IsMorphism_ok (a := a) (b := b) (ms := ms) (c.rd h0) (c.rd h1) (c.rd h2) (c.rd h3) (c.rd k0) (c.rd k1) (c.rd k2) (c.rd k3) (c.rd hm)) ?_; rintro v H' ⟨rfl, rfl⟩)
    refine c_nil (x_one (h_keep (fun _ c => c) ?_))
    refine h_take 4 rfl kr kr kr (by exact y_move rfl) rfl (fun _ c => c) ?_
    refine h_takeu 5 rfl kr kr kr rfl rfl aS rfl (fun _ c => c) ?_
    refine h_takeu 6 rfl kr kr kr rfl rfl aS rfl (fun _ c => c) ?_
    refine h_takeu 7 rfl kr kr kr rfl rfl aS rfl (fun _ c => c) ?_
    refine h_takeu 8 rfl kr kr kr rfl rfl aS rfl (fun _ c => c) ?_
    refine h_takeu 9 rfl kr kr kr rfl rfl aS rfl (fun _ c => c) ?_
    refine h_takeu 10 rfl kr kr kr rfl rfl aS rfl (fun _ c => c) ?_
    refine h_takeu 11 rfl kr kr kr rfl rfl aS rfl (fun _ c => c) ?_
    refine h_take 12 rfl kr kr kr (by exact y_pickf rfl aS rfl) rfl (fun _ c => c) ?_
    refine h_take 13 rfl kr kr kr (by exact y_assign rfl) rfl (fun _ c => c) ?_
    refine h_end kr ?_
    repeat' (first | (show oC; refine c_ret ?_) | (show AT _ _ _ _; refine x_then ?_))
    exact x_ret1 Tryz.results47 (res_tmp rfl) (fun w' c' => ⟨_, _, rfl, ⟨rfl, rfl⟩, c'.sub (List.nil_sublist _)⟩)

theorem impl_IsSurjective_ok {w : World} {a b : Rp} {ms : List Mat} {e e' e2 : Nat} {u0 u1 u2 u3 v0 v1 v2 v3 um : Value} (h0 : Rd w (iT a.q.2.1) u0) (h1 : Rd w (iT a.q.2.2) u1) (h2 : Rd w (iT a.d) u2) (h3 : Rd w (matsT e a.m) u3) (k0 : Rd w (iT b.q.2.1) v0) (k1 : Rd w (iT b.q.2.2) v1) (k2 : Rd w (iT b.d) v2) (k3 : Rd w (matsT e' b.m) v3) (hm : Rd w (matsT e2 ms) um) :
    Does Tryz.prog 49 [.agg #[iV a.p, iV a.q.1, u0, u1, u2, u3], .agg #[iV b.p, iV b.q.1, v0, v1, v2, v3], um] w (fun r H => r = .bool (decide (MorP a b ms ∧ rkN a.p ms ms.length = b.d)) ∧ H = []) := by
  by_cases hM : MorP a b ms
  · refine fn_enter Tryz.func49 rfl Tryz.ntmps49 rfl ?_
    repeat' (first | (show oL; first | refine sAs rfl rfl ?_ | (show oA (.box _ _); refine m_box rfl rfl (fun b4 hb4 => ?_))) | refine xNt ?_ | (show oC; first | refine c_seq ?_ | refine c_region ?_))
    rename_i b3 hb3
    refine c_all (Hp [] w [.blk b4 #[iV b.p, iV b.q.1, v0, v1, v2, v3] 60, .blk b3 #[iV a.p, iV a.q.1, u0, u1, u2, u3] 60]) kr (fun _ c => Hp.drew c) ?_
    refine h_take 0 rfl kr kr kr (by exact y_loadb 1 tabs rfl rfl rfl rfl) rfl (fun _ c => c) ?_
    refine h_take 1 rfl kr kr kr (by exact y_loadb 0 tabs rfl rfl rfl rfl) rfl (fun _ c => c) ?_
    refine h_take 2 rfl kr kr kr (by exact y_move rfl) rfl (fun _ c => c) ?_
    refine h_only 3 rfl kr ?_
    first | (refine m_call (ent_of Tryz.func41 kr rfl) rfl rfl (fun w c => impl_IsMorphism_ok (a := a) (b := b) (ms := ms) (c.rd h0) (c.rd h1) (c.rd h2) (c.rd h3) (c.rd k0) (c.rd k1) (c.rd k2) (c.rd k3) (c.rd hm)) ?_; rintro v H' ⟨rfl, rfl⟩) | (refine m_call (ent_of Tryz.func161 kr rfl) rfl rfl (fun w c => ranks_ok (c.rd hm) hM.1.all (by have := hM.1.ml5; omega)) ?_; rintro v H' ⟨ar, cr, rfl, hsr, rfl⟩) | (refine m_call (ent_of Tryz.func142 kr rfl) rfl rfl (fun w c => Equal_ok w _ _ (rkN a.p ms ms.length) b.d (c.own_rd (i := 0) rfl) (c.rd k2)) ?_; rintro v H' ⟨rfl, rfl⟩)
    refine c_nil (x_one (h_keep (fun _ c => c) ?_))
    refine h_take 4 rfl kr kr kr (by exact y_move rfl) rfl (fun _ c => c) ?_
    refine h_takeg 5 rfl kr kr kr rfl rfl aS (by exact y_field tabs rfl rfl rfl) rfl (fun _ c => c) ?_
    refine h_takeg 6 rfl kr kr kr rfl rfl aS (by exact y_load tabs rfl rfl (hc_blk 1 rfl rfl)) rfl (fun _ c => c) ?_
    refine h_takeg 7 rfl kr kr kr rfl rfl aS (by exact y_move rfl) rfl (fun _ c => c) ?_
    refine h_takeg 9 rfl kr kr kr rfl rfl aS (by exact y_field tabs rfl rfl rfl) rfl (fun _ c => c) ?_
    refine h_takeg 10 rfl kr kr kr rfl rfl aS (by first | exact y_load tabs rfl rfl (hc_blk 0 rfl rfl) | exact y_load tabs rfl rfl (hc_blk 0 rfl rfl)) rfl (fun _ c => c) ?_
    refine h_only 8 rfl kr (st_gdy rfl rfl aS ?_)
    first | (refine m_call (ent_of Tryz.func41 kr rfl) rfl rfl (fun w c => impl_IsMorphism_ok (a := a) (b := b) (ms := ms) (c.rd h0) (c.rd h1) (c.rd h2) (c.rd h3) (c.rd k0) (c.rd k1) (c.rd k2) (c.rd k3) (c.rd hm)) ?_; rintro v H' ⟨rfl, rfl⟩) | (refine m_call (ent_of Tryz.func161 kr rfl) rfl rfl (fun w c => ranks_ok (c.rd hm) hM.1.all (by have := hM.1.ml5; omega)) ?_; rintro v H' ⟨ar, cr, rfl, hsr, rfl⟩) | (refine m_call (ent_of Tryz.func142 kr rfl) rfl rfl (fun w c => Equal_ok w _ _ (rkN a.p ms ms.length) b.d (c.own_rd (i := 0) rfl) (c.rd k2)) ?_; rintro v H' ⟨rfl, rfl⟩)
    refine c_nil (x_one (h_keep (fun w c => by exact c.drop) ?_))
    refine h_only 11 rfl kr (st_gdy rfl rfl aS ?_)
    first | (refine m_call (ent_of Tryz.func41 kr rfl) rfl rfl (fun w c => impl_IsMorphism_ok (a := a) (b := b) (ms := ms) (c.rd h0) (c.rd h1) (c.rd h2) (c.rd h3) (c.rd k0) (c.rd k1) (c.rd k2) (c.rd k3) (c.rd hm)) ?_; rintro v H' ⟨rfl, rfl⟩) | (refine m_call (ent_of Tryz.func161 kr rfl) rfl rfl (fun w c => ranks_ok (c.rd hm) hM.1.all (by have := hM.1.ml5; omega)) ?_; rintro v H' ⟨ar, cr, rfl, hsr, rfl⟩) | (refine m_call (ent_of Tryz.func142 kr rfl) rfl rfl (fun w c => Equal_ok w _ _ (rkN a.p ms ms.length) b.d (c.own_rd (i := 0) rfl) (c.rd k2)) ?_; rintro v H' ⟨rfl, rfl⟩)
    refine c_nil (x_one (h_keep (fun w c => by exact c.drop) ?_))
    refine h_take 12 rfl kr kr kr (by exact y_pickt rfl aS rfl) rfl (fun w c => by exact c.drop) ?_
    refine h_take 13 rfl kr kr kr (by exact y_assign rfl) rfl (fun w c => by exact c.drop) ?_
    refine h_end kr ?_
    repeat' (first | (show oC; refine c_ret ?_) | (show AT _ _ _ _; refine x_then ?_))
    refine x_ret1 Tryz.results49 (res_tmp rfl) (fun w' c' => ⟨_, _, rfl, ⟨congrArg Value.bool ?_, rfl⟩, c'.sub (List.nil_sublist _)⟩)
    exact decide_eq_decide.2 ⟨fun h => ⟨hM, h⟩, fun h => h.2⟩
  · have hno : ¬ (MorP a b ms ∧ rkN a.p ms ms.length = b.d) := fun h => hM h.1
    rw [decide_eq_false hno]
    refine fn_enter Tryz.func49 rfl Tryz.ntmps49 rfl ?_
    repeat' (first | (show oL; first | refine sAs rfl rfl ?_ | (show oA (.box _ _); refine m_box rfl rfl (fun b4 hb4 => ?_))) | refine xNt ?_ | (show oC; first | refine c_seq ?_ | refine c_region ?_))
    rename_i b3 hb3
    refine c_all (Hp [] w [.blk b4 #[iV b.p, iV b.q.1, v0, v1, v2, v3] 60, .blk b3 #[iV a.p, iV a.q.1, u0, u1, u2, u3] 60]) kr (fun _ c => Hp.drew c) ?_
    refine h_take 0 rfl kr kr kr (by exact y_loadb 1 tabs rfl rfl rfl rfl) rfl (fun _ c => c) ?_
    refine h_take 1 rfl kr kr kr (by exact y_loadb 0 tabs rfl rfl rfl rfl) rfl (fun _ c => c) ?_
    refine h_take 2 rfl kr kr kr (by exact y_move rfl) rfl (fun _ c => c) ?_
    refine h_only 3 rfl kr ?_
    (refine m_call (ent_of Tryz.func41 kr rfl) rfl rfl (fun w c => impl_IsMorphism_ok (a := a) (b := b) (ms := ms) (c.rd h0) (c.rd h1) (c.rd h2) (c.rd h3) (c.rd k0) (c.rd k1) (c.rd k2) (c.rd k3) (c.rd hm)) ?_; rintro v H' ⟨rfl, rfl⟩)
    refine c_nil (x_one (h_keep (fun _ c => c) ?_))
    refine h_take 4 rfl kr kr kr (by exact y_move rfl) rfl (fun _ c => c) ?_
    refine h_takeu 5 rfl kr kr kr rfl rfl aS rfl (fun _ c => c) ?_
    refine h_takeu 6 rfl kr kr kr rfl rfl aS rfl (fun _ c => c) ?_
    refine h_takeu 7 rfl kr kr kr rfl rfl aS rfl (fun _ c => c) ?_
    refine h_takeu 8 rfl kr kr kr rfl rfl aS rfl (fun _ c => c) ?_
    refine h_takeu 9 rfl kr kr kr rfl rfl aS rfl (fun _ c => c) ?_
    refine h_takeu 10 rfl kr kr kr rfl rfl aS rfl (fun _ c => c) ?_
    refine h_takeu 11 rfl kr kr kr rfl rfl aS rfl (fun _ c => c) ?_
    refine h_take 12 rfl kr kr kr (by exact y_pickf rfl aS rfl) rfl (fun _ c => c) ?_
    refine h_take 13 rfl kr kr kr (by exact y_assign rfl) rfl (fun _ c => c) ?_
    refine h_end kr ?_
    repeat' (first | (show oC; refine c_ret ?_) | (show AT _ _ _ _; refine x_then ?_))
    exact x_ret1 Tryz.results49 (res_tmp rfl) (fun w' c' => ⟨_, _, rfl, ⟨rfl, rfl⟩, c'.sub (List.nil_sublist _)⟩)

def IsoP (a b : Rp) (ms : List Mat) : Prop := (MorP a b ms ∧ rkN a.p ms ms.length = a.d) ∧ MorP a b ms ∧ rkN a.p ms ms.length = b.d
instance (a b : Rp) (ms : List Mat) : Decidable (IsoP a b ms) := by unfold IsoP; infer_instance
theorem impl_IsIsomorphism_ok {w : World} {a b : Rp} {ms : List Mat} {e e' e2 : Nat} {u0 u1 u2 u3 v0 v1 v2 v3 um : Value} (h0 : Rd w (iT a.q.2.1) u0) (h1 : Rd w (iT a.q.2.2) u1) (h2 : Rd w (iT a.d) u2) (h3 : Rd w (matsT e a.m) u3) (k0 : Rd w (iT b.q.2.1) v0) (k1 : Rd w (iT b.q.2.2) v1) (k2 : Rd w (iT b.d) v2) (k3 : Rd w (matsT e' b.m) v3) (hm : Rd w (matsT e2 ms) um) :
    Does Tryz.prog 45 [.agg #[iV a.p, iV a.q.1, u0, u1, u2, u3], .agg #[iV b.p, iV b.q.1, v0, v1, v2, v3], um] w (fun r H => r = .bool (decide (IsoP a b ms)) ∧ H = []) := by
  refine fn_enter Tryz.func45 rfl Tryz.ntmps45 rfl ?_
  repeat' (first | (show oL; first | refine sMv rfl rfl ?_ | refine sAs rfl rfl ?_ | (show oA (.load _ _); first | refine sLb 0 tabs rfl rfl rfl rfl rfl ?_ | refine sLb 1 tabs rfl rfl rfl rfl rfl ?_) | (show oA (.call _); first | (refine m_call (ent_of Tryz.func47 kr rfl) rfl rfl (fun w c => impl_IsInjective_ok (a := a) (b := b) (ms := ms) (c.rd h0) (c.rd h1) (c.rd h2) (c.rd h3) (c.rd k0) (c.rd k1) (c.rd k2) (c.rd k3) (c.rd hm)) ?_; rintro v H' ⟨rfl, rfl⟩) | (refine m_call (ent_of Tryz.func49 kr rfl) rfl rfl (fun w c => impl_IsSurjective_ok (a := a) (b := b) (ms := ms) (c.rd h0) (c.rd h1) (c.rd h2) (c.rd h3) (c.rd k0) (c.rd k1) (c.rd k2) (c.rd k3) (c.rd hm)) ?_; rintro v H' ⟨rfl, rfl⟩)) | (show oA (.pick _ _ _); first | refine st_y (y_pickt rfl aS rfl) rfl ?_ | refine st_y (y_pickf rfl aS rfl) rfl ?_) | (show oA (.box _ _); refine m_box rfl rfl (fun b4 hb4 => ?_)) | refine st_gdy rfl rfl aS ?_ | refine st_gdn rfl rfl aS rfl ?_ | refine st_gd rfl rfl (fun h => ?_) (fun h => ?_)) | refine xNt ?_ | (show oC; first | refine c_seq ?_ | refine c_region ?_ | refine c_ret ?_))
  all_goals refine x_ret1 Tryz.results45 (res_tmp rfl) (fun w' c' => ⟨_, _, rfl, ⟨congrArg Value.bool ?_, rfl⟩, c'.sub (List.nil_sublist _)⟩)
  all_goals first | exact decide_eq_decide.2 ⟨fun h => ⟨by assumption, h⟩, fun h => h.2⟩ | exact (decide_eq_false (fun h => absurd h.1 aS)).symm

end Go.Proofs.YtijjkfbkihgfgaaGreat
