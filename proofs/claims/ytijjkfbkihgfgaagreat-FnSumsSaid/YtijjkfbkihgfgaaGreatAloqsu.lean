import Derived.Test.YtijjkfbkihgfgaaGreatCopqsu
import Derived.Test.YtijjkfbkihgfgaaGreatLCqsu
import Derived.Test.YtijjkfbkihgfgaaGreatLGqsu
import Derived.Test.YtijjkfbkihgfgaaGreatLinqsu
import Derived.Test.YtijjkfbkihgfgaaGreatLwsqsu
import Derived.Test.YtijjkfbkihgfgaaGreatMulqsu
import Derived.Test.YtijjkfbkihgfgaaGreatOpnqsu
import Derived.Test.YtijjkfbkihgfgaaGreatPrdqsu
import Derived.Test.YtijjkfbkihgfgaaGreatRepqsu
import Derived.Test.YtijjkfbkihgfgaaGreatSpbqsu
import Derived.Test.YtijjkfbkihgfgaaGreatZerqsu
namespace Go.Proofs.YtijjkfbkihgfgaaGreat
open Go.Lg Go.Proofs Go.RowKit
attribute [local irreducible] Code.wp wpList bodyPost Exit.then Exit.inBlock Hp Again Calls Y AT ResV QT Qn QI wpAny wpAnyQ
set_option maxRecDepth 20000
set_option maxHeartbeats 4000000

theorem copy_next {ms : List Mat} {m : Mat} {i : Nat} (h : ms[i]? = some m) : (ms.take i).flatMap matT ++ (List.map Go.Lg.T.c [iV m.1, iV m.2.1] ++ [iT m.2.2]) = (ms.take (i + 1)).flatMap matT := by
  rw [List.take_add_one, h, List.flatMap_append]; rfl
theorem l8Copy_ok {w : World} {r : Rp} {e : Nat} {u0 u1 u2 u3 : Value} (h0 : Rd w (iT r.q.2.1) u0) (h1 : Rd w (iT r.q.2.2) u1) (h2 : Rd w (iT r.d) u2) (h3 : Rd w (matsT e r.m) u3) (hR : RepP r) :
    Does Tryz.prog 185 [.agg #[iV r.p, iV r.q.1, u0, u1, u2, u3]] w (GivesR r) := by
  have hb := (RepP.dd hR).2
  have hml := hR.2.2.1
  have hQ := hR.2.1.1
  have q1 := hQ.2.1
  have q2 := hQ.2.2.1
  have hbm : ∀ (i : Nat) (m : Mat), r.m[i]? = some m → m.2.2.length ≤ 1048576 := fun i m hm => by
    have hi : i < r.m.length := (List.getElem?_eq_some_iff.1 hm).1
    have h := (hR.2.2.2 i hi).1.2.2.2.2.1
    have e : r.m.getD i mat0 = m := by rw [List.getD, hm]; rfl
    rw [e] at h
    omega
  obtain ⟨p, ⟨n, F, T⟩, d, ms⟩ := r
  simp only at h0 h1 h2 h3 hb hml q1 q2 hbm ⊢
  obtain ⟨a0, c0, rfl, hs0, _, _, _⟩ := h0.ints
  obtain ⟨a1, c1, rfl, hs1, _, _, _⟩ := h1.ints
  obtain ⟨a2, c2, rfl, hs2, _, _, _⟩ := h2.ints
  obtain ⟨a3, c3, rfl, hs3, _, _, hg3⟩ := rd_mats h3
  refine fn_enter Tryz.func185 rfl Tryz.ntmps185 rfl ?_
  repeat' (first | (show oL; first | (show oA (.box _ _); refine m_box rfl rfl (fun b1 hb1 => ?_)) | (show oA (.alloc _); refine m_alloc tabs rfl rfl (fun b2 hb2 => ?_))) | refine xNt ?_ | (show oC; first | refine c_seq ?_ | refine c_region ?_))
  refine c_all (Hp [] w [.blk b1 #[iV p, iV n, .slice a0 F.length c0, .slice a1 T.length c1, .slice a2 d.length c2, .slice a3 ms.length c3] 60]) kr (fun _ c => Hp.drew c) ?_
  refine fl_begin 11 rfl tabs rfl rfl ?_
  refine fl_take 0 rfl kr kr kr kr kr kr (by exact y_field tabs rfl rfl rfl) rfl (fun w c => by exact c.drop) ?_
  refine fl_take 1 rfl kr kr kr kr kr kr (by exact y_load tabs rfl rfl (hc_blk 0 rfl rfl)) rfl (fun w c => by exact c.drop) ?_
  refine fl_take 2 rfl kr kr kr kr kr kr (by exact y_field tabs rfl rfl rfl) rfl (fun w c => by exact c.drop) ?_
  refine fl_take 3 rfl kr kr kr kr kr kr (by exact y_load3 tabs rfl rfl (hc_blk 0 rfl rfl) (hc_blk 0 rfl rfl) (hc_blk 0 rfl rfl)) rfl (fun w c => by exact c.drop) ?_
  refine fl_take 6 rfl kr kr kr kr kr kr (by exact y_field tabs rfl rfl rfl) rfl (fun w c => by exact c.drop) ?_
  refine fl_take 7 rfl kr kr kr kr kr kr (by exact y_load tabs rfl rfl (hc_blk 0 rfl rfl)) rfl (fun w c => by exact c.drop) ?_
  refine fl_copy 4 5 8 9 rfl tabs rfl rfl rfl rfl rfl rfl rfl rfl rfl rfl rfl om (fun w c => c.rd h2) rfl rfl rfl (stf_call (ent_of Tryz.func177 kr rfl) rfl rfl (fun w c => l6Copy_ok (q := (n, F, T)) (c.rd h0) (c.rd h1) (by simp only [szQ]; omega))) kr kr (fun w c => c.sub sL) ?_
  rintro v H0 ⟨aF, cF, aT, cT, rfl, hsF, hsT, rfl⟩ gd gm ad cd hgd hgm hsd
  refine fl_take 10 rfl kr kr kr kr kr kr (by exact y_bld4 (bld_rp4 _ _ _ _ _ _ _ _ _ _ _ _ _ _) rfl rfl rfl rfl) rfl sS ?_
  refine fl_end rfl tabs rfl rfl rfl kr sS (fun bf hbf => ?_)
  refine h_only 12 rfl kr ?_
  (refine m_storeb 0 tabs rfl rfl rfl rfl rfl rfl rfl ?_)
  refine c_nil (x_one (h_keep sS ?_))
  refine h_end kr ?_
  repeat' (first | (show oL; first | refine sAs rfl rfl ?_) | refine xNt ?_ | (show oC; first | refine c_seq ?_ | refine c_region ?_ | refine c_block ?_) | (show AT _ _ _ _; refine x_then ?_))
  refine c_loopH (α := Nat × Option Addr × Nat) [1, 2, 3] (fun s => [(4, .int .i64 s.1)]) (fun s => s.1 ≤ ms.length) (fun s => [.own (matsT 47 (ms.take s.1)) (.slice s.2.1 s.1 s.2.2), .blk bf #[iV p, iV n, .slice aF F.length cF, .slice aT T.length cT, .slice ad d.length cd, .slice s.2.1 s.1 s.2.2] 60, .own (iT d) (.slice ad d.length cd), .own (iT T) (.slice aT T.length cT), .own (iT F) (.slice aF F.length cF), .blk b2 #[iV 0, iV 0, .slice none 0 0, .slice none 0 0, .slice none 0 0, .slice none 0 0] 60, .blk b1 #[iV p, iV n, .slice a0 F.length c0, .slice a1 T.length c1, .slice a2 d.length c2, .slice a3 ms.length c3] 60]) (fun s => ms.length - s.1) (0, some ⟨gm, 0, none⟩, 0) rfl sB ?_ ?_ ?_
  · exact Nat.zero_le _
  · exact fun w' c' => c'.front (i := 2) rfl
  · rintro ⟨i, am, cm⟩ hi
    simp only at hi ⊢
    have hln : (ms.take i).length = i := by rw [List.length_take]; omega
    by_cases hin : i < ms.length
    · obtain ⟨m, hm⟩ : ∃ m, ms[i]? = some m := ⟨_, List.getElem?_eq_getElem hin⟩
      obtain ⟨a4, c4, g1, g2, g3, g4⟩ := hg3 i m hm
      repeat' (first | (show oL; first | refine sMv rfl rfl ?_ | refine sFd tabs rfl rfl rfl rfl ?_ | refine sLd 6 tabs rfl rfl rfl rfl rfl ?_ | refine sLs rfl rfl rfl ?_ | refine sLn tabs rfl rfl rfl ?_) | refine xNt ?_ | (show oC; first | refine c_seq ?_ | refine c_region ?_ | refine c_skip (x_then ?_) | refine c_block ?_ | refine c_ift rfl aO ?_))
      refine c_mixR (Hp [] w [.blk bf #[iV p, iV n, .slice aF F.length cF, .slice aT T.length cT, .slice ad d.length cd, .slice am i cm] 60, .blk b1 #[iV p, iV n, .slice a0 F.length c0, .slice a1 T.length c1, .slice a2 d.length c2, .slice a3 ms.length c3] 60]) 10 kr kr kr kr kr (fun _ c => Hp.drew c) ?_
      refine h_take 0 rfl kr kr kr (by exact y_field tabs rfl rfl rfl) rfl sS ?_
      refine h_take 1 rfl kr kr kr (by exact y_load tabs rfl rfl (hc_blk 0 rfl rfl)) rfl sS ?_
      refine h_take 2 rfl kr kr kr (by exact y_field tabs rfl rfl rfl) rfl sS ?_
      refine h_take 3 rfl kr kr kr (by exact y_load tabs rfl rfl (hc_blk 1 rfl rfl)) rfl sS ?_
      refine h_take 4 rfl kr kr kr (by exact y_move rfl) rfl sS ?_
      refine h_take 5 rfl kr kr kr (by exact y_ixa tabs rfl rfl rfl hs3 om om) rfl sS ?_
      refine h_take 6 rfl kr kr kr (by exact y_load3 tabs rfl rfl (hc_w0 g1) (hc_w0 g2) (hc_w0 g3)) rfl sS ?_
      refine h_only 7 rfl kr ?_
      first | (refine m_build1 tabs (us := [iV m.1, iV m.2.1, .slice a6 m.2.2.length c6]) rfl rfl rfl rfl (by decide) rfl (fun g7 hg7 => ?_)) | (refine m_call (ent_of Tryz.func173 kr rfl) rfl rfl (fun w c => l3Copy_ok (m := m) (c.rd g4) (hbm i m hm)) ?_; rintro v H' ⟨a6, c6, rfl, hs6, rfl⟩) | (refine m_push1 [iV m.1, iV m.2.1] 0 0 tabs (m' := i) rfl rfl rfl rfl rfl rfl rfl (by rw [flatMap_length matT_length, hln]) (by rw [flatMap_length matT_length, hln]; omega) (by decide) rfl rfl (fun a9 c9 => ?_))
      refine c_nil (x_one (h_keep sS ?_))
      refine h_only 8 rfl kr ?_
      first | (refine m_build1 tabs (us := [iV m.1, iV m.2.1, .slice a6 m.2.2.length c6]) rfl rfl rfl rfl (by decide) rfl (fun g7 hg7 => ?_)) | (refine m_call (ent_of Tryz.func173 kr rfl) rfl rfl (fun w c => l3Copy_ok (m := m) (c.rd g4) (hbm i m hm)) ?_; rintro v H' ⟨a6, c6, rfl, hs6, rfl⟩) | (refine m_push1 [iV m.1, iV m.2.1] 0 0 tabs (m' := i) rfl rfl rfl rfl rfl rfl rfl (by rw [flatMap_length matT_length, hln]) (by rw [flatMap_length matT_length, hln]; omega) (by decide) rfl rfl (fun a9 c9 => ?_))
      refine c_nil (x_one (h_keep sS ?_))
      refine h_only 9 rfl kr ?_
      first | (refine m_build1 tabs (us := [iV m.1, iV m.2.1, .slice a6 m.2.2.length c6]) rfl rfl rfl rfl (by decide) rfl (fun g7 hg7 => ?_)) | (refine m_call (ent_of Tryz.func173 kr rfl) rfl rfl (fun w c => l3Copy_ok (m := m) (c.rd g4) (hbm i m hm)) ?_; rintro v H' ⟨a6, c6, rfl, hs6, rfl⟩) | (refine m_push1 [iV m.1, iV m.2.1] 0 0 tabs (m' := i) rfl rfl rfl rfl rfl rfl rfl (by rw [flatMap_length matT_length, hln]) (by rw [flatMap_length matT_length, hln]; omega) (by decide) rfl rfl (fun a9 c9 => ?_))
      refine c_nil (x_one (h_keep sS ?_))
      refine h_end kr ?_
      repeat' (first | (show oL; first | refine sMv rfl rfl ?_ | refine sAs rfl rfl ?_ | refine sFd tabs rfl rfl rfl rfl ?_ | refine sAd rfl rfl om rfl ?_ | (show oA (.store _ _ _); refine m_storef 1 tabs rfl rfl rfl rfl rfl rfl ?_)) | (show oN; first | refine c_nil (x_then ?_) | refine c_nil ?_) | (show oC; refine c_region ?_) | (show AT _ _ _ _; first | refine x_then ?_ | refine x_blk ?_))
      refine x_nx (i + 1, a9, c9) sB (by simp only; omega) (fun w' c' => ?_) (by simp only; omega)
      rw [copy_next hm] at c'
      exact c'
    · have : i = ms.length := by omega
      subst this
      rw [List.take_length]
      refine AT.fact (mats_sl 0 rfl) (fun hsl => ?_)
      repeat' (first | (show oL; first | refine sMv rfl rfl ?_ | refine sFd tabs rfl rfl rfl rfl ?_ | (show oA (.load _ _); first | refine sLd 6 tabs rfl rfl rfl rfl rfl ?_ | refine sLb 1 tabs rfl rfl rfl rfl rfl ?_) | refine sLs rfl rfl rfl ?_ | refine sLn tabs rfl rfl rfl ?_ | (show oA (.store _ _ _); refine m_storeb 5 tabs rfl rfl rfl rfl rfl rfl rfl ?_)) | refine xNt ?_ | (show oC; first | refine c_seq ?_ | refine c_region ?_ | refine c_ret ?_ | refine c_exit ?_ | refine c_iff rfl nN ?_) | (show AT _ _ _ _; first | refine x_then ?_ | refine x_then_exit ?_ | refine x_blk_exit rfl ?_))
      exact x_ret1 Tryz.results185 (res_cellb 5 tabs rfl rfl rfl rfl) (fun w' c' => ⟨_, _, rfl, ⟨aF, cF, aT, cT, ad, cd, am, cm, rfl, hsF, hsT, hsd, hsl, rfl⟩, (c'.sub (H' := [.own (matsT 47 ms) (.slice am ms.length cm), .own (iT d) (.slice ad d.length cd), .own (iT T) (.slice aT T.length cT), .own (iT F) (.slice aF F.length cF)]) sL)⟩)
end Go.Proofs.YtijjkfbkihgfgaaGreat

namespace Go.Proofs.YtijjkfbkihgfgaaGreat
open Go.Lg Go.Proofs Go.RowKit
attribute [local irreducible] Code.wp wpList bodyPost Exit.then Exit.inBlock Hp Again Calls Y AT ResV QT Qn QI wpAny wpAnyQ
set_option maxRecDepth 20000
set_option maxHeartbeats 4000000

def SpcP (p : Int) (s : Sp) : Prop := FineP p s.1 s.2 ∧ basL p s.1.toNat s.2 = s.2
instance (p : Int) (s : Sp) : Decidable (SpcP p s) := by unfold SpcP; infer_instance
end Go.Proofs.YtijjkfbkihgfgaaGreat

namespace Go.Proofs.YtijjkfbkihgfgaaGreat
open Go.Lg Go.Proofs Go.RowKit

def rkL (p : Int) (C : Nat) (M : List (List Int)) : Nat := (redTo p M.length (rowsF M) C).2.length
theorem basL_len {p : Int} {C : Nat} {M : List (List Int)} : (basL p C M).length = rkL p C M := by simp [basL, rkL]
theorem SpcP.rows {p : Int} {s : Sp} (h : SpcP p s) : ∃ C : Nat, s.1 = C ∧ C ≤ 8 ∧ RowsP p C s.2 ∧ FieldP p ∧ s.2.length ≤ 8 ∧ rkL p C s.2 = s.2.length ∧ ∀ t j, t < s.2.length → j < C → (redTo p s.2.length (rowsF s.2) C).1 t j = rowsF s.2 t j := by
  obtain ⟨h1, h2⟩ := h
  obtain ⟨C, hc, hC, hl⟩ := h1.rows
  rw [hc] at h2
  simp only [Int.toNat_natCast] at h2
  have hk : rkL p C s.2 = s.2.length := by rw [← basL_len, h2]
  have h8 : rkL p C s.2 ≤ C := redL_length C
  refine ⟨C, hc, hC, hl, h1.1, by omega, hk, fun t j ht hj => ?_⟩
  have hb : (basL p C s.2).getD t [] = mkv C ((redTo p s.2.length (rowsF s.2) C).1 t) := by
    unfold basL rowL
    have : t < (redTo p s.2.length (rowsF s.2) C).2.length := by unfold rkL at hk; omega
    simp [List.getD, this]
  rw [h2] at hb
  have := mkv_get (g := (redTo p s.2.length (rowsF s.2) C).1 t) hj
  rw [← hb] at this
  exact this.symm
end Go.Proofs.YtijjkfbkihgfgaaGreat

namespace Go.Proofs.YtijjkfbkihgfgaaGreat
open Go.Lg Go.Proofs Go.RowKit
attribute [local irreducible] Code.wp wpList bodyPost Exit.then Exit.inBlock Hp Again Calls Y AT ResV QT Qn QI wpAny wpAnyQ
set_option maxRecDepth 20000
set_option maxHeartbeats 4000000

theorem rows_ok {w : World} {R C : Nat} {f : Nat → Nat → Int} {u : Value} (hr : Rd w (iT (mk R C f)) u) (hR : R ≤ 64) (hC : C ≤ 64) : Does Tryz.prog 232 [.agg #[iV R, iV C, u]] w (GivesRows (rowL C f R)) := by
  obtain ⟨a, c, rfl, hs, hc⟩ := rd_mk hr
  refine fn_enter Tryz.func232 rfl Tryz.ntmps232 rfl ?_
  repeat' (first | (show oL; first | refine sMv rfl rfl ?_ | refine sAs rfl rfl ?_ | refine sFd tabs rfl rfl rfl rfl ?_ | refine sLd 0 tabs rfl rfl rfl rfl rfl ?_ | (show oA (.box _ _); refine m_box rfl rfl (fun b hb => ?_))) | refine xNt ?_ | (show oC; first | refine c_seq ?_ | refine c_region ?_ | refine c_block ?_))
  refine c_loopH (α := Nat × Option Addr × Nat) [1, 6] (fun q => [(3, .slice q.2.1 q.1 q.2.2), (7, .int .i64 q.1)]) (fun q => q.1 ≤ R) (fun q => [.own (rowsT 43 (rowL C f q.1)) (.slice q.2.1 q.1 q.2.2), .blk b #[iV R, iV C, .slice a (R * C) c] 47]) (fun q => R - q.1) (0, none, 0) rfl sB ?_ ?_ ?_
  · exact Nat.zero_le _
  · exact fun w' c' => Hp.nilp _ _ c'
  · rintro ⟨i, al, cl⟩ hi
    simp only at hi ⊢
    by_cases hiR : i < R
    · repeat' (first | (show oL; first | refine sMv rfl rfl ?_ | refine sAs rfl rfl ?_ | refine sLb 1 tabs rfl rfl rfl rfl rfl ?_ | (show oA (.binOp _ _ _ _ _); first | refine sAd rfl rfl om rfl ?_ | refine sLs rfl rfl rfl ?_) | (show oA (.call _); first | (refine m_call (ent_of Tryz.func227 kr rfl) rfl rfl (fun w c => rowg_ok om om hiR hc) ?_; rintro v H' ⟨rfl, rfl⟩) | (refine m_call (ent_of Tryz.func193 kr rfl) rfl rfl (fun w c => Clone_ok (row_rds (c.rd hr) hiR) (by rw [mkv_length]; omega)) ?_; rw [mkv_length]; rintro v H' ⟨az, cz, rfl, hsz, rfl⟩) | refine m_push1 [] 0 0 tabs (m' := i) rfl rfl rfl rfl rfl rfl rfl (by simp [rowT_map]) (by simp [rowT_map]; omega) (by decide) rfl rfl (fun a4 c4 => ?_)) | (show oA (.buildSlice _ _ _); refine m_build1 tabs (us := [.slice az C cz]) rfl rfl rfl rfl (by decide) rfl (fun g2 hg2 => ?_))) | (show oN; first | refine c_nil (x_then ?_) | refine c_nil ?_) | (show oC; first | refine c_seq ?_ | refine c_region ?_ | refine c_skip (x_then ?_) | refine c_block ?_ | refine c_ift rfl aO ?_) | (show AT _ _ _ _; first | refine x_then ?_ | refine x_blk ?_))
      refine x_nx (i + 1, a4, c4) sB (by simp only; omega) (fun w' c' => ?_) (by simp only; omega)
      have e0 : (rowL C f i).flatMap rowT ++ (List.map T.c [] ++ [iT (mkv C (f i))]) = (rowL C f (i + 1)).flatMap rowT := by rw [rowL_next, List.flatMap_append]; rfl
      rw [e0] at c'
      exact c'
    · have : i = R := by omega
      subst this
      refine AT.fact (rows_sl 0 rfl) (fun hsl => ?_)
      rw [rowL_length] at hsl
      repeat' (first | (show oL; first | refine sMv rfl rfl ?_ | refine sAs rfl rfl ?_ | refine sLs rfl rfl rfl ?_) | refine xNt ?_ | (show oC; first | refine c_seq ?_ | refine c_region ?_ | refine c_ret ?_ | refine c_exit ?_ | refine c_iff rfl nN ?_) | (show AT _ _ _ _; first | refine x_then ?_ | refine x_then_exit ?_ | refine x_blk_exit rfl ?_))
      exact x_ret1 Tryz.results232 (res_tmp rfl) (fun w' c' => ⟨_, _, rfl, ⟨al, cl, by rw [rowL_length], by rw [rowL_length]; exact hsl, by rw [rowL_length]⟩, c'.sub (.cons_cons _ (List.nil_sublist _))⟩)
end Go.Proofs.YtijjkfbkihgfgaaGreat

namespace Go.Proofs.YtijjkfbkihgfgaaGreat
open Go.Lg Go.Proofs Go.RowKit
attribute [local irreducible] Code.wp wpList bodyPost Exit.then Exit.inBlock Hp Again Calls Y AT ResV QT Qn QI wpAny wpAnyQ
set_option maxRecDepth 20000
set_option maxHeartbeats 4000000

theorem matP_cells {p : Int} {m : Mat} (h : MatP p m) : ∃ R C : Nat, m.1 = R ∧ m.2.1 = C ∧ R ≤ 8 ∧ C ≤ 8 ∧ m.2.2 = mk R C (matF m) ∧ inF p R C (matF m) := by
  obtain ⟨R, C, f, rfl, hR, hC, _, hin⟩ := matP_mk h
  refine ⟨R, C, rfl, rfl, hR, hC, mk_ext (fun i j hi hj => (matF_mk hi hj).symm), fun i j hi hj => ?_⟩
  rw [matF_mk hi hj]
  exact hin i j hi hj
theorem RepP.dg {r : Rp} (h : RepP r) (n : Nat) : 0 ≤ r.d.getD n 0 ∧ r.d.getD n 0 ≤ 4 := (RepP.dd h).1 n
end Go.Proofs.YtijjkfbkihgfgaaGreat
