import Derived.Test.YtdnhmnnccfoliaaGreatDoorRepqpr
import Derived.Test.YtdnhmnnccfoliaaGreatDoorSpbqpr
import Derived.Test.YtdnhmnnccfoliaaGreatDoorZerqpr
namespace Go.Proofs.YtdnhmnnccfoliaaGreatDoor
open Go.Lg Go.Proofs Go.RowKit
attribute [local irreducible] Code.wp wpList bodyPost Exit.then Exit.inBlock Hp Again Calls Y AT ResV QT Qn QI wpAny wpAnyQ
set_option maxRecDepth 20000
set_option maxHeartbeats 4000000

/-! ### products of matrices -/
theorem rowg_ok {w : World} {R C i cap : Nat} {a : Option Addr} (hR : R ≤ 1024) (hC : C ≤ 1024) (hi : i < R) (hcap : R * C ≤ cap) :
    Does Tryz.prog 154 [.agg #[iV R, iV C, .slice a (R * C) cap], iV i] w (fun r H => r = .slice (subA a 1 (i * C) cap) C (cap - i * C) ∧ H = []) := by
  have h1 : (i + 1) * C ≤ R * C := Nat.mul_le_mul_right C hi
  have h2 : R * C ≤ 1024 * 1024 := Nat.mul_le_mul hR hC
  have h3 : (i + 1) * C = i * C + C := Nat.succ_mul i C
  have e1 : (i : Int) * (C : Int) = ((i * C : Nat) : Int) := by simp
  have e2 : ((i : Int) + 1) * (C : Int) = (((i + 1) * C : Nat) : Int) := by simp
  refine fn_enter Tryz.func154 rfl Tryz.ntmps154 rfl ?_
  repeat' (first | (show oL; first | refine sMv rfl rfl ?_ | refine sAs rfl rfl ?_ | refine sFd tabs rfl rfl rfl rfl ?_ | refine sLd 0 tabs rfl rfl rfl rfl rfl ?_ | (show oA (.binOp _ _ _ _ _); first | refine st_y (y_mul rfl rfl (by first | (rw [e1]; omega) | (rw [e2]; omega))) rfl ?_ | refine sAd rfl rfl om rfl ?_) | (show oA (.box _ _); refine m_box rfl rfl (fun b hb => ?_)) | (show oA (.slice _ _ _ _ _); refine st_y (y_slb tabs (lo := i * C) (hi := (i + 1) * C) rfl rfl rfl rfl e1 e2 om om) rfl ?_)) | refine xNt ?_ | (show oC; first | refine c_seq ?_ | refine c_region ?_ | refine c_ret ?_))
  refine x_ret1 Tryz.results154 (res_tmp rfl) (fun w' c' => ⟨_, _, rfl, ⟨?_, rfl⟩, c'.sub (List.nil_sublist _)⟩)
  rw [show (i + 1) * C - i * C = C by omega]
end Go.Proofs.YtdnhmnnccfoliaaGreatDoor

namespace Go.Proofs.YtdnhmnnccfoliaaGreatDoor
open Go.Lg Go.Proofs Go.RowKit
attribute [local irreducible] Code.wp wpList bodyPost Exit.then Exit.inBlock Hp Again Calls Y AT ResV QT Qn QI wpAny wpAnyQ
set_option maxRecDepth 20000
set_option maxHeartbeats 4000000

/-! ### SpanOf, IsSpace -/
def SpcP (p : Int) (s : Sp) : Prop := FineP p s.1 s.2 ∧ basL p s.1.toNat s.2 = s.2
instance (p : Int) (s : Sp) : Decidable (SpcP p s) := by unfold SpcP; infer_instance
end Go.Proofs.YtdnhmnnccfoliaaGreatDoor

namespace Go.Proofs.YtdnhmnnccfoliaaGreatDoor
open Go.Lg Go.Proofs Go.RowKit

/-! ### what belongs to a space (plain) -/
def rkL (p : Int) (C : Nat) (M : List (List Int)) : Nat := (redTo p M.length (rowsF M) C).2.length
theorem basL_len {p : Int} {C : Nat} {M : List (List Int)} : (basL p C M).length = rkL p C M := by simp [basL, rkL]
/-! ### a space's rows are reduced -/
theorem SpcP.rows {p : Int} {s : Sp} (h : SpcP p s) : ∃ C : Nat, s.1 = C ∧ C ≤ 8 ∧ RowsP p C s.2 ∧ FieldP p ∧ s.2.length ≤ 8 ∧ rkL p C s.2 = s.2.length ∧ ∀ t j, t < s.2.length → j < C → (redTo p s.2.length (rowsF s.2) C).1 t j = rowsF s.2 t j := by
  obtain ⟨h1, h2⟩ := h
  obtain ⟨C, hc, hC, hl⟩ := h1.rows
  rw [hc] at h2
  simp only [Int.toNat_natCast] at h2
  have hk : rkL p C s.2 = s.2.length := by rw [← basL_len, h2]
  have h8 : rkL p C s.2 ≤ C := redL_length C
  refine ⟨C, hc, hC, hl, h1.1, by omega, hk, fun t j ht hj => ?_⟩
  have hb : (basL p C s.2).getD t [] = mkv C ((redTo p s.2.length (rowsF s.2) C).1 t) := by
    unfold basL rowL
    have : t < (redTo p s.2.length (rowsF s.2) C).2.length := by unfold rkL at hk; omega
    simp [List.getD, this]
  rw [h2] at hb
  have := mkv_get (g := (redTo p s.2.length (rowsF s.2) C).1 t) hj
  rw [← hb] at this
  exact this.symm
end Go.Proofs.YtdnhmnnccfoliaaGreatDoor

namespace Go.Proofs.YtdnhmnnccfoliaaGreatDoor
open Go.Lg Go.Proofs Go.RowKit
attribute [local irreducible] Code.wp wpList bodyPost Exit.then Exit.inBlock Hp Again Calls Y AT ResV QT Qn QI wpAny wpAnyQ
set_option maxRecDepth 20000
set_option maxHeartbeats 4000000

/-! ### lists of matrices: of one, of zeros -/
theorem RepP.dd {r : Rp} (h : RepP r) : (∀ n, 0 ≤ r.d.getD n 0 ∧ r.d.getD n 0 ≤ 4) ∧ r.d.length ≤ 5 := by
  obtain ⟨_, ⟨⟨hV, _⟩, hdV, hdi, _⟩, _⟩ := h
  refine ⟨fun n => ?_, by omega⟩
  rcases Nat.lt_or_ge n r.d.length with h1 | h1
  · exact hdi _ (List.mem_of_getElem? (getD_some (z := 0) h1))
  · rw [List.getD_eq_getElem?_getD, List.getElem?_eq_none h1]; exact ⟨by simp, by simp⟩
/-! ### the morphism of zeros -/
end Go.Proofs.YtdnhmnnccfoliaaGreatDoor

namespace Go.Proofs.YtdnhmnnccfoliaaGreatDoor
open Go.Lg Go.Proofs Go.RowKit
attribute [local irreducible] Code.wp wpList bodyPost Exit.then Exit.inBlock Hp Again Calls Y AT ResV QT Qn QI wpAny wpAnyQ
set_option maxRecDepth 20000
set_option maxHeartbeats 4000000

/-! ### whole spaces -/
theorem rows_ok {w : World} {R C : Nat} {f : Nat → Nat → Int} {u : Value} (hr : Rd w (iT (mk R C f)) u) (hR : R ≤ 64) (hC : C ≤ 64) : Does Tryz.prog 91 [.agg #[iV R, iV C, u]] w (GivesRows (rowL C f R)) := by
  obtain ⟨a, c, rfl, hs, hc⟩ := rd_mk hr
  refine fn_enter Tryz.func91 rfl Tryz.ntmps91 rfl ?_
  repeat' (first | (show oL; first | refine sMv rfl rfl ?_ | refine sAs rfl rfl ?_ | refine sFd tabs rfl rfl rfl rfl ?_ | refine sLd 0 tabs rfl rfl rfl rfl rfl ?_ | (show oA (.box _ _); refine m_box rfl rfl (fun b hb => ?_))) | refine xNt ?_ | (show oC; first | refine c_seq ?_ | refine c_region ?_ | refine c_block ?_))
  refine c_loopH (α := Nat × Option Addr × Nat) [1, 6] (fun q => [(3, .slice q.2.1 q.1 q.2.2), (7, .int .i64 q.1)]) (fun q => q.1 ≤ R) (fun q => [.own (rowsT 22 (rowL C f q.1)) (.slice q.2.1 q.1 q.2.2), .blk b #[iV R, iV C, .slice a (R * C) c] 41]) (fun q => R - q.1) (0, none, 0) rfl sB ?_ ?_ ?_
  · exact Nat.zero_le _
  · exact fun w' c' => Hp.nilp _ _ c'
  · rintro ⟨i, al, cl⟩ hi
    simp only at hi ⊢
    by_cases hiR : i < R
    · repeat' (first | (show oL; first | refine sMv rfl rfl ?_ | refine sAs rfl rfl ?_ | refine sLb 1 tabs rfl rfl rfl rfl rfl ?_ | (show oA (.binOp _ _ _ _ _); first | refine sAd rfl rfl om rfl ?_ | refine sLs rfl rfl rfl ?_) | (show oA (.call _); first | (refine m_call (ent_of Tryz.func154 kr rfl) rfl rfl (fun w c => rowg_ok om om hiR hc) ?_; rintro v H' ⟨rfl, rfl⟩) | (refine m_call (ent_of Tryz.func138 kr rfl) rfl rfl (fun w c => Clone_ok (row_rds (c.rd hr) hiR) (by rw [mkv_length]; omega)) ?_; rw [mkv_length]; rintro v H' ⟨az, cz, rfl, hsz, rfl⟩) | refine m_push1 [] 0 0 tabs (m' := i) rfl rfl rfl rfl rfl rfl rfl (by simp [rowT_map]) (by simp [rowT_map]; omega) (by decide) rfl rfl (fun a4 c4 => ?_)) | (show oA (.buildSlice _ _ _); refine m_build1 tabs (us := [.slice az C cz]) rfl rfl rfl rfl (by decide) rfl (fun g2 hg2 => ?_))) | (show oN; first | refine c_nil (x_then ?_) | refine c_nil ?_) | (show oC; first | refine c_seq ?_ | refine c_region ?_ | refine c_skip (x_then ?_) | refine c_block ?_ | refine c_ift rfl aO ?_) | (show AT _ _ _ _; first | refine x_then ?_ | refine x_blk ?_))
      refine x_nx (i + 1, a4, c4) sB (by simp only; omega) (fun w' c' => ?_) (by simp only; omega)
      have e0 : (rowL C f i).flatMap rowT ++ (List.map T.c [] ++ [iT (mkv C (f i))]) = (rowL C f (i + 1)).flatMap rowT := by rw [rowL_next, List.flatMap_append]; rfl
      rw [e0] at c'
      exact c'
    · have : i = R := by omega
      subst this
      refine AT.fact (rows_sl 0 rfl) (fun hsl => ?_)
      rw [rowL_length] at hsl
      repeat' (first | (show oL; first | refine sMv rfl rfl ?_ | refine sAs rfl rfl ?_ | refine sLs rfl rfl rfl ?_) | refine xNt ?_ | (show oC; first | refine c_seq ?_ | refine c_region ?_ | refine c_ret ?_ | refine c_exit ?_ | refine c_iff rfl nN ?_) | (show AT _ _ _ _; first | refine x_then ?_ | refine x_then_exit ?_ | refine x_blk_exit rfl ?_))
      exact x_ret1 Tryz.results91 (res_tmp rfl) (fun w' c' => ⟨_, _, rfl, ⟨al, cl, by rw [rowL_length], by rw [rowL_length]; exact hsl, by rw [rowL_length]⟩, c'.sub (.cons_cons _ (List.nil_sublist _))⟩)
end Go.Proofs.YtdnhmnnccfoliaaGreatDoor
