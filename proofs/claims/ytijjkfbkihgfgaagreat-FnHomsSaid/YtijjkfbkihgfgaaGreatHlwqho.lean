import Derived.Test.YtijjkfbkihgfgaaGreatCmiqho
import Derived.Test.YtijjkfbkihgfgaaGreatCriqho
import Derived.Test.YtijjkfbkihgfgaaGreatEqmqho
import Derived.Test.YtijjkfbkihgfgaaGreatHfaqho
import Derived.Test.YtijjkfbkihgfgaaGreatLEqho
import Derived.Test.YtijjkfbkihgfgaaGreatMnbqho
namespace Go.Proofs.YtijjkfbkihgfgaaGreat
open Go.Lg Go.Proofs Go.RowKit
attribute [local irreducible] Code.wp wpList bodyPost Exit.then Exit.inBlock Hp Again Calls Y AT ResV QT Qn QI wpAny wpAnyQ
set_option maxRecDepth 20000
set_option maxHeartbeats 4000000

theorem eqm_sameL {w : World} {e e' : Nat} {ms : List Mat} {v u : Value} (hr : Rd w (matsT e ms) v) (hr' : Rd w (matsT e' ms) u) : Does Tryz.prog 40 [v, u] w (fun r H => r = .bool true ∧ H = []) := by
  have := spec_EqualMorphisms_ok w e e' ms ms v u hr hr'
  simpa using this
theorem sameMaps_same {w : World} {e e' f f' : Nat} {l : List (List Mat)} {v u : Value} (hr : Rd w (mssT e e' l) v) (hr' : Rd w (mssT f f' l) u) : Does Tryz.prog 88 [v, u] w (fun r H => r = .bool true ∧ H = []) := by
  obtain ⟨a, c, rfl, hs, hc1, hc2, hg⟩ := rd_mss hr
  obtain ⟨a', c', rfl, hs', _, _, hg'⟩ := rd_mss hr'
  unfold maxLen at hc2
  refine fn_enter Tryz.func88 rfl Tryz.ntmps88 rfl ?_
  repeat' (first | (show oL; first | refine sMv rfl rfl ?_ | refine sAs rfl rfl ?_ | (show oA (.binOp _ _ _ _ _); refine st_y (y_neq rfl rfl) rfl ?_) | refine sLn tabs rfl rfl rfl ?_) | refine xNt ?_ | (show oC; first | refine c_seq ?_ | refine c_region ?_ | refine c_skip (x_then ?_) | refine c_block ?_ | refine c_iff rfl nN ?_))
  refine c_loopH (α := Nat) [0, 1] (fun i => [(5, iV i)]) (fun i => i ≤ l.length) (fun i => []) (fun i => l.length - i) 0 rfl sB ?_ ?_ ?_
  · exact Nat.zero_le _
  · exact fun w' c' => c'
  · intro i hi
    by_cases hin : i < l.length
    · obtain ⟨ms, hm⟩ : ∃ ms, l[i]? = some ms := ⟨_, List.getElem?_eq_getElem hin⟩
      obtain ⟨a1, c1, p1, p2⟩ := hg i ms hm
      obtain ⟨a2, c2, q1, q2⟩ := hg' i ms hm
      repeat' (first | (show oL; first | refine sMv rfl rfl ?_ | refine sAs rfl rfl ?_ | (show oA (.binOp _ _ _ _ _); first | refine sAd rfl rfl om rfl ?_ | refine sLs rfl rfl rfl ?_) | refine sLn tabs rfl rfl rfl ?_) | refine xNt ?_ | (show oC; first | refine c_seq ?_ | refine c_region ?_ | refine c_skip (x_then ?_) | refine c_skip (x_blk ?_) | refine c_block ?_ | refine c_draw kr kr (fun _ c => Hp.drew c) ?_ | refine c_false rfl ?_ | refine c_ift rfl aO ?_) | (show QT _ _ _ _ _ _ (_ :: _); first | refine qMv rfl rfl ?_ | (show qA (.load _ _); first | refine q_y (y_load tabs rfl rfl (hc_w0 p1)) rfl ?_ | refine q_y (y_load tabs rfl rfl (hc_w0 q1)) rfl ?_) | (show qA (.indexAddr _ _ _); first | refine q_y (y_ix1 tabs (j := i) rfl rfl rfl hs rfl hin) rfl ?_ | refine q_y (y_ix1 tabs (j := i) rfl rfl rfl hs' rfl hin) rfl ?_) | (show qA (.unOp _ _ _); refine q_y (y_not rfl) rfl ?_) | (show qA (.call _); refine q_call (ent_of Tryz.func40 kr rfl) rfl rfl (fun w c => eqm_sameL (c.rd p2) (c.rd q2)) (fun u H' h => h.1) ?_)) | (show QT _ _ _ _ _ _ []; refine q_nil (x_then ?_)) | (show AT _ _ _ _; refine x_then ?_))
      exact x_nx (i + 1) sB om (fun w' c' => c') om
    · have : i = l.length := by omega
      subst this
      repeat' (first | (show oL; first | refine sMv rfl rfl ?_ | refine sAs rfl rfl ?_ | refine sLs rfl rfl rfl ?_ | refine sLn tabs rfl rfl rfl ?_) | refine xNt ?_ | (show oC; first | refine c_seq ?_ | refine c_region ?_ | refine c_ret ?_ | refine c_exit ?_ | refine c_iff rfl nN ?_) | (show AT _ _ _ _; first | refine x_then ?_ | refine x_then_exit ?_ | refine x_blk_exit rfl ?_))
      exact x_ret1 Tryz.results88 (res_tmp rfl) (fun w' c' => ⟨_, _, rfl, ⟨rfl, rfl⟩, c'⟩)
theorem codN_bd {p : Int} {v : List Int} (hp : 2 ≤ p ∧ p ≤ 5) (h : InP 0 (p - 1) v) : ∀ k, k ≤ v.length → 0 ≤ codN p v k ∧ codN p v k < powI p k
  | 0, _ => ⟨Int.le_refl _, by simp [codN, powI]⟩
  | k + 1, hk => by
    obtain ⟨h1, h2⟩ := codN_bd hp h k om
    have h3 := inP_get h (i := k) om
    have h4 := Int.mul_nonneg h1 (show 0 ≤ p by omega)
    have h5 : codN p v k * p ≤ (powI p k - 1) * p := Int.mul_le_mul_of_nonneg_right om om
    rw [Int.sub_mul] at h5
    simp only [codN, powI]
    omega
theorem powI5 {p : Int} (hp : 2 ≤ p ∧ p ≤ 5) : ∀ k, powI p k ≤ powI 5 k
  | 0 => Int.le_refl _
  | k + 1 => by
    have h1 := powI_pos (p := p) om k
    have h2 := powI5 hp k
    simp only [powI]
    exact Int.mul_le_mul h2 hp.2 om om
theorem CodeOf_ok {w : World} {p : Int} {v : List Int} {u : Value} (hr : Rd w (iT v) u) (hV : VecP p v) (h8 : v.length ≤ 8) : Does Tryz.prog 98 [iV p, u] w (fun r H => r = iV (codN p v v.length) ∧ H = []) := by
  have hr0 := hr
  obtain ⟨a, c, rfl, hs, _, _, hg⟩ := hr0.ints
  have hp := fieldP_pos hV.1
  have h8' : powI 5 8 = 390625 := by decide
  refine fn_enter Tryz.func98 rfl Tryz.ntmps98 rfl ?_
  repeat' (first | (show oL; first | refine sMv rfl rfl ?_ | refine sAs rfl rfl ?_ | (show oA (.binOp _ _ _ _ _); refine st_y (y_gtr rfl rfl) rfl ?_) | (show oA (.unOp _ _ _); refine st_y (y_not rfl) rfl ?_) | (show oA (.call _); first | (refine m_call (ent_of Tryz.func137 kr rfl) rfl rfl (fun w c => impl_IsVector_ok (xs := v) (c.rd hr)) ?_; rw [decide_eq_true hV]; rintro v H' ⟨rfl, rfl⟩) | refine sLn tabs rfl rfl rfl ?_) | (show oA (.pick _ _ _); refine st_y (y_pick rfl rfl rfl) rfl ?_) | refine st_gy rfl rfl ?_) | refine xNt ?_ | (show oC; first | refine c_seq ?_ | refine c_region ?_ | refine c_skip (x_then ?_) | refine c_block ?_ | refine c_iff rfl nN ?_))
  refine c_loopH (α := Nat) [0, 17, 18] (fun i => [(5, iV (codN p v i)), (19, iV i)]) (fun i => i ≤ v.length) (fun i => []) (fun i => v.length - i) 0 rfl sB ?_ ?_ ?_
  · exact Nat.zero_le _
  · exact fun w' c' => c'
  · intro i hi
    by_cases hin : i < v.length
    · obtain ⟨b1, b2⟩ := codN_bd hp hV.2.2 i hi
      have b3 := powI5 hp i
      have b4 := powI_mono (p := 5) (by decide) (show i ≤ 8 by omega)
      have b5 := inP_get hV.2.2 (i := i) hin
      have b6 : codN p v i * p ≤ 390625 * 5 := Int.mul_le_mul om hp.2 om om
      have b7 := Int.mul_nonneg b1 (show 0 ≤ p by omega)
      repeat' (first | (show oL; first | refine sMv rfl rfl ?_ | refine sAs rfl rfl ?_ | (show oA (.load _ _); refine st_y (y_load tabs rfl rfl (hc_w0 (hg i hin))) rfl ?_) | (show oA (.indexAddr _ _ _); refine st_y (y_ix1 tabs (j := i) rfl rfl rfl hs rfl hin) rfl ?_) | (show oA (.binOp _ _ _ _ _); first | refine st_y (y_mul rfl rfl om) rfl ?_ | refine sAd rfl rfl om rfl ?_ | refine sLs rfl rfl rfl ?_)) | (show oN; first | refine c_nil (x_then ?_) | refine c_nil ?_) | (show oC; first | refine c_seq ?_ | refine c_region ?_ | refine c_skip (x_then ?_) | refine c_block ?_ | refine c_ift rfl aO ?_) | (show AT _ _ _ _; first | refine x_then ?_ | refine x_blk ?_))
      exact x_nx (i + 1) sB om (fun w' c' => c') om
    · have : i = v.length := by omega
      subst this
      repeat' (first | (show oL; first | refine sMv rfl rfl ?_ | refine sAs rfl rfl ?_ | refine sLs rfl rfl rfl ?_) | refine xNt ?_ | (show oC; first | refine c_seq ?_ | refine c_region ?_ | refine c_ret ?_ | refine c_exit ?_ | refine c_iff rfl nN ?_) | (show AT _ _ _ _; first | refine x_then ?_ | refine x_then_exit ?_ | refine x_blk_exit rfl ?_))
      exact x_ret1 Tryz.results98 (res_tmp rfl) (fun w' c' => ⟨_, _, rfl, ⟨rfl, rfl⟩, c'⟩)
theorem mn_crd {a b : Rp} {c : Int} (h : mnP a b c) : MorP a b (mnL a b c) ∧ crV a b (mnL a b c) = mkv (homN a b) (digF a.p c (homN a b)) ∧ codN a.p (mkv (homN a b) (digF a.p c (homN a b))) (homN a b) = c ∧ VecP a.p (mkv (homN a b) (digF a.p c (homN a b))) := by
  have hF := h.fit
  have hp := fieldP_pos hF.1.1
  have e : mnL a b c = cutL a.d b.d (mkv (offN a.d b.d a.d.length) (cmS a.p (mkv (homB a b).length (digF a.p c (homB a b).length)) (homB a b) (homB a b).length)) := by
    rw [mnL, if_pos h, cmS_dig]
  have hin : ∀ q, 0 ≤ digF a.p c (homN a b) q ∧ digF a.p c (homN a b) q < a.p := fun q => by
    rw [digF]; exact ⟨Int.emod_nonneg _ om, Int.emod_lt_of_pos _ om⟩
  have hI : InP 0 (a.p - 1) (mkv (homN a b) (digF a.p c (homN a b))) := inP_mkv (fun i _ => hin i)
  have hM : MorP a b (mnL a b c) := by rw [e]; exact cb_mor hF
  have hlt : c < powI a.p (homN a b) := by
    have := h.2
    rw [coV, if_pos hF, cntN] at this
    split at this
    · exact this
    · have := h.1; omega
  refine ⟨hM, ?_, ?_, hF.1.1, by rw [mkv_length]; have := homN_le hF; omega, hI⟩
  · rw [crV, if_pos hM, e, hom_len hF]
    have := crd_cb hF (ks := mkv (homN a b) (digF a.p c (homN a b))) (by rw [mkv_length]) hI
    rw [hom_len hF] at this
    exact this
  · rw [cod_dig hp.1 h.1 hlt (homN a b) (Nat.le_refl _), Nat.sub_self]
    rfl
theorem cb_all {a b : Rp} {ms : List Mat} (h : MorP a b ms) : CmbP a b (homB a b) (crV a b ms) ∧ cbL a b (homB a b) (crV a b ms) = ms := by
  have hF := h.1.1
  have e : crV a b ms = crdL a b ms := by rw [crV, if_pos h]
  have hC : CmbP a b (homB a b) (crV a b ms) := by
    rw [e]
    exact ⟨hF, ⟨hF.1.1, by rw [crdL_length]; have := homN_le hF; omega, crd_in h.1⟩, by rw [crdL_length, hom_len hF], fun ⟨x, hx, hn⟩ => hn (hb_mor hx)⟩
  refine ⟨hC, ?_⟩
  rw [cbL, if_pos hC, e]
  exact cb_crd h
theorem hd_len {a b : Rp} (h : FitP a b) : hdV a b = ((homB a b).length : Int) := by rw [hdV, if_pos h, hom_len h]
end Go.Proofs.YtijjkfbkihgfgaaGreat
