import Derived.Test.YtijjkfbkihgfgaaGreatHomqsu
import Derived.Test.YtijjkfbkihgfgaaGreatLEqsu
import Derived.Test.YtijjkfbkihgfgaaGreatLwsqsu
import Derived.Test.YtijjkfbkihgfgaaGreatPrdqsu
import Derived.Test.YtijjkfbkihgfgaaGreatRksqsu
namespace Go.Proofs.YtijjkfbkihgfgaaGreat
open Go.Lg Go.Proofs Go.RowKit
attribute [local irreducible] Code.wp wpList bodyPost Exit.then Exit.inBlock Hp Again Calls Y AT ResV QT Qn QI wpAny wpAnyQ
set_option maxRecDepth 20000
set_option maxHeartbeats 4000000

def flatL (ms : List Mat) : List Int := ms.flatMap (fun m => m.2.2)
theorem flatL_next {ms : List Mat} {i : Nat} {m : Mat} (h : ms[i]? = some m) : flatL (ms.take i) ++ m.2.2 = flatL (ms.take (i + 1)) := by
  rw [List.take_add_one, h]
  simp [flatL]
theorem flatL_le {ms : List Mat} {i : Nat} : (flatL (ms.take i)).length ≤ (flatL ms).length := by
  have e : flatL ms = flatL (ms.take i) ++ flatL (ms.drop i) := by rw [flatL, flatL, flatL, ← List.flatMap_append, List.take_append_drop]
  rw [e, List.length_append]; omega
theorem flat_ok {w : World} {ms : List Mat} {e : Nat} {v : Value} (hr : Rd w (matsT e ms) v) (hb : (flatL ms).length ≤ 100000) : Does Tryz.prog 209 [v] w (GivesIL (flatL ms)) := by
  obtain ⟨a3, c3, rfl, hs3, hc3, hd3, hg3⟩ := rd_mats hr
  unfold maxLen at hd3
  refine fn_enter Tryz.func209 rfl Tryz.ntmps209 rfl ?_
  repeat' (first | (show oL; first | refine sMv rfl rfl ?_ | refine sAs rfl rfl ?_ | refine sLn tabs rfl rfl rfl ?_) | refine xNt ?_ | (show oC; first | refine c_seq ?_ | refine c_region ?_ | refine c_block ?_))
  refine c_loopH (α := Nat × Option Addr × Nat) [6, 7] (fun s => [(3, .slice s.2.1 (flatL (ms.take s.1)).length s.2.2), (8, .int .i64 s.1)]) (fun s => s.1 ≤ ms.length) (fun s => [.own (iT (flatL (ms.take s.1))) (.slice s.2.1 (flatL (ms.take s.1)).length s.2.2)]) (fun s => ms.length - s.1) (0, none, 0) rfl sB ?_ ?_ ?_
  · exact Nat.zero_le _
  · exact fun w' c' => Hp.nilp _ _ c'
  · rintro ⟨i, al, cl⟩ hi
    simp only at hi ⊢
    have hle := flatL_le (ms := ms) (i := i)
    by_cases hin : i < ms.length
    · obtain ⟨m, hm⟩ : ∃ m, ms[i]? = some m := ⟨_, List.getElem?_eq_getElem hin⟩
      obtain ⟨a4, c4, g1, g2, g3, g4⟩ := hg3 i m hm
      have hn := flatL_next hm
      have hle2 := flatL_le (ms := ms) (i := i + 1)
      rw [← hn, List.length_append] at hle2
      repeat' (first | (show oL; first | refine sMv rfl rfl ?_ | refine sAs rfl rfl ?_ | refine sFd tabs rfl rfl rfl rfl ?_ | (show oA (.load _ _); first | refine st_y (y_load3 tabs rfl rfl (hc_w0 g1) (hc_w0 g2) (hc_w0 g3)) rfl ?_ | refine sLd 0 tabs rfl rfl rfl rfl rfl ?_) | (show oA (.indexAddr _ _ _); refine st_y (y_ixa tabs rfl rfl rfl hs3 om om) rfl ?_) | (show oA (.binOp _ _ _ _ _); first | refine sAd rfl rfl om rfl ?_ | refine sLs rfl rfl rfl ?_) | (show oA (.call _); refine m_appi 1 tabs (ys := m.2.2) rfl rfl rfl rfl rfl om (fun w' c' => rd_src (c'.rd g4)) (fun a6 c6 => ?_)) | (show oA (.store _ _ _); refine m_storeb 0 tabs rfl rfl rfl rfl rfl rfl rfl ?_) | (show oA (.alloc _); refine m_alloc tabs rfl rfl (fun b5 hb5 => ?_))) | (show oN; first | refine c_nil (x_then ?_) | refine c_nil ?_) | (show oC; first | refine c_seq ?_ | refine c_region ?_ | refine c_skip (x_then ?_) | refine c_block ?_ | refine c_ift rfl aO ?_) | (show AT _ _ _ _; first | refine x_then ?_ | refine x_blk ?_))
      refine x_nx (i + 1, a6, c6) (by rw [← hn, List.length_append]; exact sB) (by simp only; omega) (fun w' c' => ?_) (by simp only; omega)
      simp only [← hn, List.length_append]
      exact c'.sub (.cons_cons _ (List.nil_sublist _))
    · have : i = ms.length := by omega
      subst this
      rw [List.take_length]
      refine AT.fact (own_sl 0 rfl) (fun hsl => ?_)
      obtain ⟨a4, c4, e4, hs4⟩ := hsl
      cases e4
      repeat' (first | (show oL; first | refine sMv rfl rfl ?_ | refine sAs rfl rfl ?_ | refine sLs rfl rfl rfl ?_) | refine xNt ?_ | (show oC; first | refine c_seq ?_ | refine c_region ?_ | refine c_ret ?_ | refine c_exit ?_ | refine c_iff rfl nN ?_) | (show AT _ _ _ _; first | refine x_then ?_ | refine x_then_exit ?_ | refine x_blk_exit rfl ?_))
      exact x_ret1 Tryz.results209 (res_tmp rfl) (fun w' c' => ⟨_, _, rfl, ⟨_, _, rfl, hs4, rfl⟩, c'.sub (.cons_cons _ (List.nil_sublist _))⟩)
theorem it_part {xs : List Int} {lo n : Nat} : ((it xs).drop (lo * 1)).take (n * 1) = it ((xs.drop lo).take n) := by
  rw [Nat.mul_one, Nat.mul_one, it, it, List.map_take, List.map_drop]
theorem rd_part {w : World} {e m c lo hi : Nat} {xs : List Int} {a : Option Addr} (hr : Rd w (ints e xs) (.slice a m c)) (h1 : lo ≤ hi) (h2 : hi ≤ m) : Rd w (ints e ((xs.drop lo).take (hi - lo))) (.slice (subA a 1 lo c) (hi - lo) (c - lo)) := by
  have := Rd.part (lo := lo) (hi := hi) hr h1 h2
  rwa [it_part] at this
theorem rd_head {w : World} {e m c hi : Nat} {xs : List Int} {a : Option Addr} (hr : Rd w (ints e xs) (.slice a m c)) (h2 : hi ≤ m) : Rd w (ints e (xs.take hi)) (.slice (subA a 1 0 c) hi c) := by
  have := rd_part (lo := 0) (hi := hi) hr (Nat.zero_le _) h2
  simpa using this
theorem rd_rest {w : World} {e m c lo : Nat} {xs : List Int} {a : Option Addr} (hr : Rd w (ints e xs) (.slice a m c)) (hm : xs.length = m) (h2 : lo ≤ m) : Rd w (ints e (xs.drop lo)) (.slice (subA a 1 lo c) (m - lo) (c - lo)) := by
  have := rd_part (lo := lo) (hi := m) hr h2 (Nat.le_refl _)
  rwa [List.take_of_length_le (by rw [List.length_drop]; omega)] at this
theorem cut_next {da db x : List Int} {i : Nat} : (tabM (cutM da db x) i).flatMap matT ++ (List.map T.c [iV ((db.getD i 0).toNat : Nat), iV ((da.getD i 0).toNat : Nat)] ++ [iT ((x.drop (offN da db i)).take (szV da db i))]) = (tabM (cutM da db x) (i + 1)).flatMap matT := by
  have e1 : tabM (cutM da db x) (i + 1) = tabM (cutM da db x) i ++ [cutM da db x i] := by simp [tabM, List.range_succ]
  rw [e1, List.flatMap_append]; rfl
theorem shaped_ok {w : World} {da db x : List Int} {e : Nat} {ul ux : Value} (hl : Rd w (matsT e (znMs da db da.length)) ul) (hx : Rd w (iT x) ux) (hlen : x.length = offN da db da.length) (hb : x.length ≤ 1024) (hd : da.length ≤ 1000) :
    Does Tryz.prog 269 [ul, ux] w (GivesMs (cutL da db x)) := by
  obtain ⟨a1, c1, rfl, hs1, _, hd1, hg1⟩ := rd_mats hl
  obtain ⟨ax, cx, rfl, hsx, hcx, hdx, hgx⟩ := hx.ints
  have hzl : (znMs da db da.length).length = da.length := by simp [znMs]
  unfold maxLen at hd1 hdx
  rw [hzl] at hs1
  simp only [hzl]
  refine fn_enter Tryz.func269 rfl Tryz.ntmps269 rfl ?_
  repeat' (first | (show oL; first | refine sMv rfl rfl ?_ | refine sAs rfl rfl ?_ | refine sLn tabs rfl rfl rfl ?_) | refine xNt ?_ | (show oC; first | refine c_seq ?_ | refine c_region ?_ | refine c_block ?_))
  refine c_loopH (α := Nat × (Option Addr × Nat) × Option Addr × Nat) [9, 10] (fun s => [(1, .slice s.2.1.1 (x.length - offN da db s.1) s.2.1.2), (5, .slice s.2.2.1 s.1 s.2.2.2), (11, .int .i64 s.1)]) (fun s => s.1 ≤ da.length ∧ Rd w (iT (x.drop (offN da db s.1))) (.slice s.2.1.1 (x.length - offN da db s.1) s.2.1.2) ∧ x.length - offN da db s.1 ≤ s.2.1.2) (fun s => [.own (matsT 47 (tabM (cutM da db x) s.1)) (.slice s.2.2.1 s.1 s.2.2.2)]) (fun s => da.length - s.1) (0, (ax, cx), none, 0) rfl sB ?_ ?_ ?_
  · exact ⟨Nat.zero_le _, by simpa [offN] using hx, by simpa [offN] using hcx⟩
  · exact fun w' c' => Hp.nilp _ _ c'
  · rintro ⟨i, ⟨ad, cp⟩, al, cl⟩ ⟨hi, hri, hci⟩
    simp only at hi hri hci ⊢
    by_cases hin : i < da.length
    · have hm : (znMs da db da.length)[i]? = some (znM da db i) := by simp [znMs, hin]
      obtain ⟨a4, c4, g1, g2, g3, g4⟩ := hg1 i _ hm
      have hmo := offN_mono (da := da) (db := db) (u := i + 1) (v := da.length) hin
      rw [offN] at hmo
      have ez : (znM da db i).2.2.length = szV da db i := by rw [znM, mk_length, szV, Nat.mul_comm]
      rw [ez] at g3
      simp only [znM] at g1 g2
      have hpr := rd_head hri (hi := szV da db i) om
      have hrr := rd_rest hri (by rw [List.length_drop]) (lo := szV da db i) om
      rw [List.drop_drop] at hrr
      have hpl : ((x.drop (offN da db i)).take (szV da db i)).length = szV da db i := by rw [List.length_take, List.length_drop]; omega
      repeat' (first | (show oL; first | refine sAs rfl rfl ?_ | refine sFd tabs rfl rfl rfl rfl ?_ | (show oA (.load _ _); first | refine st_y (y_load3 tabs rfl rfl (hc_w0 g1) (hc_w0 g2) (hc_w0 g3)) rfl ?_ | refine sLd 0 tabs rfl rfl rfl rfl rfl ?_) | (show oA (.indexAddr _ _ _); refine st_y (y_ixa tabs rfl rfl rfl hs1 om om) rfl ?_) | refine sLs rfl rfl rfl ?_ | refine sLn tabs rfl rfl rfl ?_ | (show oA (.store _ _ _); refine m_storeb 0 tabs rfl rfl rfl rfl rfl rfl rfl ?_) | (show oA (.alloc _); refine m_alloc tabs rfl rfl (fun b5 hb5 => ?_))) | refine xNt ?_ | (show oC; first | refine c_seq ?_ | refine c_region ?_ | refine c_skip (x_then ?_) | refine c_block ?_ | refine c_ift rfl aO ?_))
      refine c_all (Hp [] w [.blk b5 #[iV ((db.getD i 0).toNat : Nat), iV ((da.getD i 0).toNat : Nat), .slice a4 (szV da db i) c4] 47]) kr (fun _ c => Hp.drew c) ?_
      refine h_take 0 rfl kr kr kr (by exact y_move rfl) rfl sS ?_
      refine h_take 1 rfl kr kr kr (by exact y_field tabs rfl rfl rfl) rfl sS ?_
      refine h_take 2 rfl kr kr kr (by exact y_load tabs rfl rfl (hc_blk 0 rfl rfl)) rfl sS ?_
      refine h_take 3 rfl kr kr kr (by exact y_field tabs rfl rfl rfl) rfl sS ?_
      refine h_take 4 rfl kr kr kr (by exact y_load tabs rfl rfl (hc_blk 0 rfl rfl)) rfl sS ?_
      refine h_take 5 rfl kr kr kr (by exact y_move rfl) rfl sS ?_
      refine h_take 6 rfl kr kr kr (by exact y_move rfl) rfl sS ?_
      refine h_take 7 rfl kr kr kr (by exact y_slh tabs (hi := szV da db i) rfl rfl rfl rfl om) rfl sS ?_
      refine h_only 8 rfl kr ?_
      first | (refine m_build1 tabs (us := [iV ((db.getD i 0).toNat : Nat), iV ((da.getD i 0).toNat : Nat), .slice a7 ((x.drop (offN da db i)).take (szV da db i)).length c7]) rfl rfl rfl rfl (by decide) rfl (fun g5 hg5 => ?_)) | (refine m_call (ent_of Tryz.func193 kr rfl) rfl rfl (fun w c => Clone_ok (c.rd hpr) om) ?_; rintro v H' ⟨a7, c7, rfl, hs7, rfl⟩) | (refine m_push1 [iV ((db.getD i 0).toNat : Nat), iV ((da.getD i 0).toNat : Nat)] 1 0 tabs (m' := i) rfl rfl rfl rfl rfl rfl rfl (by rw [flatMap_length matT_length, tabM_length]) (by rw [flatMap_length matT_length, tabM_length]; omega) (by decide) rfl rfl (fun a10 c10 => ?_))
      refine c_nil (x_one (h_keep sS ?_))
      refine h_take 9 rfl kr kr kr (by exact y_bld3 (bld_mat _ _ _ _ _) rfl rfl rfl) rfl sS ?_
      refine h_only 10 rfl kr ?_
      first | (refine m_build1 tabs (us := [iV ((db.getD i 0).toNat : Nat), iV ((da.getD i 0).toNat : Nat), .slice a7 ((x.drop (offN da db i)).take (szV da db i)).length c7]) rfl rfl rfl rfl (by decide) rfl (fun g5 hg5 => ?_)) | (refine m_call (ent_of Tryz.func193 kr rfl) rfl rfl (fun w c => Clone_ok (c.rd hpr) om) ?_; rintro v H' ⟨a7, c7, rfl, hs7, rfl⟩) | (refine m_push1 [iV ((db.getD i 0).toNat : Nat), iV ((da.getD i 0).toNat : Nat)] 1 0 tabs (m' := i) rfl rfl rfl rfl rfl rfl rfl (by rw [flatMap_length matT_length, tabM_length]) (by rw [flatMap_length matT_length, tabM_length]; omega) (by decide) rfl rfl (fun a10 c10 => ?_))
      refine c_nil (x_one (h_keep sS ?_))
      refine h_only 11 rfl kr ?_
      first | (refine m_build1 tabs (us := [iV ((db.getD i 0).toNat : Nat), iV ((da.getD i 0).toNat : Nat), .slice a7 ((x.drop (offN da db i)).take (szV da db i)).length c7]) rfl rfl rfl rfl (by decide) rfl (fun g5 hg5 => ?_)) | (refine m_call (ent_of Tryz.func193 kr rfl) rfl rfl (fun w c => Clone_ok (c.rd hpr) om) ?_; rintro v H' ⟨a7, c7, rfl, hs7, rfl⟩) | (refine m_push1 [iV ((db.getD i 0).toNat : Nat), iV ((da.getD i 0).toNat : Nat)] 1 0 tabs (m' := i) rfl rfl rfl rfl rfl rfl rfl (by rw [flatMap_length matT_length, tabM_length]) (by rw [flatMap_length matT_length, tabM_length]; omega) (by decide) rfl rfl (fun a10 c10 => ?_))
      refine c_nil (x_one (h_keep (fun w c => by exact c.drop) ?_))
      refine h_take 12 rfl kr kr kr (by exact y_assign rfl) rfl (fun w c => by exact c.drop) ?_
      refine h_end kr ?_
      repeat' (first | (show oL; first | refine sMv rfl rfl ?_ | refine sAs rfl rfl ?_ | refine sAd rfl rfl om rfl ?_ | (show oA (.slice _ _ _ _ _); refine st_y (y_slo tabs (lo := szV da db i) rfl rfl rfl rfl om) rfl ?_)) | (show oN; first | refine c_nil (x_then ?_) | refine c_nil ?_) | (show oC; refine c_region ?_) | (show AT _ _ _ _; first | refine x_then ?_ | refine x_blk ?_))
      refine x_nx (i + 1, (subA ad 1 (szV da db i) cp, cp - szV da db i), a10, c10) (by simp only [offN, ← Nat.sub_sub]; exact sB) ⟨by simp only; omega, by simp only [offN, ← Nat.sub_sub]; exact hrr, by simp only [offN]; omega⟩ (fun w' c' => ?_) (by simp only; omega)
      rw [cut_next] at c'
      exact c'.sub sL
    · have : i = da.length := by omega
      subst this
      refine AT.fact (mats_sl 0 rfl) (fun hsl => ?_)
      rw [tabM_length] at hsl
      repeat' (first | (show oL; first | refine sMv rfl rfl ?_ | refine sAs rfl rfl ?_ | refine sLs rfl rfl rfl ?_) | refine xNt ?_ | (show oC; first | refine c_seq ?_ | refine c_region ?_ | refine c_ret ?_ | refine c_exit ?_ | refine c_iff rfl nN ?_) | (show AT _ _ _ _; first | refine x_then ?_ | refine x_then_exit ?_ | refine x_blk_exit rfl ?_))
      exact x_ret1 Tryz.results269 (res_tmp rfl) (fun w' c' => ⟨_, _, rfl, ⟨al, cl, by rw [cutL, tabM_length], by rw [cutL, tabM_length]; exact hsl, by rw [cutL, tabM_length]⟩, c'.sub (.cons_cons _ (List.nil_sublist _))⟩)
end Go.Proofs.YtijjkfbkihgfgaaGreat
