import Derived.Test.YtijjkfbkihgfgaaGreatCopqho
import Derived.Test.YtijjkfbkihgfgaaGreatEqsqho
namespace Go.Proofs.YtijjkfbkihgfgaaGreat
open Go.Lg Go.Proofs Go.RowKit
theorem y_sln {P : Program} {n : Nat} {C : World → Prop} {s : List (Nat × Value)} {ty t : Nat} {x lo' : Operand} (T : Tabs P) {e k b m cap lo l : Nat} {z : List Value} {a : Option Addr} {p q : Int} {hi' : Operand} (ht : lk T.sl t = some (e, k, b, z)) (hx : ev s x = some (.slice a m cap)) (hl : ev s lo' = some (.int .i64 p)) (hh : ev s hi' = some (.int .i64 q)) (hp : p = (lo : Int)) (hq : q = ((lo + l : Nat) : Int)) (h2 : lo + l ≤ cap) :
    Y P n C s (.slice t x (some lo') (some hi') none) ty (.slice (subA a k lo cap) l (cap - lo)) := by
  have h := y_slb (P := P) (n := n) (C := C) (ty := ty) (lo := lo) (hi := lo + l) T ht hx hl hh hp hq om h2
  rwa [Nat.add_sub_cancel_left] at h
attribute [local irreducible] Code.wp wpList bodyPost Exit.then Exit.inBlock Hp Again Calls Y AT ResV QT Qn QI wpAny wpAnyQ
set_option maxRecDepth 20000
set_option maxHeartbeats 4000000

theorem l11Cells_ok {w : World} {a b : Rp} {xs : List Int} {u0 u1 u2 u3 v0 v1 v2 v3 ux : Value} (h2 : Rd w (iT a.d) u2) (k2 : Rd w (iT b.d) v2) (hX : Rd w (iT xs) ux) (hF : FitP a b) (hlen : xs.length = offN a.d b.d a.d.length) :
    Does Tryz.prog 203 [.agg #[iV a.p, iV a.q.1, u0, u1, u2, u3], .agg #[iV b.p, iV b.q.1, v0, v1, v2, v3], ux] w (GivesMs (cutL a.d b.d xs)) := by
  obtain ⟨a2, c2, rfl, hs2, q1, q2, hg2⟩ := h2.ints
  obtain ⟨d2, f2, rfl, hk2, q3, q4, hh2⟩ := k2.ints
  obtain ⟨ax, cx, rfl, hsx, hcx, q5, hgx⟩ := hX.ints
  have hdl := (RepP.dd hF.1).2
  have hol := off_le hF
  refine fn_enter Tryz.func203 rfl Tryz.ntmps203 rfl ?_
  repeat' (first | (show oL; first | refine sAs rfl rfl ?_ | (show oA (.box _ _); refine m_box rfl rfl (fun b4 hb4 => ?_)) | (show oA (.buildSlice _ _ _); refine m_build0 tabs rfl rfl (fun g hg => ?_))) | refine xNt ?_ | (show oC; first | refine c_seq ?_ | refine c_region ?_ | refine c_block ?_))
  rename_i b3 hb3
  refine c_loopH (α := Nat × Option Addr × Nat) [2, 3, 4] (fun s => [(7, .slice s.2.1 s.1 s.2.2), (8, iV (offN a.d b.d s.1)), (9, .int .i64 s.1)]) (fun s => s.1 ≤ a.d.length) (fun s => [.own (matsT 47 (tabM (cutM a.d b.d xs) s.1)) (.slice s.2.1 s.1 s.2.2), .blk b4 #[iV b.p, iV b.q.1, v0, v1, .slice d2 b.d.length f2, v3] 60, .blk b3 #[iV a.p, iV a.q.1, u0, u1, .slice a2 a.d.length c2, u3] 60]) (fun s => a.d.length - s.1) (0, some ⟨g, 0, none⟩, 0) rfl sB ?_ ?_ ?_
  · exact Nat.zero_le _
  · exact fun w' c' => c'
  · rintro ⟨i, al, cl⟩ hi
    simp only at hi ⊢
    by_cases hin : i < a.d.length
    · obtain ⟨z, x, ez, ex, hz, hx, hzx, hil, hnx, h32⟩ := off_at hF hin
      have gA := hg2 i hin
      rw [ez] at gA
      have gB := hh2 i hil
      rw [ex] at gB
      have hmo := offN_mono (da := a.d) (db := b.d) (u := i + 1) (v := a.d.length) hin
      have hzs : szV a.d b.d i = z * x := by rw [szV, ez, ex]; rfl
      have hcut : (tabM (cutM a.d b.d xs) i).flatMap matT ++ (List.map T.c [iV x, iV z] ++ [iT ((xs.drop (offN a.d b.d i)).take (z * x))]) = (tabM (cutM a.d b.d xs) (i + 1)).flatMap matT := by
        have h := cut_next (da := a.d) (db := b.d) (x := xs) (i := i)
        rw [ez, ex, hzs] at h
        exact h
      have hpl : ((xs.drop (offN a.d b.d i)).take (z * x)).length = z * x := by rw [List.length_take, List.length_drop]; omega
      have hpr := rd_part hX (lo := offN a.d b.d i) (hi := offN a.d b.d i + z * x) om om
      rw [Nat.add_sub_cancel_left] at hpr
      repeat' (first | (show oL; first | refine sMv rfl rfl ?_ | refine sFd tabs rfl rfl rfl rfl ?_ | refine sLd 2 tabs rfl rfl rfl rfl rfl ?_ | refine sLs rfl rfl rfl ?_ | refine sLn tabs rfl rfl rfl ?_) | refine xNt ?_ | (show oC; first | refine c_seq ?_ | refine c_region ?_ | refine c_skip (x_then ?_) | refine c_block ?_ | refine c_ift rfl aO ?_))
      (first | (show oC; refine c_draw kr kr (fun _ c => Hp.drew c) ?_))
      repeat' (first | (show oC; refine c_seq ?_) | (show QT _ _ _ _ _ _ (_ :: _); first | refine qMv rfl rfl ?_ | refine qAs rfl rfl ?_ | refine qFd tabs rfl rfl rfl rfl ?_ | (show qA (.load _ _); first | refine qLd 1 tabs rfl rfl rfl rfl rfl ?_ | refine qLd 2 tabs rfl rfl rfl rfl rfl ?_ | refine q_y (y_load tabs rfl rfl (hc_w0 gA)) rfl ?_ | refine q_y (y_load tabs rfl rfl (hc_w0 gB)) rfl ?_) | (show qA (.indexAddr _ _ _); first | refine q_y (y_ix1 tabs (j := i) rfl rfl rfl hs2 rfl hin) rfl ?_ | refine q_y (y_ix1 tabs (j := i) rfl rfl rfl hk2 rfl hil) rfl ?_) | (show qA (.binOp _ _ _ _ _); refine q_y (y_muln (a := z) (b := x) rfl rfl rfl rfl om) rfl ?_)) | (show QT _ _ _ _ _ _ []; refine q_nil (x_then ?_)))
      refine c_all (Hp [] w [.blk b4 #[iV b.p, iV b.q.1, v0, v1, .slice d2 b.d.length f2, v3] 60, .blk b3 #[iV a.p, iV a.q.1, u0, u1, .slice a2 a.d.length c2, u3] 60]) kr (fun _ c => Hp.drew c) ?_
      refine h_take 0 rfl kr kr kr (by exact y_move rfl) rfl (fun w c => by exact c.drop) ?_
      refine h_take 1 rfl kr kr kr (by exact y_field tabs rfl rfl rfl) rfl (fun w c => by exact c.drop) ?_
      refine h_take 2 rfl kr kr kr (by exact y_load tabs rfl rfl (hc_blk 0 rfl rfl)) rfl (fun w c => by exact c.drop) ?_
      refine h_take 3 rfl kr kr kr (by exact y_move rfl) rfl (fun w c => by exact c.drop) ?_
      refine h_take 4 rfl kr kr kr (by exact y_ix1 tabs (j := i) rfl rfl rfl hk2 rfl hil) rfl (fun w c => by exact c.drop) ?_
      refine h_take 5 rfl kr kr kr (by exact y_load tabs rfl rfl (hc_w0 gB)) rfl (fun w c => by exact c.drop) ?_
      refine h_take 6 rfl kr kr kr (by exact y_field tabs rfl rfl rfl) rfl (fun w c => by exact c.drop) ?_
      refine h_take 7 rfl kr kr kr (by exact y_load tabs rfl rfl (hc_blk 1 rfl rfl)) rfl (fun w c => by exact c.drop) ?_
      refine h_take 8 rfl kr kr kr (by exact y_move rfl) rfl (fun w c => by exact c.drop) ?_
      refine h_take 9 rfl kr kr kr (by exact y_ix1 tabs (j := i) rfl rfl rfl hs2 rfl hin) rfl (fun w c => by exact c.drop) ?_
      refine h_take 10 rfl kr kr kr (by exact y_load tabs rfl rfl (hc_w0 gA)) rfl (fun w c => by exact c.drop) ?_
      refine h_take 12 rfl kr kr kr (by exact y_move rfl) rfl (fun w c => by exact c.drop) ?_
      refine h_take 13 rfl kr kr kr (by exact y_move rfl) rfl (fun w c => by exact c.drop) ?_
      refine h_take 14 rfl kr kr kr (by exact y_move rfl) rfl (fun w c => by exact c.drop) ?_
      refine h_take 15 rfl kr kr kr (by exact y_move rfl) rfl (fun w c => by exact c.drop) ?_
      refine h_take 16 rfl kr kr kr (by exact y_addn (b := z * x) rfl rfl rfl rfl om) rfl (fun w c => by exact c.drop) ?_
      refine h_take 17 rfl kr kr kr (by exact y_sln tabs (lo := offN a.d b.d i) (l := z * x) rfl rfl rfl rfl rfl rfl om) rfl (fun w c => by exact c.drop) ?_
      refine h_only 11 rfl kr ?_
      first | (refine m_build1 tabs (us := [iV x, iV z, .slice a7 (([] : List Int).length + ((xs.drop (offN a.d b.d i)).take (z * x)).length) c7]) rfl rfl rfl rfl (by decide) rfl (fun g5 hg5 => ?_)) | (refine m_build0 tabs rfl rfl (fun g hg => ?_)) | (refine m_appi 0 tabs (xs := []) (ys := (xs.drop (offN a.d b.d i)).take (z * x)) rfl rfl rfl (by rw [hpl]; exact rfl) rfl (by rw [hpl]; simp; omega) (fun w c => rd_src (by rw [hpl]; exact c.rd hpr)) (fun a7 c7 => ?_)) | (refine m_push1 [iV x, iV z] 0 0 tabs (m' := i) rfl rfl rfl rfl rfl rfl rfl (by rw [flatMap_length matT_length, tabM_length]) (by rw [flatMap_length matT_length, tabM_length]; omega) (by decide) rfl rfl (fun a10 c10 => ?_))
      refine c_nil (x_one (h_keep (fun w c => by exact c.drop.drop) ?_))
      refine h_only 18 rfl kr ?_
      first | (refine m_build1 tabs (us := [iV x, iV z, .slice a7 (([] : List Int).length + ((xs.drop (offN a.d b.d i)).take (z * x)).length) c7]) rfl rfl rfl rfl (by decide) rfl (fun g5 hg5 => ?_)) | (refine m_build0 tabs rfl rfl (fun g hg => ?_)) | (refine m_appi 0 tabs (xs := []) (ys := (xs.drop (offN a.d b.d i)).take (z * x)) rfl rfl rfl (by rw [hpl]; exact rfl) rfl (by rw [hpl]; simp; omega) (fun w c => rd_src (by rw [hpl]; exact c.rd hpr)) (fun a7 c7 => ?_)) | (refine m_push1 [iV x, iV z] 0 0 tabs (m' := i) rfl rfl rfl rfl rfl rfl rfl (by rw [flatMap_length matT_length, tabM_length]) (by rw [flatMap_length matT_length, tabM_length]; omega) (by decide) rfl rfl (fun a10 c10 => ?_))
      refine c_nil (x_one (h_keep (fun w c => by exact c.drop.drop) ?_))
      refine h_take 19 rfl kr kr kr (by exact y_bld3 (bld_mat _ _ _ _ _) rfl rfl rfl) rfl (fun w c => by exact c.drop.drop) ?_
      refine h_only 20 rfl kr ?_
      first | (refine m_build1 tabs (us := [iV x, iV z, .slice a7 (([] : List Int).length + ((xs.drop (offN a.d b.d i)).take (z * x)).length) c7]) rfl rfl rfl rfl (by decide) rfl (fun g5 hg5 => ?_)) | (refine m_build0 tabs rfl rfl (fun g hg => ?_)) | (refine m_appi 0 tabs (xs := []) (ys := (xs.drop (offN a.d b.d i)).take (z * x)) rfl rfl rfl (by rw [hpl]; exact rfl) rfl (by rw [hpl]; simp; omega) (fun w c => rd_src (by rw [hpl]; exact c.rd hpr)) (fun a7 c7 => ?_)) | (refine m_push1 [iV x, iV z] 0 0 tabs (m' := i) rfl rfl rfl rfl rfl rfl rfl (by rw [flatMap_length matT_length, tabM_length]) (by rw [flatMap_length matT_length, tabM_length]; omega) (by decide) rfl rfl (fun a10 c10 => ?_))
      refine c_nil (x_one (h_keep sS ?_))
      refine h_only 21 rfl kr ?_
      first | (refine m_build1 tabs (us := [iV x, iV z, .slice a7 (([] : List Int).length + ((xs.drop (offN a.d b.d i)).take (z * x)).length) c7]) rfl rfl rfl rfl (by decide) rfl (fun g5 hg5 => ?_)) | (refine m_build0 tabs rfl rfl (fun g hg => ?_)) | (refine m_appi 0 tabs (xs := []) (ys := (xs.drop (offN a.d b.d i)).take (z * x)) rfl rfl rfl (by rw [hpl]; exact rfl) rfl (by rw [hpl]; simp; omega) (fun w c => rd_src (by rw [hpl]; exact c.rd hpr)) (fun a7 c7 => ?_)) | (refine m_push1 [iV x, iV z] 0 0 tabs (m' := i) rfl rfl rfl rfl rfl rfl rfl (by rw [flatMap_length matT_length, tabM_length]) (by rw [flatMap_length matT_length, tabM_length]; omega) (by decide) rfl rfl (fun a10 c10 => ?_))
      refine c_nil (x_one (h_keep (fun w c => by exact c.drop) ?_))
      refine h_take 22 rfl kr kr kr (by exact y_assign rfl) rfl (fun w c => by exact c.drop) ?_
      refine h_end kr ?_
      repeat' (first | (show oL; first | refine sMv rfl rfl ?_ | refine sAs rfl rfl ?_ | (show oA (.binOp _ _ _ _ _); first | refine st_y (y_addn (b := z * x) rfl rfl rfl rfl om) rfl ?_ | refine sAd rfl rfl om rfl ?_)) | (show oN; first | refine c_nil (x_then ?_) | refine c_nil ?_) | (show oC; refine c_region ?_) | (show AT _ _ _ _; first | refine x_then ?_ | refine x_blk ?_))
      refine x_nx (i + 1, a10, c10) (by simp only [hnx]; exact sB) (by simp only; omega) (fun w' c' => ?_) (by simp only; omega)
      simp only [List.nil_append] at c'
      rw [hcut] at c'
      exact c'
    · have : i = a.d.length := by omega
      subst this
      refine AT.fact (mats_sl 0 rfl) (fun hsl => ?_)
      rw [tabM_length] at hsl
      repeat' (first | (show oL; first | refine sMv rfl rfl ?_ | refine sAs rfl rfl ?_ | refine sFd tabs rfl rfl rfl rfl ?_ | refine sLd 2 tabs rfl rfl rfl rfl rfl ?_ | refine sLs rfl rfl rfl ?_ | refine sLn tabs rfl rfl rfl ?_) | refine xNt ?_ | (show oC; first | refine c_seq ?_ | refine c_region ?_ | refine c_ret ?_ | refine c_exit ?_ | refine c_iff rfl nN ?_) | (show AT _ _ _ _; first | refine x_then ?_ | refine x_then_exit ?_ | refine x_blk_exit rfl ?_))
      exact x_ret1 Tryz.results203 (res_tmp rfl) (fun w' c' => ⟨_, _, rfl, ⟨al, cl, by rw [cutL, tabM_length], by rw [cutL, tabM_length]; exact hsl, by rw [cutL, tabM_length]⟩, c'.sub (.cons_cons _ (List.nil_sublist _))⟩)
end Go.Proofs.YtijjkfbkihgfgaaGreat

namespace Go.Proofs.YtijjkfbkihgfgaaGreat
open Go.Lg Go.Proofs Go.RowKit
attribute [local irreducible] Code.wp wpList bodyPost Exit.then Exit.inBlock Hp Again Calls Y AT ResV QT Qn QI wpAny wpAnyQ
set_option maxRecDepth 20000
set_option maxHeartbeats 4000000

theorem l11Flat_ok {w : World} {ms : List Mat} {e : Nat} {v : Value} (hr : Rd w (matsT e ms) v) (hb : (flatL ms).length ≤ 100000) : Does Tryz.prog 210 [v] w (GivesIL (flatL ms)) := by
  obtain ⟨a3, c3, rfl, hs3, hc3, hd3, hg3⟩ := rd_mats hr
  unfold maxLen at hd3
  refine fn_enter Tryz.func210 rfl Tryz.ntmps210 rfl ?_
  repeat' (first | (show oL; first | refine sAs rfl rfl ?_ | (show oA (.buildSlice _ _ _); refine m_build0 tabs rfl rfl (fun g hg => ?_))) | refine xNt ?_ | (show oC; first | refine c_seq ?_ | refine c_region ?_ | refine c_block ?_))
  refine c_loopH (α := Nat × Option Addr × Nat) [0] (fun s => [(3, .slice s.2.1 (flatL (ms.take s.1)).length s.2.2), (4, .int .i64 s.1)]) (fun s => s.1 ≤ ms.length) (fun s => [.own (iT (flatL (ms.take s.1))) (.slice s.2.1 (flatL (ms.take s.1)).length s.2.2)]) (fun s => ms.length - s.1) (0, some ⟨g, 0, none⟩, 0) rfl sB ?_ ?_ ?_
  · exact Nat.zero_le _
  · exact fun w' c' => c'
  · rintro ⟨i, al, cl⟩ hi
    simp only at hi ⊢
    have hle := flatL_le (ms := ms) (i := i)
    by_cases hin : i < ms.length
    · obtain ⟨m, hm⟩ : ∃ m, ms[i]? = some m := ⟨_, List.getElem?_eq_getElem hin⟩
      obtain ⟨a4, c4, g1, g2, g3, g4⟩ := hg3 i m hm
      have hn := flatL_next hm
      have hle2 := flatL_le (ms := ms) (i := i + 1)
      rw [← hn, List.length_append] at hle2
      repeat' (first | (show oL; first | refine sMv rfl rfl ?_ | refine sAs rfl rfl ?_ | refine sFd tabs rfl rfl rfl rfl ?_ | (show oA (.load _ _); refine st_y (y_load tabs rfl rfl (hc_w0 g3)) rfl ?_) | (show oA (.indexAddr _ _ _); refine st_y (y_ixa tabs rfl rfl rfl hs3 om om) rfl ?_) | (show oA (.binOp _ _ _ _ _); first | refine sAd rfl rfl om rfl ?_ | refine sLs rfl rfl rfl ?_) | (show oA (.call _); first | refine m_appi 0 tabs (ys := m.2.2) rfl rfl rfl rfl rfl om (fun w' c' => rd_src (c'.rd g4)) (fun a6 c6 => ?_) | refine sLn tabs rfl rfl rfl ?_)) | (show oN; first | refine c_nil (x_then ?_) | refine c_nil ?_) | (show oC; first | refine c_seq ?_ | refine c_region ?_ | refine c_skip (x_then ?_) | refine c_block ?_ | refine c_ift rfl aO ?_) | (show AT _ _ _ _; first | refine x_then ?_ | refine x_blk ?_))
      refine x_nx (i + 1, a6, c6) (by rw [← hn, List.length_append]; exact sB) (by simp only; omega) (fun w' c' => ?_) (by simp only; omega)
      simp only [← hn, List.length_append]
      exact c'
    · have : i = ms.length := by omega
      subst this
      rw [List.take_length]
      refine AT.fact (own_sl 0 rfl) (fun hsl => ?_)
      obtain ⟨a4, c4, e4, hs4⟩ := hsl
      cases e4
      repeat' (first | (show oL; first | refine sMv rfl rfl ?_ | refine sAs rfl rfl ?_ | refine sLs rfl rfl rfl ?_ | refine sLn tabs rfl rfl rfl ?_) | refine xNt ?_ | (show oC; first | refine c_seq ?_ | refine c_region ?_ | refine c_ret ?_ | refine c_exit ?_ | refine c_iff rfl nN ?_) | (show AT _ _ _ _; first | refine x_then ?_ | refine x_then_exit ?_ | refine x_blk_exit rfl ?_))
      exact x_ret1 Tryz.results210 (res_tmp rfl) (fun w' c' => ⟨_, _, rfl, ⟨_, _, rfl, hs4, rfl⟩, c'.sub (.cons_cons _ (List.nil_sublist _))⟩)
def cdT (p c : Int) : Nat → Int
  | 0 => c
  | t + 1 => cdT p c t / p
theorem cdT_pos {p c : Int} (hp : 2 ≤ p) (hc : 0 ≤ c) : ∀ t, 0 ≤ cdT p c t ∧ cdT p c t ≤ c
  | 0 => ⟨hc, Int.le_refl _⟩
  | t + 1 => by
    have h := cdT_pos hp hc t
    have h1 : 0 ≤ cdT p c t / p := Int.ediv_nonneg h.1 om
    have h2 : cdT p c t / p ≤ cdT p c t := Int.ediv_le_self _ h.1
    rw [cdT]; omega
def digF (p c : Int) (n : Nat) : Nat → Int := fun q => cdT p c (n - 1 - q) % p
def digT (p c : Int) (n t : Nat) : Nat → Int := fun q => if n - t ≤ q then digF p c n q else 0
theorem digT_next {p c : Int} {n t : Nat} (h : t < n) : (mkv n (digT p c n t)).set (n - 1 - t) (cdT p c t % p) = mkv n (digT p c n (t + 1)) := by
  rw [mkv_set]
  refine mkv_ext (fun q hq => ?_)
  by_cases e : q = n - 1 - t
  · rw [if_pos e, digT, if_pos om, digF, show n - 1 - q = t by omega]
  · rw [if_neg e, digT, digT]
    by_cases h2 : n - t ≤ q
    · rw [if_pos h2, if_pos om]
    · rw [if_neg h2, if_neg om]
theorem vectorOf_ok {w : World} {p c : Int} {n : Nat} (hF : FieldP p) (hn : n ≤ 1000) (hc : 0 ≤ c ∧ c ≤ 1000000) : Does Tryz.prog 275 [iV p, iV n, iV c] w (GivesIL (mkv n (digF p c n))) := by
  have hp := fieldP_pos hF
  refine fn_enter Tryz.func275 rfl Tryz.ntmps275 rfl ?_
  repeat' (first | (show oL; first | refine sMv rfl rfl ?_ | refine sAs rfl rfl ?_ | (show oA (.binOp _ _ _ _ _); refine st_y (y_sub rfl rfl om) rfl ?_) | (show oA (.makeSlice _ _ _); refine m_maken tabs (m := n) rfl rfl rfl rfl om rfl (fun gg hgg => ?_))) | refine xNt ?_ | (show oC; first | refine c_seq ?_ | refine c_region ?_ | refine c_block ?_))
  refine c_loopH (α := Nat) [0, 7] (fun t => [(2, iV (cdT p c t)), (8, iV ((n : Int) - 1 - t))]) (fun t => t ≤ n) (fun t => [.own (iT (mkv n (digT p c n t))) (.slice (some ⟨gg, 0, none⟩) n n)]) (fun t => n - t) 0 rfl sB ?_ ?_ ?_
  · exact Nat.zero_le _
  · intro w' c'
    have e0 : List.replicate n (0 : Int) = mkv n (digT p c n 0) := by
      rw [mkv_zero]
      exact mkv_ext (fun q hq => by rw [digT, if_neg om])
    rw [e0] at c'
    exact c'
  · rintro t ht
    have hd := cdT_pos (p := p) (c := c) hp.1 hc.1 t
    by_cases htn : t < n
    · have e1 : (cdT p c t).tmod p = cdT p c t % p := Int.tmod_eq_emod_of_nonneg hd.1
      have e2 : (cdT p c t).tdiv p = cdT p c t / p := Int.tdiv_eq_ediv_of_nonneg hd.1
      have h1 : 0 ≤ cdT p c t / p := Int.ediv_nonneg hd.1 om
      have h2 : cdT p c t / p ≤ cdT p c t := Int.ediv_le_self _ hd.1
      have e3 : IntKind.i64.wrap ((cdT p c t).tdiv p) = cdT p c t / p := by
        rw [e2, IntKind.wrap_i64]; omega
      repeat' (first | (show oL; first | refine sMv rfl rfl ?_ | refine sAs rfl rfl ?_ | (show oA (.indexAddr _ _ _); refine st_y (y_ix1 tabs (j := n - 1 - t) rfl rfl rfl .mk om om) rfl ?_) | (show oA (.binOp _ _ _ _ _); first | refine st_y (y_rem rfl rfl om) rfl ?_ | refine st_y (y_quo rfl rfl om) rfl ?_ | refine st_y (y_sub rfl rfl om) rfl ?_ | refine st_y (y_geq rfl rfl) rfl ?_) | (show oA (.store _ _ _); refine m_storeo 0 tabs rfl rfl rfl rfl (by rw [mkv_length]; omega) ?_)) | (show oN; first | refine c_nil (x_then ?_) | refine c_nil ?_) | (show oC; first | refine c_seq ?_ | refine c_region ?_ | refine c_skip (x_then ?_) | refine c_block ?_ | refine c_ift rfl aO ?_) | (show AT _ _ _ _; first | refine x_then ?_ | refine x_blk ?_))
      refine x_nx (t + 1) (by rw [show cdT p c (t + 1) = IntKind.i64.wrap ((cdT p c t).tdiv p) from e3.symm, show ((n : Int) - 1 - ((t + 1 : Nat) : Int)) = (n : Int) - 1 - t - 1 by omega]; exact sB) om (fun w' c' => ?_) om
      simp only [List.set_cons_zero] at c'
      rw [e1, digT_next htn] at c'
      exact c'
    · have : t = n := by omega
      subst this
      repeat' (first | (show oL; first | refine sMv rfl rfl ?_ | refine sAs rfl rfl ?_ | (show oA (.binOp _ _ _ _ _); refine st_y (y_geq rfl rfl) rfl ?_)) | refine xNt ?_ | (show oC; first | refine c_seq ?_ | refine c_region ?_ | refine c_ret ?_ | refine c_exit ?_ | refine c_iff rfl nN ?_) | (show AT _ _ _ _; first | refine x_then ?_ | refine x_then_exit ?_ | refine x_blk_exit rfl ?_))
      have e4 : mkv t (digT p c t t) = mkv t (digF p c t) := mkv_ext (fun q hq => by rw [digT, if_pos om])
      rw [e4]
      exact x_ret1 Tryz.results275 (res_tmp rfl) (fun w' c' => ⟨_, _, rfl, ⟨some ⟨gg, 0, none⟩, t, by rw [mkv_length], by rw [mkv_length]; exact .mk, by rw [mkv_length]⟩, c'.sub (.cons_cons _ (List.nil_sublist _))⟩)
end Go.Proofs.YtijjkfbkihgfgaaGreat
