import Derived.Test.YtfhgpkdhhclpbaaCopqco
import Derived.Test.YtfhgpkdhhclpbaaEqsqco
namespace Go.Proofs.Ytfhgpkdhhclpbaa
open Go.Lg Go.Proofs Go.RowKit
theorem y_sln {P : Program} {n : Nat} {C : World → Prop} {s : List (Nat × Value)} {ty t : Nat} {x lo' : Operand} (T : Tabs P) {e k b m cap lo l : Nat} {z : List Value} {a : Option Addr} {p q : Int} {hi' : Operand} (ht : lk T.sl t = some (e, k, b, z)) (hx : ev s x = some (.slice a m cap)) (hl : ev s lo' = some (.int .i64 p)) (hh : ev s hi' = some (.int .i64 q)) (hp : p = (lo : Int)) (hq : q = ((lo + l : Nat) : Int)) (h2 : lo + l ≤ cap) :
    Y P n C s (.slice t x (some lo') (some hi') none) ty (.slice (subA a k lo cap) l (cap - lo)) := by
  have h := y_slb (P := P) (n := n) (C := C) (ty := ty) (lo := lo) (hi := lo + l) T ht hx hl hh hp hq (by omega) h2
  rwa [Nat.add_sub_cancel_left] at h
attribute [local irreducible] Code.wp wpList bodyPost Exit.then Exit.inBlock Hp Again Calls Y AT ResV QT Qn QI wpAny wpAnyQ
set_option maxRecDepth 20000
set_option maxHeartbeats 4000000

/-! ### cells cut into matrices, by the reference -/
theorem l11Cells_ok {w : World} {a b : Rp} {xs : List Int} {u0 u1 u2 u3 v0 v1 v2 v3 ux : Value} (h2 : Rd w (iT a.d) u2) (k2 : Rd w (iT b.d) v2) (hX : Rd w (iT xs) ux) (hF : FitP a b) (hlen : xs.length = offN a.d b.d a.d.length) :
    Does Try.prog 99 [.agg #[iV a.p, iV a.q.1, u0, u1, u2, u3], .agg #[iV b.p, iV b.q.1, v0, v1, v2, v3], ux] w (GivesMs (cutL a.d b.d xs)) := by
  obtain ⟨a2, c2, rfl, hs2, q1, q2, hg2⟩ := h2.ints
  obtain ⟨d2, f2, rfl, hk2, q3, q4, hh2⟩ := k2.ints
  obtain ⟨ax, cx, rfl, hsx, hcx, q5, hgx⟩ := hX.ints
  have hdl := (RepP.dd hF.1).2
  have hol := off_le hF
  refine fn_enter Try.func99 rfl Try.ntmps99 rfl ?_
  repeat' (first
    | (show AT _ _ _ (wpList _ _ _ (_ :: _)); first
       | (show AT _ _ _ (wpList _ _ _ (⟨_, Op.assign _, _, _, _, _⟩ :: _)); refine st_y (y_assign rfl) rfl ?_)
       | (show AT _ _ _ (wpList _ _ _ (⟨_, Op.box _ _, _, _, _, _⟩ :: _)); refine m_box rfl rfl (fun b4 hb4 => ?_))
       | (show AT _ _ _ (wpList _ _ _ (⟨_, Op.buildSlice _ _ _, _, _, _, _⟩ :: _)); refine m_build0 tabs rfl rfl (fun g hg => ?_)))
    | (show AT _ _ _ (wpList _ _ _ []); refine c_nil (x_then ?_))
    | (show AT _ _ _ (Code.wp _ _ _); first | refine c_seq ?_ | refine c_region ?_ | refine c_block ?_))
  rename_i b3 hb3
  refine c_loopH (α := Nat × Option Addr × Nat) [2, 3, 4] (fun s => [(7, .slice s.2.1 s.1 s.2.2), (8, iV (offN a.d b.d s.1)), (9, .int .i64 s.1)]) (fun s => s.1 ≤ a.d.length) (fun s => [.own (matsT 81 (tabM (cutM a.d b.d xs) s.1)) (.slice s.2.1 s.1 s.2.2), .blk b4 #[iV b.p, iV b.q.1, v0, v1, .slice d2 b.d.length f2, v3] 35, .blk b3 #[iV a.p, iV a.q.1, u0, u1, .slice a2 a.d.length c2, u3] 35]) (fun s => a.d.length - s.1) (0, some ⟨g, 0, none⟩, 0) rfl (by repeat' (first | exact Sub.nil | refine Sub.cons rfl ?_ | refine Sub.consi rfl (by omega) ?_)) ?_ ?_ ?_
  · exact Nat.zero_le _
  · exact fun w' c' => c'
  · rintro ⟨i, al, cl⟩ hi
    simp only at hi ⊢
    by_cases hin : i < a.d.length
    · obtain ⟨z, x, ez, ex, hz, hx, hzx, hil, hnx, h32⟩ := off_at hF hin
      have gA := hg2 i hin
      rw [ez] at gA
      have gB := hh2 i hil
      rw [ex] at gB
      have hmo := offN_mono (da := a.d) (db := b.d) (u := i + 1) (v := a.d.length) hin
      have hzs : szV a.d b.d i = z * x := by rw [szV, ez, ex]; rfl
      have hcut : (tabM (cutM a.d b.d xs) i).flatMap matT ++ (List.map T.c [iV x, iV z] ++ [iT ((xs.drop (offN a.d b.d i)).take (z * x))]) = (tabM (cutM a.d b.d xs) (i + 1)).flatMap matT := by
        have h := cut_next (da := a.d) (db := b.d) (x := xs) (i := i)
        rw [ez, ex, hzs] at h
        exact h
      have hpl : ((xs.drop (offN a.d b.d i)).take (z * x)).length = z * x := by rw [List.length_take, List.length_drop]; omega
      have hpr := rd_part hX (lo := offN a.d b.d i) (hi := offN a.d b.d i + z * x) (by omega) (by omega)
      rw [Nat.add_sub_cancel_left] at hpr
      repeat' (first
        | (show AT _ _ _ (wpList _ _ _ (_ :: _)); first
           | (show AT _ _ _ (wpList _ _ _ (⟨_, Op.move _, _, _, _, _⟩ :: _)); refine st_y (y_move rfl) rfl ?_)
           | (show AT _ _ _ (wpList _ _ _ (⟨_, Op.fieldAddr _ _ _, _, _, _, _⟩ :: _)); refine st_y (y_field tabs rfl rfl rfl) rfl ?_)
           | (show AT _ _ _ (wpList _ _ _ (⟨_, Op.load _ _, _, _, _, _⟩ :: _)); refine st_y (y_load tabs rfl rfl (hc_blk 2 rfl rfl)) rfl ?_)
           | (show AT _ _ _ (wpList _ _ _ (⟨_, Op.binOp _ _ _ _ _, _, _, _, _⟩ :: _)); refine st_y (y_lss rfl rfl) rfl ?_)
           | (show AT _ _ _ (wpList _ _ _ (⟨_, Op.call _, _, _, _, _⟩ :: _)); refine st_y (y_len tabs rfl rfl) rfl ?_))
        | (show AT _ _ _ (wpList _ _ _ []); refine c_nil (x_then ?_))
        | (show AT _ _ _ (Code.wp _ _ _); first | refine c_seq ?_ | refine c_region ?_ | refine c_skip (x_then ?_) | refine c_block ?_ | refine c_ift rfl (by first | assumption | omega) ?_))
      (first
        | (show AT _ _ _ (Code.wp _ _ _); refine c_draw (by kernel_rfl) (by kernel_rfl) (fun _ c => Hp.drew c) ?_))
      repeat' (first
        | (show AT _ _ _ (Code.wp _ _ _); refine c_seq ?_)
        | (show QT _ _ _ _ _ _ (_ :: _); first
           | (show QT _ _ _ _ _ _ (⟨_, Op.move _, _, _, _, _⟩ :: _); refine q_y (y_move rfl) rfl ?_)
           | (show QT _ _ _ _ _ _ (⟨_, Op.assign _, _, _, _, _⟩ :: _); refine q_y (y_assign rfl) rfl ?_)
           | (show QT _ _ _ _ _ _ (⟨_, Op.fieldAddr _ _ _, _, _, _, _⟩ :: _); refine q_y (y_field tabs rfl rfl rfl) rfl ?_)
           | (show QT _ _ _ _ _ _ (⟨_, Op.load _ _, _, _, _, _⟩ :: _); first | refine q_y (y_load tabs rfl rfl (hc_blk 1 rfl rfl)) rfl ?_ | refine q_y (y_load tabs rfl rfl (hc_blk 2 rfl rfl)) rfl ?_ | refine q_y (y_load tabs rfl rfl (hc_w0 gA)) rfl ?_ | refine q_y (y_load tabs rfl rfl (hc_w0 gB)) rfl ?_)
           | (show QT _ _ _ _ _ _ (⟨_, Op.indexAddr _ _ _, _, _, _, _⟩ :: _); first | refine q_y (y_ix1 tabs (j := i) rfl rfl rfl hs2 rfl hin) rfl ?_ | refine q_y (y_ix1 tabs (j := i) rfl rfl rfl hk2 rfl hil) rfl ?_)
           | (show QT _ _ _ _ _ _ (⟨_, Op.binOp _ _ _ _ _, _, _, _, _⟩ :: _); refine q_y (y_muln (a := z) (b := x) rfl rfl rfl rfl (by omega)) rfl ?_))
        | (show QT _ _ _ _ _ _ []; refine q_nil (x_then ?_)))
      refine c_all (Hp [] w [.blk b4 #[iV b.p, iV b.q.1, v0, v1, .slice d2 b.d.length f2, v3] 35, .blk b3 #[iV a.p, iV a.q.1, u0, u1, .slice a2 a.d.length c2, u3] 35]) (by kernel_rfl) (fun _ c => Hp.drew c) ?_
      refine h_take 0 rfl (by kernel_rfl) (by kernel_rfl) (by kernel_rfl) (by exact y_move rfl) rfl (fun w c => by exact c.drop) ?_
      refine h_take 1 rfl (by kernel_rfl) (by kernel_rfl) (by kernel_rfl) (by exact y_field tabs rfl rfl rfl) rfl (fun w c => by exact c.drop) ?_
      refine h_take 2 rfl (by kernel_rfl) (by kernel_rfl) (by kernel_rfl) (by exact y_load tabs rfl rfl (hc_blk 0 rfl rfl)) rfl (fun w c => by exact c.drop) ?_
      refine h_take 3 rfl (by kernel_rfl) (by kernel_rfl) (by kernel_rfl) (by exact y_move rfl) rfl (fun w c => by exact c.drop) ?_
      refine h_take 4 rfl (by kernel_rfl) (by kernel_rfl) (by kernel_rfl) (by exact y_ix1 tabs (j := i) rfl rfl rfl hk2 rfl hil) rfl (fun w c => by exact c.drop) ?_
      refine h_take 5 rfl (by kernel_rfl) (by kernel_rfl) (by kernel_rfl) (by exact y_load tabs rfl rfl (hc_w0 gB)) rfl (fun w c => by exact c.drop) ?_
      refine h_take 6 rfl (by kernel_rfl) (by kernel_rfl) (by kernel_rfl) (by exact y_field tabs rfl rfl rfl) rfl (fun w c => by exact c.drop) ?_
      refine h_take 7 rfl (by kernel_rfl) (by kernel_rfl) (by kernel_rfl) (by exact y_load tabs rfl rfl (hc_blk 1 rfl rfl)) rfl (fun w c => by exact c.drop) ?_
      refine h_take 8 rfl (by kernel_rfl) (by kernel_rfl) (by kernel_rfl) (by exact y_move rfl) rfl (fun w c => by exact c.drop) ?_
      refine h_take 9 rfl (by kernel_rfl) (by kernel_rfl) (by kernel_rfl) (by exact y_ix1 tabs (j := i) rfl rfl rfl hs2 rfl hin) rfl (fun w c => by exact c.drop) ?_
      refine h_take 10 rfl (by kernel_rfl) (by kernel_rfl) (by kernel_rfl) (by exact y_load tabs rfl rfl (hc_w0 gA)) rfl (fun w c => by exact c.drop) ?_
      refine h_take 12 rfl (by kernel_rfl) (by kernel_rfl) (by kernel_rfl) (by exact y_move rfl) rfl (fun w c => by exact c.drop) ?_
      refine h_take 13 rfl (by kernel_rfl) (by kernel_rfl) (by kernel_rfl) (by exact y_move rfl) rfl (fun w c => by exact c.drop) ?_
      refine h_take 14 rfl (by kernel_rfl) (by kernel_rfl) (by kernel_rfl) (by exact y_move rfl) rfl (fun w c => by exact c.drop) ?_
      refine h_take 15 rfl (by kernel_rfl) (by kernel_rfl) (by kernel_rfl) (by exact y_move rfl) rfl (fun w c => by exact c.drop) ?_
      refine h_take 16 rfl (by kernel_rfl) (by kernel_rfl) (by kernel_rfl) (by exact y_addn (b := z * x) rfl rfl rfl rfl (by omega)) rfl (fun w c => by exact c.drop) ?_
      refine h_take 17 rfl (by kernel_rfl) (by kernel_rfl) (by kernel_rfl) (by exact y_sln tabs (lo := offN a.d b.d i) (l := z * x) rfl rfl rfl rfl rfl rfl (by omega)) rfl (fun w c => by exact c.drop) ?_
      refine h_only 11 rfl (by kernel_rfl) ?_
      first | (refine m_build1 tabs (us := [iV x, iV z, .slice a7 (([] : List Int).length + ((xs.drop (offN a.d b.d i)).take (z * x)).length) c7]) rfl rfl rfl rfl (by decide) rfl (fun g5 hg5 => ?_)) | (refine m_build0 tabs rfl rfl (fun g hg => ?_)) | (refine m_appi 0 tabs (xs := []) (ys := (xs.drop (offN a.d b.d i)).take (z * x)) rfl rfl rfl (by rw [hpl]; exact rfl) rfl (by rw [hpl]; simp; omega) (fun w c => rd_src (by rw [hpl]; exact c.rd hpr)) (fun a7 c7 => ?_)) | (refine m_push1 [iV x, iV z] 0 0 tabs (m' := i) rfl rfl rfl rfl rfl rfl rfl (by rw [flatMap_length matT_length, tabM_length]) (by rw [flatMap_length matT_length, tabM_length]; omega) (by decide) rfl rfl (fun a10 c10 => ?_))
      refine c_nil (x_one (h_keep (fun w c => by exact c.drop.drop) ?_))
      refine h_only 18 rfl (by kernel_rfl) ?_
      first | (refine m_build1 tabs (us := [iV x, iV z, .slice a7 (([] : List Int).length + ((xs.drop (offN a.d b.d i)).take (z * x)).length) c7]) rfl rfl rfl rfl (by decide) rfl (fun g5 hg5 => ?_)) | (refine m_build0 tabs rfl rfl (fun g hg => ?_)) | (refine m_appi 0 tabs (xs := []) (ys := (xs.drop (offN a.d b.d i)).take (z * x)) rfl rfl rfl (by rw [hpl]; exact rfl) rfl (by rw [hpl]; simp; omega) (fun w c => rd_src (by rw [hpl]; exact c.rd hpr)) (fun a7 c7 => ?_)) | (refine m_push1 [iV x, iV z] 0 0 tabs (m' := i) rfl rfl rfl rfl rfl rfl rfl (by rw [flatMap_length matT_length, tabM_length]) (by rw [flatMap_length matT_length, tabM_length]; omega) (by decide) rfl rfl (fun a10 c10 => ?_))
      refine c_nil (x_one (h_keep (fun w c => by exact c.drop.drop) ?_))
      refine h_take 19 rfl (by kernel_rfl) (by kernel_rfl) (by kernel_rfl) (by exact y_bld3 (bld_mat _ _ _ _ _) rfl rfl rfl) rfl (fun w c => by exact c.drop.drop) ?_
      refine h_only 20 rfl (by kernel_rfl) ?_
      first | (refine m_build1 tabs (us := [iV x, iV z, .slice a7 (([] : List Int).length + ((xs.drop (offN a.d b.d i)).take (z * x)).length) c7]) rfl rfl rfl rfl (by decide) rfl (fun g5 hg5 => ?_)) | (refine m_build0 tabs rfl rfl (fun g hg => ?_)) | (refine m_appi 0 tabs (xs := []) (ys := (xs.drop (offN a.d b.d i)).take (z * x)) rfl rfl rfl (by rw [hpl]; exact rfl) rfl (by rw [hpl]; simp; omega) (fun w c => rd_src (by rw [hpl]; exact c.rd hpr)) (fun a7 c7 => ?_)) | (refine m_push1 [iV x, iV z] 0 0 tabs (m' := i) rfl rfl rfl rfl rfl rfl rfl (by rw [flatMap_length matT_length, tabM_length]) (by rw [flatMap_length matT_length, tabM_length]; omega) (by decide) rfl rfl (fun a10 c10 => ?_))
      refine c_nil (x_one (h_keep (fun w c => by exact c.sub (by repeat' first | exact List.Sublist.refl _ | exact List.nil_sublist _ | apply List.Sublist.cons_cons | apply List.Sublist.cons)) ?_))
      refine h_only 21 rfl (by kernel_rfl) ?_
      first | (refine m_build1 tabs (us := [iV x, iV z, .slice a7 (([] : List Int).length + ((xs.drop (offN a.d b.d i)).take (z * x)).length) c7]) rfl rfl rfl rfl (by decide) rfl (fun g5 hg5 => ?_)) | (refine m_build0 tabs rfl rfl (fun g hg => ?_)) | (refine m_appi 0 tabs (xs := []) (ys := (xs.drop (offN a.d b.d i)).take (z * x)) rfl rfl rfl (by rw [hpl]; exact rfl) rfl (by rw [hpl]; simp; omega) (fun w c => rd_src (by rw [hpl]; exact c.rd hpr)) (fun a7 c7 => ?_)) | (refine m_push1 [iV x, iV z] 0 0 tabs (m' := i) rfl rfl rfl rfl rfl rfl rfl (by rw [flatMap_length matT_length, tabM_length]) (by rw [flatMap_length matT_length, tabM_length]; omega) (by decide) rfl rfl (fun a10 c10 => ?_))
      refine c_nil (x_one (h_keep (fun w c => by exact c.drop) ?_))
      refine h_take 22 rfl (by kernel_rfl) (by kernel_rfl) (by kernel_rfl) (by exact y_assign rfl) rfl (fun w c => by exact c.drop) ?_
      refine h_end (by kernel_rfl) ?_
      repeat' (first
        | (show AT _ _ _ (wpList _ _ _ (_ :: _)); first
           | (show AT _ _ _ (wpList _ _ _ (⟨_, Op.move _, _, _, _, _⟩ :: _)); refine st_y (y_move rfl) rfl ?_)
           | (show AT _ _ _ (wpList _ _ _ (⟨_, Op.assign _, _, _, _, _⟩ :: _)); refine st_y (y_assign rfl) rfl ?_)
           | (show AT _ _ _ (wpList _ _ _ (⟨_, Op.binOp _ _ _ _ _, _, _, _, _⟩ :: _)); first | refine st_y (y_addn (b := z * x) rfl rfl rfl rfl (by omega)) rfl ?_ | refine st_y (y_add rfl rfl (by omega)) rfl ?_))
        | (show AT _ _ _ (wpList _ _ _ []); first | refine c_nil (x_then ?_) | refine c_nil ?_)
        | (show AT _ _ _ (Code.wp _ _ _); refine c_region ?_)
        | (show AT _ _ _ _; first | refine x_then ?_ | refine x_blk ?_))
      refine x_nx (i + 1, a10, c10) (by simp only [hnx]; exact (by repeat' (first | exact Sub.nil | refine Sub.cons rfl ?_ | refine Sub.consi rfl (by omega) ?_))) (by simp only; omega) (fun w' c' => ?_) (by simp only; omega)
      simp only [List.nil_append] at c'
      rw [hcut] at c'
      exact c'
    · have : i = a.d.length := by omega
      subst this
      refine AT.fact (mats_sl 0 rfl) (fun hsl => ?_)
      rw [tabM_length] at hsl
      repeat' (first
        | (show AT _ _ _ (wpList _ _ _ (_ :: _)); first
           | (show AT _ _ _ (wpList _ _ _ (⟨_, Op.move _, _, _, _, _⟩ :: _)); refine st_y (y_move rfl) rfl ?_)
           | (show AT _ _ _ (wpList _ _ _ (⟨_, Op.assign _, _, _, _, _⟩ :: _)); refine st_y (y_assign rfl) rfl ?_)
           | (show AT _ _ _ (wpList _ _ _ (⟨_, Op.fieldAddr _ _ _, _, _, _, _⟩ :: _)); refine st_y (y_field tabs rfl rfl rfl) rfl ?_)
           | (show AT _ _ _ (wpList _ _ _ (⟨_, Op.load _ _, _, _, _, _⟩ :: _)); refine st_y (y_load tabs rfl rfl (hc_blk 2 rfl rfl)) rfl ?_)
           | (show AT _ _ _ (wpList _ _ _ (⟨_, Op.binOp _ _ _ _ _, _, _, _, _⟩ :: _)); refine st_y (y_lss rfl rfl) rfl ?_)
           | (show AT _ _ _ (wpList _ _ _ (⟨_, Op.call _, _, _, _, _⟩ :: _)); refine st_y (y_len tabs rfl rfl) rfl ?_))
        | (show AT _ _ _ (wpList _ _ _ []); refine c_nil (x_then ?_))
        | (show AT _ _ _ (Code.wp _ _ _); first | refine c_seq ?_ | refine c_region ?_ | refine c_ret ?_ | refine c_exit ?_ | refine c_iff rfl (by first | assumption | exact not_not_intro (by assumption) | omega) ?_)
        | (show AT _ _ _ _; first | refine x_then ?_ | refine x_then_exit ?_ | refine x_blk_exit rfl ?_))
      exact x_ret1 Try.results99 (res_tmp rfl) (fun w' c' => ⟨_, _, rfl, ⟨al, cl, by rw [cutL, tabM_length], by rw [cutL, tabM_length]; exact hsl, by rw [cutL, tabM_length]⟩, c'.sub (.cons_cons _ (List.nil_sublist _))⟩)
end Go.Proofs.Ytfhgpkdhhclpbaa
