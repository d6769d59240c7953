import Derived.Test.YtfhgpkdhhclpbaaHomqhb
import Derived.Test.YtfhgpkdhhclpbaaInvqhb
import Derived.Test.YtfhgpkdhhclpbaaLEqhb
import Derived.Test.YtfhgpkdhhclpbaaMssqhb
import Derived.Test.YtfhgpkdhhclpbaaSupqhb
namespace Go.Proofs.Ytfhgpkdhhclpbaa
open Go.Lg Go.Proofs Go.RowKit
attribute [local irreducible] Code.wp wpList bodyPost Exit.then Exit.inBlock Hp Again Calls Y AT ResV QT Qn QI wpAny wpAnyQ
set_option maxRecDepth 20000
set_option maxHeartbeats 4000000

/-! ### cells of matrices, one after the other -/
def flatL (ms : List Mat) : List Int := ms.flatMap (fun m => m.2.2)
theorem flatL_next {ms : List Mat} {i : Nat} {m : Mat} (h : ms[i]? = some m) : flatL (ms.take i) ++ m.2.2 = flatL (ms.take (i + 1)) := by
  rw [List.take_add_one, h]
  simp [flatL]
theorem flatL_le {ms : List Mat} {i : Nat} : (flatL (ms.take i)).length ≤ (flatL ms).length := by
  have e : flatL ms = flatL (ms.take i) ++ flatL (ms.drop i) := by rw [flatL, flatL, flatL, ← List.flatMap_append, List.take_append_drop]
  rw [e, List.length_append]; omega
theorem flat_ok {w : World} {ms : List Mat} {e : Nat} {v : Value} (hr : Rd w (matsT e ms) v) (hb : (flatL ms).length ≤ 100000) : Does Try.prog 95 [v] w (GivesIL (flatL ms)) := by
  obtain ⟨a3, c3, rfl, hs3, hc3, hd3, hg3⟩ := rd_mats hr
  unfold maxLen at hd3
  refine fn_enter Try.func95 rfl Try.ntmps95 rfl ?_
  repeat' (first
    | (show AT _ _ _ (wpList _ _ _ (_ :: _)); first
       | (show AT _ _ _ (wpList _ _ _ (⟨_, Op.move _, _, _, _, _⟩ :: _)); refine st_y (y_move rfl) rfl ?_)
       | (show AT _ _ _ (wpList _ _ _ (⟨_, Op.assign _, _, _, _, _⟩ :: _)); refine st_y (y_assign rfl) rfl ?_)
       | (show AT _ _ _ (wpList _ _ _ (⟨_, Op.call _, _, _, _, _⟩ :: _)); refine st_y (y_len tabs rfl rfl) rfl ?_))
    | (show AT _ _ _ (wpList _ _ _ []); refine c_nil (x_then ?_))
    | (show AT _ _ _ (Code.wp _ _ _); first | refine c_seq ?_ | refine c_region ?_ | refine c_block ?_))
  refine c_loopH (α := Nat × Option Addr × Nat) [6, 7] (fun s => [(3, .slice s.2.1 (flatL (ms.take s.1)).length s.2.2), (8, .int .i64 s.1)]) (fun s => s.1 ≤ ms.length) (fun s => [.own (iT (flatL (ms.take s.1))) (.slice s.2.1 (flatL (ms.take s.1)).length s.2.2)]) (fun s => ms.length - s.1) (0, none, 0) rfl (by repeat' (first | exact Sub.nil | refine Sub.cons rfl ?_ | refine Sub.consi rfl (by omega) ?_)) ?_ ?_ ?_
  · exact Nat.zero_le _
  · exact fun w' c' => Hp.nilp _ _ c'
  · rintro ⟨i, al, cl⟩ hi
    simp only at hi ⊢
    have hle := flatL_le (ms := ms) (i := i)
    by_cases hin : i < ms.length
    · obtain ⟨m, hm⟩ : ∃ m, ms[i]? = some m := ⟨_, List.getElem?_eq_getElem hin⟩
      obtain ⟨a4, c4, g1, g2, g3, g4⟩ := hg3 i m hm
      have hn := flatL_next hm
      have hle2 := flatL_le (ms := ms) (i := i + 1)
      rw [← hn, List.length_append] at hle2
      repeat' (first
        | (show AT _ _ _ (wpList _ _ _ (_ :: _)); first
           | (show AT _ _ _ (wpList _ _ _ (⟨_, Op.move _, _, _, _, _⟩ :: _)); refine st_y (y_move rfl) rfl ?_)
           | (show AT _ _ _ (wpList _ _ _ (⟨_, Op.assign _, _, _, _, _⟩ :: _)); refine st_y (y_assign rfl) rfl ?_)
           | (show AT _ _ _ (wpList _ _ _ (⟨_, Op.fieldAddr _ _ _, _, _, _, _⟩ :: _)); refine st_y (y_field tabs rfl rfl rfl) rfl ?_)
           | (show AT _ _ _ (wpList _ _ _ (⟨_, Op.load _ _, _, _, _, _⟩ :: _)); first | refine st_y (y_load3 tabs rfl rfl (hc_w0 g1) (hc_w0 g2) (hc_w0 g3)) rfl ?_ | refine st_y (y_load tabs rfl rfl (hc_blk 0 rfl rfl)) rfl ?_)
           | (show AT _ _ _ (wpList _ _ _ (⟨_, Op.indexAddr _ _ _, _, _, _, _⟩ :: _)); refine st_y (y_ixa tabs rfl rfl rfl hs3 (by omega) (by omega)) rfl ?_)
           | (show AT _ _ _ (wpList _ _ _ (⟨_, Op.binOp _ _ _ _ _, _, _, _, _⟩ :: _)); first | refine st_y (y_add rfl rfl (by omega)) rfl ?_ | refine st_y (y_lss rfl rfl) rfl ?_)
           | (show AT _ _ _ (wpList _ _ _ (⟨_, Op.call _, _, _, _, _⟩ :: _)); refine m_appi 1 tabs (ys := m.2.2) rfl rfl rfl rfl rfl (by omega) (fun w' c' => rd_src (c'.rd g4)) (fun a6 c6 => ?_))
           | (show AT _ _ _ (wpList _ _ _ (⟨_, Op.store _ _ _, _, _, _, _⟩ :: _)); refine m_storeb 0 tabs rfl rfl rfl rfl rfl rfl rfl ?_)
           | (show AT _ _ _ (wpList _ _ _ (⟨_, Op.alloc _, _, _, _, _⟩ :: _)); refine m_alloc tabs rfl rfl (fun b5 hb5 => ?_)))
        | (show AT _ _ _ (wpList _ _ _ []); first | refine c_nil (x_then ?_) | refine c_nil ?_)
        | (show AT _ _ _ (Code.wp _ _ _); first | refine c_seq ?_ | refine c_region ?_ | refine c_skip (x_then ?_) | refine c_block ?_ | refine c_ift rfl (by first | assumption | omega) ?_)
        | (show AT _ _ _ _; first | refine x_then ?_ | refine x_blk ?_))
      refine x_nx (i + 1, a6, c6) (by rw [← hn, List.length_append]; exact (by repeat' (first | exact Sub.nil | refine Sub.cons rfl ?_ | refine Sub.consi rfl (by omega) ?_))) (by simp only; omega) (fun w' c' => ?_) (by simp only; omega)
      simp only [← hn, List.length_append]
      exact c'.sub (.cons_cons _ (List.nil_sublist _))
    · have : i = ms.length := by omega
      subst this
      rw [List.take_length]
      refine AT.fact (own_sl 0 rfl) (fun hsl => ?_)
      obtain ⟨a4, c4, e4, hs4⟩ := hsl
      cases e4
      repeat' (first
        | (show AT _ _ _ (wpList _ _ _ (_ :: _)); first
           | (show AT _ _ _ (wpList _ _ _ (⟨_, Op.move _, _, _, _, _⟩ :: _)); refine st_y (y_move rfl) rfl ?_)
           | (show AT _ _ _ (wpList _ _ _ (⟨_, Op.assign _, _, _, _, _⟩ :: _)); refine st_y (y_assign rfl) rfl ?_)
           | (show AT _ _ _ (wpList _ _ _ (⟨_, Op.binOp _ _ _ _ _, _, _, _, _⟩ :: _)); refine st_y (y_lss rfl rfl) rfl ?_))
        | (show AT _ _ _ (wpList _ _ _ []); refine c_nil (x_then ?_))
        | (show AT _ _ _ (Code.wp _ _ _); first | refine c_seq ?_ | refine c_region ?_ | refine c_ret ?_ | refine c_exit ?_ | refine c_iff rfl (by first | assumption | exact not_not_intro (by assumption) | omega) ?_)
        | (show AT _ _ _ _; first | refine x_then ?_ | refine x_then_exit ?_ | refine x_blk_exit rfl ?_))
      exact x_ret1 Try.results95 (res_tmp rfl) (fun w' c' => ⟨_, _, rfl, ⟨_, _, rfl, hs4, rfl⟩, c'.sub (.cons_cons _ (List.nil_sublist _))⟩)
/-! ### parts of a list of ints -/
theorem it_part {xs : List Int} {lo n : Nat} : ((it xs).drop (lo * 1)).take (n * 1) = it ((xs.drop lo).take n) := by
  rw [Nat.mul_one, Nat.mul_one, it, it, List.map_take, List.map_drop]
theorem rd_part {w : World} {e m c lo hi : Nat} {xs : List Int} {a : Option Addr} (hr : Rd w (ints e xs) (.slice a m c)) (h1 : lo ≤ hi) (h2 : hi ≤ m) : Rd w (ints e ((xs.drop lo).take (hi - lo))) (.slice (subA a 1 lo c) (hi - lo) (c - lo)) := by
  have := Rd.part (lo := lo) (hi := hi) hr h1 h2
  rwa [it_part] at this
theorem rd_head {w : World} {e m c hi : Nat} {xs : List Int} {a : Option Addr} (hr : Rd w (ints e xs) (.slice a m c)) (h2 : hi ≤ m) : Rd w (ints e (xs.take hi)) (.slice (subA a 1 0 c) hi c) := by
  have := rd_part (lo := 0) (hi := hi) hr (Nat.zero_le _) h2
  simpa using this
theorem rd_rest {w : World} {e m c lo : Nat} {xs : List Int} {a : Option Addr} (hr : Rd w (ints e xs) (.slice a m c)) (hm : xs.length = m) (h2 : lo ≤ m) : Rd w (ints e (xs.drop lo)) (.slice (subA a 1 lo c) (m - lo) (c - lo)) := by
  have := rd_part (lo := lo) (hi := m) hr h2 (Nat.le_refl _)
  rwa [List.take_of_length_le (by rw [List.length_drop]; omega)] at this
theorem cut_next {da db x : List Int} {i : Nat} : (tabM (cutM da db x) i).flatMap matT ++ (List.map T.c [iV ((db.getD i 0).toNat : Nat), iV ((da.getD i 0).toNat : Nat)] ++ [iT ((x.drop (offN da db i)).take (szV da db i))]) = (tabM (cutM da db x) (i + 1)).flatMap matT := by
  have e1 : tabM (cutM da db x) (i + 1) = tabM (cutM da db x) i ++ [cutM da db x i] := by simp [tabM, List.range_succ]
  rw [e1, List.flatMap_append]; rfl
theorem shaped_ok {w : World} {da db x : List Int} {e : Nat} {ul ux : Value} (hl : Rd w (matsT e (znMs da db da.length)) ul) (hx : Rd w (iT x) ux) (hlen : x.length = offN da db da.length) (hb : x.length ≤ 1024) (hd : da.length ≤ 1000) :
    Does Try.prog 135 [ul, ux] w (GivesMs (cutL da db x)) := by
  obtain ⟨a1, c1, rfl, hs1, _, hd1, hg1⟩ := rd_mats hl
  obtain ⟨ax, cx, rfl, hsx, hcx, hdx, hgx⟩ := hx.ints
  have hzl : (znMs da db da.length).length = da.length := by simp [znMs]
  unfold maxLen at hd1 hdx
  rw [hzl] at hs1
  simp only [hzl]
  refine fn_enter Try.func135 rfl Try.ntmps135 rfl ?_
  repeat' (first
    | (show AT _ _ _ (wpList _ _ _ (_ :: _)); first
       | (show AT _ _ _ (wpList _ _ _ (⟨_, Op.move _, _, _, _, _⟩ :: _)); refine st_y (y_move rfl) rfl ?_)
       | (show AT _ _ _ (wpList _ _ _ (⟨_, Op.assign _, _, _, _, _⟩ :: _)); refine st_y (y_assign rfl) rfl ?_)
       | (show AT _ _ _ (wpList _ _ _ (⟨_, Op.call _, _, _, _, _⟩ :: _)); refine st_y (y_len tabs rfl rfl) rfl ?_))
    | (show AT _ _ _ (wpList _ _ _ []); refine c_nil (x_then ?_))
    | (show AT _ _ _ (Code.wp _ _ _); first | refine c_seq ?_ | refine c_region ?_ | refine c_block ?_))
  refine c_loopH (α := Nat × (Option Addr × Nat) × Option Addr × Nat) [9, 10] (fun s => [(1, .slice s.2.1.1 (x.length - offN da db s.1) s.2.1.2), (5, .slice s.2.2.1 s.1 s.2.2.2), (11, .int .i64 s.1)]) (fun s => s.1 ≤ da.length ∧ Rd w (iT (x.drop (offN da db s.1))) (.slice s.2.1.1 (x.length - offN da db s.1) s.2.1.2) ∧ x.length - offN da db s.1 ≤ s.2.1.2) (fun s => [.own (matsT 81 (tabM (cutM da db x) s.1)) (.slice s.2.2.1 s.1 s.2.2.2)]) (fun s => da.length - s.1) (0, (ax, cx), none, 0) rfl (by repeat' (first | exact Sub.nil | refine Sub.cons rfl ?_ | refine Sub.consi rfl (by omega) ?_)) ?_ ?_ ?_
  · exact ⟨Nat.zero_le _, by simpa [offN] using hx, by simpa [offN] using hcx⟩
  · exact fun w' c' => Hp.nilp _ _ c'
  · rintro ⟨i, ⟨ad, cp⟩, al, cl⟩ ⟨hi, hri, hci⟩
    simp only at hi hri hci ⊢
    by_cases hin : i < da.length
    · have hm : (znMs da db da.length)[i]? = some (znM da db i) := by simp [znMs, hin]
      obtain ⟨a4, c4, g1, g2, g3, g4⟩ := hg1 i _ hm
      have hmo := offN_mono (da := da) (db := db) (u := i + 1) (v := da.length) hin
      rw [offN] at hmo
      have ez : (znM da db i).2.2.length = szV da db i := by rw [znM, mk_length, szV, Nat.mul_comm]
      rw [ez] at g3
      simp only [znM] at g1 g2
      have hpr := rd_head hri (hi := szV da db i) (by omega)
      have hrr := rd_rest hri (by rw [List.length_drop]) (lo := szV da db i) (by omega)
      rw [List.drop_drop] at hrr
      have hpl : ((x.drop (offN da db i)).take (szV da db i)).length = szV da db i := by rw [List.length_take, List.length_drop]; omega
      repeat' (first
        | (show AT _ _ _ (wpList _ _ _ (_ :: _)); first
           | (show AT _ _ _ (wpList _ _ _ (⟨_, Op.assign _, _, _, _, _⟩ :: _)); refine st_y (y_assign rfl) rfl ?_)
           | (show AT _ _ _ (wpList _ _ _ (⟨_, Op.fieldAddr _ _ _, _, _, _, _⟩ :: _)); refine st_y (y_field tabs rfl rfl rfl) rfl ?_)
           | (show AT _ _ _ (wpList _ _ _ (⟨_, Op.load _ _, _, _, _, _⟩ :: _)); first | refine st_y (y_load3 tabs rfl rfl (hc_w0 g1) (hc_w0 g2) (hc_w0 g3)) rfl ?_ | refine st_y (y_load tabs rfl rfl (hc_blk 0 rfl rfl)) rfl ?_)
           | (show AT _ _ _ (wpList _ _ _ (⟨_, Op.indexAddr _ _ _, _, _, _, _⟩ :: _)); refine st_y (y_ixa tabs rfl rfl rfl hs1 (by omega) (by omega)) rfl ?_)
           | (show AT _ _ _ (wpList _ _ _ (⟨_, Op.binOp _ _ _ _ _, _, _, _, _⟩ :: _)); refine st_y (y_lss rfl rfl) rfl ?_)
           | (show AT _ _ _ (wpList _ _ _ (⟨_, Op.call _, _, _, _, _⟩ :: _)); refine st_y (y_len tabs rfl rfl) rfl ?_)
           | (show AT _ _ _ (wpList _ _ _ (⟨_, Op.store _ _ _, _, _, _, _⟩ :: _)); refine m_storeb 0 tabs rfl rfl rfl rfl rfl rfl rfl ?_)
           | (show AT _ _ _ (wpList _ _ _ (⟨_, Op.alloc _, _, _, _, _⟩ :: _)); refine m_alloc tabs rfl rfl (fun b5 hb5 => ?_)))
        | (show AT _ _ _ (wpList _ _ _ []); refine c_nil (x_then ?_))
        | (show AT _ _ _ (Code.wp _ _ _); first | refine c_seq ?_ | refine c_region ?_ | refine c_skip (x_then ?_) | refine c_block ?_ | refine c_ift rfl (by first | assumption | omega) ?_))
      refine c_all (Hp [] w [.blk b5 #[iV ((db.getD i 0).toNat : Nat), iV ((da.getD i 0).toNat : Nat), .slice a4 (szV da db i) c4] 81]) (by kernel_rfl) (fun _ c => Hp.drew c) ?_
      refine h_take 0 rfl (by kernel_rfl) (by kernel_rfl) (by kernel_rfl) (by exact y_move rfl) rfl (fun w c => by exact c.sub (by repeat' first | exact List.Sublist.refl _ | exact List.nil_sublist _ | apply List.Sublist.cons_cons | apply List.Sublist.cons)) ?_
      refine h_take 1 rfl (by kernel_rfl) (by kernel_rfl) (by kernel_rfl) (by exact y_field tabs rfl rfl rfl) rfl (fun w c => by exact c.sub (by repeat' first | exact List.Sublist.refl _ | exact List.nil_sublist _ | apply List.Sublist.cons_cons | apply List.Sublist.cons)) ?_
      refine h_take 2 rfl (by kernel_rfl) (by kernel_rfl) (by kernel_rfl) (by exact y_load tabs rfl rfl (hc_blk 0 rfl rfl)) rfl (fun w c => by exact c.sub (by repeat' first | exact List.Sublist.refl _ | exact List.nil_sublist _ | apply List.Sublist.cons_cons | apply List.Sublist.cons)) ?_
      refine h_take 3 rfl (by kernel_rfl) (by kernel_rfl) (by kernel_rfl) (by exact y_field tabs rfl rfl rfl) rfl (fun w c => by exact c.sub (by repeat' first | exact List.Sublist.refl _ | exact List.nil_sublist _ | apply List.Sublist.cons_cons | apply List.Sublist.cons)) ?_
      refine h_take 4 rfl (by kernel_rfl) (by kernel_rfl) (by kernel_rfl) (by exact y_load tabs rfl rfl (hc_blk 0 rfl rfl)) rfl (fun w c => by exact c.sub (by repeat' first | exact List.Sublist.refl _ | exact List.nil_sublist _ | apply List.Sublist.cons_cons | apply List.Sublist.cons)) ?_
      refine h_take 5 rfl (by kernel_rfl) (by kernel_rfl) (by kernel_rfl) (by exact y_move rfl) rfl (fun w c => by exact c.sub (by repeat' first | exact List.Sublist.refl _ | exact List.nil_sublist _ | apply List.Sublist.cons_cons | apply List.Sublist.cons)) ?_
      refine h_take 6 rfl (by kernel_rfl) (by kernel_rfl) (by kernel_rfl) (by exact y_move rfl) rfl (fun w c => by exact c.sub (by repeat' first | exact List.Sublist.refl _ | exact List.nil_sublist _ | apply List.Sublist.cons_cons | apply List.Sublist.cons)) ?_
      refine h_take 7 rfl (by kernel_rfl) (by kernel_rfl) (by kernel_rfl) (by exact y_slh tabs (hi := szV da db i) rfl rfl rfl rfl (by omega)) rfl (fun w c => by exact c.sub (by repeat' first | exact List.Sublist.refl _ | exact List.nil_sublist _ | apply List.Sublist.cons_cons | apply List.Sublist.cons)) ?_
      refine h_only 8 rfl (by kernel_rfl) ?_
      first | (refine m_build1 tabs (us := [iV ((db.getD i 0).toNat : Nat), iV ((da.getD i 0).toNat : Nat), .slice a7 ((x.drop (offN da db i)).take (szV da db i)).length c7]) rfl rfl rfl rfl (by decide) rfl (fun g5 hg5 => ?_)) | (refine m_call (ent_of Try.func126 (by kernel_rfl) rfl) rfl rfl (fun w c => Clone_ok (c.rd hpr) (by omega)) ?_; rintro v H' ⟨a7, c7, rfl, hs7, rfl⟩) | (refine m_push1 [iV ((db.getD i 0).toNat : Nat), iV ((da.getD i 0).toNat : Nat)] 1 0 tabs (m' := i) rfl rfl rfl rfl rfl rfl rfl (by rw [flatMap_length matT_length, tabM_length]) (by rw [flatMap_length matT_length, tabM_length]; omega) (by decide) rfl rfl (fun a10 c10 => ?_))
      refine c_nil (x_one (h_keep (fun w c => by exact c.sub (by repeat' first | exact List.Sublist.refl _ | exact List.nil_sublist _ | apply List.Sublist.cons_cons | apply List.Sublist.cons)) ?_))
      refine h_take 9 rfl (by kernel_rfl) (by kernel_rfl) (by kernel_rfl) (by exact y_bld3 (bld_mat _ _ _ _ _) rfl rfl rfl) rfl (fun w c => by exact c.sub (by repeat' first | exact List.Sublist.refl _ | exact List.nil_sublist _ | apply List.Sublist.cons_cons | apply List.Sublist.cons)) ?_
      refine h_only 10 rfl (by kernel_rfl) ?_
      first | (refine m_build1 tabs (us := [iV ((db.getD i 0).toNat : Nat), iV ((da.getD i 0).toNat : Nat), .slice a7 ((x.drop (offN da db i)).take (szV da db i)).length c7]) rfl rfl rfl rfl (by decide) rfl (fun g5 hg5 => ?_)) | (refine m_call (ent_of Try.func126 (by kernel_rfl) rfl) rfl rfl (fun w c => Clone_ok (c.rd hpr) (by omega)) ?_; rintro v H' ⟨a7, c7, rfl, hs7, rfl⟩) | (refine m_push1 [iV ((db.getD i 0).toNat : Nat), iV ((da.getD i 0).toNat : Nat)] 1 0 tabs (m' := i) rfl rfl rfl rfl rfl rfl rfl (by rw [flatMap_length matT_length, tabM_length]) (by rw [flatMap_length matT_length, tabM_length]; omega) (by decide) rfl rfl (fun a10 c10 => ?_))
      refine c_nil (x_one (h_keep (fun w c => by exact c.sub (by repeat' first | exact List.Sublist.refl _ | exact List.nil_sublist _ | apply List.Sublist.cons_cons | apply List.Sublist.cons)) ?_))
      refine h_only 11 rfl (by kernel_rfl) ?_
      first | (refine m_build1 tabs (us := [iV ((db.getD i 0).toNat : Nat), iV ((da.getD i 0).toNat : Nat), .slice a7 ((x.drop (offN da db i)).take (szV da db i)).length c7]) rfl rfl rfl rfl (by decide) rfl (fun g5 hg5 => ?_)) | (refine m_call (ent_of Try.func126 (by kernel_rfl) rfl) rfl rfl (fun w c => Clone_ok (c.rd hpr) (by omega)) ?_; rintro v H' ⟨a7, c7, rfl, hs7, rfl⟩) | (refine m_push1 [iV ((db.getD i 0).toNat : Nat), iV ((da.getD i 0).toNat : Nat)] 1 0 tabs (m' := i) rfl rfl rfl rfl rfl rfl rfl (by rw [flatMap_length matT_length, tabM_length]) (by rw [flatMap_length matT_length, tabM_length]; omega) (by decide) rfl rfl (fun a10 c10 => ?_))
      refine c_nil (x_one (h_keep (fun w c => by exact c.drop) ?_))
      refine h_take 12 rfl (by kernel_rfl) (by kernel_rfl) (by kernel_rfl) (by exact y_assign rfl) rfl (fun w c => by exact c.drop) ?_
      refine h_end (by kernel_rfl) ?_
      repeat' (first
        | (show AT _ _ _ (wpList _ _ _ (_ :: _)); first
           | (show AT _ _ _ (wpList _ _ _ (⟨_, Op.move _, _, _, _, _⟩ :: _)); refine st_y (y_move rfl) rfl ?_)
           | (show AT _ _ _ (wpList _ _ _ (⟨_, Op.assign _, _, _, _, _⟩ :: _)); refine st_y (y_assign rfl) rfl ?_)
           | (show AT _ _ _ (wpList _ _ _ (⟨_, Op.binOp _ _ _ _ _, _, _, _, _⟩ :: _)); refine st_y (y_add rfl rfl (by omega)) rfl ?_)
           | (show AT _ _ _ (wpList _ _ _ (⟨_, Op.slice _ _ _ _ _, _, _, _, _⟩ :: _)); refine st_y (y_slo tabs (lo := szV da db i) rfl rfl rfl rfl (by omega)) rfl ?_))
        | (show AT _ _ _ (wpList _ _ _ []); first | refine c_nil (x_then ?_) | refine c_nil ?_)
        | (show AT _ _ _ (Code.wp _ _ _); refine c_region ?_)
        | (show AT _ _ _ _; first | refine x_then ?_ | refine x_blk ?_))
      refine x_nx (i + 1, (subA ad 1 (szV da db i) cp, cp - szV da db i), a10, c10) (by simp only [offN, ← Nat.sub_sub]; exact (by repeat' (first | exact Sub.nil | refine Sub.cons rfl ?_ | refine Sub.consi rfl (by omega) ?_))) ⟨by simp only; omega, by simp only [offN, ← Nat.sub_sub]; exact hrr, by simp only [offN]; omega⟩ (fun w' c' => ?_) (by simp only; omega)
      rw [cut_next] at c'
      exact c'.sub (by repeat' first | exact List.Sublist.refl _ | exact List.nil_sublist _ | apply List.Sublist.cons_cons | apply List.Sublist.cons)
    · have : i = da.length := by omega
      subst this
      refine AT.fact (mats_sl 0 rfl) (fun hsl => ?_)
      rw [tabM_length] at hsl
      repeat' (first
        | (show AT _ _ _ (wpList _ _ _ (_ :: _)); first
           | (show AT _ _ _ (wpList _ _ _ (⟨_, Op.move _, _, _, _, _⟩ :: _)); refine st_y (y_move rfl) rfl ?_)
           | (show AT _ _ _ (wpList _ _ _ (⟨_, Op.assign _, _, _, _, _⟩ :: _)); refine st_y (y_assign rfl) rfl ?_)
           | (show AT _ _ _ (wpList _ _ _ (⟨_, Op.binOp _ _ _ _ _, _, _, _, _⟩ :: _)); refine st_y (y_lss rfl rfl) rfl ?_))
        | (show AT _ _ _ (wpList _ _ _ []); refine c_nil (x_then ?_))
        | (show AT _ _ _ (Code.wp _ _ _); first | refine c_seq ?_ | refine c_region ?_ | refine c_ret ?_ | refine c_exit ?_ | refine c_iff rfl (by first | assumption | exact not_not_intro (by assumption) | omega) ?_)
        | (show AT _ _ _ _; first | refine x_then ?_ | refine x_then_exit ?_ | refine x_blk_exit rfl ?_))
      exact x_ret1 Try.results135 (res_tmp rfl) (fun w' c' => ⟨_, _, rfl, ⟨al, cl, by rw [cutL, tabM_length], by rw [cutL, tabM_length]; exact hsl, by rw [cutL, tabM_length]⟩, c'.sub (.cons_cons _ (List.nil_sublist _))⟩)
end Go.Proofs.Ytfhgpkdhhclpbaa
