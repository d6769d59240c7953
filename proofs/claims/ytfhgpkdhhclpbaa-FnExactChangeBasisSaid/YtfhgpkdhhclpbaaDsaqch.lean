import Derived.Test.YtfhgpkdhhclpbaaCmpqch
import Derived.Test.YtfhgpkdhhclpbaaMorqch
import Derived.Test.YtfhgpkdhhclpbaaMulqch
import Derived.Test.YtfhgpkdhhclpbaaRepqch
import Derived.Test.YtfhgpkdhhclpbaaSpbqch
namespace Go.Proofs.Ytfhgpkdhhclpbaa
open Go.Lg Go.Proofs Go.RowKit
attribute [local irreducible] Code.wp wpList bodyPost Exit.then Exit.inBlock Hp Again Calls Y AT ResV QT Qn QI wpAny wpAnyQ
set_option maxRecDepth 20000
set_option maxHeartbeats 4000000

/-! ### blocks of matrices; copies of lists of matrices and of representations -/
theorem matsTk {ms : List Mat} {i : Nat} {m : Mat} (h : ms[i]? = some m) : (ms.take i).flatMap matT ++ (List.map T.c [iV m.1, iV m.2.1] ++ [iT m.2.2]) = (ms.take (i + 1)).flatMap matT := by
  rw [List.take_add_one, h, List.flatMap_append]
  simp [matT]
theorem copyMatrices_ok {w : World} {ms : List Mat} {e : Nat} {v : Value} (hr : Rd w (matsT e ms) v) (hb : ∀ m ∈ ms, m.2.2.length ≤ 1048576) (hl : ms.length ≤ 1000) :
    Does Try.prog 127 [v] w (GivesMs ms) := by
  obtain ⟨a3, c3, rfl, hs3, hc3, hd3, hg3⟩ := rd_mats hr
  refine fn_enter Try.func127 rfl Try.ntmps127 rfl ?_
  repeat' (first
    | (show AT _ _ _ (wpList _ _ _ (_ :: _)); first
       | (show AT _ _ _ (wpList _ _ _ (⟨_, Op.move _, _, _, _, _⟩ :: _)); refine st_y (y_move rfl) rfl ?_)
       | (show AT _ _ _ (wpList _ _ _ (⟨_, Op.assign _, _, _, _, _⟩ :: _)); refine st_y (y_assign rfl) rfl ?_)
       | (show AT _ _ _ (wpList _ _ _ (⟨_, Op.call _, _, _, _, _⟩ :: _)); refine st_y (y_len tabs rfl rfl) rfl ?_))
    | (show AT _ _ _ (wpList _ _ _ []); refine c_nil (x_then ?_))
    | (show AT _ _ _ (Code.wp _ _ _); first | refine c_seq ?_ | refine c_region ?_ | refine c_block ?_))
  refine c_loopH (α := Nat × Option Addr × Nat) [6, 7] (fun s => [(3, .slice s.2.1 s.1 s.2.2), (8, .int .i64 s.1)]) (fun s => s.1 ≤ ms.length) (fun s => [.own (matsT 81 (ms.take s.1)) (.slice s.2.1 s.1 s.2.2)]) (fun s => ms.length - s.1) (0, none, 0) rfl (by repeat' (first | exact Sub.nil | refine Sub.cons rfl ?_ | refine Sub.consi rfl (by omega) ?_)) ?_ ?_ ?_
  · exact Nat.zero_le _
  · exact fun w' c' => Hp.nilp _ _ c'
  · rintro ⟨i, al, cl⟩ hi
    simp only at hi ⊢
    have hln : (ms.take i).length = i := by simp; omega
    by_cases hin : i < ms.length
    · obtain ⟨m, hm⟩ : ∃ m, ms[i]? = some m := ⟨_, List.getElem?_eq_getElem hin⟩
      obtain ⟨a4, c4, g1, g2, g3, g4⟩ := hg3 i m hm
      have hbm := hb m (List.mem_of_getElem? hm)
      repeat' (first
        | (show AT _ _ _ (wpList _ _ _ (_ :: _)); first
           | (show AT _ _ _ (wpList _ _ _ (⟨_, Op.move _, _, _, _, _⟩ :: _)); refine st_y (y_move rfl) rfl ?_)
           | (show AT _ _ _ (wpList _ _ _ (⟨_, Op.assign _, _, _, _, _⟩ :: _)); refine st_y (y_assign rfl) rfl ?_)
           | (show AT _ _ _ (wpList _ _ _ (⟨_, Op.load _ _, _, _, _, _⟩ :: _)); first | refine st_y (y_load3 tabs rfl rfl (hc_w0 g1) (hc_w0 g2) (hc_w0 g3)) rfl ?_ | refine st_y (y_loadb 0 tabs rfl rfl rfl rfl) rfl ?_)
           | (show AT _ _ _ (wpList _ _ _ (⟨_, Op.indexAddr _ _ _, _, _, _, _⟩ :: _)); refine st_y (y_ixa tabs rfl rfl rfl (by first | assumption | exact .mk) (by omega) (by omega)) rfl ?_)
           | (show AT _ _ _ (wpList _ _ _ (⟨_, Op.binOp _ _ _ _ _, _, _, _, _⟩ :: _)); first | refine st_y (y_add rfl rfl (by omega)) rfl ?_ | refine st_y (y_lss rfl rfl) rfl ?_)
           | (show AT _ _ _ (wpList _ _ _ (⟨_, Op.call _, _, _, _, _⟩ :: _)); first | (refine m_call (ent_of Try.func147 (by kernel_rfl) rfl) rfl rfl (fun w c => clone_ok (m := m) (c.rd g4) hbm) ?_; rintro v H' ⟨az, cz, rfl, hsz, rfl⟩) | refine m_push1 [iV m.1, iV m.2.1] 1 0 tabs (m' := i) rfl rfl rfl rfl rfl rfl rfl (by rw [flatMap_length matT_length, hln]) (by rw [flatMap_length matT_length, hln]; omega) (by decide) rfl rfl (fun a6 c6 => ?_))
           | (show AT _ _ _ (wpList _ _ _ (⟨_, Op.store _ _ _, _, _, _, _⟩ :: _)); refine m_storeb 0 tabs rfl rfl rfl rfl rfl rfl rfl ?_)
           | (show AT _ _ _ (wpList _ _ _ (⟨_, Op.alloc _, _, _, _, _⟩ :: _)); refine m_alloc tabs rfl rfl (fun b5 hb5 => ?_))
           | (show AT _ _ _ (wpList _ _ _ (⟨_, Op.buildSlice _ _ _, _, _, _, _⟩ :: _)); refine m_build1 tabs (us := [iV m.1, iV m.2.1, .slice az m.2.2.length cz]) rfl rfl rfl rfl (by decide) rfl (fun g5 hg5 => ?_)))
        | (show AT _ _ _ (wpList _ _ _ []); first | refine c_nil (x_then ?_) | refine c_nil ?_)
        | (show AT _ _ _ (Code.wp _ _ _); first | refine c_seq ?_ | refine c_region ?_ | refine c_skip (x_then ?_) | refine c_block ?_ | refine c_ift rfl (by first | assumption | omega) ?_)
        | (show AT _ _ _ _; first | refine x_then ?_ | refine x_blk ?_))
      refine x_nx (i + 1, a6, c6) (by repeat' (first | exact Sub.nil | refine Sub.cons rfl ?_ | refine Sub.consi rfl (by omega) ?_)) (by simp only; omega) (fun w' c' => ?_) (by simp only; omega)
      rw [matsTk hm] at c'
      exact c'.sub (.cons_cons _ (List.nil_sublist _))
    · have : i = ms.length := by omega
      subst this
      have e0 : ms.take ms.length = ms := List.take_length
      rw [e0]
      refine AT.fact (mats_sl 0 rfl) (fun hsl => ?_)
      repeat' (first
        | (show AT _ _ _ (wpList _ _ _ (_ :: _)); first
           | (show AT _ _ _ (wpList _ _ _ (⟨_, Op.move _, _, _, _, _⟩ :: _)); refine st_y (y_move rfl) rfl ?_)
           | (show AT _ _ _ (wpList _ _ _ (⟨_, Op.assign _, _, _, _, _⟩ :: _)); refine st_y (y_assign rfl) rfl ?_)
           | (show AT _ _ _ (wpList _ _ _ (⟨_, Op.binOp _ _ _ _ _, _, _, _, _⟩ :: _)); refine st_y (y_lss rfl rfl) rfl ?_))
        | (show AT _ _ _ (wpList _ _ _ []); refine c_nil (x_then ?_))
        | (show AT _ _ _ (Code.wp _ _ _); first | refine c_seq ?_ | refine c_region ?_ | refine c_ret ?_ | refine c_exit ?_ | refine c_iff rfl (by first | assumption | exact not_not_intro (by assumption) | omega) ?_)
        | (show AT _ _ _ _; first | refine x_then ?_ | refine x_then_exit ?_ | refine x_blk_exit rfl ?_))
      exact x_ret1 Try.results127 (res_tmp rfl) (fun w' c' => ⟨_, _, rfl, ⟨al, cl, rfl, hsl, rfl⟩, c'.sub (.cons_cons _ (List.nil_sublist _))⟩)
theorem rclone_ok {w : World} {r : Rp} {e : Nat} {u0 u1 u2 u3 : Value} (h0 : Rd w (iT r.q.2.1) u0) (h1 : Rd w (iT r.q.2.2) u1) (h2 : Rd w (iT r.d) u2) (h3 : Rd w (matsT e r.m) u3) (hR : RepP r) :
    Does Try.prog 75 [.agg #[iV r.p, iV r.q.1, u0, u1, u2, u3]] w (GivesR r) := by
  have hb := (RepP.dd hR).2
  have hml := hR.2.2.1
  have hQ := hR.2.1.1
  have q1 := hQ.2.1
  have q2 := hQ.2.2.1
  have hbm : ∀ m ∈ r.m, m.2.2.length ≤ 1048576 := fun m hm => by
    obtain ⟨i, hi, rfl⟩ := List.getElem_of_mem hm
    have h := (hR.2.2.2 i hi).1.2.2.2.2.1
    have e : r.m.getD i mat0 = r.m[i] := by simp [List.getD, hi]
    rw [e] at h
    omega
  refine fn_enter Try.func75 rfl Try.ntmps75 rfl ?_
  repeat' (first
    | (show AT _ _ _ (wpList _ _ _ (_ :: _)); first
       | (show AT _ _ _ (wpList _ _ _ (⟨_, Op.box _ _, _, _, _, _⟩ :: _)); refine m_box rfl rfl (fun b1 hb1 => ?_))
       | (show AT _ _ _ (wpList _ _ _ (⟨_, Op.alloc _, _, _, _, _⟩ :: _)); refine m_alloc tabs rfl rfl (fun b2 hb2 => ?_)))
    | (show AT _ _ _ (wpList _ _ _ []); refine c_nil (x_then ?_))
    | (show AT _ _ _ (Code.wp _ _ _); first | refine c_seq ?_ | refine c_region ?_))
  refine c_mixR (Hp [] w [.blk b1 #[iV r.p, iV r.q.1, u0, u1, u2, u3] 35]) 12 (by kernel_rfl) (by kernel_rfl) (by kernel_rfl) (by kernel_rfl) (by kernel_rfl) (fun _ c => Hp.drew c) ?_
  refine h_take 0 rfl (by kernel_rfl) (by kernel_rfl) (by kernel_rfl) (by exact y_field tabs rfl rfl rfl) rfl (fun w c => by exact c.drop) ?_
  refine h_take 1 rfl (by kernel_rfl) (by kernel_rfl) (by kernel_rfl) (by exact y_load tabs rfl rfl (hc_blk 0 rfl rfl)) rfl (fun w c => by exact c.drop) ?_
  refine h_take 2 rfl (by kernel_rfl) (by kernel_rfl) (by kernel_rfl) (by exact y_field tabs rfl rfl rfl) rfl (fun w c => by exact c.drop) ?_
  refine h_take 3 rfl (by kernel_rfl) (by kernel_rfl) (by kernel_rfl) (by exact y_load3 tabs rfl rfl (hc_blk 0 rfl rfl) (hc_blk 0 rfl rfl) (hc_blk 0 rfl rfl)) rfl (fun w c => by exact c.drop) ?_
  refine h_take 5 rfl (by kernel_rfl) (by kernel_rfl) (by kernel_rfl) (by exact y_field tabs rfl rfl rfl) rfl (fun w c => by exact c.drop) ?_
  refine h_take 6 rfl (by kernel_rfl) (by kernel_rfl) (by kernel_rfl) (by exact y_load tabs rfl rfl (hc_blk 0 rfl rfl)) rfl (fun w c => by exact c.drop) ?_
  refine h_take 8 rfl (by kernel_rfl) (by kernel_rfl) (by kernel_rfl) (by exact y_field tabs rfl rfl rfl) rfl (fun w c => by exact c.drop) ?_
  refine h_take 9 rfl (by kernel_rfl) (by kernel_rfl) (by kernel_rfl) (by exact y_load tabs rfl rfl (hc_blk 0 rfl rfl)) rfl (fun w c => by exact c.drop) ?_
  refine h_only 4 rfl (by kernel_rfl) ?_
  first | (refine m_call (ent_of Try.func125 (by kernel_rfl) rfl) rfl rfl (fun w c => qclone_ok (q := r.q) (c.rd h0) (c.rd h1) (by simp only [szQ]; omega)) ?_; rintro v H' ⟨aq, cq, aq', cq', rfl, hsq, hsq', rfl⟩) | (refine m_call (ent_of Try.func126 (by kernel_rfl) rfl) rfl rfl (fun w c => Clone_ok (c.rd h2) (by omega)) ?_; rintro v H' ⟨ad, cd, rfl, hsd, rfl⟩) | (refine m_call (ent_of Try.func127 (by kernel_rfl) rfl) rfl rfl (fun w c => copyMatrices_ok (c.rd h3) hbm (by omega)) ?_; rintro v H' ⟨am, cm, rfl, hsm, rfl⟩)
  refine c_nil (x_one (h_keep (fun w c => by exact c.sub (by repeat' first | exact List.Sublist.refl _ | exact List.nil_sublist _ | apply List.Sublist.cons_cons | apply List.Sublist.cons)) ?_))
  refine h_only 7 rfl (by kernel_rfl) ?_
  first | (refine m_call (ent_of Try.func125 (by kernel_rfl) rfl) rfl rfl (fun w c => qclone_ok (q := r.q) (c.rd h0) (c.rd h1) (by simp only [szQ]; omega)) ?_; rintro v H' ⟨aq, cq, aq', cq', rfl, hsq, hsq', rfl⟩) | (refine m_call (ent_of Try.func126 (by kernel_rfl) rfl) rfl rfl (fun w c => Clone_ok (c.rd h2) (by omega)) ?_; rintro v H' ⟨ad, cd, rfl, hsd, rfl⟩) | (refine m_call (ent_of Try.func127 (by kernel_rfl) rfl) rfl rfl (fun w c => copyMatrices_ok (c.rd h3) hbm (by omega)) ?_; rintro v H' ⟨am, cm, rfl, hsm, rfl⟩)
  refine c_nil (x_one (h_keep (fun w c => by exact c.sub (by repeat' first | exact List.Sublist.refl _ | exact List.nil_sublist _ | apply List.Sublist.cons_cons | apply List.Sublist.cons)) ?_))
  refine h_only 10 rfl (by kernel_rfl) ?_
  first | (refine m_call (ent_of Try.func125 (by kernel_rfl) rfl) rfl rfl (fun w c => qclone_ok (q := r.q) (c.rd h0) (c.rd h1) (by simp only [szQ]; omega)) ?_; rintro v H' ⟨aq, cq, aq', cq', rfl, hsq, hsq', rfl⟩) | (refine m_call (ent_of Try.func126 (by kernel_rfl) rfl) rfl rfl (fun w c => Clone_ok (c.rd h2) (by omega)) ?_; rintro v H' ⟨ad, cd, rfl, hsd, rfl⟩) | (refine m_call (ent_of Try.func127 (by kernel_rfl) rfl) rfl rfl (fun w c => copyMatrices_ok (c.rd h3) hbm (by omega)) ?_; rintro v H' ⟨am, cm, rfl, hsm, rfl⟩)
  refine c_nil (x_one (h_keep (fun w c => by exact c.sub (by repeat' first | exact List.Sublist.refl _ | exact List.nil_sublist _ | apply List.Sublist.cons_cons | apply List.Sublist.cons)) ?_))
  refine h_take 11 rfl (by kernel_rfl) (by kernel_rfl) (by kernel_rfl) (by exact y_bld4 (bld_rp4 _ _ _ _ _ _ _ _ _ _ _ _ _ _) rfl rfl rfl rfl) rfl (fun w c => by exact c.sub (by repeat' first | exact List.Sublist.refl _ | exact List.nil_sublist _ | apply List.Sublist.cons_cons | apply List.Sublist.cons)) ?_
  refine h_end (by kernel_rfl) ?_
  repeat' (first
    | (show AT _ _ _ (wpList _ _ _ (_ :: _)); first
       | (show AT _ _ _ (wpList _ _ _ (⟨_, Op.store _ _ _, _, _, _, _⟩ :: _)); refine m_storeb 4 tabs rfl rfl rfl rfl rfl rfl rfl ?_))
    | (show AT _ _ _ (wpList _ _ _ []); refine c_nil (x_then ?_))
    | (show AT _ _ _ (Code.wp _ _ _); refine c_ret ?_))
  exact x_ret1 Try.results75 (res_cellb 4 tabs rfl rfl rfl rfl) (fun w' c' => ⟨_, _, rfl, ⟨aq, cq, aq', cq', ad, cd, am, cm, rfl, hsq, hsq', hsd, hsm, rfl⟩, c'.sub (.cons_cons _ (.cons_cons _ (.cons_cons _ (.cons_cons _ (List.nil_sublist _)))))⟩)
end Go.Proofs.Ytfhgpkdhhclpbaa
