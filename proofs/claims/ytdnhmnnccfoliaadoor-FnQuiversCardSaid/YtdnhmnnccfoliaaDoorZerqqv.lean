import Derived.Test.YtdnhmnnccfoliaaDoorFitqqv
import Derived.Test.YtdnhmnnccfoliaaDoorMxfqqv
namespace Go.Proofs.YtdnhmnnccfoliaaDoor
open Go.Lg Go.Proofs Go.RowKit
attribute [local irreducible] Code.wp wpList bodyPost Exit.then Exit.inBlock Hp Again Calls Y AT ResV QT Qn QI wpAny wpAnyQ
set_option maxRecDepth 20000
set_option maxHeartbeats 4000000

theorem bld_qv (r : Int) (a a' : Option Addr) (m c m' c' : Nat) (w : World) : (Instr.build 26 #[(0, iV r), (1, .slice a m c), (2, .slice a' m' c')]).run Tryd.prog w = .ok (.agg #[iV r, .slice a m c, .slice a' m' c']) w := by kernel_rfl
theorem l6Copy_ok {w : World} {q : Qv} {u u' : Value} (hu : Rd w (iT q.2.1) u) (hu' : Rd w (iT q.2.2) u') (hb : szQ q ≤ 1048576) : Does Tryd.prog 55 [.agg #[iV q.1, u, u']] w (GivesQ q) := by
  obtain ⟨n, xs, ys⟩ := q
  simp only [szQ] at hu hu' hb ⊢
  obtain ⟨a0, c0, rfl, hs0, _⟩ := hu.ints
  obtain ⟨a1, c1, rfl, hs1, _⟩ := hu'.ints
  refine fn_enter Tryd.func55 rfl Tryd.ntmps55 rfl ?_
  repeat' (first | (show oL; first | (show oA (.box _ _); refine m_box rfl rfl (fun b1 hb1 => ?_)) | (show oA (.alloc _); refine m_alloc tabs rfl rfl (fun b2 hb2 => ?_))) | refine xNt ?_ | (show oC; first | refine c_seq ?_ | refine c_region ?_))
  refine c_all (Hp [] w [.blk b1 #[iV n, .slice a0 xs.length c0, .slice a1 ys.length c1] 26]) kr (fun _ c => Hp.drew c) ?_
  refine h_take 0 rfl kr kr kr (by exact y_field tabs rfl rfl rfl) rfl (fun w c => by exact c.drop) ?_
  refine h_take 1 rfl kr kr kr (by exact y_load tabs rfl rfl (hc_blk 0 rfl rfl)) rfl (fun w c => by exact c.drop) ?_
  refine h_take 3 rfl kr kr kr (by exact y_field tabs rfl rfl rfl) rfl (fun w c => by exact c.drop) ?_
  refine h_take 4 rfl kr kr kr (by exact y_load tabs rfl rfl (hc_blk 0 rfl rfl)) rfl (fun w c => by exact c.drop) ?_
  refine h_take 7 rfl kr kr kr (by exact y_field tabs rfl rfl rfl) rfl (fun w c => by exact c.drop) ?_
  refine h_take 8 rfl kr kr kr (by exact y_load tabs rfl rfl (hc_blk 0 rfl rfl)) rfl (fun w c => by exact c.drop) ?_
  refine h_two 2 6 rfl rfl kr ?_ ?_
  · (refine m_build0 tabs rfl rfl (fun g hg => ?_))
    refine c_nil (x_one (h_keep (fun w c => by exact c.drop.drop) ?_))
    refine h_two 5 6 rfl rfl kr ?_ ?_
    · (refine m_dup 0 tabs rfl rfl rfl rfl rfl om (fun w c => c.rd hu) (fun a2 c2 hs2 => ?_))
      refine c_nil (x_one (h_keep (fun w c => by exact c.drop.drop) ?_))
      refine h_only 6 rfl kr ?_
      first | (refine m_build0 tabs rfl rfl (fun g hg => ?_)) | (refine m_dup 0 tabs rfl rfl rfl rfl rfl om (fun w c => c.rd hu') (fun a3 c3 hs3 => ?_)) | (refine m_storeb 2 tabs rfl rfl rfl rfl rfl rfl rfl ?_)
      refine c_nil (x_one (h_keep sS ?_))
      refine h_only 9 rfl kr ?_
      first | (refine m_build0 tabs rfl rfl (fun g hg => ?_)) | (refine m_dup 0 tabs rfl rfl rfl rfl rfl om (fun w c => c.rd hu') (fun a3 c3 hs3 => ?_)) | (refine m_storeb 2 tabs rfl rfl rfl rfl rfl rfl rfl ?_)
      refine c_nil (x_one (h_keep sS ?_))
      refine h_take 10 rfl kr kr kr (by exact y_bld3 (bld_qv _ _ _ _ _ _ _) rfl rfl rfl) rfl sS ?_
      refine h_only 11 rfl kr ?_
      first | (refine m_build0 tabs rfl rfl (fun g hg => ?_)) | (refine m_dup 0 tabs rfl rfl rfl rfl rfl om (fun w c => c.rd hu') (fun a3 c3 hs3 => ?_)) | (refine m_storeb 2 tabs rfl rfl rfl rfl rfl rfl rfl ?_)
      refine c_nil (x_one (h_keep sS ?_))
      refine h_end kr ?_
      repeat' (first | (show oC; refine c_ret ?_) | (show AT _ _ _ _; refine x_then ?_))
      exact x_ret1 Tryd.results55 (res_cellb 2 tabs rfl rfl rfl rfl) (fun w' c' => ⟨_, _, rfl, ⟨a2, c2, a3, c3, rfl, hs2, hs3, rfl⟩, c'.sub (.cons_cons _ (.cons_cons _ (List.nil_sublist _)))⟩)
    · (refine m_build0 tabs rfl rfl (fun g hg => ?_))
      refine c_nil (x_one (h_keep sS ?_))
      refine h_only 5 rfl kr ?_
      first | (refine m_dup 1 tabs rfl rfl rfl rfl rfl om (fun w c => c.rd hu) (fun a2 c2 hs2 => ?_)) | (refine m_dup 1 tabs rfl rfl rfl rfl rfl om (fun w c => c.rd hu') (fun a3 c3 hs3 => ?_)) | (refine m_storeb 2 tabs rfl rfl rfl rfl rfl rfl rfl ?_)
      refine c_nil (x_one (h_keep sS ?_))
      refine h_only 9 rfl kr ?_
      first | (refine m_dup 1 tabs rfl rfl rfl rfl rfl om (fun w c => c.rd hu) (fun a2 c2 hs2 => ?_)) | (refine m_dup 1 tabs rfl rfl rfl rfl rfl om (fun w c => c.rd hu') (fun a3 c3 hs3 => ?_)) | (refine m_storeb 2 tabs rfl rfl rfl rfl rfl rfl rfl ?_)
      refine c_nil (x_one (h_keep sS ?_))
      refine h_take 10 rfl kr kr kr (by exact y_bld3 (bld_qv _ _ _ _ _ _ _) rfl rfl rfl) rfl sS ?_
      refine h_only 11 rfl kr ?_
      first | (refine m_dup 1 tabs rfl rfl rfl rfl rfl om (fun w c => c.rd hu) (fun a2 c2 hs2 => ?_)) | (refine m_dup 1 tabs rfl rfl rfl rfl rfl om (fun w c => c.rd hu') (fun a3 c3 hs3 => ?_)) | (refine m_storeb 2 tabs rfl rfl rfl rfl rfl rfl rfl ?_)
      refine c_nil (x_one (h_keep sS ?_))
      refine h_end kr ?_
      repeat' (first | (show oC; refine c_ret ?_) | (show AT _ _ _ _; refine x_then ?_))
      exact x_ret1 Tryd.results55 (res_cellb 2 tabs rfl rfl rfl rfl) (fun w' c' => ⟨_, _, rfl, ⟨a2, c2, a3, c3, rfl, hs2, hs3, rfl⟩, c'.sub (.cons_cons _ (.cons_cons _ (List.nil_sublist _)))⟩)
  · (refine m_build0 tabs rfl rfl (fun g hg => ?_))
    refine c_nil (x_one (h_keep (fun w c => by exact c.drop.drop) ?_))
    refine h_only 2 rfl kr ?_
    first | (refine m_build0 tabs rfl rfl (fun g hg => ?_)) | (refine m_dup 0 tabs rfl rfl rfl rfl rfl om (fun w c => c.rd hu) (fun a2 c2 hs2 => ?_)) | (refine m_dup 1 tabs rfl rfl rfl rfl rfl om (fun w c => c.rd hu') (fun a3 c3 hs3 => ?_)) | (refine m_storeb 2 tabs rfl rfl rfl rfl rfl rfl rfl ?_)
    refine c_nil (x_one (h_keep sS ?_))
    refine h_only 5 rfl kr ?_
    first | (refine m_build0 tabs rfl rfl (fun g hg => ?_)) | (refine m_dup 0 tabs rfl rfl rfl rfl rfl om (fun w c => c.rd hu) (fun a2 c2 hs2 => ?_)) | (refine m_dup 1 tabs rfl rfl rfl rfl rfl om (fun w c => c.rd hu') (fun a3 c3 hs3 => ?_)) | (refine m_storeb 2 tabs rfl rfl rfl rfl rfl rfl rfl ?_)
    refine c_nil (x_one (h_keep sS ?_))
    refine h_only 9 rfl kr ?_
    first | (refine m_build0 tabs rfl rfl (fun g hg => ?_)) | (refine m_dup 0 tabs rfl rfl rfl rfl rfl om (fun w c => c.rd hu) (fun a2 c2 hs2 => ?_)) | (refine m_dup 1 tabs rfl rfl rfl rfl rfl om (fun w c => c.rd hu') (fun a3 c3 hs3 => ?_)) | (refine m_storeb 2 tabs rfl rfl rfl rfl rfl rfl rfl ?_)
    refine c_nil (x_one (h_keep sS ?_))
    refine h_take 10 rfl kr kr kr (by exact y_bld3 (bld_qv _ _ _ _ _ _ _) rfl rfl rfl) rfl sS ?_
    refine h_only 11 rfl kr ?_
    first | (refine m_build0 tabs rfl rfl (fun g hg => ?_)) | (refine m_dup 0 tabs rfl rfl rfl rfl rfl om (fun w c => c.rd hu) (fun a2 c2 hs2 => ?_)) | (refine m_dup 1 tabs rfl rfl rfl rfl rfl om (fun w c => c.rd hu') (fun a3 c3 hs3 => ?_)) | (refine m_storeb 2 tabs rfl rfl rfl rfl rfl rfl rfl ?_)
    refine c_nil (x_one (h_keep sS ?_))
    refine h_end kr ?_
    repeat' (first | (show oC; refine c_ret ?_) | (show AT _ _ _ _; refine x_then ?_))
    exact x_ret1 Tryd.results55 (res_cellb 2 tabs rfl rfl rfl rfl) (fun w' c' => ⟨_, _, rfl, ⟨a2, c2, a3, c3, rfl, hs2, hs3, rfl⟩, c'.sub (.cons_cons _ (.cons_cons _ (List.nil_sublist _)))⟩)
theorem qclone_ok {w : World} {q : Qv} {u u' : Value} (hu : Rd w (iT q.2.1) u) (hu' : Rd w (iT q.2.2) u') (hb : szQ q ≤ 1048576) : Does Tryd.prog 54 [.agg #[iV q.1, u, u']] w (GivesQ q) := by
  obtain ⟨n, xs, ys⟩ := q
  simp only [szQ] at hu hu' hb ⊢
  refine fn_enter Tryd.func54 rfl Tryd.ntmps54 rfl ?_
  repeat' (first | (show oL; first | (show oA (.box _ _); refine m_box rfl rfl (fun b1 hb1 => ?_)) | (show oA (.alloc _); refine m_alloc tabs rfl rfl (fun b2 hb2 => ?_))) | refine xNt ?_ | (show oC; first | refine c_seq ?_ | refine c_region ?_))
  refine c_all (Hp [] w [.blk b1 #[iV n, u, u'] 26]) kr (fun _ c => Hp.drew c) ?_
  refine h_take 0 rfl kr kr kr (by exact y_field tabs rfl rfl rfl) rfl (fun w c => by exact c.drop) ?_
  refine h_take 1 rfl kr kr kr (by exact y_load tabs rfl rfl (hc_blk 0 rfl rfl)) rfl (fun w c => by exact c.drop) ?_
  refine h_take 2 rfl kr kr kr (by exact y_field tabs rfl rfl rfl) rfl (fun w c => by exact c.drop) ?_
  refine h_take 3 rfl kr kr kr (by exact y_load tabs rfl rfl (hc_blk 0 rfl rfl)) rfl (fun w c => by exact c.drop) ?_
  refine h_take 5 rfl kr kr kr (by exact y_field tabs rfl rfl rfl) rfl (fun w c => by exact c.drop) ?_
  refine h_take 6 rfl kr kr kr (by exact y_load tabs rfl rfl (hc_blk 0 rfl rfl)) rfl (fun w c => by exact c.drop) ?_
  refine h_only 4 rfl kr ?_
  first | (refine m_call (ent_of Tryd.func47 kr rfl) rfl rfl (fun w c => Clone_ok (c.rd hu) om) ?_; rintro v H' ⟨a2, c2, rfl, hs2, rfl⟩) | (refine m_call (ent_of Tryd.func47 kr rfl) rfl rfl (fun w c => Clone_ok (c.rd hu') om) ?_; rintro v H' ⟨a3, c3, rfl, hs3, rfl⟩) | (refine m_storeb 2 tabs rfl rfl rfl rfl rfl rfl rfl ?_)
  refine c_nil (x_one (h_keep (fun w c => by exact c.drop.drop) ?_))
  refine h_only 7 rfl kr ?_
  first | (refine m_call (ent_of Tryd.func47 kr rfl) rfl rfl (fun w c => Clone_ok (c.rd hu) om) ?_; rintro v H' ⟨a2, c2, rfl, hs2, rfl⟩) | (refine m_call (ent_of Tryd.func47 kr rfl) rfl rfl (fun w c => Clone_ok (c.rd hu') om) ?_; rintro v H' ⟨a3, c3, rfl, hs3, rfl⟩) | (refine m_storeb 2 tabs rfl rfl rfl rfl rfl rfl rfl ?_)
  refine c_nil (x_one (h_keep sS ?_))
  refine h_take 8 rfl kr kr kr (by exact y_bld3 (bld_qv _ _ _ _ _ _ _) rfl rfl rfl) rfl sS ?_
  refine h_only 9 rfl kr ?_
  first | (refine m_call (ent_of Tryd.func47 kr rfl) rfl rfl (fun w c => Clone_ok (c.rd hu) om) ?_; rintro v H' ⟨a2, c2, rfl, hs2, rfl⟩) | (refine m_call (ent_of Tryd.func47 kr rfl) rfl rfl (fun w c => Clone_ok (c.rd hu') om) ?_; rintro v H' ⟨a3, c3, rfl, hs3, rfl⟩) | (refine m_storeb 2 tabs rfl rfl rfl rfl rfl rfl rfl ?_)
  refine c_nil (x_one (h_keep sS ?_))
  refine h_end kr ?_
  repeat' (first | (show oC; refine c_ret ?_) | (show AT _ _ _ _; refine x_then ?_))
  exact x_ret1 Tryd.results54 (res_cellb 2 tabs rfl rfl rfl rfl) (fun w' c' => ⟨_, _, rfl, ⟨a2, c2, a3, c3, rfl, hs2, hs3, rfl⟩, c'.sub (.cons_cons _ (.cons_cons _ (List.nil_sublist _)))⟩)
def zM (q : Qv) (d : List Int) (i : Nat) : Mat := (((d.getD (q.2.2.getD i 0).toNat 0).toNat : Nat), ((d.getD (q.2.1.getD i 0).toNat 0).toNat : Nat), mk (d.getD (q.2.2.getD i 0).toNat 0).toNat (d.getD (q.2.1.getD i 0).toNat 0).toNat (fun _ _ => 0))
def ArrP (q : Qv) (d : List Int) : Prop := q.2.1.length = q.2.2.length ∧ q.2.1.length ≤ 1024 ∧ d.length ≤ 1024 ∧ (∀ x ∈ q.2.1, 0 ≤ x ∧ x < d.length) ∧ (∀ x ∈ q.2.2, 0 ≤ x ∧ x < d.length) ∧ ∀ x ∈ d, 0 ≤ x ∧ x ≤ 1000
theorem ArrP.at {q : Qv} {d : List Int} (h : ArrP q d) {i : Nat} (hi : i < q.2.1.length) : ∃ f t dt df : Nat, q.2.1.getD i 0 = f ∧ q.2.2.getD i 0 = t ∧ f < d.length ∧ t < d.length ∧ d.getD t 0 = dt ∧ d.getD f 0 = df ∧ dt ≤ 1000 ∧ df ≤ 1000 ∧ zM q d i = ((dt : Int), (df : Int), mk dt df (fun _ _ => 0)) := by
  obtain ⟨h1, h2, h3, h4, h5, h6⟩ := h
  have k1 := h4 _ (List.mem_of_getElem? (getD_some (z := 0) hi))
  have k2 := h5 _ (List.mem_of_getElem? (getD_some (z := 0) (show i < q.2.2.length by omega)))
  have m1 : (q.2.1.getD i 0).toNat < d.length := by omega
  have m2 : (q.2.2.getD i 0).toNat < d.length := by omega
  have k3 := h6 _ (List.mem_of_getElem? (getD_some (z := 0) m1))
  have k4 := h6 _ (List.mem_of_getElem? (getD_some (z := 0) m2))
  exact ⟨(q.2.1.getD i 0).toNat, (q.2.2.getD i 0).toNat, (d.getD (q.2.2.getD i 0).toNat 0).toNat, (d.getD (q.2.1.getD i 0).toNat 0).toNat, by omega, by omega, m1, m2, by omega, by omega, by omega, by omega, rfl⟩
end Go.Proofs.YtdnhmnnccfoliaaDoor
