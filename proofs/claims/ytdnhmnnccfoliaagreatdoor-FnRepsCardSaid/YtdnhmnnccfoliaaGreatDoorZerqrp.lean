import Derived.Test.YtdnhmnnccfoliaaGreatDoorFitqrp
import Derived.Test.YtdnhmnnccfoliaaGreatDoorMxfqrp
namespace Go.Proofs.YtdnhmnnccfoliaaGreatDoor
open Go.Lg Go.Proofs Go.RowKit
attribute [local irreducible] Code.wp wpList bodyPost Exit.then Exit.inBlock Hp Again Calls Y AT ResV QT Qn QI wpAny wpAnyQ
set_option maxRecDepth 20000
set_option maxHeartbeats 4000000

theorem bld_qv (r : Int) (a a' : Option Addr) (m c m' c' : Nat) (w : World) : (Instr.build 26 #[(0, iV r), (1, .slice a m c), (2, .slice a' m' c')]).run Tryz.prog w = .ok (.agg #[iV r, .slice a m c, .slice a' m' c']) w := by kernel_rfl
theorem l6Copy_ok {w : World} {q : Qv} {u u' : Value} (hu : Rd w (iT q.2.1) u) (hu' : Rd w (iT q.2.2) u') (hb : szQ q ≤ 1048576) : Does Tryz.prog 78 [.agg #[iV q.1, u, u']] w (GivesQ q) := by
  obtain ⟨n, xs, ys⟩ := q
  simp only [szQ] at hu hu' hb ⊢
  obtain ⟨a0, c0, rfl, hs0, _⟩ := hu.ints
  obtain ⟨a1, c1, rfl, hs1, _⟩ := hu'.ints
  refine fn_enter Tryz.func78 rfl Tryz.ntmps78 rfl ?_
  repeat' (first | (show oL; first | (show oA (.box _ _); refine m_box rfl rfl (fun b1 hb1 => ?_)) | (show oA (.alloc _); refine m_alloc tabs rfl rfl (fun b2 hb2 => ?_))) | refine xNt ?_ | (show oC; first | refine c_seq ?_ | refine c_region ?_))
  refine c_all (Hp [] w [.blk b1 #[iV n, .slice a0 xs.length c0, .slice a1 ys.length c1] 26]) kr (fun _ c => Hp.drew c) ?_
  refine h_take 0 rfl kr kr kr (by exact y_field tabs rfl rfl rfl) rfl (fun w c => by exact c.drop) ?_
  refine h_take 1 rfl kr kr kr (by exact y_load tabs rfl rfl (hc_blk 0 rfl rfl)) rfl (fun w c => by exact c.drop) ?_
  refine h_take 3 rfl kr kr kr (by exact y_field tabs rfl rfl rfl) rfl (fun w c => by exact c.drop) ?_
  refine h_take 4 rfl kr kr kr (by exact y_load tabs rfl rfl (hc_blk 0 rfl rfl)) rfl (fun w c => by exact c.drop) ?_
  refine h_take 7 rfl kr kr kr (by exact y_field tabs rfl rfl rfl) rfl (fun w c => by exact c.drop) ?_
  refine h_take 8 rfl kr kr kr (by exact y_load tabs rfl rfl (hc_blk 0 rfl rfl)) rfl (fun w c => by exact c.drop) ?_
  refine h_two 2 6 rfl rfl kr ?_ ?_
  · (refine m_build0 tabs rfl rfl (fun g hg => ?_))
    refine c_nil (x_one (h_keep (fun w c => by exact c.drop.drop) ?_))
    refine h_two 5 6 rfl rfl kr ?_ ?_
    · (refine m_dup 0 tabs rfl rfl rfl rfl rfl om (fun w c => c.rd hu) (fun a2 c2 hs2 => ?_))
      refine c_nil (x_one (h_keep (fun w c => by exact c.drop.drop) ?_))
      refine h_only 6 rfl kr ?_
      first | (refine m_build0 tabs rfl rfl (fun g hg => ?_)) | (refine m_dup 0 tabs rfl rfl rfl rfl rfl om (fun w c => c.rd hu') (fun a3 c3 hs3 => ?_)) | (refine m_storeb 2 tabs rfl rfl rfl rfl rfl rfl rfl ?_)
      refine c_nil (x_one (h_keep sS ?_))
      refine h_only 9 rfl kr ?_
      first | (refine m_build0 tabs rfl rfl (fun g hg => ?_)) | (refine m_dup 0 tabs rfl rfl rfl rfl rfl om (fun w c => c.rd hu') (fun a3 c3 hs3 => ?_)) | (refine m_storeb 2 tabs rfl rfl rfl rfl rfl rfl rfl ?_)
      refine c_nil (x_one (h_keep sS ?_))
      refine h_take 10 rfl kr kr kr (by exact y_bld3 (bld_qv _ _ _ _ _ _ _) rfl rfl rfl) rfl sS ?_
      refine h_only 11 rfl kr ?_
      first | (refine m_build0 tabs rfl rfl (fun g hg => ?_)) | (refine m_dup 0 tabs rfl rfl rfl rfl rfl om (fun w c => c.rd hu') (fun a3 c3 hs3 => ?_)) | (refine m_storeb 2 tabs rfl rfl rfl rfl rfl rfl rfl ?_)
      refine c_nil (x_one (h_keep sS ?_))
      refine h_end kr ?_
      repeat' (first | (show oC; refine c_ret ?_) | (show AT _ _ _ _; refine x_then ?_))
      exact x_ret1 Tryz.results78 (res_cellb 2 tabs rfl rfl rfl rfl) (fun w' c' => ⟨_, _, rfl, ⟨a2, c2, a3, c3, rfl, hs2, hs3, rfl⟩, c'.sub (.cons_cons _ (.cons_cons _ (List.nil_sublist _)))⟩)
    · (refine m_build0 tabs rfl rfl (fun g hg => ?_))
      refine c_nil (x_one (h_keep sS ?_))
      refine h_only 5 rfl kr ?_
      first | (refine m_dup 1 tabs rfl rfl rfl rfl rfl om (fun w c => c.rd hu) (fun a2 c2 hs2 => ?_)) | (refine m_dup 1 tabs rfl rfl rfl rfl rfl om (fun w c => c.rd hu') (fun a3 c3 hs3 => ?_)) | (refine m_storeb 2 tabs rfl rfl rfl rfl rfl rfl rfl ?_)
      refine c_nil (x_one (h_keep sS ?_))
      refine h_only 9 rfl kr ?_
      first | (refine m_dup 1 tabs rfl rfl rfl rfl rfl om (fun w c => c.rd hu) (fun a2 c2 hs2 => ?_)) | (refine m_dup 1 tabs rfl rfl rfl rfl rfl om (fun w c => c.rd hu') (fun a3 c3 hs3 => ?_)) | (refine m_storeb 2 tabs rfl rfl rfl rfl rfl rfl rfl ?_)
      refine c_nil (x_one (h_keep sS ?_))
      refine h_take 10 rfl kr kr kr (by exact y_bld3 (bld_qv _ _ _ _ _ _ _) rfl rfl rfl) rfl sS ?_
      refine h_only 11 rfl kr ?_
      first | (refine m_dup 1 tabs rfl rfl rfl rfl rfl om (fun w c => c.rd hu) (fun a2 c2 hs2 => ?_)) | (refine m_dup 1 tabs rfl rfl rfl rfl rfl om (fun w c => c.rd hu') (fun a3 c3 hs3 => ?_)) | (refine m_storeb 2 tabs rfl rfl rfl rfl rfl rfl rfl ?_)
      refine c_nil (x_one (h_keep sS ?_))
      refine h_end kr ?_
      repeat' (first | (show oC; refine c_ret ?_) | (show AT _ _ _ _; refine x_then ?_))
      exact x_ret1 Tryz.results78 (res_cellb 2 tabs rfl rfl rfl rfl) (fun w' c' => ⟨_, _, rfl, ⟨a2, c2, a3, c3, rfl, hs2, hs3, rfl⟩, c'.sub (.cons_cons _ (.cons_cons _ (List.nil_sublist _)))⟩)
  · (refine m_build0 tabs rfl rfl (fun g hg => ?_))
    refine c_nil (x_one (h_keep (fun w c => by exact c.drop.drop) ?_))
    refine h_only 2 rfl kr ?_
    first | (refine m_build0 tabs rfl rfl (fun g hg => ?_)) | (refine m_dup 0 tabs rfl rfl rfl rfl rfl om (fun w c => c.rd hu) (fun a2 c2 hs2 => ?_)) | (refine m_dup 1 tabs rfl rfl rfl rfl rfl om (fun w c => c.rd hu') (fun a3 c3 hs3 => ?_)) | (refine m_storeb 2 tabs rfl rfl rfl rfl rfl rfl rfl ?_)
    refine c_nil (x_one (h_keep sS ?_))
    refine h_only 5 rfl kr ?_
    first | (refine m_build0 tabs rfl rfl (fun g hg => ?_)) | (refine m_dup 0 tabs rfl rfl rfl rfl rfl om (fun w c => c.rd hu) (fun a2 c2 hs2 => ?_)) | (refine m_dup 1 tabs rfl rfl rfl rfl rfl om (fun w c => c.rd hu') (fun a3 c3 hs3 => ?_)) | (refine m_storeb 2 tabs rfl rfl rfl rfl rfl rfl rfl ?_)
    refine c_nil (x_one (h_keep sS ?_))
    refine h_only 9 rfl kr ?_
    first | (refine m_build0 tabs rfl rfl (fun g hg => ?_)) | (refine m_dup 0 tabs rfl rfl rfl rfl rfl om (fun w c => c.rd hu) (fun a2 c2 hs2 => ?_)) | (refine m_dup 1 tabs rfl rfl rfl rfl rfl om (fun w c => c.rd hu') (fun a3 c3 hs3 => ?_)) | (refine m_storeb 2 tabs rfl rfl rfl rfl rfl rfl rfl ?_)
    refine c_nil (x_one (h_keep sS ?_))
    refine h_take 10 rfl kr kr kr (by exact y_bld3 (bld_qv _ _ _ _ _ _ _) rfl rfl rfl) rfl sS ?_
    refine h_only 11 rfl kr ?_
    first | (refine m_build0 tabs rfl rfl (fun g hg => ?_)) | (refine m_dup 0 tabs rfl rfl rfl rfl rfl om (fun w c => c.rd hu) (fun a2 c2 hs2 => ?_)) | (refine m_dup 1 tabs rfl rfl rfl rfl rfl om (fun w c => c.rd hu') (fun a3 c3 hs3 => ?_)) | (refine m_storeb 2 tabs rfl rfl rfl rfl rfl rfl rfl ?_)
    refine c_nil (x_one (h_keep sS ?_))
    refine h_end kr ?_
    repeat' (first | (show oC; refine c_ret ?_) | (show AT _ _ _ _; refine x_then ?_))
    exact x_ret1 Tryz.results78 (res_cellb 2 tabs rfl rfl rfl rfl) (fun w' c' => ⟨_, _, rfl, ⟨a2, c2, a3, c3, rfl, hs2, hs3, rfl⟩, c'.sub (.cons_cons _ (.cons_cons _ (List.nil_sublist _)))⟩)
theorem qclone_ok {w : World} {q : Qv} {u u' : Value} (hu : Rd w (iT q.2.1) u) (hu' : Rd w (iT q.2.2) u') (hb : szQ q ≤ 1048576) : Does Tryz.prog 82 [.agg #[iV q.1, u, u']] w (GivesQ q) := by
  obtain ⟨n, xs, ys⟩ := q
  simp only [szQ] at hu hu' hb ⊢
  refine fn_enter Tryz.func82 rfl Tryz.ntmps82 rfl ?_
  repeat' (first | (show oL; first | (show oA (.box _ _); refine m_box rfl rfl (fun b1 hb1 => ?_)) | (show oA (.alloc _); refine m_alloc tabs rfl rfl (fun b2 hb2 => ?_))) | refine xNt ?_ | (show oC; first | refine c_seq ?_ | refine c_region ?_))
  refine c_all (Hp [] w [.blk b1 #[iV n, u, u'] 26]) kr (fun _ c => Hp.drew c) ?_
  refine h_take 0 rfl kr kr kr (by exact y_field tabs rfl rfl rfl) rfl (fun w c => by exact c.drop) ?_
  refine h_take 1 rfl kr kr kr (by exact y_load tabs rfl rfl (hc_blk 0 rfl rfl)) rfl (fun w c => by exact c.drop) ?_
  refine h_take 2 rfl kr kr kr (by exact y_field tabs rfl rfl rfl) rfl (fun w c => by exact c.drop) ?_
  refine h_take 3 rfl kr kr kr (by exact y_load tabs rfl rfl (hc_blk 0 rfl rfl)) rfl (fun w c => by exact c.drop) ?_
  refine h_take 5 rfl kr kr kr (by exact y_field tabs rfl rfl rfl) rfl (fun w c => by exact c.drop) ?_
  refine h_take 6 rfl kr kr kr (by exact y_load tabs rfl rfl (hc_blk 0 rfl rfl)) rfl (fun w c => by exact c.drop) ?_
  refine h_only 4 rfl kr ?_
  first | (refine m_call (ent_of Tryz.func138 kr rfl) rfl rfl (fun w c => Clone_ok (c.rd hu) om) ?_; rintro v H' ⟨a2, c2, rfl, hs2, rfl⟩) | (refine m_call (ent_of Tryz.func138 kr rfl) rfl rfl (fun w c => Clone_ok (c.rd hu') om) ?_; rintro v H' ⟨a3, c3, rfl, hs3, rfl⟩) | (refine m_storeb 2 tabs rfl rfl rfl rfl rfl rfl rfl ?_)
  refine c_nil (x_one (h_keep (fun w c => by exact c.drop.drop) ?_))
  refine h_only 7 rfl kr ?_
  first | (refine m_call (ent_of Tryz.func138 kr rfl) rfl rfl (fun w c => Clone_ok (c.rd hu) om) ?_; rintro v H' ⟨a2, c2, rfl, hs2, rfl⟩) | (refine m_call (ent_of Tryz.func138 kr rfl) rfl rfl (fun w c => Clone_ok (c.rd hu') om) ?_; rintro v H' ⟨a3, c3, rfl, hs3, rfl⟩) | (refine m_storeb 2 tabs rfl rfl rfl rfl rfl rfl rfl ?_)
  refine c_nil (x_one (h_keep sS ?_))
  refine h_take 8 rfl kr kr kr (by exact y_bld3 (bld_qv _ _ _ _ _ _ _) rfl rfl rfl) rfl sS ?_
  refine h_only 9 rfl kr ?_
  first | (refine m_call (ent_of Tryz.func138 kr rfl) rfl rfl (fun w c => Clone_ok (c.rd hu) om) ?_; rintro v H' ⟨a2, c2, rfl, hs2, rfl⟩) | (refine m_call (ent_of Tryz.func138 kr rfl) rfl rfl (fun w c => Clone_ok (c.rd hu') om) ?_; rintro v H' ⟨a3, c3, rfl, hs3, rfl⟩) | (refine m_storeb 2 tabs rfl rfl rfl rfl rfl rfl rfl ?_)
  refine c_nil (x_one (h_keep sS ?_))
  refine h_end kr ?_
  repeat' (first | (show oC; refine c_ret ?_) | (show AT _ _ _ _; refine x_then ?_))
  exact x_ret1 Tryz.results82 (res_cellb 2 tabs rfl rfl rfl rfl) (fun w' c' => ⟨_, _, rfl, ⟨a2, c2, a3, c3, rfl, hs2, hs3, rfl⟩, c'.sub (.cons_cons _ (.cons_cons _ (List.nil_sublist _)))⟩)
def zM (q : Qv) (d : List Int) (i : Nat) : Mat := (((d.getD (q.2.2.getD i 0).toNat 0).toNat : Nat), ((d.getD (q.2.1.getD i 0).toNat 0).toNat : Nat), mk (d.getD (q.2.2.getD i 0).toNat 0).toNat (d.getD (q.2.1.getD i 0).toNat 0).toNat (fun _ _ => 0))
def zMs (q : Qv) (d : List Int) (n : Nat) : List Mat := (List.range n).map (zM q d)
@[simp] theorem zMs_length {q : Qv} {d : List Int} {n : Nat} : (zMs q d n).length = n := by simp [zMs]
def zeroR (p : Int) (q : Qv) (d : List Int) : Rp := ⟨p, q, d, zMs q d q.2.1.length⟩
def ArrP (q : Qv) (d : List Int) : Prop := q.2.1.length = q.2.2.length ∧ q.2.1.length ≤ 1024 ∧ d.length ≤ 1024 ∧ (∀ x ∈ q.2.1, 0 ≤ x ∧ x < d.length) ∧ (∀ x ∈ q.2.2, 0 ≤ x ∧ x < d.length) ∧ ∀ x ∈ d, 0 ≤ x ∧ x ≤ 1000
theorem DimsP.arr {q : Qv} {d : List Int} (h : DimsP q d) : ArrP q d := by
  obtain ⟨⟨hV, hF6, hTF, hFi, hTi⟩, hdV, hdi, hds⟩ := h
  refine ⟨by omega, by omega, by omega, fun x hx => ?_, fun x hx => ?_, fun x hx => ?_⟩
  · have := hFi x hx; omega
  · have := hTi x hx; omega
  · have := hdi x hx; omega
theorem ArrP.at {q : Qv} {d : List Int} (h : ArrP q d) {i : Nat} (hi : i < q.2.1.length) : ∃ f t dt df : Nat, q.2.1.getD i 0 = f ∧ q.2.2.getD i 0 = t ∧ f < d.length ∧ t < d.length ∧ d.getD t 0 = dt ∧ d.getD f 0 = df ∧ dt ≤ 1000 ∧ df ≤ 1000 ∧ zM q d i = ((dt : Int), (df : Int), mk dt df (fun _ _ => 0)) := by
  obtain ⟨h1, h2, h3, h4, h5, h6⟩ := h
  have k1 := h4 _ (List.mem_of_getElem? (getD_some (z := 0) hi))
  have k2 := h5 _ (List.mem_of_getElem? (getD_some (z := 0) (show i < q.2.2.length by omega)))
  have m1 : (q.2.1.getD i 0).toNat < d.length := by omega
  have m2 : (q.2.2.getD i 0).toNat < d.length := by omega
  have k3 := h6 _ (List.mem_of_getElem? (getD_some (z := 0) m1))
  have k4 := h6 _ (List.mem_of_getElem? (getD_some (z := 0) m2))
  exact ⟨(q.2.1.getD i 0).toNat, (q.2.2.getD i 0).toNat, (d.getD (q.2.2.getD i 0).toNat 0).toNat, (d.getD (q.2.1.getD i 0).toNat 0).toNat, by omega, by omega, m1, m2, by omega, by omega, by omega, by omega, rfl⟩
theorem bld_rp4 (p r : Int) (a0 a1 a2 a3 : Option Addr) (m0 c0 m1 c1 m2 c2 m3 c3 : Nat) (w : World) : (Instr.build 29 #[(0, iV p), (1, .agg #[iV r, .slice a0 m0 c0, .slice a1 m1 c1]), (2, .slice a2 m2 c2), (3, .slice a3 m3 c3)]).run Tryz.prog w = .ok (.agg #[iV p, iV r, .slice a0 m0 c0, .slice a1 m1 c1, .slice a2 m2 c2, .slice a3 m3 c3]) w := by kernel_rfl
theorem bld_rp3 (p r : Int) (a0 a1 a2 : Option Addr) (m0 c0 m1 c1 m2 c2 : Nat) (w : World) : (Instr.build 29 #[(0, iV p), (1, .agg #[iV r, .slice a0 m0 c0, .slice a1 m1 c1]), (2, .slice a2 m2 c2)]).run Tryz.prog w = .ok (.agg #[iV p, iV r, .slice a0 m0 c0, .slice a1 m1 c1, .slice a2 m2 c2, .slice none 0 0]) w := by kernel_rfl
theorem bld_rp0 (w : World) : (Instr.build 29 #[]).run Tryz.prog w = .ok (.agg #[iV 0, iV 0, .slice none 0 0, .slice none 0 0, .slice none 0 0, .slice none 0 0]) w := by kernel_rfl
theorem mats_sl (i : Nat) {M : List Nat} {w0 : World} {H : List HE} {e m c : Nat} {rs : List Mat} {a : Option Addr} (hi : H[i]? = some (.own (matsT e rs) (.slice a m c))) : ∀ w, Hp M w0 H w → SA a rs.length := fun w cw => by
  obtain ⟨a', c', h1, h2, _⟩ := rd_mats (cw.own_rd hi)
  cases h1
  exact h2
theorem zeroRep_ok {w : World} {p : Int} {q : Qv} {d : List Int} {u0 u1 u2 : Value} (h0 : Rd w (iT q.2.1) u0) (h1 : Rd w (iT q.2.2) u1) (h2 : Rd w (iT d) u2) (hA : ArrP q d) :
    Does Tryz.prog 146 [iV p, .agg #[iV q.1, u0, u1], u2] w (GivesR (zeroR p q d)) := by
  have hA' := hA
  obtain ⟨hl, hl1, hl2, _⟩ := hA'
  obtain ⟨r, xs, ys⟩ := q
  simp only at h0 h1 hl hl1 hl2 ⊢
  obtain ⟨a0, c0, rfl, hs0, _, _, hg0⟩ := h0.ints
  obtain ⟨a1, c1, rfl, hs1, _, _, hg1⟩ := h1.ints
  obtain ⟨a2, c2, rfl, hs2, _, _, hg2⟩ := h2.ints
  refine fn_enter Tryz.func146 rfl Tryz.ntmps146 rfl ?_
  repeat' (first | (show oL; first | refine sMv rfl rfl ?_ | refine sFd tabs rfl rfl rfl rfl ?_ | (show oA (.load _ _); first | refine sLd 5 tabs rfl rfl rfl rfl rfl ?_ | refine sLb 1 tabs rfl rfl rfl rfl rfl ?_) | (show oA (.call _); first | (refine m_call (ent_of Tryz.func82 kr rfl) rfl rfl (fun w c => qclone_ok (q := (r, xs, ys)) (c.rd h0) (c.rd h1) (by simp only [szQ]; omega)) ?_; rintro v H' ⟨aq, cq, aq', cq', rfl, hsq, hsq', rfl⟩) | (refine m_call (ent_of Tryz.func138 kr rfl) rfl rfl (fun w c => Clone_ok (c.rd h2) om) ?_; rintro v H' ⟨ad, cd, rfl, hsd, rfl⟩) | refine sLn tabs rfl rfl rfl ?_) | (show oA (.store _ _ _); refine m_storeb 0 tabs rfl rfl rfl rfl rfl rfl rfl ?_) | (show oA (.box _ _); refine m_box rfl rfl (fun b4 hb4 => ?_)) | (show oA (.alloc _); refine m_alloc tabs rfl rfl (fun b7 hb7 => ?_)) | (show oA (.build _ _); refine st_y (y_bld3 (bld_rp3 _ _ _ _ _ _ _ _ _ _ _) rfl rfl rfl) rfl ?_)) | refine xNt ?_ | (show oC; first | refine c_seq ?_ | refine c_region ?_ | refine c_block ?_))
  rename_i b6 hb6
  simp only at hsq hsq'
  refine c_loopH (α := Nat × Option Addr × Nat) [2, 4, 6, 7, 17, 18] (fun s => [(19, .int .i64 s.1)]) (fun s => s.1 ≤ xs.length) (fun s => [.own (matsT 41 (zMs (r, xs, ys) d s.1)) (.slice s.2.1 s.1 s.2.2), .blk b7 #[iV p, iV r, .slice aq xs.length cq, .slice aq' ys.length cq', .slice ad d.length cd, .slice s.2.1 s.1 s.2.2] 29, .own (iT d) (.slice ad d.length cd), .own (iT ys) (.slice aq' ys.length cq'), .own (iT xs) (.slice aq xs.length cq), .blk b6 #[iV 0, iV 0, .slice none 0 0, .slice none 0 0, .slice none 0 0, .slice none 0 0] 29, .blk b4 #[iV r, .slice a0 xs.length c0, .slice a1 ys.length c1] 26]) (fun s => xs.length - s.1) (0, none, 0) rfl sB ?_ ?_ ?_
  · exact Nat.zero_le _
  · exact fun w' c' => Hp.nilp _ _ (c'.sub sL)
  · rintro ⟨i, am, cm⟩ hi
    simp only at hi ⊢
    by_cases hin : i < xs.length
    · obtain ⟨f, t, dt, df, hf, ht, hf1, ht1, hdt, hdf, hb1, hb2, hz⟩ := hA.at (i := i) hin
      simp only at hf ht
      have hin' : i < ys.length := by omega
      have hrc := rc_le (R := dt) (C := df) om om
      repeat' (first | (show oL; first | refine sMv rfl rfl ?_ | refine sAs rfl rfl ?_ | (show oA (.load _ _); refine st_y (y_load tabs rfl rfl (hc_w0 (hg0 i hin))) rfl ?_) | (show oA (.indexAddr _ _ _); refine st_y (y_ix1 tabs (j := i) rfl rfl rfl hs0 rfl hin) rfl ?_) | refine sLs rfl rfl rfl ?_) | refine xNt ?_ | (show oC; first | refine c_seq ?_ | refine c_region ?_ | refine c_skip (x_then ?_) | refine c_block ?_ | refine c_ift rfl aO ?_))
      refine c_mixR (Hp [] w [.blk b7 #[iV p, iV r, .slice aq xs.length cq, .slice aq' ys.length cq', .slice ad d.length cd, .slice am i cm] 29, .blk b4 #[iV r, .slice a0 xs.length c0, .slice a1 ys.length c1] 26]) 17 kr kr kr kr kr (fun _ c => Hp.drew c) ?_
      refine h_take 0 rfl kr kr kr (by exact y_field tabs rfl rfl rfl) rfl sS ?_
      refine h_take 1 rfl kr kr kr (by exact y_load tabs rfl rfl (hc_blk 0 rfl rfl)) rfl sS ?_
      refine h_take 2 rfl kr kr kr (by exact y_move rfl) rfl sS ?_
      refine h_take 3 rfl kr kr kr (by exact y_field tabs rfl rfl rfl) rfl sS ?_
      refine h_take 4 rfl kr kr kr (by exact y_load tabs rfl rfl (hc_blk 1 rfl rfl)) rfl sS ?_
      refine h_take 5 rfl kr kr kr (by exact y_move rfl) rfl sS ?_
      refine h_take 6 rfl kr kr kr (by exact y_ix1 tabs (j := i) rfl rfl rfl hs1 rfl hin') rfl sS ?_
      refine h_take 7 rfl kr kr kr (by exact y_load tabs rfl rfl (hc_w0 (hg1 i hin'))) rfl sS ?_
      refine h_take 8 rfl kr kr kr (by exact y_ix1 tabs (j := t) rfl rfl rfl hs2 ht ht1) rfl sS ?_
      refine h_take 9 rfl kr kr kr (by exact y_load tabs rfl rfl (hc_w0 (hg2 t ht1))) rfl sS ?_
      refine h_take 10 rfl kr kr kr (by exact y_move rfl) rfl sS ?_
      refine h_take 11 rfl kr kr kr (by exact y_move rfl) rfl sS ?_
      refine h_take 12 rfl kr kr kr (by exact y_ix1 tabs (j := f) rfl rfl rfl hs2 hf hf1) rfl sS ?_
      refine h_take 13 rfl kr kr kr (by exact y_load tabs rfl rfl (hc_w0 (hg2 f hf1))) rfl sS ?_
      refine h_only 14 rfl kr ?_
      first | (refine m_build1 tabs (us := [iV dt, iV df, .slice az (dt * df) cz]) rfl rfl rfl rfl (by decide) rfl (fun g2 hg2 => ?_)) | (refine m_call (ent_of Tryz.func117 kr rfl) rfl rfl (fun w c => (by rw [hdt, hdf]; exact zero_ok (R := dt) (C := df) om om)) ?_; rintro v H' ⟨az, cz, rfl, hsz, rfl⟩) | (refine m_push1 [iV dt, iV df] 0 0 tabs (m' := i) rfl rfl rfl rfl rfl rfl rfl (by rw [flatMap_length matT_length, zMs_length]) (by rw [flatMap_length matT_length, zMs_length]; omega) (by decide) rfl rfl (fun a3 c3 => ?_))
      refine c_nil (x_one (h_keep sS ?_))
      refine h_only 15 rfl kr ?_
      first | (refine m_build1 tabs (us := [iV dt, iV df, .slice az (dt * df) cz]) rfl rfl rfl rfl (by decide) rfl (fun g2 hg2 => ?_)) | (refine m_call (ent_of Tryz.func117 kr rfl) rfl rfl (fun w c => (by rw [hdt, hdf]; exact zero_ok (R := dt) (C := df) om om)) ?_; rintro v H' ⟨az, cz, rfl, hsz, rfl⟩) | (refine m_push1 [iV dt, iV df] 0 0 tabs (m' := i) rfl rfl rfl rfl rfl rfl rfl (by rw [flatMap_length matT_length, zMs_length]) (by rw [flatMap_length matT_length, zMs_length]; omega) (by decide) rfl rfl (fun a3 c3 => ?_))
      refine c_nil (x_one (h_keep sS ?_))
      refine h_only 16 rfl kr ?_
      first | (refine m_build1 tabs (us := [iV dt, iV df, .slice az (dt * df) cz]) rfl rfl rfl rfl (by decide) rfl (fun g2 hg2 => ?_)) | (refine m_call (ent_of Tryz.func117 kr rfl) rfl rfl (fun w c => (by rw [hdt, hdf]; exact zero_ok (R := dt) (C := df) om om)) ?_; rintro v H' ⟨az, cz, rfl, hsz, rfl⟩) | (refine m_push1 [iV dt, iV df] 0 0 tabs (m' := i) rfl rfl rfl rfl rfl rfl rfl (by rw [flatMap_length matT_length, zMs_length]) (by rw [flatMap_length matT_length, zMs_length]; omega) (by decide) rfl rfl (fun a3 c3 => ?_))
      refine c_nil (x_one (h_keep sS ?_))
      refine h_end kr ?_
      repeat' (first | (show oL; first | refine sMv rfl rfl ?_ | refine sFd tabs rfl rfl rfl rfl ?_ | refine sAd rfl rfl om rfl ?_ | (show oA (.store _ _ _); refine m_storef 1 tabs rfl rfl rfl rfl rfl rfl ?_)) | (show oN; first | refine c_nil (x_then ?_) | refine c_nil ?_) | (show oC; refine c_region ?_) | (show AT _ _ _ _; first | refine x_then ?_ | refine x_blk ?_))
      refine x_nx (i + 1, a3, c3) sB (by simp only; omega) (fun w' c' => ?_) (by simp only; omega)
      have e0 : (zMs (r, xs, ys) d i).flatMap matT ++ (List.map T.c [iV dt, iV df] ++ [iT (mk dt df (fun _ _ => 0))]) = (zMs (r, xs, ys) d (i + 1)).flatMap matT := by
        have e1 : zMs (r, xs, ys) d (i + 1) = zMs (r, xs, ys) d i ++ [zM (r, xs, ys) d i] := by simp [zMs, List.range_succ]
        rw [e1, List.flatMap_append, hz]; rfl
      rw [e0] at c'
      exact c'
    · have : i = xs.length := by omega
      subst this
      refine AT.fact (mats_sl 0 rfl) (fun hsl => ?_)
      rw [zMs_length] at hsl
      repeat' (first | (show oL; first | refine sLb 1 tabs rfl rfl rfl rfl rfl ?_ | refine sLs rfl rfl rfl ?_ | (show oA (.store _ _ _); refine m_storeb 5 tabs rfl rfl rfl rfl rfl rfl rfl ?_)) | refine xNt ?_ | (show oC; first | refine c_seq ?_ | refine c_region ?_ | refine c_ret ?_ | refine c_exit ?_ | refine c_iff rfl nN ?_) | (show AT _ _ _ _; first | refine x_then ?_ | refine x_then_exit ?_ | refine x_blk_exit rfl ?_))
      refine x_ret1 Tryz.results146 (res_cellb 5 tabs rfl rfl rfl rfl) (fun w' c' => ⟨_, _, rfl, ⟨aq, cq, aq', cq', ad, cd, am, cm, ?_, hsq, hsq', hsd, by simpa [zeroR] using hsl, ?_⟩, c'.front (i := 0) rfl |>.sub (.cons_cons _ (.cons _ (.cons_cons _ (.cons_cons _ (.cons_cons _ (List.nil_sublist _))))))⟩)
      · simp only [zeroR, zMs_length]
      · simp only [zeroR, zMs_length]
theorem l8Zero_ok {w : World} {p : Int} {q : Qv} {d : List Int} {u0 u1 u2 : Value} (h0 : Rd w (iT q.2.1) u0) (h1 : Rd w (iT q.2.2) u1) (h2 : Rd w (iT d) u2) (hA : ArrP q d) :
    Does Tryz.prog 147 [iV p, .agg #[iV q.1, u0, u1], u2] w (GivesR (zeroR p q d)) := by
  have hA' := hA
  obtain ⟨hl, hl1, hl2, _⟩ := hA'
  obtain ⟨r, xs, ys⟩ := q
  simp only at h0 h1 hl hl1 hl2 ⊢
  obtain ⟨a0, c0, rfl, hs0, _, _, hg0⟩ := h0.ints
  obtain ⟨a1, c1, rfl, hs1, _, _, hg1⟩ := h1.ints
  obtain ⟨a2, c2, rfl, hs2, _, _, hg2⟩ := h2.ints
  refine fn_enter Tryz.func147 rfl Tryz.ntmps147 rfl ?_
  repeat' (first | (show oL; first | refine sMv rfl rfl ?_ | refine sAs rfl rfl ?_ | refine sLb 1 tabs rfl rfl rfl rfl rfl ?_ | (show oA (.call _); first | (refine m_call (ent_of Tryz.func78 kr rfl) rfl rfl (fun w c => l6Copy_ok (q := (r, xs, ys)) (c.rd h0) (c.rd h1) (by simp only [szQ]; omega)) ?_; rintro v H' ⟨aq, cq, aq', cq', rfl, hsq, hsq', rfl⟩) | refine m_dup 0 tabs rfl rfl rfl rfl rfl om (fun w c => c.rd h2) (fun ad cd hsd => ?_)) | (show oA (.store _ _ _); refine m_storeb 0 tabs rfl rfl rfl rfl rfl rfl rfl ?_) | (show oA (.box _ _); refine m_box rfl rfl (fun b4 hb4 => ?_)) | (show oA (.alloc _); refine m_alloc tabs rfl rfl (fun b7 hb7 => ?_)) | (show oA (.buildSlice _ _ _); refine m_build0 tabs rfl rfl (fun g hg => ?_)) | (show oA (.build _ _); refine st_y (y_bld4 (bld_rp4 _ _ _ _ _ _ _ _ _ _ _ _ _ _) rfl rfl rfl rfl) rfl ?_)) | refine xNt ?_ | (show oC; first | refine c_seq ?_ | refine c_region ?_ | refine c_block ?_))
  rename_i b6 hb6 _ _
  simp only at hsq hsq'
  refine c_loopH (α := Nat × Option Addr × Nat) [2, 4, 6, 7] (fun s => [(8, .int .i64 s.1)]) (fun s => s.1 ≤ xs.length) (fun s => [.own (matsT 41 (zMs (r, xs, ys) d s.1)) (.slice s.2.1 s.1 s.2.2), .blk b7 #[iV p, iV r, .slice aq xs.length cq, .slice aq' ys.length cq', .slice ad d.length cd, .slice s.2.1 s.1 s.2.2] 29, .own (iT d) (.slice ad d.length cd), .own (iT ys) (.slice aq' ys.length cq'), .own (iT xs) (.slice aq xs.length cq), .blk b6 #[iV 0, iV 0, .slice none 0 0, .slice none 0 0, .slice none 0 0, .slice none 0 0] 29, .blk b4 #[iV r, .slice a0 xs.length c0, .slice a1 ys.length c1] 26]) (fun s => xs.length - s.1) (0, some ⟨g, 0, none⟩, 0) rfl sB ?_ ?_ ?_
  · exact Nat.zero_le _
  · exact fun w' c' => (c'.front (i := 1) rfl).sub sL
  · rintro ⟨i, am, cm⟩ hi
    simp only at hi ⊢
    by_cases hin : i < xs.length
    · obtain ⟨f, t, dt, df, hf, ht, hf1, ht1, hdt, hdf, hb1, hb2, hz⟩ := hA.at (i := i) hin
      simp only at hf ht
      have hin' : i < ys.length := by omega
      have hrc := rc_le (R := dt) (C := df) om om
      repeat' (first | (show oL; first | refine sMv rfl rfl ?_ | refine sFd tabs rfl rfl rfl rfl ?_ | refine sLd 6 tabs rfl rfl rfl rfl rfl ?_ | refine sLs rfl rfl rfl ?_ | refine sLn tabs rfl rfl rfl ?_) | refine xNt ?_ | (show oC; first | refine c_seq ?_ | refine c_region ?_ | refine c_skip (x_then ?_) | refine c_block ?_ | refine c_ift rfl aO ?_))
      refine c_mixR (Hp [] w [.blk b7 #[iV p, iV r, .slice aq xs.length cq, .slice aq' ys.length cq', .slice ad d.length cd, .slice am i cm] 29, .blk b4 #[iV r, .slice a0 xs.length c0, .slice a1 ys.length c1] 26]) 21 kr kr kr kr kr (fun _ c => Hp.drew c) ?_
      refine h_take 0 rfl kr kr kr (by exact y_field tabs rfl rfl rfl) rfl sS ?_
      refine h_take 1 rfl kr kr kr (by exact y_load tabs rfl rfl (hc_blk 0 rfl rfl)) rfl sS ?_
      refine h_take 2 rfl kr kr kr (by exact y_move rfl) rfl sS ?_
      refine h_take 3 rfl kr kr kr (by exact y_field tabs rfl rfl rfl) rfl sS ?_
      refine h_take 4 rfl kr kr kr (by exact y_load tabs rfl rfl (hc_blk 1 rfl rfl)) rfl sS ?_
      refine h_take 5 rfl kr kr kr (by exact y_move rfl) rfl sS ?_
      refine h_take 6 rfl kr kr kr (by exact y_ix1 tabs (j := i) rfl rfl rfl hs1 rfl hin') rfl sS ?_
      refine h_take 7 rfl kr kr kr (by exact y_load tabs rfl rfl (hc_w0 (hg1 i hin'))) rfl sS ?_
      refine h_take 8 rfl kr kr kr (by exact y_ix1 tabs (j := t) rfl rfl rfl hs2 ht ht1) rfl sS ?_
      refine h_take 9 rfl kr kr kr (by exact y_load tabs rfl rfl (hc_w0 (hg2 t ht1))) rfl sS ?_
      refine h_take 10 rfl kr kr kr (by exact y_move rfl) rfl sS ?_
      refine h_take 11 rfl kr kr kr (by exact y_field tabs rfl rfl rfl) rfl sS ?_
      refine h_take 12 rfl kr kr kr (by exact y_load tabs rfl rfl (hc_blk 1 rfl rfl)) rfl sS ?_
      refine h_take 13 rfl kr kr kr (by exact y_move rfl) rfl sS ?_
      refine h_take 14 rfl kr kr kr (by exact y_ix1 tabs (j := i) rfl rfl rfl hs0 rfl hin) rfl sS ?_
      refine h_take 15 rfl kr kr kr (by exact y_load tabs rfl rfl (hc_w0 (hg0 i hin))) rfl sS ?_
      refine h_take 16 rfl kr kr kr (by exact y_ix1 tabs (j := f) rfl rfl rfl hs2 hf hf1) rfl sS ?_
      refine h_take 17 rfl kr kr kr (by exact y_load tabs rfl rfl (hc_w0 (hg2 f hf1))) rfl sS ?_
      refine h_only 18 rfl kr ?_
      first | (refine m_build1 tabs (us := [iV dt, iV df, .slice az (dt * df) cz]) rfl rfl rfl rfl (by decide) rfl (fun g2 hg2 => ?_)) | (refine m_call (ent_of Tryz.func125 kr rfl) rfl rfl (fun w c => (by rw [hdt, hdf]; exact l3Zero_ok (R := dt) (C := df) om om)) ?_; rintro v H' ⟨az, cz, rfl, hsz, rfl⟩) | (refine m_push1 [iV dt, iV df] 0 0 tabs (m' := i) rfl rfl rfl rfl rfl rfl rfl (by rw [flatMap_length matT_length, zMs_length]) (by rw [flatMap_length matT_length, zMs_length]; omega) (by decide) rfl rfl (fun a3 c3 => ?_))
      refine c_nil (x_one (h_keep sS ?_))
      refine h_only 19 rfl kr ?_
      first | (refine m_build1 tabs (us := [iV dt, iV df, .slice az (dt * df) cz]) rfl rfl rfl rfl (by decide) rfl (fun g2 hg2 => ?_)) | (refine m_call (ent_of Tryz.func125 kr rfl) rfl rfl (fun w c => (by rw [hdt, hdf]; exact l3Zero_ok (R := dt) (C := df) om om)) ?_; rintro v H' ⟨az, cz, rfl, hsz, rfl⟩) | (refine m_push1 [iV dt, iV df] 0 0 tabs (m' := i) rfl rfl rfl rfl rfl rfl rfl (by rw [flatMap_length matT_length, zMs_length]) (by rw [flatMap_length matT_length, zMs_length]; omega) (by decide) rfl rfl (fun a3 c3 => ?_))
      refine c_nil (x_one (h_keep sS ?_))
      refine h_only 20 rfl kr ?_
      first | (refine m_build1 tabs (us := [iV dt, iV df, .slice az (dt * df) cz]) rfl rfl rfl rfl (by decide) rfl (fun g2 hg2 => ?_)) | (refine m_call (ent_of Tryz.func125 kr rfl) rfl rfl (fun w c => (by rw [hdt, hdf]; exact l3Zero_ok (R := dt) (C := df) om om)) ?_; rintro v H' ⟨az, cz, rfl, hsz, rfl⟩) | (refine m_push1 [iV dt, iV df] 0 0 tabs (m' := i) rfl rfl rfl rfl rfl rfl rfl (by rw [flatMap_length matT_length, zMs_length]) (by rw [flatMap_length matT_length, zMs_length]; omega) (by decide) rfl rfl (fun a3 c3 => ?_))
      refine c_nil (x_one (h_keep sS ?_))
      refine h_end kr ?_
      repeat' (first | (show oL; first | refine sMv rfl rfl ?_ | refine sAs rfl rfl ?_ | refine sFd tabs rfl rfl rfl rfl ?_ | refine sAd rfl rfl om rfl ?_ | (show oA (.store _ _ _); refine m_storef 1 tabs rfl rfl rfl rfl rfl rfl ?_)) | (show oN; first | refine c_nil (x_then ?_) | refine c_nil ?_) | (show oC; refine c_region ?_) | (show AT _ _ _ _; first | refine x_then ?_ | refine x_blk ?_))
      refine x_nx (i + 1, a3, c3) sB (by simp only; omega) (fun w' c' => ?_) (by simp only; omega)
      have e0 : (zMs (r, xs, ys) d i).flatMap matT ++ (List.map T.c [iV dt, iV df] ++ [iT (mk dt df (fun _ _ => 0))]) = (zMs (r, xs, ys) d (i + 1)).flatMap matT := by
        have e1 : zMs (r, xs, ys) d (i + 1) = zMs (r, xs, ys) d i ++ [zM (r, xs, ys) d i] := by simp [zMs, List.range_succ]
        rw [e1, List.flatMap_append, hz]; rfl
      rw [e0] at c'
      exact c'
    · have : i = xs.length := by omega
      subst this
      refine AT.fact (mats_sl 0 rfl) (fun hsl => ?_)
      rw [zMs_length] at hsl
      repeat' (first | (show oL; first | refine sMv rfl rfl ?_ | refine sFd tabs rfl rfl rfl rfl ?_ | (show oA (.load _ _); first | refine sLd 6 tabs rfl rfl rfl rfl rfl ?_ | refine sLb 1 tabs rfl rfl rfl rfl rfl ?_) | refine sLs rfl rfl rfl ?_ | refine sLn tabs rfl rfl rfl ?_ | (show oA (.store _ _ _); refine m_storeb 5 tabs rfl rfl rfl rfl rfl rfl rfl ?_)) | refine xNt ?_ | (show oC; first | refine c_seq ?_ | refine c_region ?_ | refine c_ret ?_ | refine c_exit ?_ | refine c_iff rfl nN ?_) | (show AT _ _ _ _; first | refine x_then ?_ | refine x_then_exit ?_ | refine x_blk_exit rfl ?_))
      refine x_ret1 Tryz.results147 (res_cellb 5 tabs rfl rfl rfl rfl) (fun w' c' => ⟨_, _, rfl, ⟨aq, cq, aq', cq', ad, cd, am, cm, ?_, hsq, hsq', hsd, by simpa [zeroR] using hsl, ?_⟩, c'.front (i := 0) rfl |>.sub (.cons_cons _ (.cons _ (.cons_cons _ (.cons_cons _ (.cons_cons _ (List.nil_sublist _))))))⟩)
      · simp only [zeroR, zMs_length]
      · simp only [zeroR, zMs_length]
def repZ : Rp := ⟨0, (0, [], []), [], []⟩
def zeroRb (p : Int) (q : Qv) (d : List Int) : Rp := if FieldP p ∧ DimsP q d then zeroR p q d else repZ
def GivesRB (r : Rp) (b : Bool) (v : Value) (H : List HE) : Prop := ∃ a0 c0 a1 c1 a2 c2 a3 c3, v = .tuple #[.agg #[iV r.p, iV r.q.1, .slice a0 r.q.2.1.length c0, .slice a1 r.q.2.2.length c1, .slice a2 r.d.length c2, .slice a3 r.m.length c3], .bool b] ∧
  SA a0 r.q.2.1.length ∧ SA a1 r.q.2.2.length ∧ SA a2 r.d.length ∧ SA a3 r.m.length ∧
  H = [.own (matsT 41 r.m) (.slice a3 r.m.length c3), .own (iT r.d) (.slice a2 r.d.length c2), .own (iT r.q.2.2) (.slice a1 r.q.2.2.length c1), .own (iT r.q.2.1) (.slice a0 r.q.2.1.length c0)]
theorem impl_ZeroRep_ok {w : World} {p : Int} {q : Qv} {d : List Int} {u0 u1 u2 : Value} (h0 : Rd w (iT q.2.1) u0) (h1 : Rd w (iT q.2.2) u1) (h2 : Rd w (iT d) u2) :
    Does Tryz.prog 68 [iV p, .agg #[iV q.1, u0, u1], u2] w (GivesRB (zeroRb p q d) (decide (FieldP p ∧ DimsP q d))) := by
  by_cases hA : FieldP p ∧ DimsP q d
  · rw [zeroRb, if_pos hA, decide_eq_true hA]
    have hF := hA.1
    have hD := hA.2
    refine fn_enter Tryz.func68 rfl Tryz.ntmps68 rfl ?_
    repeat' (first | (show oL; first | refine sMv rfl rfl ?_ | refine sAs rfl rfl ?_ | refine sLb 1 tabs rfl rfl rfl rfl rfl ?_ | (show oA (.unOp _ _ _); refine st_y (y_notd rfl) rfl ?_) | (show oA (.call _); first | (refine m_call (ent_of Tryz.func131 kr rfl) rfl rfl (fun w c => impl_IsField_ok p) ?_; rintro v H' ⟨rfl, rfl⟩) | (refine m_call (ent_of Tryz.func71 kr rfl) rfl rfl (fun w c => impl_AreDims_ok (c.rd h0) (c.rd h1) (c.rd h2)) ?_; rintro v H' ⟨rfl, rfl⟩) | (refine m_call (ent_of Tryz.func146 kr rfl) rfl rfl (fun w c => zeroRep_ok (c.rd h0) (c.rd h1) (c.rd h2) (DimsP.arr (by first | assumption | exact Decidable.not_not.1 aS))) ?_; rintro v H' ⟨a0, c0, a1, c1, a2, c2, a3, c3, rfl, hs0, hs1, hs2, hs3, rfl⟩)) | (show oA (.pick _ _ _); first | refine st_y (y_pickt rfl aO rfl) rfl ?_ | refine st_y (y_pickf rfl aO rfl) rfl ?_) | (show oA (.store _ _ _); first | refine m_storeb 4 tabs rfl rfl rfl rfl rfl rfl rfl ?_ | refine m_storeb 0 tabs rfl rfl rfl rfl rfl rfl rfl ?_) | (show oA (.box _ _); refine m_box rfl rfl (fun bq hbq => ?_)) | (show oA (.alloc _); refine m_alloc tabs rfl rfl (fun bq hbq => ?_)) | (show oA (.build _ _); refine st_y (y_bld0 bld_rp0) rfl ?_) | refine st_gfy rfl rfl aO ?_ | refine st_gfn rfl rfl aO rfl ?_ | refine st_gd rfl rfl (fun h => ?_) (fun h => ?_)) | refine xNt ?_ | (show oC; first | refine c_seq ?_ | refine c_region ?_ | refine c_skip (x_then ?_) | refine c_ret ?_ | refine c_true rfl ?_ | refine c_iff rfl nN ?_) | (show AT _ _ _ _; refine x_then_ret ?_))
    all_goals first | exact absurd hA.1 aS | exact absurd hA.2 aS | skip
    all_goals refine x_ret2 Tryz.results68 (res_cellb 4 tabs rfl rfl rfl rfl) (res_tmp rfl) (fun w' c' => ⟨_, _, rfl, ⟨a0, c0, a1, c1, a2, c2, a3, c3, rfl, hs0, hs1, hs2, hs3, rfl⟩, c'.sub (.cons_cons _ (.cons_cons _ (.cons_cons _ (.cons_cons _ (List.nil_sublist _)))))⟩)
  · rw [zeroRb, if_neg hA, decide_eq_false hA]
    refine fn_enter Tryz.func68 rfl Tryz.ntmps68 rfl ?_
    repeat' (first | (show oL; first | refine sMv rfl rfl ?_ | refine sAs rfl rfl ?_ | refine sLb 1 tabs rfl rfl rfl rfl rfl ?_ | (show oA (.unOp _ _ _); refine st_y (y_notd rfl) rfl ?_) | (show oA (.call _); first | (refine m_call (ent_of Tryz.func131 kr rfl) rfl rfl (fun w c => impl_IsField_ok p) ?_; rintro v H' ⟨rfl, rfl⟩) | (refine m_call (ent_of Tryz.func71 kr rfl) rfl rfl (fun w c => impl_AreDims_ok (c.rd h0) (c.rd h1) (c.rd h2)) ?_; rintro v H' ⟨rfl, rfl⟩) | (refine m_call (ent_of Tryz.func146 kr rfl) rfl rfl (fun w c => zeroRep_ok (c.rd h0) (c.rd h1) (c.rd h2) (DimsP.arr (by first | assumption | exact Decidable.not_not.1 aS))) ?_; rintro v H' ⟨a0, c0, a1, c1, a2, c2, a3, c3, rfl, hs0, hs1, hs2, hs3, rfl⟩)) | (show oA (.pick _ _ _); first | refine st_y (y_pickt rfl aO rfl) rfl ?_ | refine st_y (y_pickf rfl aO rfl) rfl ?_) | (show oA (.store _ _ _); first | refine m_storeb 4 tabs rfl rfl rfl rfl rfl rfl rfl ?_ | refine m_storeb 0 tabs rfl rfl rfl rfl rfl rfl rfl ?_) | (show oA (.box _ _); refine m_box rfl rfl (fun bq hbq => ?_)) | (show oA (.alloc _); refine m_alloc tabs rfl rfl (fun bq hbq => ?_)) | (show oA (.build _ _); refine st_y (y_bld0 bld_rp0) rfl ?_) | refine st_gfy rfl rfl aO ?_ | refine st_gfn rfl rfl aO rfl ?_ | refine st_gd rfl rfl (fun h => ?_) (fun h => ?_)) | refine xNt ?_ | (show oC; first | refine c_seq ?_ | refine c_region ?_ | refine c_skip (x_then ?_) | refine c_ret ?_ | refine c_true rfl ?_ | refine c_ifnd rfl (fun h => ?_) (fun h => ?_)) | (show AT _ _ _ _; refine x_then_ret ?_))
    all_goals first | exact absurd ⟨by first | assumption | exact Decidable.not_not.1 aS, by first | assumption | exact Decidable.not_not.1 aS⟩ hA | skip
    all_goals refine x_ret2 Tryz.results68 (res_cellb 0 tabs rfl rfl rfl rfl) (res_tmp rfl) (fun w' c' => ⟨_, _, rfl, ⟨none, 0, none, 0, none, 0, none, 0, rfl, .inl rfl, .inl rfl, .inl rfl, .inl rfl, rfl⟩, ?_⟩)
    all_goals exact Hp.nilp _ _ (Hp.nilp _ _ (Hp.nilp _ _ (Hp.nilp _ _ (c'.sub (List.nil_sublist _)))))

theorem spec_ZeroRep_ok {w : World} {p : Int} {q : Qv} {d : List Int} {u0 u1 u2 : Value} (h0 : Rd w (iT q.2.1) u0) (h1 : Rd w (iT q.2.2) u1) (h2 : Rd w (iT d) u2) :
    Does Tryz.prog 69 [iV p, .agg #[iV q.1, u0, u1], u2] w (GivesRB (zeroRb p q d) (decide (FieldP p ∧ DimsP q d))) := by
  by_cases hA : FieldP p ∧ DimsP q d
  · rw [zeroRb, if_pos hA, decide_eq_true hA]
    have hF := hA.1
    have hD := hA.2
    refine fn_enter Tryz.func69 rfl Tryz.ntmps69 rfl ?_
    repeat' (first | (show oL; first | refine sMv rfl rfl ?_ | refine sAs rfl rfl ?_ | refine sLb 1 tabs rfl rfl rfl rfl rfl ?_ | (show oA (.unOp _ _ _); refine st_y (y_notd rfl) rfl ?_) | (show oA (.call _); first | (refine m_call (ent_of Tryz.func76 kr rfl) rfl rfl (fun w c => spec_IsField_ok p) ?_; rintro v H' ⟨rfl, rfl⟩) | (refine m_call (ent_of Tryz.func72 kr rfl) rfl rfl (fun w c => spec_AreDims_ok (c.rd h0) (c.rd h1) (c.rd h2)) ?_; rintro v H' ⟨rfl, rfl⟩) | (refine m_call (ent_of Tryz.func147 kr rfl) rfl rfl (fun w c => l8Zero_ok (c.rd h0) (c.rd h1) (c.rd h2) (DimsP.arr (by first | assumption | exact Decidable.not_not.1 aS))) ?_; rintro v H' ⟨a0, c0, a1, c1, a2, c2, a3, c3, rfl, hs0, hs1, hs2, hs3, rfl⟩)) | (show oA (.pick _ _ _); first | refine st_y (y_pickt rfl aO rfl) rfl ?_ | refine st_y (y_pickf rfl aO rfl) rfl ?_) | (show oA (.store _ _ _); first | refine m_storeb 4 tabs rfl rfl rfl rfl rfl rfl rfl ?_ | refine m_storeb 0 tabs rfl rfl rfl rfl rfl rfl rfl ?_) | (show oA (.box _ _); refine m_box rfl rfl (fun bq hbq => ?_)) | (show oA (.alloc _); refine m_alloc tabs rfl rfl (fun bq hbq => ?_)) | (show oA (.build _ _); refine st_y (y_bld0 bld_rp0) rfl ?_) | refine st_gfy rfl rfl aO ?_ | refine st_gfn rfl rfl aO rfl ?_ | refine st_gd rfl rfl (fun h => ?_) (fun h => ?_)) | refine xNt ?_ | (show oC; first | refine c_seq ?_ | refine c_region ?_ | refine c_skip (x_then ?_) | refine c_ret ?_ | refine c_true rfl ?_ | refine c_iff rfl nN ?_) | (show AT _ _ _ _; refine x_then_ret ?_))
    all_goals first | exact absurd hA.1 aS | exact absurd hA.2 aS | skip
    all_goals refine x_ret2 Tryz.results69 (res_cellb 4 tabs rfl rfl rfl rfl) (res_tmp rfl) (fun w' c' => ⟨_, _, rfl, ⟨a0, c0, a1, c1, a2, c2, a3, c3, rfl, hs0, hs1, hs2, hs3, rfl⟩, c'.sub (.cons_cons _ (.cons_cons _ (.cons_cons _ (.cons_cons _ (List.nil_sublist _)))))⟩)
  · rw [zeroRb, if_neg hA, decide_eq_false hA]
    refine fn_enter Tryz.func69 rfl Tryz.ntmps69 rfl ?_
    repeat' (first | (show oL; first | refine sMv rfl rfl ?_ | refine sAs rfl rfl ?_ | refine sLb 1 tabs rfl rfl rfl rfl rfl ?_ | (show oA (.unOp _ _ _); refine st_y (y_notd rfl) rfl ?_) | (show oA (.call _); first | (refine m_call (ent_of Tryz.func76 kr rfl) rfl rfl (fun w c => spec_IsField_ok p) ?_; rintro v H' ⟨rfl, rfl⟩) | (refine m_call (ent_of Tryz.func72 kr rfl) rfl rfl (fun w c => spec_AreDims_ok (c.rd h0) (c.rd h1) (c.rd h2)) ?_; rintro v H' ⟨rfl, rfl⟩) | (refine m_call (ent_of Tryz.func147 kr rfl) rfl rfl (fun w c => l8Zero_ok (c.rd h0) (c.rd h1) (c.rd h2) (DimsP.arr (by first | assumption | exact Decidable.not_not.1 aS))) ?_; rintro v H' ⟨a0, c0, a1, c1, a2, c2, a3, c3, rfl, hs0, hs1, hs2, hs3, rfl⟩)) | (show oA (.pick _ _ _); first | refine st_y (y_pickt rfl aO rfl) rfl ?_ | refine st_y (y_pickf rfl aO rfl) rfl ?_) | (show oA (.store _ _ _); first | refine m_storeb 4 tabs rfl rfl rfl rfl rfl rfl rfl ?_ | refine m_storeb 0 tabs rfl rfl rfl rfl rfl rfl rfl ?_) | (show oA (.box _ _); refine m_box rfl rfl (fun bq hbq => ?_)) | (show oA (.alloc _); refine m_alloc tabs rfl rfl (fun bq hbq => ?_)) | (show oA (.build _ _); refine st_y (y_bld0 bld_rp0) rfl ?_) | refine st_gfy rfl rfl aO ?_ | refine st_gfn rfl rfl aO rfl ?_ | refine st_gd rfl rfl (fun h => ?_) (fun h => ?_)) | refine xNt ?_ | (show oC; first | refine c_seq ?_ | refine c_region ?_ | refine c_skip (x_then ?_) | refine c_ret ?_ | refine c_true rfl ?_ | refine c_ifnd rfl (fun h => ?_) (fun h => ?_)) | (show AT _ _ _ _; refine x_then_ret ?_))
    all_goals first | exact absurd ⟨by first | assumption | exact Decidable.not_not.1 aS, by first | assumption | exact Decidable.not_not.1 aS⟩ hA | skip
    all_goals refine x_ret2 Tryz.results69 (res_cellb 0 tabs rfl rfl rfl rfl) (res_tmp rfl) (fun w' c' => ⟨_, _, rfl, ⟨none, 0, none, 0, none, 0, none, 0, rfl, .inl rfl, .inl rfl, .inl rfl, .inl rfl, rfl⟩, ?_⟩)
    all_goals exact Hp.nilp _ _ (Hp.nilp _ _ (Hp.nilp _ _ (Hp.nilp _ _ (c'.sub (List.nil_sublist _)))))

end Go.Proofs.YtdnhmnnccfoliaaGreatDoor
