import Derived.Test.YtdnhmnnccfoliaaDoorDrqqqv
namespace Go.Proofs.YtdnhmnnccfoliaaDoor
open Go.Lg Go.Proofs Go.RowKit
attribute [local irreducible] Code.wp wpList bodyPost Exit.then Exit.inBlock Hp Again Calls Y AT ResV QT Qn QI wpAny wpAnyQ
set_option maxRecDepth 20000
set_option maxHeartbeats 4000000

def GivesQd (φ : Qv → Prop) (v : Value) (H : List HE) : Prop := ∃ (q : Qv) (a : Option Addr) (c : Nat) (a' : Option Addr) (c' : Nat), v = .agg #[iV q.1, .slice a q.2.1.length c, .slice a' q.2.2.length c'] ∧ φ q ∧ H = [.own (iT q.2.2) (.slice a' q.2.2.length c'), .own (iT q.2.1) (.slice a q.2.1.length c)]
theorem par_quiv {s : List UInt8} (h : parP s) : QuivP (parQ s) := by
  rw [parQ, if_pos h]; exact h.1
theorem nm_quiv {k : Nat} (h : k < 12) : QuivP (parQ (nmX (nmL.getD k []))) := par_quiv (nm_par k h)
theorem nm_cell {k : Nat} (h : k < 12) : (nmL.map sV)[k]? = some (sV (nmL.getD k [])) := by
  rw [List.getElem?_map, List.getD, List.getElem?_eq_getElem (show k < nmL.length from h)]; rfl
theorem inP_app {lo hi : Int} {xs : List Int} {x : Int} (h : InP lo hi xs) (hx : lo ≤ x ∧ x ≤ hi) : InP lo hi (xs ++ [x]) := fun y hy => by
  rcases List.mem_append.1 hy with h1 | h1
  · exact h y h1
  · simp at h1; omega
theorem l6Acyclic_ok {w1 : World} {M1 : List Nat} {H1 : List HE} {w : World} {M' : List Nat} {u : Value} {b i : Nat} {h : Int} (hl : Lent M1 w1 (cu u b i h) H1 M' w) (hc : CodeF w1 M1 u) (hi : i ≤ vlen u) :
    DoesB Tryd.prog 59 [cuV b] w M' (Gcu u b (GivesQd QuivP)) := by
  have hc2 := lent_code hl hc
  refine fnb_lent Tryd.func59 rfl Tryd.ntmps59 rfl hl ?_
  repeat' (first | (show oL; first | refine sMv rfl rfl ?_ | refine sAs rfl rfl ?_ | (show oA (.load _ _); first | refine st_y (y_load tabs rfl rfl (hc_nm 1 rfl (nm_cell (k := k) om))) rfl ?_ | refine sLb 0 tabs rfl rfl rfl rfl rfl ?_) | (show oA (.indexAddr _ _ _); refine st_y (y_ix1 tabs (j := k) rfl rfl rfl hsn rfl (show k < 12 by omega)) rfl ?_) | refine sAd rfl rfl om rfl ?_ | (show oA (.call _); first | (refine m_callL 1 (ent_of Tryd.func57 kr rfl) rfl rfl rfl (fun w M' hl => l1Once_ok 2 hl hc2 hi) ?_; rintro v H' ⟨i, h, _, hi, rfl, (_ | _), rfl, rfl⟩) | (refine m_call (ent_of Tryd.func56 kr rfl) rfl rfl (fun w c => l6Names_ok) ?_; rintro v H' ⟨an, cn, rfl, hsn, rfl⟩) | (refine m_callL 1 (ent_of Tryd.func38 kr rfl) rfl rfl rfl (fun w M' hl => l1BelowN_ok 10 (by decide) hl hc2 hi) ?_; rintro v H' ⟨i, ch, _, hi, rfl, k, rfl, hk, rfl⟩) | (refine m_call (ent_of Tryd.func27 kr rfl) rfl rfl (fun w c => spec_NamedQuiver_ok) ?_; rintro v H' ⟨a3, c3, a4, c4, rfl, rfl⟩) | (refine m_callL 0 (ent_of Tryd.func38 kr rfl) rfl rfl rfl (fun w M' hl => l1BelowN_ok 4 (by decide) hl hc2 hi) ?_; rintro v H' ⟨i, ch, _, hi, rfl, k, rfl, hk, rfl⟩) | (refine m_callL 3 (ent_of Tryd.func38 kr rfl) rfl rfl rfl (fun w M' hl => l1BelowN_ok 5 (by decide) hl hc2 hi) ?_; rintro v H' ⟨i, ch, _, hi, rfl, n0, rfl, hn0, rfl⟩)) | (show oA (.extract _ _); refine st_y (y_ext rfl rfl) rfl ?_) | (show oA (.store _ _ _); first | refine m_storeb 0 tabs rfl rfl rfl rfl rfl rfl rfl ?_ | refine m_storeb 5 tabs rfl rfl rfl rfl rfl rfl rfl ?_) | (show oA (.alloc _); refine m_alloc tabs rfl rfl (fun b2 hb2 => ?_)) | (show oA (.buildSlice _ _ _); refine m_build0 tabs rfl rfl (fun g hg0 => ?_)) | (show oA (.build _ _); refine st_y (y_bld3 (bld_qn _ _ _ _ _ _ _) rfl rfl rfl) rfl ?_)) | refine xNt ?_ | (show oC; first | refine c_seq ?_ | refine c_region ?_ | refine c_skip (x_then ?_) | refine c_block ?_ | refine c_ret ?_ | refine c_true rfl ?_ | refine c_false rfl ?_) | (show AT _ _ _ _; refine x_then_ret ?_))
  · rename_i b0 hb0 _ _ _ _ _ g1 hg1
    refine c_loopH (α := Nat × (List Int × List Int) × (Option Addr × Nat × Option Addr × Nat) × Nat × Int) [0, 2, 5] (fun s => [(6, iV s.1)]) (fun s => (s.2.1.1.length = s.2.1.2.length ∧ s.2.1.1.length + s.1 ≤ 4) ∧ (InP 0 (k : Int) s.2.1.1 ∧ InP 0 (k : Int) s.2.1.2) ∧ s.2.2.2.1 ≤ vlen u) (fun s => [cu u b s.2.2.2.1 s.2.2.2.2, .blk b2 #[iV (1 + k), .slice s.2.2.1.1 s.2.1.1.length s.2.2.1.2.1, .slice s.2.2.1.2.2.1 s.2.1.2.length s.2.2.1.2.2.2] 26, .own (iT s.2.1.2) (.slice s.2.2.1.2.2.1 s.2.1.2.length s.2.2.1.2.2.2), .own (iT s.2.1.1) (.slice s.2.2.1.1 s.2.1.1.length s.2.2.1.2.1), .blk b0 #[iV 0, .slice none 0 0, .slice none 0 0] 26]) (fun s => s.1) (n0, ([], []), (some ⟨g1, 0, none⟩, 0, some ⟨g, 0, none⟩, 0), i, ch) rfl sB ?_ ?_ ?_
    · exact ⟨⟨rfl, by simp only [List.length_nil]; omega⟩, ⟨by intro x hx; simp at hx, by intro x hx; simp at hx⟩, hi⟩
    · exact fun w' c' => c'
    · rintro ⟨m, ⟨xs, ys⟩, ⟨a1, c1, a2, c2⟩, i, ch⟩ ⟨⟨hxy, hm⟩, ⟨hx, hy⟩, hi⟩
      simp only at hxy hm hx hy hi ⊢
      by_cases hin : 0 < m ∧ 0 < k
      · obtain ⟨hm0, hk0⟩ := hin
        repeat' (first | (show oL; first | refine sMv rfl rfl ?_ | refine sAs rfl rfl ?_ | refine sFd tabs rfl rfl rfl rfl ?_ | refine sLd 1 tabs rfl rfl rfl rfl rfl ?_ | (show oA (.binOp _ _ _ _ _); first | refine st_y (y_sub rfl rfl om) rfl ?_ | refine st_y (y_gtr rfl rfl) rfl ?_) | (show oA (.call _); first | (refine m_callL 0 (ent_of Tryd.func38 kr rfl) rfl rfl rfl (fun w M' hl => l1Below_ok (1 + (k : Int) - 1) hl hc2 hi) ?_; rintro v H' ⟨i, ch, _, hi, rfl, x, rfl, hx2, rfl⟩) | refine m_pushi 3 tabs rfl rfl rfl rfl rfl om (fun a5 c5 => ?_)) | (show oA (.pick _ _ _); refine st_y (y_pickt rfl aO rfl) rfl ?_) | (show oA (.store _ _ _); refine m_storef 2 tabs rfl rfl rfl rfl rfl rfl ?_) | (show oA (.buildSlice _ _ _); refine m_build1 tabs (us := [iV x]) rfl rfl rfl rfl (by decide) rfl (fun g5 hg5 => ?_)) | refine st_gdy rfl rfl aO ?_) | refine xNt ?_ | (show oC; first | refine c_seq ?_ | refine c_region ?_ | refine c_skip (x_then ?_) | refine c_block ?_ | refine c_ift rfl aO ?_))
        refine c_mixR (Hp M' w [.blk b2 #[iV (1 + k), .slice a5 (xs.length + 1) c5, .slice a2 ys.length c2] 26]) 14 kr kr kr kr kr (fun _ c => Hp.drew c) ?_
        refine h_take 0 rfl kr kr kr (by exact y_field tabs rfl rfl rfl) rfl sS ?_
        refine h_take 1 rfl kr kr kr (by exact y_load tabs rfl rfl (hc_blk 0 rfl rfl)) rfl sS ?_
        refine h_take 2 rfl kr kr kr (by exact y_move rfl) rfl sS ?_
        refine h_take 3 rfl kr kr kr (by exact y_add rfl rfl om) rfl sS ?_
        refine h_take 4 rfl kr kr kr (by exact y_move rfl) rfl sS ?_
        refine h_take 5 rfl kr kr kr (by exact y_field tabs rfl rfl rfl) rfl sS ?_
        refine h_take 6 rfl kr kr kr (by exact y_load tabs rfl rfl (hc_blk 0 rfl rfl)) rfl sS ?_
        refine h_take 7 rfl kr kr kr (by exact y_sub rfl rfl om) rfl sS ?_
        refine h_take 8 rfl kr kr kr (by exact y_move rfl) rfl sS ?_
        refine h_take 9 rfl kr kr kr (by exact y_sub rfl rfl om) rfl sS ?_
        refine h_only 10 rfl kr ?_
        first | (refine m_build1 tabs (us := [iV (x + 1 + y)]) rfl rfl rfl rfl (by decide) rfl (fun g6 hg6 => ?_)) | (refine m_callL 1 (ent_of Tryd.func38 kr rfl) rfl rfl rfl (fun w M' hl => l1Below_ok (1 + (k : Int) - 1 - x) hl hc2 hi) ?_; rintro v H' ⟨i, ch, _, hi, rfl, y, rfl, hy2, rfl⟩) | (refine m_pushi 3 tabs rfl rfl rfl rfl rfl om (fun a6 c6 => ?_))
        refine c_nil (x_one (h_keep sS ?_))
        refine h_take 11 rfl kr kr kr (by exact y_add rfl rfl om) rfl sS ?_
        refine h_only 12 rfl kr ?_
        first | (refine m_build1 tabs (us := [iV (x + 1 + y)]) rfl rfl rfl rfl (by decide) rfl (fun g6 hg6 => ?_)) | (refine m_callL 1 (ent_of Tryd.func38 kr rfl) rfl rfl rfl (fun w M' hl => l1Below_ok (1 + (k : Int) - 1 - x) hl hc2 hi) ?_; rintro v H' ⟨i, ch, _, hi, rfl, y, rfl, hy2, rfl⟩) | (refine m_pushi 3 tabs rfl rfl rfl rfl rfl om (fun a6 c6 => ?_))
        refine c_nil (x_one (h_keep sS ?_))
        refine h_only 13 rfl kr ?_
        first | (refine m_build1 tabs (us := [iV (x + 1 + y)]) rfl rfl rfl rfl (by decide) rfl (fun g6 hg6 => ?_)) | (refine m_callL 1 (ent_of Tryd.func38 kr rfl) rfl rfl rfl (fun w M' hl => l1Below_ok (1 + (k : Int) - 1 - x) hl hc2 hi) ?_; rintro v H' ⟨i, ch, _, hi, rfl, y, rfl, hy2, rfl⟩) | (refine m_pushi 3 tabs rfl rfl rfl rfl rfl om (fun a6 c6 => ?_))
        refine c_nil (x_one (h_keep sS ?_))
        refine h_end kr ?_
        repeat' (first | (show oL; first | refine sMv rfl rfl ?_ | refine sAs rfl rfl ?_ | refine sFd tabs rfl rfl rfl rfl ?_ | (show oA (.binOp _ _ _ _ _); refine st_y (y_sub rfl rfl om) rfl ?_) | (show oA (.store _ _ _); refine m_storef 3 tabs rfl rfl rfl rfl rfl rfl ?_)) | (show oN; first | refine c_nil (x_then ?_) | refine c_nil ?_) | (show oC; refine c_region ?_) | (show AT _ _ _ _; first | refine x_then ?_ | refine x_blk ?_))
        exact x_nx (m - 1, (xs ++ [x], ys ++ [x + 1 + y]), (a5, c5, a6, c6), i, ch) sB ⟨⟨by simp only [List.length_append, List.length_singleton]; omega, by simp only [List.length_append, List.length_singleton]; omega⟩, ⟨inP_app hx om, inP_app hy om⟩, hi⟩ (fun w' c' => by
          simp only [List.length_append, List.length_singleton]
          exact (((c'.front (i := 2) rfl).front (i := 1) rfl).front (i := 3) rfl).front (i := 3) rfl) (by simp only; omega)
      · skip
        repeat' (first | (show oL; first | refine sMv rfl rfl ?_ | refine sFd tabs rfl rfl rfl rfl ?_ | (show oA (.load _ _); first | refine sLd 1 tabs rfl rfl rfl rfl rfl ?_ | refine sLb 1 tabs rfl rfl rfl rfl rfl ?_) | (show oA (.binOp _ _ _ _ _); refine st_y (y_gtr rfl rfl) rfl ?_) | (show oA (.pick _ _ _); first | refine st_y (y_pickt rfl aO rfl) rfl ?_ | refine st_y (y_pickf rfl aO rfl) rfl ?_) | (show oA (.store _ _ _); refine m_storeb 4 tabs rfl rfl rfl rfl rfl rfl rfl ?_) | refine st_gdy rfl rfl aO ?_ | refine st_gdn rfl rfl aO rfl ?_ | refine st_gd rfl rfl (fun h => ?_) (fun h => ?_)) | refine xNt ?_ | (show oC; first | refine c_seq ?_ | refine c_region ?_ | refine c_ret ?_ | refine c_exit ?_ | refine c_false rfl ?_ | refine c_iff rfl nN ?_) | (show AT _ _ _ _; first | refine x_then ?_ | refine x_then_exit ?_ | refine x_blk_exit rfl ?_))
        all_goals exact x_ret1 Tryd.results59 (res_cellb 4 tabs rfl rfl rfl rfl) (fun w' c' => ⟨_, _, rfl, ⟨i, ch, _, hi, rfl, (1 + (k : Int), xs, ys), a1, c1, a2, c2, rfl, ⟨by simp only; omega, by simp only; omega, by simp only; omega, by simp only; rw [show 1 + (k : Int) - 1 = k by omega]; exact hx, by simp only; rw [show 1 + (k : Int) - 1 = k by omega]; exact hy⟩, rfl⟩, c'.sub (.cons_cons _ (.cons _ (.cons_cons _ (.cons_cons _ (List.nil_sublist _)))))⟩)
  · skip
    exact x_ret1 Tryd.results59 (res_cellb 5 tabs rfl rfl rfl rfl) (fun w' c' => ⟨_, _, rfl, ⟨i, ch, _, hi, rfl, parQ (nmX (nmL.getD k [])), a3, c3, a4, c4, rfl, nm_quiv om, rfl⟩, (c'.front (i := 3) rfl).sub (.cons_cons _ (.cons _ (.cons_cons _ (.cons_cons _ (List.nil_sublist _)))))⟩)
def QivB (q : Qv) : Prop := q.2.1.length ≤ 7 ∧ q.2.2.length ≤ 7 ∧ q.1 ≤ 6
theorem quivB {q : Qv} (h : QuivP q) : QivB q := ⟨by have := h.2.1; omega, by have := h.2.1; have := h.2.2.1; omega, by have := h.1; omega⟩
theorem l6Any_ok {w1 : World} {M1 : List Nat} {H1 : List HE} {w : World} {M' : List Nat} {u : Value} {b i : Nat} {h : Int} (hl : Lent M1 w1 (cu u b i h) H1 M' w) (hc : CodeF w1 M1 u) (hi : i ≤ vlen u) :
    DoesB Tryd.prog 34 [cuV b] w M' (Gcu u b (GivesQd QivB)) := by
  have hc2 := lent_code hl hc
  refine fnb_lent Tryd.func34 rfl Tryd.ntmps34 rfl hl ?_
  repeat' (first | (show oL; first | refine sMv rfl rfl ?_ | refine sAs rfl rfl ?_ | refine sLb 1 tabs rfl rfl rfl rfl rfl ?_ | (show oA (.binOp _ _ _ _ _); refine st_y (y_eql rfl rfl) rfl ?_) | (show oA (.call _); first | (refine m_callL 1 (ent_of Tryd.func59 kr rfl) rfl rfl rfl (fun w M' hl => l6Acyclic_ok hl hc2 hi) ?_; rintro v H' ⟨i, h, _, hi, rfl, q, a, c, a', c', rfl, hq, rfl⟩) | (refine m_callL 1 (ent_of Tryd.func38 kr rfl) rfl rfl rfl (fun w M' hl => l1BelowN_ok 14 (by decide) hl hc2 hi) ?_; rintro v H' ⟨i, ch, _, hi, rfl, k, rfl, hk, rfl⟩)) | (show oA (.store _ _ _); refine m_storeb 0 tabs rfl rfl rfl rfl rfl rfl rfl ?_) | (show oA (.alloc _); refine m_alloc tabs rfl rfl (fun b2 hb2 => ?_))) | refine xNt ?_ | (show oC; first | refine c_seq ?_ | refine c_region ?_ | refine c_skip (x_blk ?_) | refine c_block ?_ | refine c_if rfl (fun h => ?_) (fun h => ?_)) | (show AT _ _ _ _; refine x_then ?_))
  · rename_i b0 hb0 _ _ _ _ _ _
    repeat' (first | (show oL; first | refine sMv rfl rfl ?_ | refine sLb 4 tabs rfl rfl rfl rfl rfl ?_ | (show oA (.call _); first | (refine m_callL 1 (ent_of Tryd.func40 kr rfl) rfl rfl rfl (fun w M' hl => l1Pick_ok (l := [[108, 111, 111, 112], [99, 105, 114, 99, 108, 101]]) hl hc2 hi (hl.own 0 rfl) (by decide)) ?_; rintro v H' ⟨i, ch, _, hi, rfl, x, rfl, hx, rfl⟩) | (refine m_call (ent_of Tryd.func27 kr rfl) rfl rfl (fun w c => spec_NamedQuiver_ok) ?_; rintro v H' ⟨a3, c3, a4, c4, rfl, rfl⟩)) | (show oA (.extract _ _); refine st_y (y_ext rfl rfl) rfl ?_) | (show oA (.store _ _ _); first | refine m_storeb 4 tabs rfl rfl rfl rfl rfl rfl rfl ?_ | refine m_storeb 7 tabs rfl rfl rfl rfl rfl rfl rfl ?_) | (show oA (.buildSlice _ _ _); refine m_buildc tabs ([[108, 111, 111, 112], [99, 105, 114, 99, 108, 101]].map sV) rfl rfl rfl rfl rfl rfl rfl (fun u hu => by obtain ⟨q, _, rfl⟩ := List.mem_map.1 hu; rfl) (fun g hg => ?_))) | (show oN; first | refine c_nil (x_then ?_) | refine c_nil ?_) | (show oC; first | refine c_seq ?_ | refine c_region ?_ | refine c_ret ?_) | (show AT _ _ _ _; first | refine x_then ?_ | refine x_blk ?_))
    have hx2 : QuivP (parQ (nmX x)) := by
      simp only [List.mem_cons, List.not_mem_nil, or_false] at hx
      rcases hx with rfl | rfl
      · exact nm_quiv (k := 10) (by decide)
      · exact nm_quiv (k := 11) (by decide)
    exact x_ret1 Tryd.results34 (res_cellb 7 tabs rfl rfl rfl rfl) (fun wz cz => ⟨_, _, rfl, ⟨i, ch, _, hi, rfl, parQ (nmX x), a3, c3, a4, c4, rfl, quivB hx2, rfl⟩, (cz.front (i := 2) rfl).sub (.cons_cons _ (.cons_cons _ (.cons_cons _ (List.nil_sublist _))))⟩)
  · rename_i b0 hb0 _ _ _ _ _ _ _
    repeat' (first | (show oL; first | refine sFd tabs rfl rfl rfl rfl ?_ | refine sLb 2 tabs rfl rfl rfl rfl rfl ?_ | (show oA (.call _); (refine m_callL 1 (ent_of Tryd.func60 kr rfl) rfl rfl rfl (fun w M' hl => l1PickInt_ok hl hc2 hi (hl.own 0 rfl) (by decide)) ?_; rintro v H' ⟨i, ch, _, hi, rfl, y, rfl, hy, rfl⟩)) | (show oA (.store _ _ _); first | refine m_storef 2 tabs rfl rfl rfl rfl rfl rfl ?_ | refine m_storeb 5 tabs rfl rfl rfl rfl rfl rfl rfl ?_) | (show oA (.buildSlice _ _ _); refine m_buildi tabs [0, 6, -1, 2] rfl rfl rfl rfl rfl rfl rfl (fun g hg => ?_))) | (show oN; first | refine c_nil (x_then ?_) | refine c_nil ?_) | (show oC; first | refine c_seq ?_ | refine c_region ?_ | refine c_ret ?_) | (show AT _ _ _ _; first | refine x_then ?_ | refine x_blk ?_))
    exact x_ret1 Tryd.results34 (res_cellb 5 tabs rfl rfl rfl rfl) (fun wz cz => ⟨_, _, rfl, ⟨i, ch, _, hi, rfl, (y, q.2), a, c, a', c', rfl, ⟨by have := hq.2.1; simp only; omega, by have := hq.2.1; have := hq.2.2.1; simp only; omega, by simp at hy; simp only; omega⟩, rfl⟩, cz.sub (.cons_cons _ (.cons _ (.cons _ (.cons_cons _ (.cons_cons _ (List.nil_sublist _))))))⟩)
  · rename_i b0 hb0 _ _ _ _ _ _ _ _
    refine c_mixR (Hp M' w [.blk b2 #[iV q.1, .slice a q.2.1.length c, .slice a' q.2.2.length c'] 26]) 7 kr kr kr kr kr (fun _ c => Hp.drew c) ?_
    refine h_take 0 rfl kr kr kr (by exact y_field tabs rfl rfl rfl) rfl sS ?_
    refine h_take 1 rfl kr kr kr (by exact y_load tabs rfl rfl (hc_blk 0 rfl rfl)) rfl sS ?_
    refine h_take 2 rfl kr kr kr (by exact y_move rfl) rfl sS ?_
    refine h_only 3 rfl kr ?_
    first | (refine m_build1 tabs (us := [iV ((y : Int) - 1)]) rfl rfl rfl rfl (by decide) rfl (fun g6 hg6 => ?_)) | (refine m_callL 0 (ent_of Tryd.func38 kr rfl) rfl rfl rfl (fun w M' hl => l1BelowN_ok 6 (by decide) hl hc2 hi) ?_; rintro v H' ⟨i, ch, _, hi, rfl, y, rfl, hy2, rfl⟩) | (refine m_pushi 3 tabs rfl rfl rfl rfl rfl (by have := hq.2.1; omega) (fun a6 c6 => ?_))
    refine c_nil (x_one (h_keep sS ?_))
    refine h_take 4 rfl kr kr kr (by exact y_sub rfl rfl om) rfl sS ?_
    refine h_only 5 rfl kr ?_
    first | (refine m_build1 tabs (us := [iV ((y : Int) - 1)]) rfl rfl rfl rfl (by decide) rfl (fun g6 hg6 => ?_)) | (refine m_callL 0 (ent_of Tryd.func38 kr rfl) rfl rfl rfl (fun w M' hl => l1BelowN_ok 6 (by decide) hl hc2 hi) ?_; rintro v H' ⟨i, ch, _, hi, rfl, y, rfl, hy2, rfl⟩) | (refine m_pushi 3 tabs rfl rfl rfl rfl rfl (by have := hq.2.1; omega) (fun a6 c6 => ?_))
    refine c_nil (x_one (h_keep sS ?_))
    refine h_only 6 rfl kr ?_
    first | (refine m_build1 tabs (us := [iV ((y : Int) - 1)]) rfl rfl rfl rfl (by decide) rfl (fun g6 hg6 => ?_)) | (refine m_callL 0 (ent_of Tryd.func38 kr rfl) rfl rfl rfl (fun w M' hl => l1BelowN_ok 6 (by decide) hl hc2 hi) ?_; rintro v H' ⟨i, ch, _, hi, rfl, y, rfl, hy2, rfl⟩) | (refine m_pushi 3 tabs rfl rfl rfl rfl rfl (by have := hq.2.1; omega) (fun a6 c6 => ?_))
    refine c_nil (x_one (h_keep sS ?_))
    refine h_end kr ?_
    repeat' (first | (show oL; first | refine sFd tabs rfl rfl rfl rfl ?_ | refine sLb 2 tabs rfl rfl rfl rfl rfl ?_ | (show oA (.store _ _ _); first | refine m_storef 2 tabs rfl rfl rfl rfl rfl rfl ?_ | refine m_storeb 4 tabs rfl rfl rfl rfl rfl rfl rfl ?_)) | (show oN; first | refine c_nil (x_then ?_) | refine c_nil ?_) | (show oC; first | refine c_seq ?_ | refine c_region ?_ | refine c_ret ?_) | (show AT _ _ _ _; first | refine x_then ?_ | refine x_blk ?_))
    exact x_ret1 Tryd.results34 (res_cellb 4 tabs rfl rfl rfl rfl) (fun wz cz => ⟨_, _, rfl, ⟨i, ch, _, hi, rfl, (q.1, q.2.1 ++ [(y : Int) - 1], q.2.2), a6, c6, a', c', by simp only [List.length_append, List.length_singleton]; rfl, ⟨by have := hq.2.1; simp only [List.length_append, List.length_singleton]; omega, by have := hq.2.1; have := hq.2.2.1; simp only; omega, by have := hq.1; simp only; omega⟩, rfl⟩, by
      simp only [List.length_append, List.length_singleton]
      exact ((cz.front (i := 3) rfl).front (i := 2) rfl).sub (.cons_cons _ (.cons_cons _ (.cons_cons _ (List.nil_sublist _))))⟩)
  · skip
    repeat' (first | (show oL; first | (show oA (.store _ _ _); refine m_storeb 4 tabs rfl rfl rfl rfl rfl rfl rfl ?_)) | refine xNt ?_ | (show oC; refine c_ret ?_))
    exact x_ret1 Tryd.results34 (res_cellb 4 tabs rfl rfl rfl rfl) (fun wz cz => ⟨_, _, rfl, ⟨i, ch, _, hi, rfl, q, a, c, a', c', rfl, quivB hq, rfl⟩, cz.sub (.cons_cons _ (.cons _ (.cons_cons _ (.cons_cons _ (List.nil_sublist _)))))⟩)
end Go.Proofs.YtdnhmnnccfoliaaDoor
