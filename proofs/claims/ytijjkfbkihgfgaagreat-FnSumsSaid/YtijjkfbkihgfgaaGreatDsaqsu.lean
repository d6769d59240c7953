import Derived.Test.YtijjkfbkihgfgaaGreatAloqsu
import Derived.Test.YtijjkfbkihgfgaaGreatCmpqsu
namespace Go.Proofs.YtijjkfbkihgfgaaGreat
open Go.Lg Go.Proofs Go.RowKit
attribute [local irreducible] Code.wp wpList bodyPost Exit.then Exit.inBlock Hp Again Calls Y AT ResV QT Qn QI wpAny wpAnyQ
set_option maxRecDepth 20000
set_option maxHeartbeats 4000000

def belF (R : Nat) (f g : Nat → Nat → Int) : Nat → Nat → Int := fun i j => if i < R then f i j else g (i - R) j
def blkF (R C : Nat) (f h g : Nat → Nat → Int) : Nat → Nat → Int := belF R (besF C f h) (besF C (fun _ _ => 0) g)
theorem rowL_get {C k i : Nat} {g : Nat → Nat → Int} (h : i < k) : (rowL C g k).getD i [] = mkv C (g i) := by
  simp [rowL, List.getD, h]
theorem rowL_mem {C k : Nat} {g : Nat → Nat → Int} : ∀ xs ∈ rowL C g k, xs.length = C := fun xs h => by
  simp only [rowL, List.mem_map] at h
  obtain ⟨i, _, rfl⟩ := h
  simp
theorem bel_eq {R S C : Nat} {f g : Nat → Nat → Int} : mk (R + S) C (rowsF (rowL C f R ++ rowL C g S)) = mk (R + S) C (belF R f g) := mk_ext (fun i j hi hj => by
  unfold rowsF belF
  by_cases hiR : i < R
  · have : (rowL C f R ++ rowL C g S).getD i [] = mkv C (f i) := by
      rw [← rowL_get (C := C) (g := f) hiR, List.getD, List.getD, List.getElem?_append_left (by simp; omega)]
    rw [this, mkv_get hj, if_pos hiR]
  · have h2 : i - R < S := by omega
    have : (rowL C f R ++ rowL C g S).getD i [] = mkv C (g (i - R)) := by
      rw [← rowL_get (C := C) (g := g) h2, List.getD, List.getD, List.getElem?_append_right (by simp; omega), rowL_length]
    rw [this, mkv_get hj, if_neg hiR])
theorem below_ok {w : World} {R S C : Nat} {f g : Nat → Nat → Int} {u u' : Value} (hr : Rd w (iT (mk R C f)) u) (hr' : Rd w (iT (mk S C g)) u') (hR : R ≤ 64) (hS : S ≤ 64) (hC : C ≤ 64) :
    Does Tryz.prog 289 [.agg #[iV R, iV C, u], .agg #[iV S, iV C, u']] w (GivesK (R + S) C (belF R f g)) := by
  have hlen : (rowL C f R ++ rowL C g S).length = R + S := by simp
  refine fn_enter Tryz.func289 rfl Tryz.ntmps289 rfl ?_
  repeat' (first | (show oL; first | (show oA (.box _ _); refine m_box rfl rfl (fun b1 hb1 => ?_)) | (show oA (.alloc _); refine m_alloc tabs rfl rfl (fun b2 hb2 => ?_))) | refine xNt ?_ | (show oC; first | refine c_seq ?_ | refine c_region ?_))
  rename_i b0 hb0
  refine c_mixR (Hp [] w [.blk b2 #[iV 0, iV 0, .slice none 0 0] 47, .blk b1 #[iV S, iV C, u'] 47, .blk b0 #[iV R, iV C, u] 47]) 8 kr kr kr kr kr (fun _ c => Hp.drew c) ?_
  refine h_take 0 rfl kr kr kr (by exact y_field tabs rfl rfl rfl) rfl (fun _ c => c) ?_
  refine h_take 1 rfl kr kr kr (by exact y_load tabs rfl rfl (hc_blk 2 rfl rfl)) rfl (fun _ c => c) ?_
  refine h_take 2 rfl kr kr kr (by first | exact y_loadb 2 tabs rfl rfl rfl rfl | exact y_loadb 2 tabs rfl rfl rfl rfl) rfl (fun _ c => c) ?_
  refine h_take 4 rfl kr kr kr (by first | exact y_loadb 1 tabs rfl rfl rfl rfl | exact y_loadb 1 tabs rfl rfl rfl rfl) rfl (fun _ c => c) ?_
  refine h_only 3 rfl kr ?_
  first | (refine m_call (ent_of Tryz.func232 kr rfl) rfl rfl (fun w c => rows_ok (c.rd hr) hR hC) ?_; rintro v H' ⟨a1, c1, rfl, hs1, rfl⟩) | (refine m_call (ent_of Tryz.func232 kr rfl) rfl rfl (fun w c => rows_ok (c.rd hr') hS hC) ?_; rintro v H' ⟨a2, c2, rfl, hs2, rfl⟩) | (refine m_cat tabs (m1 := (rowL C f R).length) (ts := (rowL C f R).flatMap rowT) (ts2 := (rowL C g S).flatMap rowT) rfl rfl rfl rfl (by simp [rowT_map]) (by simp [rowT_map]) rows_noc (by simp [rowT_map]; omega) (by decide) (fun w c => c) (fun a4 c4 => ?_)) | (refine m_call (ent_of Tryz.func226 kr rfl) rfl rfl (fun w c => (by have h := fromRows_ok (e := 43) (C := C) (rs := rowL C f R ++ rowL C g S) (by have h := c.own_rd (i := 0) rfl; rwa [← List.flatMap_append] at h) (fun xs hx => (List.mem_append.1 hx).elim (rowL_mem xs) (rowL_mem xs)) (by rw [hlen]; omega) om; rw [hlen] at h; exact h)) ?_; rintro v H' ⟨a3, c3, rfl, hs3, rfl⟩)
  refine c_nil (x_one (h_keep (fun w c => by exact c.drop) ?_))
  refine h_only 5 rfl kr ?_
  first | (refine m_call (ent_of Tryz.func232 kr rfl) rfl rfl (fun w c => rows_ok (c.rd hr) hR hC) ?_; rintro v H' ⟨a1, c1, rfl, hs1, rfl⟩) | (refine m_call (ent_of Tryz.func232 kr rfl) rfl rfl (fun w c => rows_ok (c.rd hr') hS hC) ?_; rintro v H' ⟨a2, c2, rfl, hs2, rfl⟩) | (refine m_cat tabs (m1 := (rowL C f R).length) (ts := (rowL C f R).flatMap rowT) (ts2 := (rowL C g S).flatMap rowT) rfl rfl rfl rfl (by simp [rowT_map]) (by simp [rowT_map]) rows_noc (by simp [rowT_map]; omega) (by decide) (fun w c => c) (fun a4 c4 => ?_)) | (refine m_call (ent_of Tryz.func226 kr rfl) rfl rfl (fun w c => (by have h := fromRows_ok (e := 43) (C := C) (rs := rowL C f R ++ rowL C g S) (by have h := c.own_rd (i := 0) rfl; rwa [← List.flatMap_append] at h) (fun xs hx => (List.mem_append.1 hx).elim (rowL_mem xs) (rowL_mem xs)) (by rw [hlen]; omega) om; rw [hlen] at h; exact h)) ?_; rintro v H' ⟨a3, c3, rfl, hs3, rfl⟩)
  refine c_nil (x_one (h_keep (fun w c => by exact c.drop.drop) ?_))
  refine h_only 6 rfl kr ?_
  first | (refine m_call (ent_of Tryz.func232 kr rfl) rfl rfl (fun w c => rows_ok (c.rd hr) hR hC) ?_; rintro v H' ⟨a1, c1, rfl, hs1, rfl⟩) | (refine m_call (ent_of Tryz.func232 kr rfl) rfl rfl (fun w c => rows_ok (c.rd hr') hS hC) ?_; rintro v H' ⟨a2, c2, rfl, hs2, rfl⟩) | (refine m_cat tabs (m1 := (rowL C f R).length) (ts := (rowL C f R).flatMap rowT) (ts2 := (rowL C g S).flatMap rowT) rfl rfl rfl rfl (by simp [rowT_map]) (by simp [rowT_map]) rows_noc (by simp [rowT_map]; omega) (by decide) (fun w c => c) (fun a4 c4 => ?_)) | (refine m_call (ent_of Tryz.func226 kr rfl) rfl rfl (fun w c => (by have h := fromRows_ok (e := 43) (C := C) (rs := rowL C f R ++ rowL C g S) (by have h := c.own_rd (i := 0) rfl; rwa [← List.flatMap_append] at h) (fun xs hx => (List.mem_append.1 hx).elim (rowL_mem xs) (rowL_mem xs)) (by rw [hlen]; omega) om; rw [hlen] at h; exact h)) ?_; rintro v H' ⟨a3, c3, rfl, hs3, rfl⟩)
  refine c_nil (x_one (h_keep (fun w c => by exact c.drop) ?_))
  refine h_only 7 rfl kr ?_
  first | (refine m_call (ent_of Tryz.func232 kr rfl) rfl rfl (fun w c => rows_ok (c.rd hr) hR hC) ?_; rintro v H' ⟨a1, c1, rfl, hs1, rfl⟩) | (refine m_call (ent_of Tryz.func232 kr rfl) rfl rfl (fun w c => rows_ok (c.rd hr') hS hC) ?_; rintro v H' ⟨a2, c2, rfl, hs2, rfl⟩) | (refine m_cat tabs (m1 := (rowL C f R).length) (ts := (rowL C f R).flatMap rowT) (ts2 := (rowL C g S).flatMap rowT) rfl rfl rfl rfl (by simp [rowT_map]) (by simp [rowT_map]) rows_noc (by simp [rowT_map]; omega) (by decide) (fun w c => c) (fun a4 c4 => ?_)) | (refine m_call (ent_of Tryz.func226 kr rfl) rfl rfl (fun w c => (by have h := fromRows_ok (e := 43) (C := C) (rs := rowL C f R ++ rowL C g S) (by have h := c.own_rd (i := 0) rfl; rwa [← List.flatMap_append] at h) (fun xs hx => (List.mem_append.1 hx).elim (rowL_mem xs) (rowL_mem xs)) (by rw [hlen]; omega) om; rw [hlen] at h; exact h)) ?_; rintro v H' ⟨a3, c3, rfl, hs3, rfl⟩)
  refine c_nil (x_one (h_keep (fun w c => by exact c.drop.drop) ?_))
  refine h_end kr ?_
  rw [bel_eq]
  repeat' (first | (show oL; first | (show oA (.store _ _ _); refine m_storeb 2 tabs rfl rfl rfl rfl rfl rfl rfl ?_)) | refine xNt ?_ | (show oC; refine c_ret ?_))
  exact x_ret1 Tryz.results289 (res_cellb 2 tabs rfl rfl rfl rfl) (fun w' c' => ⟨_, _, rfl, ⟨a3, c3, rfl, hs3, rfl⟩, c'.sub (.cons_cons _ (List.nil_sublist _))⟩)
theorem blocks_ok {w : World} {R S C D : Nat} {f h g : Nat → Nat → Int} {u u1 u' : Value} (hr : Rd w (iT (mk R C f)) u) (hh : Rd w (iT (mk R D h)) u1) (hr' : Rd w (iT (mk S D g)) u') (hR : R ≤ 8) (hS : S ≤ 8) (hC : C ≤ 8) (hD : D ≤ 8) :
    Does Tryz.prog 257 [.agg #[iV R, iV C, u], .agg #[iV R, iV D, u1], .agg #[iV S, iV D, u']] w (GivesK (R + S) (C + D) (blkF R C f h g)) := by
  refine fn_enter Tryz.func257 rfl Tryz.ntmps257 rfl ?_
  repeat' (first | (show oL; first | (show oA (.box _ _); refine m_box rfl rfl (fun b1 hb1 => ?_)) | (show oA (.alloc _); refine m_alloc tabs rfl rfl (fun b2 hb2 => ?_))) | refine xNt ?_ | (show oC; first | refine c_seq ?_ | refine c_region ?_))
  rename_i b0 hb0 b3 hb3
  refine c_mixR (Hp [] w [.blk b2 #[iV 0, iV 0, .slice none 0 0] 47, .blk b1 #[iV S, iV D, u'] 47, .blk b3 #[iV R, iV D, u1] 47, .blk b0 #[iV R, iV C, u] 47]) 11 kr kr kr kr kr (fun _ c => Hp.drew c) ?_
  refine h_take 0 rfl kr kr kr (by first | exact y_loadb 3 tabs rfl rfl rfl rfl | exact y_loadb 3 tabs rfl rfl rfl rfl) rfl (fun _ c => c) ?_
  refine h_take 1 rfl kr kr kr (by first | exact y_loadb 2 tabs rfl rfl rfl rfl | exact y_loadb 2 tabs rfl rfl rfl rfl) rfl (fun _ c => c) ?_
  refine h_take 3 rfl kr kr kr (by exact y_field tabs rfl rfl rfl) rfl (fun _ c => c) ?_
  refine h_take 4 rfl kr kr kr (by exact y_load tabs rfl rfl (hc_blk 1 rfl rfl)) rfl (fun _ c => c) ?_
  refine h_take 5 rfl kr kr kr (by exact y_field tabs rfl rfl rfl) rfl (fun _ c => c) ?_
  refine h_take 6 rfl kr kr kr (by exact y_load tabs rfl rfl (hc_blk 3 rfl rfl)) rfl (fun _ c => c) ?_
  refine h_take 8 rfl kr kr kr (by first | exact y_loadb 1 tabs rfl rfl rfl rfl | exact y_loadb 1 tabs rfl rfl rfl rfl) rfl (fun _ c => c) ?_
  refine h_only 2 rfl kr ?_
  first | (refine m_call (ent_of Tryz.func249 kr rfl) rfl rfl (fun w c => beside_ok (c.rd hr) (c.rd hh) om om) ?_; rintro v H' ⟨a1, c1, rfl, hs1, rfl⟩) | (refine m_call (ent_of Tryz.func231 kr rfl) rfl rfl (fun w c => zero_ok (R := S) (C := C) om om) ?_; rintro v H' ⟨a2, c2, rfl, hs2, rfl⟩) | (refine m_call (ent_of Tryz.func249 kr rfl) rfl rfl (fun w c => beside_ok (f := fun _ _ => 0) (c.own_rd (i := 0) rfl) (c.rd hr') om om) ?_; rintro v H' ⟨a3, c3, rfl, hs3, rfl⟩) | (refine m_call (ent_of Tryz.func289 kr rfl) rfl rfl (fun w c => below_ok (c.own_rd (i := 2) rfl) (c.own_rd (i := 0) rfl) om om om) ?_; rintro v H' ⟨a4, c4, rfl, hs4, rfl⟩)
  refine c_nil (x_one (h_keep (fun w c => by exact c.drop) ?_))
  refine h_only 7 rfl kr ?_
  first | (refine m_call (ent_of Tryz.func249 kr rfl) rfl rfl (fun w c => beside_ok (c.rd hr) (c.rd hh) om om) ?_; rintro v H' ⟨a1, c1, rfl, hs1, rfl⟩) | (refine m_call (ent_of Tryz.func231 kr rfl) rfl rfl (fun w c => zero_ok (R := S) (C := C) om om) ?_; rintro v H' ⟨a2, c2, rfl, hs2, rfl⟩) | (refine m_call (ent_of Tryz.func249 kr rfl) rfl rfl (fun w c => beside_ok (f := fun _ _ => 0) (c.own_rd (i := 0) rfl) (c.rd hr') om om) ?_; rintro v H' ⟨a3, c3, rfl, hs3, rfl⟩) | (refine m_call (ent_of Tryz.func289 kr rfl) rfl rfl (fun w c => below_ok (c.own_rd (i := 2) rfl) (c.own_rd (i := 0) rfl) om om om) ?_; rintro v H' ⟨a4, c4, rfl, hs4, rfl⟩)
  refine c_nil (x_one (h_keep (fun w c => by exact c.drop.drop) ?_))
  refine h_only 9 rfl kr ?_
  first | (refine m_call (ent_of Tryz.func249 kr rfl) rfl rfl (fun w c => beside_ok (c.rd hr) (c.rd hh) om om) ?_; rintro v H' ⟨a1, c1, rfl, hs1, rfl⟩) | (refine m_call (ent_of Tryz.func231 kr rfl) rfl rfl (fun w c => zero_ok (R := S) (C := C) om om) ?_; rintro v H' ⟨a2, c2, rfl, hs2, rfl⟩) | (refine m_call (ent_of Tryz.func249 kr rfl) rfl rfl (fun w c => beside_ok (f := fun _ _ => 0) (c.own_rd (i := 0) rfl) (c.rd hr') om om) ?_; rintro v H' ⟨a3, c3, rfl, hs3, rfl⟩) | (refine m_call (ent_of Tryz.func289 kr rfl) rfl rfl (fun w c => below_ok (c.own_rd (i := 2) rfl) (c.own_rd (i := 0) rfl) om om om) ?_; rintro v H' ⟨a4, c4, rfl, hs4, rfl⟩)
  refine c_nil (x_one (h_keep sS ?_))
  refine h_only 10 rfl kr ?_
  first | (refine m_call (ent_of Tryz.func249 kr rfl) rfl rfl (fun w c => beside_ok (c.rd hr) (c.rd hh) om om) ?_; rintro v H' ⟨a1, c1, rfl, hs1, rfl⟩) | (refine m_call (ent_of Tryz.func231 kr rfl) rfl rfl (fun w c => zero_ok (R := S) (C := C) om om) ?_; rintro v H' ⟨a2, c2, rfl, hs2, rfl⟩) | (refine m_call (ent_of Tryz.func249 kr rfl) rfl rfl (fun w c => beside_ok (f := fun _ _ => 0) (c.own_rd (i := 0) rfl) (c.rd hr') om om) ?_; rintro v H' ⟨a3, c3, rfl, hs3, rfl⟩) | (refine m_call (ent_of Tryz.func289 kr rfl) rfl rfl (fun w c => below_ok (c.own_rd (i := 2) rfl) (c.own_rd (i := 0) rfl) om om om) ?_; rintro v H' ⟨a4, c4, rfl, hs4, rfl⟩)
  refine c_nil (x_one (h_keep sS ?_))
  refine h_end kr ?_
  repeat' (first | (show oL; first | (show oA (.store _ _ _); refine m_storeb 4 tabs rfl rfl rfl rfl rfl rfl rfl ?_)) | refine xNt ?_ | (show oC; refine c_ret ?_))
  exact x_ret1 Tryz.results257 (res_cellb 4 tabs rfl rfl rfl rfl) (fun w' c' => ⟨_, _, rfl, ⟨a4, c4, rfl, hs4, rfl⟩, c'.sub (.cons_cons _ (List.nil_sublist _))⟩)
def blkA (R C : Nat) (f : Nat → Nat → Int) (i k : Nat) : Nat → Nat → Int := fun a b => if a < i ∨ (a = i ∧ b < k) then (if a < R ∧ b < C then f a b else 0) else 0
theorem blkA_next {R C i k : Nat} {f : Nat → Nat → Int} (hi : i < R) (hk : k < C) : upd (blkA R C f i k) i k (f i k) = blkA R C f i (k + 1) := by
  funext a b
  unfold upd blkA
  grind
def blkB (R C : Nat) (f g : Nat → Nat → Int) (i k : Nat) : Nat → Nat → Int := fun a b => if a < R then (if b < C then f a b else 0) else if b < C then 0 else if a < R + i ∨ (a = R + i ∧ b < C + k) then g (a - R) (b - C) else 0
theorem blkB_next {R C i k : Nat} {f g : Nat → Nat → Int} : upd (blkB R C f g i k) (R + i) (C + k) (g i k) = blkB R C f g i (k + 1) := by
  funext a b
  unfold upd blkB
  by_cases h : a = R + i ∧ b = C + k
  · obtain ⟨rfl, rfl⟩ := h
    have e1 : R + i - R = i := by omega
    have e2 : C + k - C = k := by omega
    simp [e1, e2]
    omega
  · grind
theorem l3Block_ok {w : World} {R S C D : Nat} {f g : Nat → Nat → Int} {u u' : Value} (hr : Rd w (iT (mk R C f)) u) (hr' : Rd w (iT (mk S D g)) u') (hR : R ≤ 8) (hS : S ≤ 8) (hC : C ≤ 8) (hD : D ≤ 8) :
    Does Tryz.prog 178 [.agg #[iV R, iV C, u], .agg #[iV S, iV D, u']] w (GivesK (R + S) (C + D) (blkF R C f (fun _ _ => 0) g)) := by
  obtain ⟨au, cu, rfl, hsu, hcu⟩ := rd_mk hr
  obtain ⟨av, cv, rfl, hsv, hcv⟩ := rd_mk hr'
  have hbig := rc_le (R := R + S) (C := C + D) om om
  have hRC := rc_le (R := R) (C := C) om om
  have hSD := rc_le (R := S) (C := D) om om
  refine fn_enter Tryz.func178 rfl Tryz.ntmps178 rfl ?_
  repeat' (first | (show oL; first | refine sAs rfl rfl ?_ | refine sFd tabs rfl rfl rfl rfl ?_ | (show oA (.load _ _); first | refine sLd 1 tabs rfl rfl rfl rfl rfl ?_ | refine sLd 2 tabs rfl rfl rfl rfl rfl ?_) | (show oA (.binOp _ _ _ _ _); first | refine st_y (y_addn (a := R) (b := S) rfl rfl rfl rfl om) rfl ?_ | refine st_y (y_addn (a := C) (b := D) rfl rfl rfl rfl om) rfl ?_) | (show oA (.call _); (refine m_call (ent_of Tryz.func172 kr rfl) rfl rfl (fun w c => l3Zero_ok (R := R + S) (C := C + D) om om) ?_; rintro v H' ⟨am, cm, rfl, hsm, rfl⟩)) | (show oA (.store _ _ _); refine m_storeb 0 tabs rfl rfl rfl rfl rfl rfl rfl ?_) | (show oA (.box _ _); refine m_box rfl rfl (fun b3 hb3 => ?_)) | (show oA (.alloc _); refine m_alloc tabs rfl rfl (fun b5 hb5 => ?_))) | refine xNt ?_ | (show oC; first | refine c_seq ?_ | refine c_region ?_ | refine c_block ?_))
  rename_i b2 hb2 b4 hb4
  refine c_loopH (α := Nat) [2, 3, 4, 5] (fun i => [(6, .int .i64 i)]) (fun i => i ≤ R) (fun i => [.own (iT (mk (R + S) (C + D) (blkA R C f i 0))) (.slice am ((R + S) * (C + D)) cm), .blk b5 #[iV ((R + S : Nat) : Int), iV ((C + D : Nat) : Int), .slice am ((R + S) * (C + D)) cm] 47, .blk b4 #[iV 0, iV 0, .slice none 0 0] 47, .blk b3 #[iV S, iV D, .slice av (S * D) cv] 47, .blk b2 #[iV R, iV C, .slice au (R * C) cu] 47]) (fun i => R - i) 0 rfl sB ?_ ?_ ?_
  · exact Nat.zero_le _
  · intro w' c'
    have e0 : mk (R + S) (C + D) (blkA R C f 0 0) = mk (R + S) (C + D) (fun _ _ => 0) := mk_ext (fun i j hi hj => by unfold blkA; grind)
    rw [e0]
    exact c'.front (i := 1) rfl
  · intro i hi
    by_cases hiR : i < R
    · repeat' (first | (show oL; first | refine sMv rfl rfl ?_ | refine sAs rfl rfl ?_ | refine sFd tabs rfl rfl rfl rfl ?_ | refine sLd 4 tabs rfl rfl rfl rfl rfl ?_ | refine sLs rfl rfl rfl ?_) | refine xNt ?_ | (show oC; first | refine c_seq ?_ | refine c_region ?_ | refine c_skip (x_then ?_) | refine c_block ?_ | refine c_ift rfl aO ?_))
      refine c_loopH (α := Nat) [2, 3, 4, 5, 6] (fun k => [(7, .int .i64 k)]) (fun k => k ≤ C) (fun k => [.own (iT (mk (R + S) (C + D) (blkA R C f i k))) (.slice am ((R + S) * (C + D)) cm), .blk b5 #[iV ((R + S : Nat) : Int), iV ((C + D : Nat) : Int), .slice am ((R + S) * (C + D)) cm] 47, .blk b4 #[iV 0, iV 0, .slice none 0 0] 47, .blk b3 #[iV S, iV D, .slice av (S * D) cv] 47, .blk b2 #[iV R, iV C, .slice au (R * C) cu] 47]) (fun k => C - k) 0 rfl sB ?_ ?_ ?_
      · exact Nat.zero_le _
      · exact fun w' c' => c'
      · intro k hk
        by_cases hkC : k < C
        · have c1 := cell_lt hiR hkC
          have c2 := cell_lt (i := i) (R := R + S) (j := k) (C := C + D) om om
          have h1 := Nat.mul_le_mul_right C hi
          have h2 := Nat.mul_le_mul_right (C + D) (show i ≤ R + S by omega)
          repeat' (first | (show oL; first | refine sMv rfl rfl ?_ | refine sAs rfl rfl ?_ | refine sFd tabs rfl rfl rfl rfl ?_ | refine sLd 4 tabs rfl rfl rfl rfl rfl ?_ | (show oA (.indexAddr _ _ _); refine st_y (y_ix1 tabs (j := i * (C + D) + k) rfl rfl rfl hsm rfl c2) rfl ?_) | (show oA (.binOp _ _ _ _ _); first | refine sAd rfl rfl om rfl ?_ | refine sLs rfl rfl rfl ?_) | (show oA (.store _ _ _); refine m_storeo 0 tabs rfl rfl rfl rfl (by rw [mk_length]; exact c2) ?_)) | (show oN; first | refine c_nil (x_then ?_) | refine c_nil ?_) | (show oC; first | refine c_tailR 18 kr kr kr kr kr kr (fun _ c => Hp.drew c) ?_ | refine c_seq ?_ | refine c_region ?_ | refine c_skip (x_then ?_) | refine c_block ?_ | refine c_ift rfl aO ?_) | (show QT _ _ _ _ _ _ (_ :: _); first | refine qMv rfl rfl ?_ | refine qFd tabs rfl rfl rfl rfl ?_ | (show qA (.load _ _); first | refine qLd 4 tabs rfl rfl rfl rfl rfl ?_ | refine qLd 1 tabs rfl rfl rfl rfl rfl ?_ | refine q_y (y_load tabs rfl rfl (hc_rdk (RdOut.of_rd hr) hiR hkC)) rfl ?_) | (show qA (.indexAddr _ _ _); refine q_y (y_ix1 tabs (j := i * C + k) rfl rfl rfl hsu rfl c1) rfl ?_) | (show qA (.binOp _ _ _ _ _); first | refine q_y (y_muln (a := i) (b := C + D) rfl rfl rfl rfl om) rfl ?_ | refine q_y (y_muln (a := i) (b := C) rfl rfl rfl rfl om) rfl ?_ | refine q_y (y_addn (b := k) rfl rfl rfl rfl om) rfl ?_)) | (show QT _ _ _ _ _ _ []; refine q_nil ?_) | (show AT _ _ _ _; first | refine x_then ?_ | refine x_blk ?_))
          refine x_nx (k + 1) sB om (fun w' c' => ?_) om
          simp only [List.set_cons_zero] at c'
          rw [mk_set om om, blkA_next hiR hkC] at c'
          exact c'
        · have : k = C := by omega
          subst this
          repeat' (first | (show oL; first | refine sMv rfl rfl ?_ | refine sAs rfl rfl ?_ | refine sFd tabs rfl rfl rfl rfl ?_ | refine sLd 4 tabs rfl rfl rfl rfl rfl ?_ | (show oA (.binOp _ _ _ _ _); first | refine sAd rfl rfl om rfl ?_ | refine sLs rfl rfl rfl ?_)) | refine xNt ?_ | (show oC; first | refine c_seq ?_ | refine c_region ?_ | refine c_exit ?_ | refine c_iff rfl nN ?_) | (show AT _ _ _ _; first | refine x_then ?_ | refine x_then_exit ?_ | refine x_blk_exit rfl ?_ | refine x_blk ?_))
          refine x_nx (i + 1) sB om (fun w' c' => ?_) om
          have e0 : mk (R + S) (k + D) (blkA R k f i k) = mk (R + S) (k + D) (blkA R k f (i + 1) 0) := mk_ext (fun a b ha hb => by unfold blkA; grind)
          rw [e0] at c'
          exact c'
    · have : i = R := by omega
      subst this
      repeat' (first | (show oL; first | refine sMv rfl rfl ?_ | refine sAs rfl rfl ?_ | refine sFd tabs rfl rfl rfl rfl ?_ | refine sLd 4 tabs rfl rfl rfl rfl rfl ?_ | refine sLs rfl rfl rfl ?_) | refine xNt ?_ | (show oC; first | refine c_seq ?_ | refine c_region ?_ | refine c_block ?_ | refine c_exit ?_ | refine c_iff rfl nN ?_) | (show AT _ _ _ _; first | refine x_then ?_ | refine x_then_exit ?_ | refine x_blk_exit rfl ?_))
      refine c_loopH (α := Nat) [2, 3, 4, 5] (fun j => [(8, .int .i64 j)]) (fun j => j ≤ S) (fun j => [.own (iT (mk (i + S) (C + D) (blkB i C f g j 0))) (.slice am ((i + S) * (C + D)) cm), .blk b5 #[iV ((i + S : Nat) : Int), iV ((C + D : Nat) : Int), .slice am ((i + S) * (C + D)) cm] 47, .blk b4 #[iV 0, iV 0, .slice none 0 0] 47, .blk b3 #[iV S, iV D, .slice av (S * D) cv] 47, .blk b2 #[iV i, iV C, .slice au (i * C) cu] 47]) (fun j => S - j) 0 rfl sB ?_ ?_ ?_
      · exact Nat.zero_le _
      · intro w' c'
        have e0 : mk (i + S) (C + D) (blkB i C f g 0 0) = mk (i + S) (C + D) (blkA i C f i 0) := mk_ext (fun a b ha hb => by unfold blkA blkB; grind)
        rw [e0]
        exact c'
      · intro j hj
        by_cases hjS : j < S
        · repeat' (first | (show oL; first | refine sMv rfl rfl ?_ | refine sAs rfl rfl ?_ | refine sFd tabs rfl rfl rfl rfl ?_ | refine sLd 3 tabs rfl rfl rfl rfl rfl ?_ | refine sLs rfl rfl rfl ?_) | refine xNt ?_ | (show oC; first | refine c_seq ?_ | refine c_region ?_ | refine c_skip (x_then ?_) | refine c_block ?_ | refine c_ift rfl aO ?_))
          refine c_loopH (α := Nat) [2, 3, 4, 5, 8] (fun k => [(9, .int .i64 k)]) (fun k => k ≤ D) (fun k => [.own (iT (mk (i + S) (C + D) (blkB i C f g j k))) (.slice am ((i + S) * (C + D)) cm), .blk b5 #[iV ((i + S : Nat) : Int), iV ((C + D : Nat) : Int), .slice am ((i + S) * (C + D)) cm] 47, .blk b4 #[iV 0, iV 0, .slice none 0 0] 47, .blk b3 #[iV S, iV D, .slice av (S * D) cv] 47, .blk b2 #[iV i, iV C, .slice au (i * C) cu] 47]) (fun k => D - k) 0 rfl sB ?_ ?_ ?_
          · exact Nat.zero_le _
          · exact fun w' c' => c'
          · intro k hk
            by_cases hkD : k < D
            · have c1 := cell_lt hjS hkD
              have c2 := cell_lt (i := i + j) (R := i + S) (j := C + k) (C := C + D) om om
              have h1 := Nat.mul_le_mul_right D hj
              have h2 := Nat.mul_le_mul_right (C + D) (show i + j ≤ i + S by omega)
              repeat' (first | (show oL; first | refine sMv rfl rfl ?_ | refine sAs rfl rfl ?_ | refine sFd tabs rfl rfl rfl rfl ?_ | refine sLd 3 tabs rfl rfl rfl rfl rfl ?_ | (show oA (.indexAddr _ _ _); refine st_y (y_ix1 tabs (j := (i + j) * (C + D) + (C + k)) rfl rfl rfl hsm (by rw [← Nat.add_assoc]) c2) rfl ?_) | (show oA (.binOp _ _ _ _ _); first | refine sAd rfl rfl om rfl ?_ | refine sLs rfl rfl rfl ?_) | (show oA (.store _ _ _); refine m_storeo 0 tabs rfl rfl rfl rfl (by rw [mk_length]; exact c2) ?_)) | (show oN; first | refine c_nil (x_then ?_) | refine c_nil ?_) | (show oC; first | refine c_tailR 24 kr kr kr kr kr kr (fun _ c => Hp.drew c) ?_ | refine c_seq ?_ | refine c_region ?_ | refine c_skip (x_then ?_) | refine c_block ?_ | refine c_ift rfl aO ?_) | (show QT _ _ _ _ _ _ (_ :: _); first | refine qMv rfl rfl ?_ | refine qFd tabs rfl rfl rfl rfl ?_ | (show qA (.load _ _); first | refine qLd 4 tabs rfl rfl rfl rfl rfl ?_ | refine qLd 3 tabs rfl rfl rfl rfl rfl ?_ | refine qLd 1 tabs rfl rfl rfl rfl rfl ?_ | refine q_y (y_load tabs rfl rfl (hc_rdk (RdOut.of_rd hr') hjS hkD)) rfl ?_) | (show qA (.indexAddr _ _ _); refine q_y (y_ix1 tabs (j := j * D + k) rfl rfl rfl hsv rfl c1) rfl ?_) | (show qA (.binOp _ _ _ _ _); first | refine q_y (y_muln (a := i + j) (b := C + D) rfl rfl rfl rfl om) rfl ?_ | refine q_y (y_muln (a := j) (b := D) rfl rfl rfl rfl om) rfl ?_ | refine q_y (y_addn (a := i) (b := j) rfl rfl rfl rfl om) rfl ?_ | refine q_y (y_addn (a := (i + j) * (C + D)) (b := C) rfl rfl rfl rfl om) rfl ?_ | refine q_y (y_addn (b := k) rfl rfl rfl rfl om) rfl ?_)) | (show QT _ _ _ _ _ _ []; refine q_nil ?_) | (show AT _ _ _ _; first | refine x_then ?_ | refine x_blk ?_))
              refine x_nx (k + 1) sB om (fun w' c' => ?_) om
              simp only [List.set_cons_zero] at c'
              rw [mk_set om om, blkB_next] at c'
              exact c'
            · have : k = D := by omega
              subst this
              repeat' (first | (show oL; first | refine sMv rfl rfl ?_ | refine sAs rfl rfl ?_ | refine sFd tabs rfl rfl rfl rfl ?_ | refine sLd 3 tabs rfl rfl rfl rfl rfl ?_ | (show oA (.binOp _ _ _ _ _); first | refine sAd rfl rfl om rfl ?_ | refine sLs rfl rfl rfl ?_)) | refine xNt ?_ | (show oC; first | refine c_seq ?_ | refine c_region ?_ | refine c_exit ?_ | refine c_iff rfl nN ?_) | (show AT _ _ _ _; first | refine x_then ?_ | refine x_then_exit ?_ | refine x_blk_exit rfl ?_ | refine x_blk ?_))
              refine x_nx (j + 1) sB om (fun w' c' => ?_) om
              have e0 : mk (i + S) (C + k) (blkB i C f g j k) = mk (i + S) (C + k) (blkB i C f g (j + 1) 0) := mk_ext (fun a b ha hb => by unfold blkB; grind)
              rw [e0] at c'
              exact c'
        · have : j = S := by omega
          subst this
          have e0 : mk (i + j) (C + D) (blkB i C f g j 0) = mk (i + j) (C + D) (blkF i C f (fun _ _ => 0) g) := mk_ext (fun a b ha hb => by unfold blkB blkF belF besF; grind)
          rw [e0]
          repeat' (first | (show oL; first | refine sMv rfl rfl ?_ | refine sFd tabs rfl rfl rfl rfl ?_ | (show oA (.load _ _); first | refine sLd 3 tabs rfl rfl rfl rfl rfl ?_ | refine sLb 1 tabs rfl rfl rfl rfl rfl ?_) | refine sLs rfl rfl rfl ?_ | (show oA (.store _ _ _); refine m_storeb 2 tabs rfl rfl rfl rfl rfl rfl rfl ?_)) | refine xNt ?_ | (show oC; first | refine c_seq ?_ | refine c_region ?_ | refine c_ret ?_ | refine c_exit ?_ | refine c_iff rfl nN ?_) | (show AT _ _ _ _; first | refine x_then ?_ | refine x_then_exit ?_ | refine x_blk_exit rfl ?_))
          exact x_ret1 Tryz.results178 (res_cellb 2 tabs rfl rfl rfl rfl) (fun w' c' => ⟨_, _, rfl, ⟨am, cm, rfl, hsm, rfl⟩, c'.sub (.cons_cons _ (List.nil_sublist _))⟩)
theorem matsTk {ms : List Mat} {i : Nat} {m : Mat} (h : ms[i]? = some m) : (ms.take i).flatMap matT ++ (List.map T.c [iV m.1, iV m.2.1] ++ [iT m.2.2]) = (ms.take (i + 1)).flatMap matT := by
  rw [List.take_add_one, h, List.flatMap_append]
  simp [matT]
theorem copyMatrices_ok {w : World} {ms : List Mat} {e : Nat} {v : Value} (hr : Rd w (matsT e ms) v) (hb : ∀ m ∈ ms, m.2.2.length ≤ 1048576) (hl : ms.length ≤ 1000) :
    Does Tryz.prog 260 [v] w (GivesMs ms) := by
  obtain ⟨a3, c3, rfl, hs3, hc3, hd3, hg3⟩ := rd_mats hr
  refine fn_enter Tryz.func260 rfl Tryz.ntmps260 rfl ?_
  repeat' (first | (show oL; first | refine sMv rfl rfl ?_ | refine sAs rfl rfl ?_ | refine sLn tabs rfl rfl rfl ?_) | refine xNt ?_ | (show oC; first | refine c_seq ?_ | refine c_region ?_ | refine c_block ?_))
  refine c_loopH (α := Nat × Option Addr × Nat) [6, 7] (fun s => [(3, .slice s.2.1 s.1 s.2.2), (8, .int .i64 s.1)]) (fun s => s.1 ≤ ms.length) (fun s => [.own (matsT 47 (ms.take s.1)) (.slice s.2.1 s.1 s.2.2)]) (fun s => ms.length - s.1) (0, none, 0) rfl sB ?_ ?_ ?_
  · exact Nat.zero_le _
  · exact fun w' c' => Hp.nilp _ _ c'
  · rintro ⟨i, al, cl⟩ hi
    simp only at hi ⊢
    have hln : (ms.take i).length = i := by simp; omega
    by_cases hin : i < ms.length
    · obtain ⟨m, hm⟩ : ∃ m, ms[i]? = some m := ⟨_, List.getElem?_eq_getElem hin⟩
      obtain ⟨a4, c4, g1, g2, g3, g4⟩ := hg3 i m hm
      have hbm := hb m (List.mem_of_getElem? hm)
      repeat' (first | (show oL; first | refine sMv rfl rfl ?_ | refine sAs rfl rfl ?_ | (show oA (.load _ _); first | refine st_y (y_load3 tabs rfl rfl (hc_w0 g1) (hc_w0 g2) (hc_w0 g3)) rfl ?_ | refine sLb 0 tabs rfl rfl rfl rfl rfl ?_) | (show oA (.indexAddr _ _ _); refine st_y (y_ixa tabs rfl rfl rfl mK om om) rfl ?_) | (show oA (.binOp _ _ _ _ _); first | refine sAd rfl rfl om rfl ?_ | refine sLs rfl rfl rfl ?_) | (show oA (.call _); first | (refine m_call (ent_of Tryz.func196 kr rfl) rfl rfl (fun w c => clone_ok (m := m) (c.rd g4) hbm) ?_; rintro v H' ⟨az, cz, rfl, hsz, rfl⟩) | refine m_push1 [iV m.1, iV m.2.1] 1 0 tabs (m' := i) rfl rfl rfl rfl rfl rfl rfl (by rw [flatMap_length matT_length, hln]) (by rw [flatMap_length matT_length, hln]; omega) (by decide) rfl rfl (fun a6 c6 => ?_)) | (show oA (.store _ _ _); refine m_storeb 0 tabs rfl rfl rfl rfl rfl rfl rfl ?_) | (show oA (.alloc _); refine m_alloc tabs rfl rfl (fun b5 hb5 => ?_)) | (show oA (.buildSlice _ _ _); refine m_build1 tabs (us := [iV m.1, iV m.2.1, .slice az m.2.2.length cz]) rfl rfl rfl rfl (by decide) rfl (fun g5 hg5 => ?_))) | (show oN; first | refine c_nil (x_then ?_) | refine c_nil ?_) | (show oC; first | refine c_seq ?_ | refine c_region ?_ | refine c_skip (x_then ?_) | refine c_block ?_ | refine c_ift rfl aO ?_) | (show AT _ _ _ _; first | refine x_then ?_ | refine x_blk ?_))
      refine x_nx (i + 1, a6, c6) sB (by simp only; omega) (fun w' c' => ?_) (by simp only; omega)
      rw [matsTk hm] at c'
      exact c'.sub (.cons_cons _ (List.nil_sublist _))
    · have : i = ms.length := by omega
      subst this
      have e0 : ms.take ms.length = ms := List.take_length
      rw [e0]
      refine AT.fact (mats_sl 0 rfl) (fun hsl => ?_)
      repeat' (first | (show oL; first | refine sMv rfl rfl ?_ | refine sAs rfl rfl ?_ | refine sLs rfl rfl rfl ?_) | refine xNt ?_ | (show oC; first | refine c_seq ?_ | refine c_region ?_ | refine c_ret ?_ | refine c_exit ?_ | refine c_iff rfl nN ?_) | (show AT _ _ _ _; first | refine x_then ?_ | refine x_then_exit ?_ | refine x_blk_exit rfl ?_))
      exact x_ret1 Tryz.results260 (res_tmp rfl) (fun w' c' => ⟨_, _, rfl, ⟨al, cl, rfl, hsl, rfl⟩, c'.sub (.cons_cons _ (List.nil_sublist _))⟩)
theorem rclone_ok {w : World} {r : Rp} {e : Nat} {u0 u1 u2 u3 : Value} (h0 : Rd w (iT r.q.2.1) u0) (h1 : Rd w (iT r.q.2.2) u1) (h2 : Rd w (iT r.d) u2) (h3 : Rd w (matsT e r.m) u3) (hR : RepP r) :
    Does Tryz.prog 182 [.agg #[iV r.p, iV r.q.1, u0, u1, u2, u3]] w (GivesR r) := by
  have hb := (RepP.dd hR).2
  have hml := hR.2.2.1
  have hQ := hR.2.1.1
  have q1 := hQ.2.1
  have q2 := hQ.2.2.1
  have hbm : ∀ m ∈ r.m, m.2.2.length ≤ 1048576 := fun m hm => by
    obtain ⟨i, hi, rfl⟩ := List.getElem_of_mem hm
    have h := (hR.2.2.2 i hi).1.2.2.2.2.1
    have e : r.m.getD i mat0 = r.m[i] := by simp [List.getD, hi]
    rw [e] at h
    omega
  refine fn_enter Tryz.func182 rfl Tryz.ntmps182 rfl ?_
  repeat' (first | (show oL; first | (show oA (.box _ _); refine m_box rfl rfl (fun b1 hb1 => ?_)) | (show oA (.alloc _); refine m_alloc tabs rfl rfl (fun b2 hb2 => ?_))) | refine xNt ?_ | (show oC; first | refine c_seq ?_ | refine c_region ?_))
  refine c_mixR (Hp [] w [.blk b1 #[iV r.p, iV r.q.1, u0, u1, u2, u3] 60]) 12 kr kr kr kr kr (fun _ c => Hp.drew c) ?_
  refine h_take 0 rfl kr kr kr (by exact y_field tabs rfl rfl rfl) rfl (fun w c => by exact c.drop) ?_
  refine h_take 1 rfl kr kr kr (by exact y_load tabs rfl rfl (hc_blk 0 rfl rfl)) rfl (fun w c => by exact c.drop) ?_
  refine h_take 2 rfl kr kr kr (by exact y_field tabs rfl rfl rfl) rfl (fun w c => by exact c.drop) ?_
  refine h_take 3 rfl kr kr kr (by exact y_load3 tabs rfl rfl (hc_blk 0 rfl rfl) (hc_blk 0 rfl rfl) (hc_blk 0 rfl rfl)) rfl (fun w c => by exact c.drop) ?_
  refine h_take 5 rfl kr kr kr (by exact y_field tabs rfl rfl rfl) rfl (fun w c => by exact c.drop) ?_
  refine h_take 6 rfl kr kr kr (by exact y_load tabs rfl rfl (hc_blk 0 rfl rfl)) rfl (fun w c => by exact c.drop) ?_
  refine h_take 8 rfl kr kr kr (by exact y_field tabs rfl rfl rfl) rfl (fun w c => by exact c.drop) ?_
  refine h_take 9 rfl kr kr kr (by exact y_load tabs rfl rfl (hc_blk 0 rfl rfl)) rfl (fun w c => by exact c.drop) ?_
  refine h_only 4 rfl kr ?_
  first | (refine m_call (ent_of Tryz.func259 kr rfl) rfl rfl (fun w c => qclone_ok (q := r.q) (c.rd h0) (c.rd h1) (by simp only [szQ]; omega)) ?_; rintro v H' ⟨aq, cq, aq', cq', rfl, hsq, hsq', rfl⟩) | (refine m_call (ent_of Tryz.func193 kr rfl) rfl rfl (fun w c => Clone_ok (c.rd h2) om) ?_; rintro v H' ⟨ad, cd, rfl, hsd, rfl⟩) | (refine m_call (ent_of Tryz.func260 kr rfl) rfl rfl (fun w c => copyMatrices_ok (c.rd h3) hbm om) ?_; rintro v H' ⟨am, cm, rfl, hsm, rfl⟩)
  refine c_nil (x_one (h_keep sS ?_))
  refine h_only 7 rfl kr ?_
  first | (refine m_call (ent_of Tryz.func259 kr rfl) rfl rfl (fun w c => qclone_ok (q := r.q) (c.rd h0) (c.rd h1) (by simp only [szQ]; omega)) ?_; rintro v H' ⟨aq, cq, aq', cq', rfl, hsq, hsq', rfl⟩) | (refine m_call (ent_of Tryz.func193 kr rfl) rfl rfl (fun w c => Clone_ok (c.rd h2) om) ?_; rintro v H' ⟨ad, cd, rfl, hsd, rfl⟩) | (refine m_call (ent_of Tryz.func260 kr rfl) rfl rfl (fun w c => copyMatrices_ok (c.rd h3) hbm om) ?_; rintro v H' ⟨am, cm, rfl, hsm, rfl⟩)
  refine c_nil (x_one (h_keep sS ?_))
  refine h_only 10 rfl kr ?_
  first | (refine m_call (ent_of Tryz.func259 kr rfl) rfl rfl (fun w c => qclone_ok (q := r.q) (c.rd h0) (c.rd h1) (by simp only [szQ]; omega)) ?_; rintro v H' ⟨aq, cq, aq', cq', rfl, hsq, hsq', rfl⟩) | (refine m_call (ent_of Tryz.func193 kr rfl) rfl rfl (fun w c => Clone_ok (c.rd h2) om) ?_; rintro v H' ⟨ad, cd, rfl, hsd, rfl⟩) | (refine m_call (ent_of Tryz.func260 kr rfl) rfl rfl (fun w c => copyMatrices_ok (c.rd h3) hbm om) ?_; rintro v H' ⟨am, cm, rfl, hsm, rfl⟩)
  refine c_nil (x_one (h_keep sS ?_))
  refine h_take 11 rfl kr kr kr (by exact y_bld4 (bld_rp4 _ _ _ _ _ _ _ _ _ _ _ _ _ _) rfl rfl rfl rfl) rfl sS ?_
  refine h_end kr ?_
  repeat' (first | (show oL; first | (show oA (.store _ _ _); refine m_storeb 4 tabs rfl rfl rfl rfl rfl rfl rfl ?_)) | refine xNt ?_ | (show oC; refine c_ret ?_))
  exact x_ret1 Tryz.results182 (res_cellb 4 tabs rfl rfl rfl rfl) (fun w' c' => ⟨_, _, rfl, ⟨aq, cq, aq', cq', ad, cd, am, cm, rfl, hsq, hsq', hsd, hsm, rfl⟩, c'.sub (.cons_cons _ (.cons_cons _ (.cons_cons _ (.cons_cons _ (List.nil_sublist _)))))⟩)
end Go.Proofs.YtijjkfbkihgfgaaGreat
