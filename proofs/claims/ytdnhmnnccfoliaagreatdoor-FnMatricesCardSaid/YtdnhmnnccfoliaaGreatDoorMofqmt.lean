import Derived.Test.YtdnhmnnccfoliaaGreatDoorAloqmt
import Derived.Test.YtdnhmnnccfoliaaGreatDoorAppqmt
import Derived.Test.YtdnhmnnccfoliaaGreatDoorCobqmt
import Derived.Test.YtdnhmnnccfoliaaGreatDoorImgqmt
import Derived.Test.YtdnhmnnccfoliaaGreatDoorLCqmt
import Derived.Test.YtdnhmnnccfoliaaGreatDoorRdPqmt
import Derived.Test.YtdnhmnnccfoliaaGreatDoorWhoqmt
import Derived.Test.YtdnhmnnccfoliaaGreatDoorZerqmt
namespace Go.Proofs.YtdnhmnnccfoliaaGreatDoor
open Go.Lg Go.Proofs Go.RowKit
attribute [local irreducible] Code.wp wpList bodyPost Exit.then Exit.inBlock Hp Again Calls Y AT ResV QT Qn QI wpAny wpAnyQ
set_option maxRecDepth 20000
set_option maxHeartbeats 4000000

def belF (R : Nat) (f g : Nat → Nat → Int) : Nat → Nat → Int := fun i j => if i < R then f i j else g (i - R) j
def blkF (R C : Nat) (f h g : Nat → Nat → Int) : Nat → Nat → Int := belF R (besF C f h) (besF C (fun _ _ => 0) g)
theorem rowL_get {C k i : Nat} {g : Nat → Nat → Int} (h : i < k) : (rowL C g k).getD i [] = mkv C (g i) := by
  simp [rowL, List.getD, h]
theorem rowL_mem {C k : Nat} {g : Nat → Nat → Int} : ∀ xs ∈ rowL C g k, xs.length = C := fun xs h => by
  simp only [rowL, List.mem_map] at h
  obtain ⟨i, _, rfl⟩ := h
  simp
theorem bel_eq {R S C : Nat} {f g : Nat → Nat → Int} : mk (R + S) C (rowsF (rowL C f R ++ rowL C g S)) = mk (R + S) C (belF R f g) := mk_ext (fun i j hi hj => by
  unfold rowsF belF
  by_cases hiR : i < R
  · have : (rowL C f R ++ rowL C g S).getD i [] = mkv C (f i) := by
      rw [← rowL_get (C := C) (g := f) hiR, List.getD, List.getD, List.getElem?_append_left (by simp; omega)]
    rw [this, mkv_get hj, if_pos hiR]
  · have h2 : i - R < S := by omega
    have : (rowL C f R ++ rowL C g S).getD i [] = mkv C (g (i - R)) := by
      rw [← rowL_get (C := C) (g := g) h2, List.getD, List.getD, List.getElem?_append_right (by simp; omega), rowL_length]
    rw [this, mkv_get hj, if_neg hiR])
theorem below_ok {w : World} {R S C : Nat} {f g : Nat → Nat → Int} {u u' : Value} (hr : Rd w (iT (mk R C f)) u) (hr' : Rd w (iT (mk S C g)) u') (hR : R ≤ 64) (hS : S ≤ 64) (hC : C ≤ 64) :
    Does Tryz.prog 167 [.agg #[iV R, iV C, u], .agg #[iV S, iV C, u']] w (GivesK (R + S) C (belF R f g)) := by
  have hlen : (rowL C f R ++ rowL C g S).length = R + S := by simp
  refine fn_enter Tryz.func167 rfl Tryz.ntmps167 rfl ?_
  repeat' (first | (show oL; first | (show oA (.box _ _); refine m_box rfl rfl (fun b1 hb1 => ?_)) | (show oA (.alloc _); refine m_alloc tabs rfl rfl (fun b2 hb2 => ?_))) | refine xNt ?_ | (show oC; first | refine c_seq ?_ | refine c_region ?_))
  rename_i b0 hb0
  refine c_mixR (Hp [] w [.blk b2 #[iV 0, iV 0, .slice none 0 0] 41, .blk b1 #[iV S, iV C, u'] 41, .blk b0 #[iV R, iV C, u] 41]) 8 kr kr kr kr kr (fun _ c => Hp.drew c) ?_
  refine h_take 0 rfl kr kr kr (by exact y_field tabs rfl rfl rfl) rfl (fun _ c => c) ?_
  refine h_take 1 rfl kr kr kr (by exact y_load tabs rfl rfl (hc_blk 2 rfl rfl)) rfl (fun _ c => c) ?_
  refine h_take 2 rfl kr kr kr (by first | exact y_loadb 2 tabs rfl rfl rfl rfl | exact y_loadb 2 tabs rfl rfl rfl rfl) rfl (fun _ c => c) ?_
  refine h_take 4 rfl kr kr kr (by first | exact y_loadb 1 tabs rfl rfl rfl rfl | exact y_loadb 1 tabs rfl rfl rfl rfl) rfl (fun _ c => c) ?_
  refine h_only 3 rfl kr ?_
  first | (refine m_call (ent_of Tryz.func91 kr rfl) rfl rfl (fun w c => rows_ok (c.rd hr) hR hC) ?_; rintro v H' ⟨a1, c1, rfl, hs1, rfl⟩) | (refine m_call (ent_of Tryz.func91 kr rfl) rfl rfl (fun w c => rows_ok (c.rd hr') hS hC) ?_; rintro v H' ⟨a2, c2, rfl, hs2, rfl⟩) | (refine m_cat tabs (m1 := (rowL C f R).length) (ts := (rowL C f R).flatMap rowT) (ts2 := (rowL C g S).flatMap rowT) rfl rfl rfl rfl (by simp [rowT_map]) (by simp [rowT_map]) rows_noc (by simp [rowT_map]; omega) (by decide) (fun w c => c) (fun a4 c4 => ?_)) | (refine m_call (ent_of Tryz.func187 kr rfl) rfl rfl (fun w c => (by have h := fromRows_ok (e := 22) (C := C) (rs := rowL C f R ++ rowL C g S) (by have h := c.own_rd (i := 0) rfl; rwa [← List.flatMap_append] at h) (fun xs hx => (List.mem_append.1 hx).elim (rowL_mem xs) (rowL_mem xs)) (by rw [hlen]; omega) om; rw [hlen] at h; exact h)) ?_; rintro v H' ⟨a3, c3, rfl, hs3, rfl⟩)
  refine c_nil (x_one (h_keep (fun w c => by exact c.drop) ?_))
  refine h_only 5 rfl kr ?_
  first | (refine m_call (ent_of Tryz.func91 kr rfl) rfl rfl (fun w c => rows_ok (c.rd hr) hR hC) ?_; rintro v H' ⟨a1, c1, rfl, hs1, rfl⟩) | (refine m_call (ent_of Tryz.func91 kr rfl) rfl rfl (fun w c => rows_ok (c.rd hr') hS hC) ?_; rintro v H' ⟨a2, c2, rfl, hs2, rfl⟩) | (refine m_cat tabs (m1 := (rowL C f R).length) (ts := (rowL C f R).flatMap rowT) (ts2 := (rowL C g S).flatMap rowT) rfl rfl rfl rfl (by simp [rowT_map]) (by simp [rowT_map]) rows_noc (by simp [rowT_map]; omega) (by decide) (fun w c => c) (fun a4 c4 => ?_)) | (refine m_call (ent_of Tryz.func187 kr rfl) rfl rfl (fun w c => (by have h := fromRows_ok (e := 22) (C := C) (rs := rowL C f R ++ rowL C g S) (by have h := c.own_rd (i := 0) rfl; rwa [← List.flatMap_append] at h) (fun xs hx => (List.mem_append.1 hx).elim (rowL_mem xs) (rowL_mem xs)) (by rw [hlen]; omega) om; rw [hlen] at h; exact h)) ?_; rintro v H' ⟨a3, c3, rfl, hs3, rfl⟩)
  refine c_nil (x_one (h_keep (fun w c => by exact c.drop.drop) ?_))
  refine h_only 6 rfl kr ?_
  first | (refine m_call (ent_of Tryz.func91 kr rfl) rfl rfl (fun w c => rows_ok (c.rd hr) hR hC) ?_; rintro v H' ⟨a1, c1, rfl, hs1, rfl⟩) | (refine m_call (ent_of Tryz.func91 kr rfl) rfl rfl (fun w c => rows_ok (c.rd hr') hS hC) ?_; rintro v H' ⟨a2, c2, rfl, hs2, rfl⟩) | (refine m_cat tabs (m1 := (rowL C f R).length) (ts := (rowL C f R).flatMap rowT) (ts2 := (rowL C g S).flatMap rowT) rfl rfl rfl rfl (by simp [rowT_map]) (by simp [rowT_map]) rows_noc (by simp [rowT_map]; omega) (by decide) (fun w c => c) (fun a4 c4 => ?_)) | (refine m_call (ent_of Tryz.func187 kr rfl) rfl rfl (fun w c => (by have h := fromRows_ok (e := 22) (C := C) (rs := rowL C f R ++ rowL C g S) (by have h := c.own_rd (i := 0) rfl; rwa [← List.flatMap_append] at h) (fun xs hx => (List.mem_append.1 hx).elim (rowL_mem xs) (rowL_mem xs)) (by rw [hlen]; omega) om; rw [hlen] at h; exact h)) ?_; rintro v H' ⟨a3, c3, rfl, hs3, rfl⟩)
  refine c_nil (x_one (h_keep (fun w c => by exact c.drop) ?_))
  refine h_only 7 rfl kr ?_
  first | (refine m_call (ent_of Tryz.func91 kr rfl) rfl rfl (fun w c => rows_ok (c.rd hr) hR hC) ?_; rintro v H' ⟨a1, c1, rfl, hs1, rfl⟩) | (refine m_call (ent_of Tryz.func91 kr rfl) rfl rfl (fun w c => rows_ok (c.rd hr') hS hC) ?_; rintro v H' ⟨a2, c2, rfl, hs2, rfl⟩) | (refine m_cat tabs (m1 := (rowL C f R).length) (ts := (rowL C f R).flatMap rowT) (ts2 := (rowL C g S).flatMap rowT) rfl rfl rfl rfl (by simp [rowT_map]) (by simp [rowT_map]) rows_noc (by simp [rowT_map]; omega) (by decide) (fun w c => c) (fun a4 c4 => ?_)) | (refine m_call (ent_of Tryz.func187 kr rfl) rfl rfl (fun w c => (by have h := fromRows_ok (e := 22) (C := C) (rs := rowL C f R ++ rowL C g S) (by have h := c.own_rd (i := 0) rfl; rwa [← List.flatMap_append] at h) (fun xs hx => (List.mem_append.1 hx).elim (rowL_mem xs) (rowL_mem xs)) (by rw [hlen]; omega) om; rw [hlen] at h; exact h)) ?_; rintro v H' ⟨a3, c3, rfl, hs3, rfl⟩)
  refine c_nil (x_one (h_keep (fun w c => by exact c.drop.drop) ?_))
  refine h_end kr ?_
  rw [bel_eq]
  repeat' (first | (show oL; first | (show oA (.store _ _ _); refine m_storeb 2 tabs rfl rfl rfl rfl rfl rfl rfl ?_)) | refine xNt ?_ | (show oC; refine c_ret ?_))
  exact x_ret1 Tryz.results167 (res_cellb 2 tabs rfl rfl rfl rfl) (fun w' c' => ⟨_, _, rfl, ⟨a3, c3, rfl, hs3, rfl⟩, c'.sub (.cons_cons _ (List.nil_sublist _))⟩)
theorem blocks_ok {w : World} {R S C D : Nat} {f h g : Nat → Nat → Int} {u u1 u' : Value} (hr : Rd w (iT (mk R C f)) u) (hh : Rd w (iT (mk R D h)) u1) (hr' : Rd w (iT (mk S D g)) u') (hR : R ≤ 8) (hS : S ≤ 8) (hC : C ≤ 8) (hD : D ≤ 8) :
    Does Tryz.prog 116 [.agg #[iV R, iV C, u], .agg #[iV R, iV D, u1], .agg #[iV S, iV D, u']] w (GivesK (R + S) (C + D) (blkF R C f h g)) := by
  refine fn_enter Tryz.func116 rfl Tryz.ntmps116 rfl ?_
  repeat' (first | (show oL; first | (show oA (.box _ _); refine m_box rfl rfl (fun b1 hb1 => ?_)) | (show oA (.alloc _); refine m_alloc tabs rfl rfl (fun b2 hb2 => ?_))) | refine xNt ?_ | (show oC; first | refine c_seq ?_ | refine c_region ?_))
  rename_i b0 hb0 b3 hb3
  refine c_mixR (Hp [] w [.blk b2 #[iV 0, iV 0, .slice none 0 0] 41, .blk b1 #[iV S, iV D, u'] 41, .blk b3 #[iV R, iV D, u1] 41, .blk b0 #[iV R, iV C, u] 41]) 11 kr kr kr kr kr (fun _ c => Hp.drew c) ?_
  refine h_take 0 rfl kr kr kr (by first | exact y_loadb 3 tabs rfl rfl rfl rfl | exact y_loadb 3 tabs rfl rfl rfl rfl) rfl (fun _ c => c) ?_
  refine h_take 1 rfl kr kr kr (by first | exact y_loadb 2 tabs rfl rfl rfl rfl | exact y_loadb 2 tabs rfl rfl rfl rfl) rfl (fun _ c => c) ?_
  refine h_take 3 rfl kr kr kr (by exact y_field tabs rfl rfl rfl) rfl (fun _ c => c) ?_
  refine h_take 4 rfl kr kr kr (by exact y_load tabs rfl rfl (hc_blk 1 rfl rfl)) rfl (fun _ c => c) ?_
  refine h_take 5 rfl kr kr kr (by exact y_field tabs rfl rfl rfl) rfl (fun _ c => c) ?_
  refine h_take 6 rfl kr kr kr (by exact y_load tabs rfl rfl (hc_blk 3 rfl rfl)) rfl (fun _ c => c) ?_
  refine h_take 8 rfl kr kr kr (by first | exact y_loadb 1 tabs rfl rfl rfl rfl | exact y_loadb 1 tabs rfl rfl rfl rfl) rfl (fun _ c => c) ?_
  refine h_only 2 rfl kr ?_
  first | (refine m_call (ent_of Tryz.func168 kr rfl) rfl rfl (fun w c => beside_ok (c.rd hr) (c.rd hh) om om) ?_; rintro v H' ⟨a1, c1, rfl, hs1, rfl⟩) | (refine m_call (ent_of Tryz.func117 kr rfl) rfl rfl (fun w c => zero_ok (R := S) (C := C) om om) ?_; rintro v H' ⟨a2, c2, rfl, hs2, rfl⟩) | (refine m_call (ent_of Tryz.func168 kr rfl) rfl rfl (fun w c => beside_ok (f := fun _ _ => 0) (c.own_rd (i := 0) rfl) (c.rd hr') om om) ?_; rintro v H' ⟨a3, c3, rfl, hs3, rfl⟩) | (refine m_call (ent_of Tryz.func167 kr rfl) rfl rfl (fun w c => below_ok (c.own_rd (i := 2) rfl) (c.own_rd (i := 0) rfl) om om om) ?_; rintro v H' ⟨a4, c4, rfl, hs4, rfl⟩)
  refine c_nil (x_one (h_keep (fun w c => by exact c.drop) ?_))
  refine h_only 7 rfl kr ?_
  first | (refine m_call (ent_of Tryz.func168 kr rfl) rfl rfl (fun w c => beside_ok (c.rd hr) (c.rd hh) om om) ?_; rintro v H' ⟨a1, c1, rfl, hs1, rfl⟩) | (refine m_call (ent_of Tryz.func117 kr rfl) rfl rfl (fun w c => zero_ok (R := S) (C := C) om om) ?_; rintro v H' ⟨a2, c2, rfl, hs2, rfl⟩) | (refine m_call (ent_of Tryz.func168 kr rfl) rfl rfl (fun w c => beside_ok (f := fun _ _ => 0) (c.own_rd (i := 0) rfl) (c.rd hr') om om) ?_; rintro v H' ⟨a3, c3, rfl, hs3, rfl⟩) | (refine m_call (ent_of Tryz.func167 kr rfl) rfl rfl (fun w c => below_ok (c.own_rd (i := 2) rfl) (c.own_rd (i := 0) rfl) om om om) ?_; rintro v H' ⟨a4, c4, rfl, hs4, rfl⟩)
  refine c_nil (x_one (h_keep (fun w c => by exact c.drop.drop) ?_))
  refine h_only 9 rfl kr ?_
  first | (refine m_call (ent_of Tryz.func168 kr rfl) rfl rfl (fun w c => beside_ok (c.rd hr) (c.rd hh) om om) ?_; rintro v H' ⟨a1, c1, rfl, hs1, rfl⟩) | (refine m_call (ent_of Tryz.func117 kr rfl) rfl rfl (fun w c => zero_ok (R := S) (C := C) om om) ?_; rintro v H' ⟨a2, c2, rfl, hs2, rfl⟩) | (refine m_call (ent_of Tryz.func168 kr rfl) rfl rfl (fun w c => beside_ok (f := fun _ _ => 0) (c.own_rd (i := 0) rfl) (c.rd hr') om om) ?_; rintro v H' ⟨a3, c3, rfl, hs3, rfl⟩) | (refine m_call (ent_of Tryz.func167 kr rfl) rfl rfl (fun w c => below_ok (c.own_rd (i := 2) rfl) (c.own_rd (i := 0) rfl) om om om) ?_; rintro v H' ⟨a4, c4, rfl, hs4, rfl⟩)
  refine c_nil (x_one (h_keep sS ?_))
  refine h_only 10 rfl kr ?_
  first | (refine m_call (ent_of Tryz.func168 kr rfl) rfl rfl (fun w c => beside_ok (c.rd hr) (c.rd hh) om om) ?_; rintro v H' ⟨a1, c1, rfl, hs1, rfl⟩) | (refine m_call (ent_of Tryz.func117 kr rfl) rfl rfl (fun w c => zero_ok (R := S) (C := C) om om) ?_; rintro v H' ⟨a2, c2, rfl, hs2, rfl⟩) | (refine m_call (ent_of Tryz.func168 kr rfl) rfl rfl (fun w c => beside_ok (f := fun _ _ => 0) (c.own_rd (i := 0) rfl) (c.rd hr') om om) ?_; rintro v H' ⟨a3, c3, rfl, hs3, rfl⟩) | (refine m_call (ent_of Tryz.func167 kr rfl) rfl rfl (fun w c => below_ok (c.own_rd (i := 2) rfl) (c.own_rd (i := 0) rfl) om om om) ?_; rintro v H' ⟨a4, c4, rfl, hs4, rfl⟩)
  refine c_nil (x_one (h_keep sS ?_))
  refine h_end kr ?_
  repeat' (first | (show oL; first | (show oA (.store _ _ _); refine m_storeb 4 tabs rfl rfl rfl rfl rfl rfl rfl ?_)) | refine xNt ?_ | (show oC; refine c_ret ?_))
  exact x_ret1 Tryz.results116 (res_cellb 4 tabs rfl rfl rfl rfl) (fun w' c' => ⟨_, _, rfl, ⟨a4, c4, rfl, hs4, rfl⟩, c'.sub (.cons_cons _ (List.nil_sublist _))⟩)
def blkA (R C : Nat) (f : Nat → Nat → Int) (i k : Nat) : Nat → Nat → Int := fun a b => if a < i ∨ (a = i ∧ b < k) then (if a < R ∧ b < C then f a b else 0) else 0
theorem blkA_next {R C i k : Nat} {f : Nat → Nat → Int} (hi : i < R) (hk : k < C) : upd (blkA R C f i k) i k (f i k) = blkA R C f i (k + 1) := by
  funext a b
  unfold upd blkA
  grind
def blkB (R C : Nat) (f g : Nat → Nat → Int) (i k : Nat) : Nat → Nat → Int := fun a b => if a < R then (if b < C then f a b else 0) else if b < C then 0 else if a < R + i ∨ (a = R + i ∧ b < C + k) then g (a - R) (b - C) else 0
theorem blkB_next {R C i k : Nat} {f g : Nat → Nat → Int} : upd (blkB R C f g i k) (R + i) (C + k) (g i k) = blkB R C f g i (k + 1) := by
  funext a b
  unfold upd blkB
  by_cases h : a = R + i ∧ b = C + k
  · obtain ⟨rfl, rfl⟩ := h
    have e1 : R + i - R = i := by omega
    have e2 : C + k - C = k := by omega
    simp [e1, e2]
    omega
  · grind
theorem l3Block_ok {w : World} {R S C D : Nat} {f g : Nat → Nat → Int} {u u' : Value} (hr : Rd w (iT (mk R C f)) u) (hr' : Rd w (iT (mk S D g)) u') (hR : R ≤ 8) (hS : S ≤ 8) (hC : C ≤ 8) (hD : D ≤ 8) :
    Does Tryz.prog 118 [.agg #[iV R, iV C, u], .agg #[iV S, iV D, u']] w (GivesK (R + S) (C + D) (blkF R C f (fun _ _ => 0) g)) := by
  obtain ⟨au, cu, rfl, hsu, hcu⟩ := rd_mk hr
  obtain ⟨av, cv, rfl, hsv, hcv⟩ := rd_mk hr'
  have hbig := rc_le (R := R + S) (C := C + D) om om
  have hRC := rc_le (R := R) (C := C) om om
  have hSD := rc_le (R := S) (C := D) om om
  refine fn_enter Tryz.func118 rfl Tryz.ntmps118 rfl ?_
  repeat' (first | (show oL; first | refine sAs rfl rfl ?_ | refine sFd tabs rfl rfl rfl rfl ?_ | (show oA (.load _ _); first | refine sLd 1 tabs rfl rfl rfl rfl rfl ?_ | refine sLd 2 tabs rfl rfl rfl rfl rfl ?_) | (show oA (.binOp _ _ _ _ _); first | refine st_y (y_addn (a := R) (b := S) rfl rfl rfl rfl om) rfl ?_ | refine st_y (y_addn (a := C) (b := D) rfl rfl rfl rfl om) rfl ?_) | (show oA (.call _); (refine m_call (ent_of Tryz.func125 kr rfl) rfl rfl (fun w c => l3Zero_ok (R := R + S) (C := C + D) om om) ?_; rintro v H' ⟨am, cm, rfl, hsm, rfl⟩)) | (show oA (.store _ _ _); refine m_storeb 0 tabs rfl rfl rfl rfl rfl rfl rfl ?_) | (show oA (.box _ _); refine m_box rfl rfl (fun b3 hb3 => ?_)) | (show oA (.alloc _); refine m_alloc tabs rfl rfl (fun b5 hb5 => ?_))) | refine xNt ?_ | (show oC; first | refine c_seq ?_ | refine c_region ?_ | refine c_block ?_))
  rename_i b2 hb2 b4 hb4
  refine c_loopH (α := Nat) [2, 3, 4, 5] (fun i => [(6, .int .i64 i)]) (fun i => i ≤ R) (fun i => [.own (iT (mk (R + S) (C + D) (blkA R C f i 0))) (.slice am ((R + S) * (C + D)) cm), .blk b5 #[iV ((R + S : Nat) : Int), iV ((C + D : Nat) : Int), .slice am ((R + S) * (C + D)) cm] 41, .blk b4 #[iV 0, iV 0, .slice none 0 0] 41, .blk b3 #[iV S, iV D, .slice av (S * D) cv] 41, .blk b2 #[iV R, iV C, .slice au (R * C) cu] 41]) (fun i => R - i) 0 rfl sB ?_ ?_ ?_
  · exact Nat.zero_le _
  · intro w' c'
    have e0 : mk (R + S) (C + D) (blkA R C f 0 0) = mk (R + S) (C + D) (fun _ _ => 0) := mk_ext (fun i j hi hj => by unfold blkA; grind)
    rw [e0]
    exact c'.front (i := 1) rfl
  · intro i hi
    by_cases hiR : i < R
    · repeat' (first | (show oL; first | refine sMv rfl rfl ?_ | refine sAs rfl rfl ?_ | refine sFd tabs rfl rfl rfl rfl ?_ | refine sLd 4 tabs rfl rfl rfl rfl rfl ?_ | refine sLs rfl rfl rfl ?_) | refine xNt ?_ | (show oC; first | refine c_seq ?_ | refine c_region ?_ | refine c_skip (x_then ?_) | refine c_block ?_ | refine c_ift rfl aO ?_))
      refine c_loopH (α := Nat) [2, 3, 4, 5, 6] (fun k => [(7, .int .i64 k)]) (fun k => k ≤ C) (fun k => [.own (iT (mk (R + S) (C + D) (blkA R C f i k))) (.slice am ((R + S) * (C + D)) cm), .blk b5 #[iV ((R + S : Nat) : Int), iV ((C + D : Nat) : Int), .slice am ((R + S) * (C + D)) cm] 41, .blk b4 #[iV 0, iV 0, .slice none 0 0] 41, .blk b3 #[iV S, iV D, .slice av (S * D) cv] 41, .blk b2 #[iV R, iV C, .slice au (R * C) cu] 41]) (fun k => C - k) 0 rfl sB ?_ ?_ ?_
      · exact Nat.zero_le _
      · exact fun w' c' => c'
      · intro k hk
        by_cases hkC : k < C
        · have c1 := cell_lt hiR hkC
          have c2 := cell_lt (i := i) (R := R + S) (j := k) (C := C + D) om om
          have h1 := Nat.mul_le_mul_right C hi
          have h2 := Nat.mul_le_mul_right (C + D) (show i ≤ R + S by omega)
          repeat' (first | (show oL; first | refine sMv rfl rfl ?_ | refine sAs rfl rfl ?_ | refine sFd tabs rfl rfl rfl rfl ?_ | refine sLd 4 tabs rfl rfl rfl rfl rfl ?_ | (show oA (.indexAddr _ _ _); refine st_y (y_ix1 tabs (j := i * (C + D) + k) rfl rfl rfl hsm rfl c2) rfl ?_) | (show oA (.binOp _ _ _ _ _); first | refine sAd rfl rfl om rfl ?_ | refine sLs rfl rfl rfl ?_) | (show oA (.store _ _ _); refine m_storeo 0 tabs rfl rfl rfl rfl (by rw [mk_length]; exact c2) ?_)) | (show oN; first | refine c_nil (x_then ?_) | refine c_nil ?_) | (show oC; first | refine c_tailR 18 kr kr kr kr kr kr (fun _ c => Hp.drew c) ?_ | refine c_seq ?_ | refine c_region ?_ | refine c_skip (x_then ?_) | refine c_block ?_ | refine c_ift rfl aO ?_) | (show QT _ _ _ _ _ _ (_ :: _); first | refine qMv rfl rfl ?_ | refine qFd tabs rfl rfl rfl rfl ?_ | (show qA (.load _ _); first | refine qLd 4 tabs rfl rfl rfl rfl rfl ?_ | refine qLd 1 tabs rfl rfl rfl rfl rfl ?_ | refine q_y (y_load tabs rfl rfl (hc_rdk (RdOut.of_rd hr) hiR hkC)) rfl ?_) | (show qA (.indexAddr _ _ _); refine q_y (y_ix1 tabs (j := i * C + k) rfl rfl rfl hsu rfl c1) rfl ?_) | (show qA (.binOp _ _ _ _ _); first | refine q_y (y_muln (a := i) (b := C + D) rfl rfl rfl rfl om) rfl ?_ | refine q_y (y_muln (a := i) (b := C) rfl rfl rfl rfl om) rfl ?_ | refine q_y (y_addn (b := k) rfl rfl rfl rfl om) rfl ?_)) | (show QT _ _ _ _ _ _ []; refine q_nil ?_) | (show AT _ _ _ _; first | refine x_then ?_ | refine x_blk ?_))
          refine x_nx (k + 1) sB om (fun w' c' => ?_) om
          simp only [List.set_cons_zero] at c'
          rw [mk_set om om, blkA_next hiR hkC] at c'
          exact c'
        · have : k = C := by omega
          subst this
          repeat' (first | (show oL; first | refine sMv rfl rfl ?_ | refine sAs rfl rfl ?_ | refine sFd tabs rfl rfl rfl rfl ?_ | refine sLd 4 tabs rfl rfl rfl rfl rfl ?_ | (show oA (.binOp _ _ _ _ _); first | refine sAd rfl rfl om rfl ?_ | refine sLs rfl rfl rfl ?_)) | refine xNt ?_ | (show oC; first | refine c_seq ?_ | refine c_region ?_ | refine c_exit ?_ | refine c_iff rfl nN ?_) | (show AT _ _ _ _; first | refine x_then ?_ | refine x_then_exit ?_ | refine x_blk_exit rfl ?_ | refine x_blk ?_))
          refine x_nx (i + 1) sB om (fun w' c' => ?_) om
          have e0 : mk (R + S) (k + D) (blkA R k f i k) = mk (R + S) (k + D) (blkA R k f (i + 1) 0) := mk_ext (fun a b ha hb => by unfold blkA; grind)
          rw [e0] at c'
          exact c'
    · have : i = R := by omega
      subst this
      repeat' (first | (show oL; first | refine sMv rfl rfl ?_ | refine sAs rfl rfl ?_ | refine sFd tabs rfl rfl rfl rfl ?_ | refine sLd 4 tabs rfl rfl rfl rfl rfl ?_ | refine sLs rfl rfl rfl ?_) | refine xNt ?_ | (show oC; first | refine c_seq ?_ | refine c_region ?_ | refine c_block ?_ | refine c_exit ?_ | refine c_iff rfl nN ?_) | (show AT _ _ _ _; first | refine x_then ?_ | refine x_then_exit ?_ | refine x_blk_exit rfl ?_))
      refine c_loopH (α := Nat) [2, 3, 4, 5] (fun j => [(8, .int .i64 j)]) (fun j => j ≤ S) (fun j => [.own (iT (mk (i + S) (C + D) (blkB i C f g j 0))) (.slice am ((i + S) * (C + D)) cm), .blk b5 #[iV ((i + S : Nat) : Int), iV ((C + D : Nat) : Int), .slice am ((i + S) * (C + D)) cm] 41, .blk b4 #[iV 0, iV 0, .slice none 0 0] 41, .blk b3 #[iV S, iV D, .slice av (S * D) cv] 41, .blk b2 #[iV i, iV C, .slice au (i * C) cu] 41]) (fun j => S - j) 0 rfl sB ?_ ?_ ?_
      · exact Nat.zero_le _
      · intro w' c'
        have e0 : mk (i + S) (C + D) (blkB i C f g 0 0) = mk (i + S) (C + D) (blkA i C f i 0) := mk_ext (fun a b ha hb => by unfold blkA blkB; grind)
        rw [e0]
        exact c'
      · intro j hj
        by_cases hjS : j < S
        · repeat' (first | (show oL; first | refine sMv rfl rfl ?_ | refine sAs rfl rfl ?_ | refine sFd tabs rfl rfl rfl rfl ?_ | refine sLd 3 tabs rfl rfl rfl rfl rfl ?_ | refine sLs rfl rfl rfl ?_) | refine xNt ?_ | (show oC; first | refine c_seq ?_ | refine c_region ?_ | refine c_skip (x_then ?_) | refine c_block ?_ | refine c_ift rfl aO ?_))
          refine c_loopH (α := Nat) [2, 3, 4, 5, 8] (fun k => [(9, .int .i64 k)]) (fun k => k ≤ D) (fun k => [.own (iT (mk (i + S) (C + D) (blkB i C f g j k))) (.slice am ((i + S) * (C + D)) cm), .blk b5 #[iV ((i + S : Nat) : Int), iV ((C + D : Nat) : Int), .slice am ((i + S) * (C + D)) cm] 41, .blk b4 #[iV 0, iV 0, .slice none 0 0] 41, .blk b3 #[iV S, iV D, .slice av (S * D) cv] 41, .blk b2 #[iV i, iV C, .slice au (i * C) cu] 41]) (fun k => D - k) 0 rfl sB ?_ ?_ ?_
          · exact Nat.zero_le _
          · exact fun w' c' => c'
          · intro k hk
            by_cases hkD : k < D
            · have c1 := cell_lt hjS hkD
              have c2 := cell_lt (i := i + j) (R := i + S) (j := C + k) (C := C + D) om om
              have h1 := Nat.mul_le_mul_right D hj
              have h2 := Nat.mul_le_mul_right (C + D) (show i + j ≤ i + S by omega)
              repeat' (first | (show oL; first | refine sMv rfl rfl ?_ | refine sAs rfl rfl ?_ | refine sFd tabs rfl rfl rfl rfl ?_ | refine sLd 3 tabs rfl rfl rfl rfl rfl ?_ | (show oA (.indexAddr _ _ _); refine st_y (y_ix1 tabs (j := (i + j) * (C + D) + (C + k)) rfl rfl rfl hsm (by rw [← Nat.add_assoc]) c2) rfl ?_) | (show oA (.binOp _ _ _ _ _); first | refine sAd rfl rfl om rfl ?_ | refine sLs rfl rfl rfl ?_) | (show oA (.store _ _ _); refine m_storeo 0 tabs rfl rfl rfl rfl (by rw [mk_length]; exact c2) ?_)) | (show oN; first | refine c_nil (x_then ?_) | refine c_nil ?_) | (show oC; first | refine c_tailR 24 kr kr kr kr kr kr (fun _ c => Hp.drew c) ?_ | refine c_seq ?_ | refine c_region ?_ | refine c_skip (x_then ?_) | refine c_block ?_ | refine c_ift rfl aO ?_) | (show QT _ _ _ _ _ _ (_ :: _); first | refine qMv rfl rfl ?_ | refine qFd tabs rfl rfl rfl rfl ?_ | (show qA (.load _ _); first | refine qLd 4 tabs rfl rfl rfl rfl rfl ?_ | refine qLd 3 tabs rfl rfl rfl rfl rfl ?_ | refine qLd 1 tabs rfl rfl rfl rfl rfl ?_ | refine q_y (y_load tabs rfl rfl (hc_rdk (RdOut.of_rd hr') hjS hkD)) rfl ?_) | (show qA (.indexAddr _ _ _); refine q_y (y_ix1 tabs (j := j * D + k) rfl rfl rfl hsv rfl c1) rfl ?_) | (show qA (.binOp _ _ _ _ _); first | refine q_y (y_muln (a := i + j) (b := C + D) rfl rfl rfl rfl om) rfl ?_ | refine q_y (y_muln (a := j) (b := D) rfl rfl rfl rfl om) rfl ?_ | refine q_y (y_addn (a := i) (b := j) rfl rfl rfl rfl om) rfl ?_ | refine q_y (y_addn (a := (i + j) * (C + D)) (b := C) rfl rfl rfl rfl om) rfl ?_ | refine q_y (y_addn (b := k) rfl rfl rfl rfl om) rfl ?_)) | (show QT _ _ _ _ _ _ []; refine q_nil ?_) | (show AT _ _ _ _; first | refine x_then ?_ | refine x_blk ?_))
              refine x_nx (k + 1) sB om (fun w' c' => ?_) om
              simp only [List.set_cons_zero] at c'
              rw [mk_set om om, blkB_next] at c'
              exact c'
            · have : k = D := by omega
              subst this
              repeat' (first | (show oL; first | refine sMv rfl rfl ?_ | refine sAs rfl rfl ?_ | refine sFd tabs rfl rfl rfl rfl ?_ | refine sLd 3 tabs rfl rfl rfl rfl rfl ?_ | (show oA (.binOp _ _ _ _ _); first | refine sAd rfl rfl om rfl ?_ | refine sLs rfl rfl rfl ?_)) | refine xNt ?_ | (show oC; first | refine c_seq ?_ | refine c_region ?_ | refine c_exit ?_ | refine c_iff rfl nN ?_) | (show AT _ _ _ _; first | refine x_then ?_ | refine x_then_exit ?_ | refine x_blk_exit rfl ?_ | refine x_blk ?_))
              refine x_nx (j + 1) sB om (fun w' c' => ?_) om
              have e0 : mk (i + S) (C + k) (blkB i C f g j k) = mk (i + S) (C + k) (blkB i C f g (j + 1) 0) := mk_ext (fun a b ha hb => by unfold blkB; grind)
              rw [e0] at c'
              exact c'
        · have : j = S := by omega
          subst this
          have e0 : mk (i + j) (C + D) (blkB i C f g j 0) = mk (i + j) (C + D) (blkF i C f (fun _ _ => 0) g) := mk_ext (fun a b ha hb => by unfold blkB blkF belF besF; grind)
          rw [e0]
          repeat' (first | (show oL; first | refine sMv rfl rfl ?_ | refine sFd tabs rfl rfl rfl rfl ?_ | (show oA (.load _ _); first | refine sLd 3 tabs rfl rfl rfl rfl rfl ?_ | refine sLb 1 tabs rfl rfl rfl rfl rfl ?_) | refine sLs rfl rfl rfl ?_ | (show oA (.store _ _ _); refine m_storeb 2 tabs rfl rfl rfl rfl rfl rfl rfl ?_)) | refine xNt ?_ | (show oC; first | refine c_seq ?_ | refine c_region ?_ | refine c_ret ?_ | refine c_exit ?_ | refine c_iff rfl nN ?_) | (show AT _ _ _ _; first | refine x_then ?_ | refine x_then_exit ?_ | refine x_blk_exit rfl ?_))
          exact x_ret1 Tryz.results118 (res_cellb 2 tabs rfl rfl rfl rfl) (fun w' c' => ⟨_, _, rfl, ⟨am, cm, rfl, hsm, rfl⟩, c'.sub (.cons_cons _ (List.nil_sublist _))⟩)
end Go.Proofs.YtdnhmnnccfoliaaGreatDoor

namespace Go.Proofs.YtdnhmnnccfoliaaGreatDoor
open Go.Lg Go.Proofs Go.RowKit
attribute [local irreducible] Code.wp wpList bodyPost Exit.then Exit.inBlock Hp Again Calls Y AT ResV QT Qn QI wpAny wpAnyQ
set_option maxRecDepth 20000
set_option maxHeartbeats 4000000

def MlP (p : Int) (a b : Mat) : Prop := MatP p a ∧ MatP p b ∧ a.2.1 = b.1
instance (p : Int) (a b : Mat) : Decidable (MlP p a b) := by unfold MlP; infer_instance
def mlM (p : Int) (a b : Mat) : Mat := if MlP p a b then (a.1, b.2.1, mk a.1.toNat b.2.1.toNat (mulF p a.2.1.toNat (matF a) (matF b))) else mat0
theorem mlM_mk {p : Int} {R N C : Nat} {f g : Nat → Nat → Int} (h : MlP p ((R : Int), (N : Int), mk R N f) ((N : Int), (C : Int), mk N C g)) : mlM p ((R : Int), (N : Int), mk R N f) ((N : Int), (C : Int), mk N C g) = ((R : Int), (C : Int), mk R C (mulF p N f g)) := by
  rw [mlM, if_pos h]
  simp only [Int.toNat_natCast]
  rw [mk_ext (g := mulF p N f g) (fun i j hi hj => mulF_ext (fun k hk => matF_mk hi hk) (fun k hk => matF_mk hk hj))]
theorem mlM_of {p : Int} {a b : Mat} (h : MlP p a b) : ∃ (R N C : Nat) (f g : Nat → Nat → Int), a = ((R : Int), (N : Int), mk R N f) ∧ b = ((N : Int), (C : Int), mk N C g) ∧ R ≤ 8 ∧ N ≤ 8 ∧ C ≤ 8 ∧ FieldP p ∧ inF p R N f ∧ inF p N C g ∧ mlM p a b = ((R : Int), (C : Int), mk R C (mulF p N f g)) := by
  obtain ⟨R, N, f, rfl, hR, hN, hF, hf⟩ := matP_mk h.1
  obtain ⟨N', C, g, rfl, _, hC, _, hg⟩ := matP_mk h.2.1
  have : N = N' := by have := h.2.2; simp only at this; omega
  subst this
  exact ⟨R, N, C, f, g, rfl, rfl, hR, hN, hC, hF, hf, hg, mlM_mk h⟩
def idnM (n : Int) : Mat := if 0 ≤ n ∧ n ≤ 8 then (n, n, mk n.toNat n.toNat idF) else mat0
theorem impl_MultiplyMatrices_ok {w : World} {p : Int} {a b : Mat} {u v : Value} (hr : Rd w (iT a.2.2) u) (hv : Rd w (iT b.2.2) v) :
    Does Tryz.prog 26 [iV p, .agg #[iV a.1, iV a.2.1, u], .agg #[iV b.1, iV b.2.1, v]] w (GivesMB (mlM p a b) (decide (MlP p a b))) := by
  by_cases hA : MlP p a b
  · rw [decide_eq_true hA]
    have hM := hA.1
    have hN := hA.2.1
    obtain ⟨R, N, C, f, g, rfl, rfl, hR, hN', hC, hF, hf, hg, e⟩ := mlM_of hA
    rw [e]
    simp only at hr hv ⊢
    refine fn_enter Tryz.func26 rfl Tryz.ntmps26 rfl ?_
    repeat' (first | (show oL; first | refine sMv rfl rfl ?_ | refine sAs rfl rfl ?_ | refine sFd tabs rfl rfl rfl rfl ?_ | (show oA (.load _ _); first | refine sLd 1 tabs rfl rfl rfl rfl rfl ?_ | refine sLd 2 tabs rfl rfl rfl rfl rfl ?_ | refine sLb 1 tabs rfl rfl rfl rfl rfl ?_ | refine sLb 2 tabs rfl rfl rfl rfl rfl ?_) | (show oA (.binOp _ _ _ _ _); refine st_y (y_neq rfl rfl) rfl ?_) | (show oA (.unOp _ _ _); refine st_y (y_notd rfl) rfl ?_) | (show oA (.call _); first | (refine m_call (ent_of Tryz.func24 kr rfl) rfl rfl (fun w c => impl_IsMatrix_ok (m := (↑R, ↑N, mk R N f)) (c.rd hr)) ?_; rintro v H' ⟨rfl, rfl⟩) | (refine m_call (ent_of Tryz.func24 kr rfl) rfl rfl (fun w c => impl_IsMatrix_ok (m := (↑N, ↑C, mk N C g)) (c.rd hv)) ?_; rintro v H' ⟨rfl, rfl⟩) | (refine m_call (ent_of Tryz.func110 kr rfl) rfl rfl (fun w c => times_ok (c.rd hr) (c.rd hv) hF om om om hf hg) ?_; rintro v H' ⟨a2, c2, rfl, hs2, rfl⟩)) | (show oA (.pick _ _ _); first | refine st_y (y_pickt rfl aO rfl) rfl ?_ | refine st_y (y_pickf rfl aO rfl) rfl ?_ | refine st_y (y_pick rfl rfl rfl) rfl ?_) | (show oA (.store _ _ _); refine m_storeb 1 tabs rfl rfl rfl rfl rfl rfl rfl ?_) | (show oA (.box _ _); refine m_box rfl rfl (fun b5 hb5 => ?_)) | (show oA (.alloc _); refine m_alloc tabs rfl rfl (fun bq hbq => ?_)) | refine st_gn rfl rfl rfl ?_ | refine st_gfy rfl rfl aO ?_ | refine st_gfn rfl rfl aO rfl ?_ | refine st_gd rfl rfl (fun h => ?_) (fun h => ?_)) | refine xNt ?_ | (show oC; first | refine c_seq ?_ | refine c_region ?_ | refine c_skip (x_then ?_) | refine c_ret ?_ | refine c_true rfl ?_ | refine c_iff rfl nN ?_))
    all_goals first
      | exact x_ret2 Tryz.results26 (res_cellb 1 tabs rfl rfl rfl rfl) (res_tmp rfl) (fun w' c' => ⟨_, _, rfl, ⟨a2, c2, by rw [mk_length], by rw [mk_length]; exact hs2, by rw [mk_length]⟩, c'.sub (.cons_cons _ (List.nil_sublist _))⟩)
      | exact absurd hM aS
      | exact absurd hN aS
  · rw [mlM, if_neg hA, decide_eq_false hA]
    refine fn_enter Tryz.func26 rfl Tryz.ntmps26 rfl ?_
    repeat' (first | (show oL; first | refine sMv rfl rfl ?_ | refine sAs rfl rfl ?_ | refine sFd tabs rfl rfl rfl rfl ?_ | (show oA (.load _ _); first | refine sLd 1 tabs rfl rfl rfl rfl rfl ?_ | refine sLd 2 tabs rfl rfl rfl rfl rfl ?_ | refine sLb 1 tabs rfl rfl rfl rfl rfl ?_ | refine sLb 2 tabs rfl rfl rfl rfl rfl ?_) | (show oA (.binOp _ _ _ _ _); refine st_y (y_neq rfl rfl) rfl ?_) | (show oA (.unOp _ _ _); refine st_y (y_notd rfl) rfl ?_) | (show oA (.call _); first | (refine m_call (ent_of Tryz.func24 kr rfl) rfl rfl (fun w c => impl_IsMatrix_ok (m := a) (c.rd hr)) ?_; rintro v H' ⟨rfl, rfl⟩) | (refine m_call (ent_of Tryz.func24 kr rfl) rfl rfl (fun w c => impl_IsMatrix_ok (m := b) (c.rd hv)) ?_; rintro v H' ⟨rfl, rfl⟩)) | (show oA (.pick _ _ _); first | refine st_y (y_pickt rfl aS rfl) rfl ?_ | refine st_y (y_pickf rfl aS rfl) rfl ?_ | refine st_y (y_pick rfl rfl rfl) rfl ?_) | (show oA (.store _ _ _); refine m_storeb 0 tabs rfl rfl rfl rfl rfl rfl rfl ?_) | (show oA (.box _ _); refine m_box rfl rfl (fun b5 hb5 => ?_)) | (show oA (.alloc _); refine m_alloc tabs rfl rfl (fun bq hbq => ?_)) | (show oA (.build _ _); refine st_y (y_bld0 bld_mat0) rfl ?_) | refine st_gn rfl rfl rfl ?_ | refine st_gfy rfl rfl aS ?_ | refine st_gfn rfl rfl aS rfl ?_ | refine st_gd rfl rfl (fun h => ?_) (fun h => ?_)) | refine xNt ?_ | (show oC; first | refine c_seq ?_ | refine c_region ?_ | refine c_skip (x_then ?_) | refine c_ret ?_ | refine c_true rfl ?_ | refine c_ifnd rfl (fun h => ?_) (fun h => ?_)) | (show AT _ _ _ _; refine x_then_ret ?_))
    all_goals first
      | exact absurd ⟨by first | assumption | exact Decidable.not_not.1 aS, by first | assumption | exact Decidable.not_not.1 aS, by omega⟩ hA
      | exact x_ret2 Tryz.results26 (res_cellb 0 tabs rfl rfl rfl rfl) (res_tmp rfl) (fun w' c' => ⟨_, _, rfl, ⟨none, 0, rfl, .inl rfl, rfl⟩, Hp.nilp _ _ (c'.sub (List.nil_sublist _))⟩)

theorem spec_IdentityMatrix_ok {w : World} {n : Int} : Does Tryz.prog 44 [iV n] w (GivesMB (idnM n) (decide (0 ≤ n ∧ n ≤ 8))) := by
  by_cases hA : 0 ≤ n ∧ n ≤ 8
  · rw [idnM, if_pos hA, decide_eq_true hA]
    obtain ⟨k, rfl⟩ : ∃ k : Nat, n = k := ⟨n.toNat, by omega⟩
    simp only [Int.toNat_natCast]
    refine fn_enter Tryz.func44 rfl Tryz.ntmps44 rfl ?_
    repeat' (first | (show oL; first | refine sMv rfl rfl ?_ | refine sAs rfl rfl ?_ | (show oA (.unOp _ _ _); refine st_y (y_notd rfl) rfl ?_) | (show oA (.call _); first | (refine m_call (ent_of Tryz.func104 kr rfl) rfl rfl (fun w c => l1In_ok _ _ _) ?_; rintro v H' ⟨rfl, rfl⟩) | (refine m_call (ent_of Tryz.func127 kr rfl) rfl rfl (fun w c => l3Identity_ok (n := k) om) ?_; rintro v H' ⟨a2, c2, rfl, hs2, rfl⟩)) | (show oA (.store _ _ _); refine m_storeb 1 tabs rfl rfl rfl rfl rfl rfl rfl ?_) | (show oA (.alloc _); refine m_alloc tabs rfl rfl (fun bq hbq => ?_))) | refine xNt ?_ | (show oC; first | refine c_seq ?_ | refine c_region ?_ | refine c_skip (x_then ?_) | refine c_ret ?_ | refine c_iff rfl nN ?_))
    all_goals first
      | exact x_ret2 Tryz.results44 (res_cellb 1 tabs rfl rfl rfl rfl) (res_tmp rfl) (fun w' c' => ⟨_, _, rfl, ⟨a2, c2, by rw [mk_length], by rw [mk_length]; exact hs2, by rw [mk_length]⟩, c'.sub (.cons_cons _ (List.nil_sublist _))⟩)
      | exact absurd hA aS
  · rw [idnM, if_neg hA, decide_eq_false hA]
    refine fn_enter Tryz.func44 rfl Tryz.ntmps44 rfl ?_
    repeat' (first | (show oL; first | refine sMv rfl rfl ?_ | refine sAs rfl rfl ?_ | (show oA (.unOp _ _ _); refine st_y (y_notd rfl) rfl ?_) | (show oA (.call _); (refine m_call (ent_of Tryz.func104 kr rfl) rfl rfl (fun w c => l1In_ok _ _ _) ?_; rintro v H' ⟨rfl, rfl⟩)) | (show oA (.store _ _ _); refine m_storeb 0 tabs rfl rfl rfl rfl rfl rfl rfl ?_) | (show oA (.alloc _); refine m_alloc tabs rfl rfl (fun bq hbq => ?_)) | (show oA (.build _ _); refine st_y (y_bld0 bld_mat0) rfl ?_)) | refine xNt ?_ | (show oC; first | refine c_seq ?_ | refine c_region ?_ | refine c_ret ?_ | refine c_ift rfl aO ?_) | (show AT _ _ _ _; refine x_then_ret ?_))
    all_goals first
      | exact absurd (by first | assumption | exact Decidable.not_not.1 aS) hA
      | exact x_ret2 Tryz.results44 (res_cellb 0 tabs rfl rfl rfl rfl) (res_tmp rfl) (fun w' c' => ⟨_, _, rfl, ⟨none, 0, rfl, .inl rfl, rfl⟩, Hp.nilp _ _ (c'.sub (List.nil_sublist _))⟩)

end Go.Proofs.YtdnhmnnccfoliaaGreatDoor

namespace Go.Proofs.YtdnhmnnccfoliaaGreatDoor
open Go.Lg Go.Proofs Go.RowKit
attribute [local irreducible] Code.wp wpList bodyPost Exit.then Exit.inBlock Hp Again Calls Y AT ResV QT Qn QI wpAny wpAnyQ
set_option maxRecDepth 20000
set_option maxHeartbeats 4000000

def trF (f : Nat → Nat → Int) : Nat → Nat → Int := fun i j => f j i
theorem from_rows {R C : Nat} {f : Nat → Nat → Int} : mk C R (fromF (rowL C f R)) = mk C R (trF f) := mk_ext (fun i j hi hj => by
  unfold fromF rowL trF
  have : ((List.range R).map (fun i => mkv C (f i))).getD j [] = mkv C (f j) := by simp [List.getD, hj]
  rw [this, mkv_get hi])
end Go.Proofs.YtdnhmnnccfoliaaGreatDoor

namespace Go.Proofs.YtdnhmnnccfoliaaGreatDoor
open Go.Lg Go.Proofs Go.RowKit
attribute [local irreducible] Code.wp wpList bodyPost Exit.then Exit.inBlock Hp Again Calls Y AT ResV QT Qn QI wpAny wpAnyQ
set_option maxRecDepth 20000
set_option maxHeartbeats 4000000

def tpM (p : Int) (a : Mat) : Mat := if MatP p a then (a.2.1, a.1, mk a.2.1.toNat a.1.toNat (trF (matF a))) else mat0
theorem tpM_mk {p : Int} {R C : Nat} {f : Nat → Nat → Int} (h : MatP p ((R : Int), (C : Int), mk R C f)) : tpM p ((R : Int), (C : Int), mk R C f) = ((C : Int), (R : Int), mk C R (trF f)) := by
  rw [tpM, if_pos h]
  simp only [Int.toNat_natCast]
  have e : mk C R (trF (matF ((R : Int), (C : Int), mk R C f))) = mk C R (trF f) := mk_ext (fun i j hi hj => matF_mk hj hi)
  rw [e]
def AdP (p : Int) (a b : Mat) : Prop := MatP p a ∧ MatP p b ∧ a.1 = b.1 ∧ a.2.1 = b.2.1
instance (p : Int) (a b : Mat) : Decidable (AdP p a b) := by unfold AdP; infer_instance
def adM (p : Int) (a b : Mat) : Mat := if AdP p a b then (a.1, a.2.1, mk a.1.toNat a.2.1.toNat (plusF p 1 (matF a) (matF b))) else mat0
theorem plusF_ext {p k : Int} {R C : Nat} {f f' g g' : Nat → Nat → Int} (h : ∀ i j, i < R → j < C → f i j = f' i j) (h' : ∀ i j, i < R → j < C → g i j = g' i j) : mk R C (plusF p k f g) = mk R C (plusF p k f' g') := mk_ext (fun i j hi hj => by unfold plusF; rw [h i j hi hj, h' i j hi hj])
theorem adM_of {p : Int} {a b : Mat} (h : AdP p a b) : ∃ (R C : Nat) (f g : Nat → Nat → Int), a = ((R : Int), (C : Int), mk R C f) ∧ b = ((R : Int), (C : Int), mk R C g) ∧ R ≤ 8 ∧ C ≤ 8 ∧ FieldP p ∧ inF p R C f ∧ inF p R C g ∧ adM p a b = ((R : Int), (C : Int), mk R C (plusF p 1 f g)) := by
  have h0 := h
  obtain ⟨hA, hB, e1, e2⟩ := h
  obtain ⟨R, C, f, rfl, hR, hC, hF, hf⟩ := matP_mk hA
  obtain ⟨R', C', g, rfl, _, _, _, hg⟩ := matP_mk hB
  have : R = R' := by simp only at e1; omega
  subst this
  have : C = C' := by simp only at e2; omega
  subst this
  refine ⟨R, C, f, g, rfl, rfl, hR, hC, hF, hf, hg, ?_⟩
  rw [adM, if_pos h0]
  simp only [Int.toNat_natCast]
  rw [plusF_ext (fun i j hi hj => matF_mk hi hj) (fun i j hi hj => matF_mk hi hj)]
def scM (p k : Int) (a : Mat) : Mat := if MatP p a then (a.1, a.2.1, mk a.1.toNat a.2.1.toNat (plusF p (k % p) (fun _ _ => 0) (matF a))) else mat0
theorem scM_mk {p k : Int} {R C : Nat} {f : Nat → Nat → Int} (h : MatP p ((R : Int), (C : Int), mk R C f)) : scM p k ((R : Int), (C : Int), mk R C f) = ((R : Int), (C : Int), mk R C (plusF p (k % p) (fun _ _ => 0) f)) := by
  rw [scM, if_pos h]
  simp only [Int.toNat_natCast]
  rw [plusF_ext (fun i j hi hj => rfl) (fun i j hi hj => matF_mk hi hj)]
def BlP (p : Int) (a b : Mat) : Prop := MatP p a ∧ MatP p b ∧ a.1 + b.1 ≤ 8 ∧ a.2.1 + b.2.1 ≤ 8
instance (p : Int) (a b : Mat) : Decidable (BlP p a b) := by unfold BlP; infer_instance
def blM (p : Int) (a b : Mat) : Mat := if BlP p a b then (a.1 + b.1, a.2.1 + b.2.1, mk (a.1.toNat + b.1.toNat) (a.2.1.toNat + b.2.1.toNat) (blkF a.1.toNat a.2.1.toNat (matF a) (fun _ _ => 0) (matF b))) else mat0
theorem blM_of {p : Int} {a b : Mat} (h : BlP p a b) : ∃ (R C S D : Nat) (f g : Nat → Nat → Int), a = ((R : Int), (C : Int), mk R C f) ∧ b = ((S : Int), (D : Int), mk S D g) ∧ R + S ≤ 8 ∧ C + D ≤ 8 ∧ FieldP p ∧ inF p R C f ∧ inF p S D g ∧ blM p a b = (((R + S : Nat) : Int), ((C + D : Nat) : Int), mk (R + S) (C + D) (blkF R C f (fun _ _ => 0) g)) := by
  have h0 := h
  obtain ⟨hA, hB, e1, e2⟩ := h
  obtain ⟨R, C, f, rfl, hR, hC, hF, hf⟩ := matP_mk hA
  obtain ⟨S, D, g, rfl, _, _, _, hg⟩ := matP_mk hB
  simp only at e1 e2
  refine ⟨R, C, S, D, f, g, rfl, rfl, by omega, by omega, hF, hf, hg, ?_⟩
  rw [blM, if_pos h0]
  simp only [Int.toNat_natCast, Int.natCast_add]
  rw [mk_ext (fun i j hi hj => ?_)]
  unfold blkF belF besF
  by_cases q1 : i < R
  · by_cases q2 : j < C
    · simp only [if_pos q1, if_pos q2]; exact matF_mk q1 q2
    · simp only [if_pos q1, if_neg q2]
  · by_cases q2 : j < C
    · simp only [if_neg q1, if_pos q2]
    · simp only [if_neg q1, if_neg q2]; exact matF_mk om om
def zrM (r c : Int) : Mat := if (0 ≤ r ∧ r ≤ 8) ∧ (0 ≤ c ∧ c ≤ 8) then (r, c, mk r.toNat c.toNat (fun _ _ => 0)) else mat0
theorem impl_IdentityMatrix_ok {w : World} {n : Int} : Does Tryz.prog 43 [iV n] w (GivesMB (idnM n) (decide (0 ≤ n ∧ n ≤ 8))) := by
  by_cases hA : 0 ≤ n ∧ n ≤ 8
  · rw [idnM, if_pos hA, decide_eq_true hA]
    obtain ⟨k, rfl⟩ : ∃ k : Nat, n = k := ⟨n.toNat, by omega⟩
    simp only [Int.toNat_natCast]
    refine fn_enter Tryz.func43 rfl Tryz.ntmps43 rfl ?_
    repeat' (first | (show oL; first | refine sMv rfl rfl ?_ | refine sAs rfl rfl ?_ | (show oA (.unOp _ _ _); refine st_y (y_notd rfl) rfl ?_) | (show oA (.call _); first | (refine m_call (ent_of Tryz.func106 kr rfl) rfl rfl (fun w c => within_ok _ _ _) ?_; rintro v H' ⟨rfl, rfl⟩) | (refine m_call (ent_of Tryz.func126 kr rfl) rfl rfl (fun w c => identity_ok (n := k) om) ?_; rintro v H' ⟨a2, c2, rfl, hs2, rfl⟩)) | (show oA (.store _ _ _); refine m_storeb 1 tabs rfl rfl rfl rfl rfl rfl rfl ?_) | (show oA (.alloc _); refine m_alloc tabs rfl rfl (fun bq hbq => ?_))) | refine xNt ?_ | (show oC; first | refine c_seq ?_ | refine c_region ?_ | refine c_skip (x_then ?_) | refine c_ret ?_ | refine c_iff rfl nN ?_))
    all_goals first
      | exact x_ret2 Tryz.results43 (res_cellb 1 tabs rfl rfl rfl rfl) (res_tmp rfl) (fun w' c' => ⟨_, _, rfl, ⟨a2, c2, by rw [mk_length], by rw [mk_length]; exact hs2, by rw [mk_length]⟩, c'.sub (.cons_cons _ (List.nil_sublist _))⟩)
      | exact absurd hA aS
  · rw [idnM, if_neg hA, decide_eq_false hA]
    refine fn_enter Tryz.func43 rfl Tryz.ntmps43 rfl ?_
    repeat' (first | (show oL; first | refine sMv rfl rfl ?_ | refine sAs rfl rfl ?_ | (show oA (.unOp _ _ _); refine st_y (y_notd rfl) rfl ?_) | (show oA (.call _); (refine m_call (ent_of Tryz.func106 kr rfl) rfl rfl (fun w c => within_ok _ _ _) ?_; rintro v H' ⟨rfl, rfl⟩)) | (show oA (.store _ _ _); refine m_storeb 0 tabs rfl rfl rfl rfl rfl rfl rfl ?_) | (show oA (.alloc _); refine m_alloc tabs rfl rfl (fun bq hbq => ?_)) | (show oA (.build _ _); refine st_y (y_bld0 bld_mat0) rfl ?_)) | refine xNt ?_ | (show oC; first | refine c_seq ?_ | refine c_region ?_ | refine c_ret ?_ | refine c_ift rfl aO ?_) | (show AT _ _ _ _; refine x_then_ret ?_))
    all_goals first
      | exact absurd (by first | assumption | exact Decidable.not_not.1 aS) hA
      | exact x_ret2 Tryz.results43 (res_cellb 0 tabs rfl rfl rfl rfl) (res_tmp rfl) (fun w' c' => ⟨_, _, rfl, ⟨none, 0, rfl, .inl rfl, rfl⟩, Hp.nilp _ _ (c'.sub (List.nil_sublist _))⟩)

theorem spec_MultiplyMatrices_ok {w : World} {p : Int} {a b : Mat} {u v : Value} (hr : Rd w (iT a.2.2) u) (hv : Rd w (iT b.2.2) v) :
    Does Tryz.prog 27 [iV p, .agg #[iV a.1, iV a.2.1, u], .agg #[iV b.1, iV b.2.1, v]] w (GivesMB (mlM p a b) (decide (MlP p a b))) := by
  by_cases hA : MlP p a b
  · rw [decide_eq_true hA]
    have hM := hA.1
    have hN := hA.2.1
    obtain ⟨R, N, C, f, g, rfl, rfl, hR, hN', hC, hF, hf, hg, e⟩ := mlM_of hA
    rw [e]
    simp only at hr hv ⊢
    refine fn_enter Tryz.func27 rfl Tryz.ntmps27 rfl ?_
    repeat' (first | (show oL; first | refine sMv rfl rfl ?_ | refine sAs rfl rfl ?_ | refine sFd tabs rfl rfl rfl rfl ?_ | (show oA (.load _ _); first | refine sLd 1 tabs rfl rfl rfl rfl rfl ?_ | refine sLd 2 tabs rfl rfl rfl rfl rfl ?_ | refine sLb 1 tabs rfl rfl rfl rfl rfl ?_ | refine sLb 2 tabs rfl rfl rfl rfl rfl ?_) | (show oA (.binOp _ _ _ _ _); refine st_y (y_neq rfl rfl) rfl ?_) | (show oA (.unOp _ _ _); refine st_y (y_notd rfl) rfl ?_) | (show oA (.call _); first | (refine m_call (ent_of Tryz.func22 kr rfl) rfl rfl (fun w c => spec_IsMatrix_ok (m := (↑R, ↑N, mk R N f)) (c.rd hr)) ?_; rintro v H' ⟨rfl, rfl⟩) | (refine m_call (ent_of Tryz.func22 kr rfl) rfl rfl (fun w c => spec_IsMatrix_ok (m := (↑N, ↑C, mk N C g)) (c.rd hv)) ?_; rintro v H' ⟨rfl, rfl⟩) | (refine m_call (ent_of Tryz.func111 kr rfl) rfl rfl (fun w c => l3Multiply_ok (c.rd hr) (c.rd hv) hF om om om hf hg) ?_; rintro v H' ⟨a2, c2, rfl, hs2, rfl⟩)) | (show oA (.pick _ _ _); first | refine st_y (y_pickt rfl aO rfl) rfl ?_ | refine st_y (y_pickf rfl aO rfl) rfl ?_ | refine st_y (y_pick rfl rfl rfl) rfl ?_) | (show oA (.store _ _ _); refine m_storeb 1 tabs rfl rfl rfl rfl rfl rfl rfl ?_) | (show oA (.box _ _); refine m_box rfl rfl (fun b5 hb5 => ?_)) | (show oA (.alloc _); refine m_alloc tabs rfl rfl (fun bq hbq => ?_)) | refine st_gn rfl rfl rfl ?_ | refine st_gfy rfl rfl aO ?_ | refine st_gfn rfl rfl aO rfl ?_ | refine st_gd rfl rfl (fun h => ?_) (fun h => ?_)) | refine xNt ?_ | (show oC; first | refine c_seq ?_ | refine c_region ?_ | refine c_skip (x_then ?_) | refine c_ret ?_ | refine c_true rfl ?_ | refine c_iff rfl nN ?_))
    all_goals first
      | exact x_ret2 Tryz.results27 (res_cellb 1 tabs rfl rfl rfl rfl) (res_tmp rfl) (fun w' c' => ⟨_, _, rfl, ⟨a2, c2, by rw [mk_length], by rw [mk_length]; exact hs2, by rw [mk_length]⟩, c'.sub (.cons_cons _ (List.nil_sublist _))⟩)
      | exact absurd hM aS
      | exact absurd hN aS
  · rw [mlM, if_neg hA, decide_eq_false hA]
    refine fn_enter Tryz.func27 rfl Tryz.ntmps27 rfl ?_
    repeat' (first | (show oL; first | refine sMv rfl rfl ?_ | refine sAs rfl rfl ?_ | refine sFd tabs rfl rfl rfl rfl ?_ | (show oA (.load _ _); first | refine sLd 1 tabs rfl rfl rfl rfl rfl ?_ | refine sLd 2 tabs rfl rfl rfl rfl rfl ?_ | refine sLb 1 tabs rfl rfl rfl rfl rfl ?_ | refine sLb 2 tabs rfl rfl rfl rfl rfl ?_) | (show oA (.binOp _ _ _ _ _); refine st_y (y_neq rfl rfl) rfl ?_) | (show oA (.unOp _ _ _); refine st_y (y_notd rfl) rfl ?_) | (show oA (.call _); first | (refine m_call (ent_of Tryz.func22 kr rfl) rfl rfl (fun w c => spec_IsMatrix_ok (m := a) (c.rd hr)) ?_; rintro v H' ⟨rfl, rfl⟩) | (refine m_call (ent_of Tryz.func22 kr rfl) rfl rfl (fun w c => spec_IsMatrix_ok (m := b) (c.rd hv)) ?_; rintro v H' ⟨rfl, rfl⟩)) | (show oA (.pick _ _ _); first | refine st_y (y_pickt rfl aS rfl) rfl ?_ | refine st_y (y_pickf rfl aS rfl) rfl ?_ | refine st_y (y_pick rfl rfl rfl) rfl ?_) | (show oA (.store _ _ _); refine m_storeb 0 tabs rfl rfl rfl rfl rfl rfl rfl ?_) | (show oA (.box _ _); refine m_box rfl rfl (fun b5 hb5 => ?_)) | (show oA (.alloc _); refine m_alloc tabs rfl rfl (fun bq hbq => ?_)) | (show oA (.build _ _); refine st_y (y_bld0 bld_mat0) rfl ?_) | refine st_gn rfl rfl rfl ?_ | refine st_gfy rfl rfl aS ?_ | refine st_gfn rfl rfl aS rfl ?_ | refine st_gd rfl rfl (fun h => ?_) (fun h => ?_)) | refine xNt ?_ | (show oC; first | refine c_seq ?_ | refine c_region ?_ | refine c_skip (x_then ?_) | refine c_ret ?_ | refine c_true rfl ?_ | refine c_ifnd rfl (fun h => ?_) (fun h => ?_)) | (show AT _ _ _ _; refine x_then_ret ?_))
    all_goals first
      | exact absurd ⟨by first | assumption | exact Decidable.not_not.1 aS, by first | assumption | exact Decidable.not_not.1 aS, by omega⟩ hA
      | exact x_ret2 Tryz.results27 (res_cellb 0 tabs rfl rfl rfl rfl) (res_tmp rfl) (fun w' c' => ⟨_, _, rfl, ⟨none, 0, rfl, .inl rfl, rfl⟩, Hp.nilp _ _ (c'.sub (List.nil_sublist _))⟩)

theorem impl_ZeroMatrix_ok {w : World} {r c : Int} : Does Tryz.prog 41 [iV r, iV c] w (GivesMB (zrM r c) (decide ((0 ≤ r ∧ r ≤ 8) ∧ (0 ≤ c ∧ c ≤ 8)))) := by
  by_cases hA : (0 ≤ r ∧ r ≤ 8) ∧ (0 ≤ c ∧ c ≤ 8)
  · rw [zrM, if_pos hA, decide_eq_true hA]
    obtain ⟨R, rfl⟩ : ∃ k : Nat, r = k := ⟨r.toNat, by omega⟩
    obtain ⟨C, rfl⟩ : ∃ k : Nat, c = k := ⟨c.toNat, by omega⟩
    simp only [Int.toNat_natCast]
    refine fn_enter Tryz.func41 rfl Tryz.ntmps41 rfl ?_
    repeat' (first | (show oL; first | refine sMv rfl rfl ?_ | refine sAs rfl rfl ?_ | (show oA (.unOp _ _ _); refine st_y (y_notd rfl) rfl ?_) | (show oA (.call _); first | (refine m_call (ent_of Tryz.func106 kr rfl) rfl rfl (fun w c => within_ok _ _ _) ?_; rintro v H' ⟨rfl, rfl⟩) | (refine m_call (ent_of Tryz.func117 kr rfl) rfl rfl (fun w c => zero_ok (R := R) (C := C) om om) ?_; rintro v H' ⟨a2, c2, rfl, hs2, rfl⟩)) | (show oA (.pick _ _ _); refine st_y (y_pickf rfl aO rfl) rfl ?_) | (show oA (.store _ _ _); refine m_storeb 1 tabs rfl rfl rfl rfl rfl rfl rfl ?_) | (show oA (.alloc _); refine m_alloc tabs rfl rfl (fun bq hbq => ?_)) | refine st_gfy rfl rfl aO ?_) | refine xNt ?_ | (show oC; first | refine c_seq ?_ | refine c_region ?_ | refine c_skip (x_then ?_) | refine c_ret ?_ | refine c_iff rfl nN ?_))
    all_goals first
      | exact x_ret2 Tryz.results41 (res_cellb 1 tabs rfl rfl rfl rfl) (res_tmp rfl) (fun w' c' => ⟨_, _, rfl, ⟨a2, c2, by rw [mk_length], by rw [mk_length]; exact hs2, by rw [mk_length]⟩, c'.sub (.cons_cons _ (List.nil_sublist _))⟩)
      | exact absurd hA.1 aS
      | exact absurd hA.2 aS
  · rw [zrM, if_neg hA, decide_eq_false hA]
    refine fn_enter Tryz.func41 rfl Tryz.ntmps41 rfl ?_
    repeat' (first | (show oL; first | refine sMv rfl rfl ?_ | refine sAs rfl rfl ?_ | (show oA (.unOp _ _ _); refine st_y (y_notd rfl) rfl ?_) | (show oA (.call _); (refine m_call (ent_of Tryz.func106 kr rfl) rfl rfl (fun w c => within_ok _ _ _) ?_; rintro v H' ⟨rfl, rfl⟩)) | (show oA (.pick _ _ _); first | refine st_y (y_pickt rfl aS rfl) rfl ?_ | refine st_y (y_pickf rfl aS rfl) rfl ?_) | (show oA (.store _ _ _); refine m_storeb 0 tabs rfl rfl rfl rfl rfl rfl rfl ?_) | (show oA (.alloc _); refine m_alloc tabs rfl rfl (fun bq hbq => ?_)) | (show oA (.build _ _); refine st_y (y_bld0 bld_mat0) rfl ?_) | refine st_gfy rfl rfl aS ?_ | refine st_gfn rfl rfl aS rfl ?_ | refine st_gd rfl rfl (fun h => ?_) (fun h => ?_)) | refine xNt ?_ | (show oC; first | refine c_seq ?_ | refine c_region ?_ | refine c_ret ?_ | refine c_true rfl ?_ | refine c_ift rfl aO ?_) | (show AT _ _ _ _; refine x_then_ret ?_))
    all_goals first
      | exact absurd ⟨by first | assumption | exact Decidable.not_not.1 aS, by first | assumption | exact Decidable.not_not.1 aS⟩ hA
      | exact x_ret2 Tryz.results41 (res_cellb 0 tabs rfl rfl rfl rfl) (res_tmp rfl) (fun w' c' => ⟨_, _, rfl, ⟨none, 0, rfl, .inl rfl, rfl⟩, Hp.nilp _ _ (c'.sub (List.nil_sublist _))⟩)
theorem spec_ZeroMatrix_ok {w : World} {r c : Int} : Does Tryz.prog 42 [iV r, iV c] w (GivesMB (zrM r c) (decide ((0 ≤ r ∧ r ≤ 8) ∧ (0 ≤ c ∧ c ≤ 8)))) := by
  by_cases hA : (0 ≤ r ∧ r ≤ 8) ∧ (0 ≤ c ∧ c ≤ 8)
  · rw [zrM, if_pos hA, decide_eq_true hA]
    obtain ⟨R, rfl⟩ : ∃ k : Nat, r = k := ⟨r.toNat, by omega⟩
    obtain ⟨C, rfl⟩ : ∃ k : Nat, c = k := ⟨c.toNat, by omega⟩
    simp only [Int.toNat_natCast]
    refine fn_enter Tryz.func42 rfl Tryz.ntmps42 rfl ?_
    repeat' (first | (show oL; first | refine sMv rfl rfl ?_ | refine sAs rfl rfl ?_ | (show oA (.unOp _ _ _); refine st_y (y_notd rfl) rfl ?_) | (show oA (.call _); first | (refine m_call (ent_of Tryz.func104 kr rfl) rfl rfl (fun w c => l1In_ok _ _ _) ?_; rintro v H' ⟨rfl, rfl⟩) | (refine m_call (ent_of Tryz.func125 kr rfl) rfl rfl (fun w c => l3Zero_ok (R := R) (C := C) om om) ?_; rintro v H' ⟨a2, c2, rfl, hs2, rfl⟩)) | (show oA (.pick _ _ _); refine st_y (y_pickf rfl aO rfl) rfl ?_) | (show oA (.store _ _ _); refine m_storeb 1 tabs rfl rfl rfl rfl rfl rfl rfl ?_) | (show oA (.alloc _); refine m_alloc tabs rfl rfl (fun bq hbq => ?_)) | refine st_gfy rfl rfl aO ?_) | refine xNt ?_ | (show oC; first | refine c_seq ?_ | refine c_region ?_ | refine c_skip (x_then ?_) | refine c_ret ?_ | refine c_iff rfl nN ?_))
    all_goals first
      | exact x_ret2 Tryz.results42 (res_cellb 1 tabs rfl rfl rfl rfl) (res_tmp rfl) (fun w' c' => ⟨_, _, rfl, ⟨a2, c2, by rw [mk_length], by rw [mk_length]; exact hs2, by rw [mk_length]⟩, c'.sub (.cons_cons _ (List.nil_sublist _))⟩)
      | exact absurd hA.1 aS
      | exact absurd hA.2 aS
  · rw [zrM, if_neg hA, decide_eq_false hA]
    refine fn_enter Tryz.func42 rfl Tryz.ntmps42 rfl ?_
    repeat' (first | (show oL; first | refine sMv rfl rfl ?_ | refine sAs rfl rfl ?_ | (show oA (.unOp _ _ _); refine st_y (y_notd rfl) rfl ?_) | (show oA (.call _); (refine m_call (ent_of Tryz.func104 kr rfl) rfl rfl (fun w c => l1In_ok _ _ _) ?_; rintro v H' ⟨rfl, rfl⟩)) | (show oA (.pick _ _ _); first | refine st_y (y_pickt rfl aS rfl) rfl ?_ | refine st_y (y_pickf rfl aS rfl) rfl ?_) | (show oA (.store _ _ _); refine m_storeb 0 tabs rfl rfl rfl rfl rfl rfl rfl ?_) | (show oA (.alloc _); refine m_alloc tabs rfl rfl (fun bq hbq => ?_)) | (show oA (.build _ _); refine st_y (y_bld0 bld_mat0) rfl ?_) | refine st_gfy rfl rfl aS ?_ | refine st_gfn rfl rfl aS rfl ?_ | refine st_gd rfl rfl (fun h => ?_) (fun h => ?_)) | refine xNt ?_ | (show oC; first | refine c_seq ?_ | refine c_region ?_ | refine c_ret ?_ | refine c_true rfl ?_ | refine c_ift rfl aO ?_) | (show AT _ _ _ _; refine x_then_ret ?_))
    all_goals first
      | exact absurd ⟨by first | assumption | exact Decidable.not_not.1 aS, by first | assumption | exact Decidable.not_not.1 aS⟩ hA
      | exact x_ret2 Tryz.results42 (res_cellb 0 tabs rfl rfl rfl rfl) (res_tmp rfl) (fun w' c' => ⟨_, _, rfl, ⟨none, 0, rfl, .inl rfl, rfl⟩, Hp.nilp _ _ (c'.sub (List.nil_sublist _))⟩)
theorem impl_TransposeMatrix_ok {w : World} {p : Int} {a : Mat} {u : Value} (hr : Rd w (iT a.2.2) u) : Does Tryz.prog 28 [iV p, .agg #[iV a.1, iV a.2.1, u]] w (GivesMB (tpM p a) (decide (MatP p a))) := by
  by_cases hA : MatP p a
  · rw [decide_eq_true hA]
    obtain ⟨R, C, f, rfl, hR, hC, hF, hf⟩ := matP_mk hA
    rw [tpM_mk hA]
    simp only at hr ⊢
    refine fn_enter Tryz.func28 rfl Tryz.ntmps28 rfl ?_
    repeat' (first | (show oL; first | refine sMv rfl rfl ?_ | refine sAs rfl rfl ?_ | refine sLb 1 tabs rfl rfl rfl rfl rfl ?_ | (show oA (.unOp _ _ _); refine st_y (y_notd rfl) rfl ?_) | (show oA (.call _); (refine m_call (ent_of Tryz.func24 kr rfl) rfl rfl (fun w c => impl_IsMatrix_ok (m := (↑R, ↑C, mk R C f)) (c.rd hr)) ?_; rintro v H' ⟨rfl, rfl⟩)) | (show oA (.box _ _); refine m_box rfl rfl (fun b1 hb1 => ?_)) | (show oA (.alloc _); refine m_alloc tabs rfl rfl (fun b2 hb2 => ?_))) | refine xNt ?_ | (show oC; first | refine c_seq ?_ | refine c_region ?_ | refine c_skip (x_then ?_) | refine c_iff rfl nN ?_))
    all_goals first | exact absurd hA aS | skip
    refine c_all (Hp [] w [.blk b1 #[iV R, iV C, u] 41]) kr (fun _ c => Hp.drew c) ?_
    refine h_take 0 rfl kr kr kr (by exact y_field tabs rfl rfl rfl) rfl (fun w c => by exact c.drop) ?_
    refine h_take 1 rfl kr kr kr (by exact y_load tabs rfl rfl (hc_blk 0 rfl rfl)) rfl (fun w c => by exact c.drop) ?_
    refine h_take 2 rfl kr kr kr (by exact y_loadb 0 tabs rfl rfl rfl rfl) rfl (fun w c => by exact c.drop) ?_
    refine h_only 3 rfl kr ?_
    first | (refine m_call (ent_of Tryz.func91 kr rfl) rfl rfl (fun w c => rows_ok (c.rd hr) om om) ?_; rintro v H' ⟨a1, c1, rfl, hs1, rfl⟩) | (refine m_call (ent_of Tryz.func112 kr rfl) rfl rfl (fun w c => fromColumns_ok (cols := rowL C f R) (R := C) (C := R) (c.own_rd (i := 0) rfl) (by simp) om om (fun k xs h => rowL_mem xs (List.mem_of_getElem? h))) ?_; rintro v H' ⟨a2, c2, rfl, hs2, rfl⟩; rw [from_rows]) | (refine m_storeb 2 tabs rfl rfl rfl rfl rfl rfl rfl ?_) | (refine m_storeb 2 tabs rfl rfl rfl rfl rfl rfl rfl ?_)
    refine c_nil (x_one (h_keep (fun w c => by exact c.drop.drop) ?_))
    refine h_only 4 rfl kr ?_
    first | (refine m_call (ent_of Tryz.func91 kr rfl) rfl rfl (fun w c => rows_ok (c.rd hr) om om) ?_; rintro v H' ⟨a1, c1, rfl, hs1, rfl⟩) | (refine m_call (ent_of Tryz.func112 kr rfl) rfl rfl (fun w c => fromColumns_ok (cols := rowL C f R) (R := C) (C := R) (c.own_rd (i := 0) rfl) (by simp) om om (fun k xs h => rowL_mem xs (List.mem_of_getElem? h))) ?_; rintro v H' ⟨a2, c2, rfl, hs2, rfl⟩; rw [from_rows]) | (refine m_storeb 2 tabs rfl rfl rfl rfl rfl rfl rfl ?_) | (refine m_storeb 2 tabs rfl rfl rfl rfl rfl rfl rfl ?_)
    refine c_nil (x_one (h_keep sS ?_))
    refine h_only 5 rfl kr ?_
    first | (refine m_call (ent_of Tryz.func91 kr rfl) rfl rfl (fun w c => rows_ok (c.rd hr) om om) ?_; rintro v H' ⟨a1, c1, rfl, hs1, rfl⟩) | (refine m_call (ent_of Tryz.func112 kr rfl) rfl rfl (fun w c => fromColumns_ok (cols := rowL C f R) (R := C) (C := R) (c.own_rd (i := 0) rfl) (by simp) om om (fun k xs h => rowL_mem xs (List.mem_of_getElem? h))) ?_; rintro v H' ⟨a2, c2, rfl, hs2, rfl⟩; rw [from_rows]) | (refine m_storeb 2 tabs rfl rfl rfl rfl rfl rfl rfl ?_) | (refine m_storeb 2 tabs rfl rfl rfl rfl rfl rfl rfl ?_)
    refine c_nil (x_one (h_keep sS ?_))
    refine h_take 6 rfl kr kr kr (by exact y_assign rfl) rfl sS ?_
    refine h_end kr ?_
    repeat' (first | (show oC; refine c_ret ?_) | (show AT _ _ _ _; refine x_then ?_))
    exact x_ret2 Tryz.results28 (res_cellb 2 tabs rfl rfl rfl rfl) (res_tmp rfl) (fun w' c' => ⟨_, _, rfl, ⟨a2, c2, by rw [mk_length], by rw [mk_length]; exact hs2, by rw [mk_length]⟩, c'.sub (.cons_cons _ (List.nil_sublist _))⟩)
  · rw [tpM, if_neg hA, decide_eq_false hA]
    refine fn_enter Tryz.func28 rfl Tryz.ntmps28 rfl ?_
    repeat' (first | (show oL; first | refine sMv rfl rfl ?_ | refine sAs rfl rfl ?_ | refine sLb 1 tabs rfl rfl rfl rfl rfl ?_ | (show oA (.unOp _ _ _); refine st_y (y_notd rfl) rfl ?_) | (show oA (.call _); (refine m_call (ent_of Tryz.func24 kr rfl) rfl rfl (fun w c => impl_IsMatrix_ok (m := a) (c.rd hr)) ?_; rintro v H' ⟨rfl, rfl⟩)) | (show oA (.store _ _ _); refine m_storeb 0 tabs rfl rfl rfl rfl rfl rfl rfl ?_) | (show oA (.box _ _); refine m_box rfl rfl (fun b5 hb5 => ?_)) | (show oA (.alloc _); refine m_alloc tabs rfl rfl (fun bq hbq => ?_)) | (show oA (.build _ _); refine st_y (y_bld0 bld_mat0) rfl ?_)) | refine xNt ?_ | (show oC; first | refine c_seq ?_ | refine c_region ?_ | refine c_ret ?_ | refine c_ift rfl aO ?_) | (show AT _ _ _ _; refine x_then_ret ?_))
    all_goals first
      | exact absurd (by first | assumption | exact Decidable.not_not.1 aS) hA
      | exact x_ret2 Tryz.results28 (res_cellb 0 tabs rfl rfl rfl rfl) (res_tmp rfl) (fun w' c' => ⟨_, _, rfl, ⟨none, 0, rfl, .inl rfl, rfl⟩, Hp.nilp _ _ (c'.sub (List.nil_sublist _))⟩)
theorem impl_AddMatrices_ok {w : World} {p : Int} {a b : Mat} {u v : Value} (hr : Rd w (iT a.2.2) u) (hv : Rd w (iT b.2.2) v) : Does Tryz.prog 30 [iV p, .agg #[iV a.1, iV a.2.1, u], .agg #[iV b.1, iV b.2.1, v]] w (GivesMB (adM p a b) (decide (AdP p a b))) := by
  by_cases hA : AdP p a b
  · rw [decide_eq_true hA]
    have hM := hA.1
    have hN := hA.2.1
    obtain ⟨R, C, f, g, rfl, rfl, hR, hC, hF, hf, hg, e⟩ := adM_of hA
    rw [e]
    simp only at hr hv ⊢
    refine fn_enter Tryz.func30 rfl Tryz.ntmps30 rfl ?_
    repeat' (first | (show oL; first | refine sMv rfl rfl ?_ | refine sAs rfl rfl ?_ | refine sFd tabs rfl rfl rfl rfl ?_ | (show oA (.load _ _); first | refine sLd 1 tabs rfl rfl rfl rfl rfl ?_ | refine sLd 2 tabs rfl rfl rfl rfl rfl ?_ | refine sLb 1 tabs rfl rfl rfl rfl rfl ?_ | refine sLb 2 tabs rfl rfl rfl rfl rfl ?_) | (show oA (.binOp _ _ _ _ _); refine st_y (y_neq rfl rfl) rfl ?_) | (show oA (.unOp _ _ _); refine st_y (y_notd rfl) rfl ?_) | (show oA (.call _); first | (refine m_call (ent_of Tryz.func24 kr rfl) rfl rfl (fun w c => impl_IsMatrix_ok (m := (↑R, ↑C, mk R C f)) (c.rd hr)) ?_; rintro v H' ⟨rfl, rfl⟩) | (refine m_call (ent_of Tryz.func24 kr rfl) rfl rfl (fun w c => impl_IsMatrix_ok (m := (↑R, ↑C, mk R C g)) (c.rd hv)) ?_; rintro v H' ⟨rfl, rfl⟩) | (refine m_call (ent_of Tryz.func114 kr rfl) rfl rfl (fun w c => plus_ok (c.rd hr) (c.rd hv) hF om om om hf hg) ?_; rintro v H' ⟨a2, c2, rfl, hs2, rfl⟩)) | (show oA (.pick _ _ _); first | refine st_y (y_pickt rfl aO rfl) rfl ?_ | refine st_y (y_pickf rfl aO rfl) rfl ?_ | refine st_y (y_pick rfl rfl rfl) rfl ?_) | (show oA (.store _ _ _); refine m_storeb 1 tabs rfl rfl rfl rfl rfl rfl rfl ?_) | (show oA (.box _ _); refine m_box rfl rfl (fun b5 hb5 => ?_)) | (show oA (.alloc _); refine m_alloc tabs rfl rfl (fun bq hbq => ?_)) | refine st_gn rfl rfl rfl ?_ | refine st_gfy rfl rfl aO ?_ | refine st_gfn rfl rfl aO rfl ?_ | refine st_gd rfl rfl (fun h => ?_) (fun h => ?_)) | refine xNt ?_ | (show oC; first | refine c_seq ?_ | refine c_region ?_ | refine c_skip (x_then ?_) | refine c_ret ?_ | refine c_true rfl ?_ | refine c_iff rfl nN ?_))
    all_goals first
      | exact x_ret2 Tryz.results30 (res_cellb 1 tabs rfl rfl rfl rfl) (res_tmp rfl) (fun w' c' => ⟨_, _, rfl, ⟨a2, c2, by rw [mk_length], by rw [mk_length]; exact hs2, by rw [mk_length]⟩, c'.sub (.cons_cons _ (List.nil_sublist _))⟩)
      | exact absurd hM aS
      | exact absurd hN aS
  · rw [adM, if_neg hA, decide_eq_false hA]
    refine fn_enter Tryz.func30 rfl Tryz.ntmps30 rfl ?_
    have bM : ∀ m : Mat, ¬¬MatP p m → (0 ≤ m.1 ∧ m.1 ≤ 8) ∧ (0 ≤ m.2.1 ∧ m.2.1 ≤ 8) := fun m h => ⟨(Decidable.not_not.1 h).1, (Decidable.not_not.1 h).2.1⟩
    repeat' (first | (show oL; first | refine sMv rfl rfl ?_ | refine sAs rfl rfl ?_ | refine sFd tabs rfl rfl rfl rfl ?_ | (show oA (.load _ _); first | refine sLd 1 tabs rfl rfl rfl rfl rfl ?_ | refine sLd 2 tabs rfl rfl rfl rfl rfl ?_ | refine sLb 1 tabs rfl rfl rfl rfl rfl ?_ | refine sLb 2 tabs rfl rfl rfl rfl rfl ?_) | (show oA (.binOp _ _ _ _ _); refine st_y (y_neq rfl rfl) rfl ?_) | (show oA (.unOp _ _ _); refine st_y (y_notd rfl) rfl ?_) | (show oA (.call _); first | (refine m_call (ent_of Tryz.func24 kr rfl) rfl rfl (fun w c => impl_IsMatrix_ok (m := a) (c.rd hr)) ?_; rintro v H' ⟨rfl, rfl⟩) | (refine m_call (ent_of Tryz.func24 kr rfl) rfl rfl (fun w c => impl_IsMatrix_ok (m := b) (c.rd hv)) ?_; rintro v H' ⟨rfl, rfl⟩)) | (show oA (.pick _ _ _); first | refine st_y (y_pickt rfl aS rfl) rfl ?_ | refine st_y (y_pickf rfl aS rfl) rfl ?_ | refine st_y (y_pick rfl rfl rfl) rfl ?_) | (show oA (.store _ _ _); refine m_storeb 0 tabs rfl rfl rfl rfl rfl rfl rfl ?_) | (show oA (.box _ _); refine m_box rfl rfl (fun b5 hb5 => ?_)) | (show oA (.alloc _); refine m_alloc tabs rfl rfl (fun bq hbq => ?_)) | (show oA (.build _ _); refine st_y (y_bld0 bld_mat0) rfl ?_) | refine st_gn rfl rfl rfl ?_ | refine st_gfy rfl rfl aS ?_ | refine st_gfn rfl rfl aS rfl ?_ | refine st_gd rfl rfl (fun h => ?_) (fun h => ?_)) | refine xNt ?_ | (show oC; first | refine c_seq ?_ | refine c_region ?_ | refine c_skip (x_then ?_) | refine c_ret ?_ | refine c_true rfl ?_ | refine c_ifnd rfl (fun h => ?_) (fun h => ?_)) | (show AT _ _ _ _; refine x_then_ret ?_))
    all_goals first
      | exact absurd ⟨by first | assumption | exact Decidable.not_not.1 aS, by first | assumption | exact Decidable.not_not.1 aS, by omega, by omega⟩ hA
      | exact x_ret2 Tryz.results30 (res_cellb 0 tabs rfl rfl rfl rfl) (res_tmp rfl) (fun w' c' => ⟨_, _, rfl, ⟨none, 0, rfl, .inl rfl, rfl⟩, Hp.nilp _ _ (c'.sub (List.nil_sublist _))⟩)
theorem impl_ScaleMatrix_ok {w : World} {p k : Int} {a : Mat} {u : Value} (hr : Rd w (iT a.2.2) u) : Does Tryz.prog 38 [iV p, iV k, .agg #[iV a.1, iV a.2.1, u]] w (GivesMB (scM p k a) (decide (MatP p a))) := by
  by_cases hA : MatP p a
  · rw [decide_eq_true hA]
    obtain ⟨R, C, f, rfl, hR, hC, hF, hf⟩ := matP_mk hA
    rw [scM_mk hA]
    simp only at hr ⊢
    have kb : 0 ≤ k % p ∧ k % p ≤ 5 := by
      have h1 := fieldP_pos hF
      have h2 : p ≤ 5 := by unfold FieldP at hF; omega
      exact ⟨Int.emod_nonneg _ om, by have := Int.emod_lt_of_pos k (show 0 < p by omega); omega⟩
    refine fn_enter Tryz.func38 rfl Tryz.ntmps38 rfl ?_
    repeat' (first | (show oL; first | refine sMv rfl rfl ?_ | refine sAs rfl rfl ?_ | refine sLb 1 tabs rfl rfl rfl rfl rfl ?_ | (show oA (.unOp _ _ _); refine st_y (y_notd rfl) rfl ?_) | (show oA (.call _); (refine m_call (ent_of Tryz.func24 kr rfl) rfl rfl (fun w c => impl_IsMatrix_ok (m := (↑R, ↑C, mk R C f)) (c.rd hr)) ?_; rintro v H' ⟨rfl, rfl⟩)) | (show oA (.box _ _); refine m_box rfl rfl (fun b1 hb1 => ?_)) | (show oA (.alloc _); refine m_alloc tabs rfl rfl (fun b2 hb2 => ?_))) | refine xNt ?_ | (show oC; first | refine c_seq ?_ | refine c_region ?_ | refine c_skip (x_then ?_) | refine c_iff rfl nN ?_))
    all_goals first | exact absurd hA aS | skip
    refine c_all (Hp [] w [.blk b1 #[iV R, iV C, u] 41]) kr (fun _ c => Hp.drew c) ?_
    refine h_take 0 rfl kr kr kr (by exact y_move rfl) rfl (fun w c => by exact c.drop) ?_
    refine h_take 1 rfl kr kr kr (by exact y_field tabs rfl rfl rfl) rfl (fun w c => by exact c.drop) ?_
    refine h_take 2 rfl kr kr kr (by exact y_load tabs rfl rfl (hc_blk 0 rfl rfl)) rfl (fun w c => by exact c.drop) ?_
    refine h_take 3 rfl kr kr kr (by exact y_field tabs rfl rfl rfl) rfl (fun w c => by exact c.drop) ?_
    refine h_take 4 rfl kr kr kr (by exact y_load tabs rfl rfl (hc_blk 0 rfl rfl)) rfl (fun w c => by exact c.drop) ?_
    refine h_take 6 rfl kr kr kr (by exact y_move rfl) rfl (fun w c => by exact c.drop) ?_
    refine h_take 7 rfl kr kr kr (by exact y_move rfl) rfl (fun w c => by exact c.drop) ?_
    refine h_take 9 rfl kr kr kr (by exact y_loadb 0 tabs rfl rfl rfl rfl) rfl (fun w c => by exact c.drop) ?_
    refine h_only 5 rfl kr ?_
    first | (refine m_call (ent_of Tryz.func122 kr rfl) rfl rfl (fun w c => ReduceMod_ok hF) ?_; rintro v H' ⟨rfl, rfl⟩) | (refine m_call (ent_of Tryz.func117 kr rfl) rfl rfl (fun w c => zero_ok (R := R) (C := C) om om) ?_; rintro v H' ⟨a1, c1, rfl, hs1, rfl⟩) | (refine m_call (ent_of Tryz.func114 kr rfl) rfl rfl (fun w c => plus_ok (k := k % p) (f := fun _ _ => 0) (c.own_rd (i := 0) rfl) (c.rd hr) hF kb om om (fun _ _ _ _ => ⟨Int.le_refl _, by have := fieldP_pos hF; show (0 : Int) < p; omega⟩) hf) ?_; rintro v H' ⟨a2, c2, rfl, hs2, rfl⟩) | (refine m_storeb 2 tabs rfl rfl rfl rfl rfl rfl rfl ?_) | (refine m_storeb 2 tabs rfl rfl rfl rfl rfl rfl rfl ?_)
    refine c_nil (x_one (h_keep (fun w c => by exact c.drop.drop) ?_))
    refine h_only 8 rfl kr ?_
    first | (refine m_call (ent_of Tryz.func122 kr rfl) rfl rfl (fun w c => ReduceMod_ok hF) ?_; rintro v H' ⟨rfl, rfl⟩) | (refine m_call (ent_of Tryz.func117 kr rfl) rfl rfl (fun w c => zero_ok (R := R) (C := C) om om) ?_; rintro v H' ⟨a1, c1, rfl, hs1, rfl⟩) | (refine m_call (ent_of Tryz.func114 kr rfl) rfl rfl (fun w c => plus_ok (k := k % p) (f := fun _ _ => 0) (c.own_rd (i := 0) rfl) (c.rd hr) hF kb om om (fun _ _ _ _ => ⟨Int.le_refl _, by have := fieldP_pos hF; show (0 : Int) < p; omega⟩) hf) ?_; rintro v H' ⟨a2, c2, rfl, hs2, rfl⟩) | (refine m_storeb 2 tabs rfl rfl rfl rfl rfl rfl rfl ?_) | (refine m_storeb 2 tabs rfl rfl rfl rfl rfl rfl rfl ?_)
    refine c_nil (x_one (h_keep (fun w c => by exact c.drop.drop) ?_))
    refine h_only 10 rfl kr ?_
    first | (refine m_call (ent_of Tryz.func122 kr rfl) rfl rfl (fun w c => ReduceMod_ok hF) ?_; rintro v H' ⟨rfl, rfl⟩) | (refine m_call (ent_of Tryz.func117 kr rfl) rfl rfl (fun w c => zero_ok (R := R) (C := C) om om) ?_; rintro v H' ⟨a1, c1, rfl, hs1, rfl⟩) | (refine m_call (ent_of Tryz.func114 kr rfl) rfl rfl (fun w c => plus_ok (k := k % p) (f := fun _ _ => 0) (c.own_rd (i := 0) rfl) (c.rd hr) hF kb om om (fun _ _ _ _ => ⟨Int.le_refl _, by have := fieldP_pos hF; show (0 : Int) < p; omega⟩) hf) ?_; rintro v H' ⟨a2, c2, rfl, hs2, rfl⟩) | (refine m_storeb 2 tabs rfl rfl rfl rfl rfl rfl rfl ?_) | (refine m_storeb 2 tabs rfl rfl rfl rfl rfl rfl rfl ?_)
    refine c_nil (x_one (h_keep sS ?_))
    refine h_only 11 rfl kr ?_
    first | (refine m_call (ent_of Tryz.func122 kr rfl) rfl rfl (fun w c => ReduceMod_ok hF) ?_; rintro v H' ⟨rfl, rfl⟩) | (refine m_call (ent_of Tryz.func117 kr rfl) rfl rfl (fun w c => zero_ok (R := R) (C := C) om om) ?_; rintro v H' ⟨a1, c1, rfl, hs1, rfl⟩) | (refine m_call (ent_of Tryz.func114 kr rfl) rfl rfl (fun w c => plus_ok (k := k % p) (f := fun _ _ => 0) (c.own_rd (i := 0) rfl) (c.rd hr) hF kb om om (fun _ _ _ _ => ⟨Int.le_refl _, by have := fieldP_pos hF; show (0 : Int) < p; omega⟩) hf) ?_; rintro v H' ⟨a2, c2, rfl, hs2, rfl⟩) | (refine m_storeb 2 tabs rfl rfl rfl rfl rfl rfl rfl ?_) | (refine m_storeb 2 tabs rfl rfl rfl rfl rfl rfl rfl ?_)
    refine c_nil (x_one (h_keep sS ?_))
    refine h_take 12 rfl kr kr kr (by exact y_assign rfl) rfl sS ?_
    refine h_end kr ?_
    repeat' (first | (show oC; refine c_ret ?_) | (show AT _ _ _ _; refine x_then ?_))
    exact x_ret2 Tryz.results38 (res_cellb 2 tabs rfl rfl rfl rfl) (res_tmp rfl) (fun w' c' => ⟨_, _, rfl, ⟨a2, c2, by rw [mk_length], by rw [mk_length]; exact hs2, by rw [mk_length]⟩, c'.sub (.cons_cons _ (List.nil_sublist _))⟩)
  · rw [scM, if_neg hA, decide_eq_false hA]
    refine fn_enter Tryz.func38 rfl Tryz.ntmps38 rfl ?_
    repeat' (first | (show oL; first | refine sMv rfl rfl ?_ | refine sAs rfl rfl ?_ | refine sLb 1 tabs rfl rfl rfl rfl rfl ?_ | (show oA (.unOp _ _ _); refine st_y (y_notd rfl) rfl ?_) | (show oA (.call _); (refine m_call (ent_of Tryz.func24 kr rfl) rfl rfl (fun w c => impl_IsMatrix_ok (m := a) (c.rd hr)) ?_; rintro v H' ⟨rfl, rfl⟩)) | (show oA (.store _ _ _); refine m_storeb 0 tabs rfl rfl rfl rfl rfl rfl rfl ?_) | (show oA (.box _ _); refine m_box rfl rfl (fun b5 hb5 => ?_)) | (show oA (.alloc _); refine m_alloc tabs rfl rfl (fun bq hbq => ?_)) | (show oA (.build _ _); refine st_y (y_bld0 bld_mat0) rfl ?_)) | refine xNt ?_ | (show oC; first | refine c_seq ?_ | refine c_region ?_ | refine c_ret ?_ | refine c_ift rfl aO ?_) | (show AT _ _ _ _; refine x_then_ret ?_))
    all_goals first
      | exact absurd (by first | assumption | exact Decidable.not_not.1 aS) hA
      | exact x_ret2 Tryz.results38 (res_cellb 0 tabs rfl rfl rfl rfl) (res_tmp rfl) (fun w' c' => ⟨_, _, rfl, ⟨none, 0, rfl, .inl rfl, rfl⟩, Hp.nilp _ _ (c'.sub (List.nil_sublist _))⟩)
theorem impl_BlockSum_ok {w : World} {p : Int} {a b : Mat} {u v : Value} (hr : Rd w (iT a.2.2) u) (hv : Rd w (iT b.2.2) v) : Does Tryz.prog 32 [iV p, .agg #[iV a.1, iV a.2.1, u], .agg #[iV b.1, iV b.2.1, v]] w (GivesMB (blM p a b) (decide (BlP p a b))) := by
  by_cases hA : BlP p a b
  · rw [decide_eq_true hA]
    have hM := hA.1
    have hN := hA.2.1
    obtain ⟨R, C, S, D, f, g, rfl, rfl, hR, hC, hF, hf, hg, e⟩ := blM_of hA
    rw [e]
    simp only at hr hv ⊢
    refine fn_enter Tryz.func32 rfl Tryz.ntmps32 rfl ?_
    repeat' (first | (show oL; first | refine sMv rfl rfl ?_ | refine sAs rfl rfl ?_ | refine sFd tabs rfl rfl rfl rfl ?_ | (show oA (.load _ _); first | refine sLd 1 tabs rfl rfl rfl rfl rfl ?_ | refine sLd 2 tabs rfl rfl rfl rfl rfl ?_ | refine sLb 1 tabs rfl rfl rfl rfl rfl ?_ | refine sLb 2 tabs rfl rfl rfl rfl rfl ?_) | (show oA (.binOp _ _ _ _ _); first | refine sAd rfl rfl om rfl ?_ | refine st_y (y_gtr rfl rfl) rfl ?_) | (show oA (.unOp _ _ _); refine st_y (y_notd rfl) rfl ?_) | (show oA (.call _); first | (refine m_call (ent_of Tryz.func24 kr rfl) rfl rfl (fun w c => impl_IsMatrix_ok (m := (↑R, ↑C, mk R C f)) (c.rd hr)) ?_; rintro v H' ⟨rfl, rfl⟩) | (refine m_call (ent_of Tryz.func24 kr rfl) rfl rfl (fun w c => impl_IsMatrix_ok (m := (↑S, ↑D, mk S D g)) (c.rd hv)) ?_; rintro v H' ⟨rfl, rfl⟩)) | (show oA (.pick _ _ _); first | refine st_y (y_pickt rfl aO rfl) rfl ?_ | refine st_y (y_pickf rfl aO rfl) rfl ?_ | refine st_y (y_pick rfl rfl rfl) rfl ?_) | (show oA (.box _ _); refine m_box rfl rfl (fun b5 hb5 => ?_)) | (show oA (.alloc _); refine m_alloc tabs rfl rfl (fun b6 hb6 => ?_)) | refine st_gn rfl rfl rfl ?_ | refine st_gfy rfl rfl aO ?_ | refine st_gfn rfl rfl aO rfl ?_ | refine st_gd rfl rfl (fun h => ?_) (fun h => ?_)) | refine xNt ?_ | (show oC; first | refine c_seq ?_ | refine c_region ?_ | refine c_skip (x_then ?_) | refine c_true rfl ?_ | refine c_iff rfl nN ?_))
    all_goals first | exact absurd hM aS | exact absurd hN aS | skip
    rename_i b4 hb4 _
    refine c_all (Hp [] w [.blk b5 #[iV S, iV D, v] 41, .blk b4 #[iV R, iV C, u] 41]) kr (fun _ c => Hp.drew c) ?_
    refine h_take 0 rfl kr kr kr (by first | exact y_loadb 1 tabs rfl rfl rfl rfl | exact y_loadb 1 tabs rfl rfl rfl rfl) rfl (fun w c => by exact c.drop) ?_
    refine h_take 1 rfl kr kr kr (by exact y_field tabs rfl rfl rfl) rfl (fun w c => by exact c.drop) ?_
    refine h_take 2 rfl kr kr kr (by exact y_load tabs rfl rfl (hc_blk 1 rfl rfl)) rfl (fun w c => by exact c.drop) ?_
    refine h_take 3 rfl kr kr kr (by exact y_field tabs rfl rfl rfl) rfl (fun w c => by exact c.drop) ?_
    refine h_take 4 rfl kr kr kr (by exact y_load tabs rfl rfl (hc_blk 0 rfl rfl)) rfl (fun w c => by exact c.drop) ?_
    refine h_take 6 rfl kr kr kr (by exact y_loadb 0 tabs rfl rfl rfl rfl) rfl (fun w c => by exact c.drop) ?_
    refine h_only 5 rfl kr ?_
    first | (refine m_call (ent_of Tryz.func117 kr rfl) rfl rfl (fun w c => zero_ok (R := R) (C := D) om om) ?_; rintro v H' ⟨a1, c1, rfl, hs1, rfl⟩) | (refine m_call (ent_of Tryz.func116 kr rfl) rfl rfl (fun w c => blocks_ok (c.rd hr) (c.own_rd (i := 0) rfl) (c.rd hv) om om om om) ?_; rintro v H' ⟨a2, c2, rfl, hs2, rfl⟩) | (refine m_storeb 2 tabs rfl rfl rfl rfl rfl rfl rfl ?_) | (refine m_storeb 2 tabs rfl rfl rfl rfl rfl rfl rfl ?_)
    refine c_nil (x_one (h_keep (fun w c => by exact c.drop.drop) ?_))
    refine h_only 7 rfl kr ?_
    first | (refine m_call (ent_of Tryz.func117 kr rfl) rfl rfl (fun w c => zero_ok (R := R) (C := D) om om) ?_; rintro v H' ⟨a1, c1, rfl, hs1, rfl⟩) | (refine m_call (ent_of Tryz.func116 kr rfl) rfl rfl (fun w c => blocks_ok (c.rd hr) (c.own_rd (i := 0) rfl) (c.rd hv) om om om om) ?_; rintro v H' ⟨a2, c2, rfl, hs2, rfl⟩) | (refine m_storeb 2 tabs rfl rfl rfl rfl rfl rfl rfl ?_) | (refine m_storeb 2 tabs rfl rfl rfl rfl rfl rfl rfl ?_)
    refine c_nil (x_one (h_keep sS ?_))
    refine h_only 8 rfl kr ?_
    first | (refine m_call (ent_of Tryz.func117 kr rfl) rfl rfl (fun w c => zero_ok (R := R) (C := D) om om) ?_; rintro v H' ⟨a1, c1, rfl, hs1, rfl⟩) | (refine m_call (ent_of Tryz.func116 kr rfl) rfl rfl (fun w c => blocks_ok (c.rd hr) (c.own_rd (i := 0) rfl) (c.rd hv) om om om om) ?_; rintro v H' ⟨a2, c2, rfl, hs2, rfl⟩) | (refine m_storeb 2 tabs rfl rfl rfl rfl rfl rfl rfl ?_) | (refine m_storeb 2 tabs rfl rfl rfl rfl rfl rfl rfl ?_)
    refine c_nil (x_one (h_keep sS ?_))
    refine h_take 9 rfl kr kr kr (by exact y_assign rfl) rfl sS ?_
    refine h_end kr ?_
    repeat' (first | (show oC; refine c_ret ?_) | (show AT _ _ _ _; refine x_then ?_))
    all_goals first
      | exact x_ret2 Tryz.results32 (res_cellb 2 tabs rfl rfl rfl rfl) (res_tmp rfl) (fun w' c' => ⟨_, _, rfl, ⟨a2, c2, by rw [mk_length], by rw [mk_length]; exact hs2, by rw [mk_length]⟩, c'.sub (.cons_cons _ (List.nil_sublist _))⟩)
      | exact absurd hM aS
      | exact absurd hN aS
  · rw [blM, if_neg hA, decide_eq_false hA]
    refine fn_enter Tryz.func32 rfl Tryz.ntmps32 rfl ?_
    have bM : ∀ m : Mat, ¬¬MatP p m → (0 ≤ m.1 ∧ m.1 ≤ 8) ∧ (0 ≤ m.2.1 ∧ m.2.1 ≤ 8) := fun m h => ⟨(Decidable.not_not.1 h).1, (Decidable.not_not.1 h).2.1⟩
    repeat' (first | (show oL; first | refine sMv rfl rfl ?_ | refine sAs rfl rfl ?_ | refine sFd tabs rfl rfl rfl rfl ?_ | (show oA (.load _ _); first | refine sLd 1 tabs rfl rfl rfl rfl rfl ?_ | refine sLd 2 tabs rfl rfl rfl rfl rfl ?_ | refine sLb 1 tabs rfl rfl rfl rfl rfl ?_ | refine sLb 2 tabs rfl rfl rfl rfl rfl ?_) | (show oA (.binOp _ _ _ _ _); first | refine st_y (y_add rfl rfl (by have h1 := bM a aS; have h2 := bM b aS; omega)) rfl ?_ | refine st_y (y_gtr rfl rfl) rfl ?_) | (show oA (.unOp _ _ _); refine st_y (y_notd rfl) rfl ?_) | (show oA (.call _); first | (refine m_call (ent_of Tryz.func24 kr rfl) rfl rfl (fun w c => impl_IsMatrix_ok (m := a) (c.rd hr)) ?_; rintro v H' ⟨rfl, rfl⟩) | (refine m_call (ent_of Tryz.func24 kr rfl) rfl rfl (fun w c => impl_IsMatrix_ok (m := b) (c.rd hv)) ?_; rintro v H' ⟨rfl, rfl⟩)) | (show oA (.pick _ _ _); first | refine st_y (y_pickt rfl aS rfl) rfl ?_ | refine st_y (y_pickf rfl aS rfl) rfl ?_ | refine st_y (y_pick rfl rfl rfl) rfl ?_) | (show oA (.store _ _ _); refine m_storeb 0 tabs rfl rfl rfl rfl rfl rfl rfl ?_) | (show oA (.box _ _); refine m_box rfl rfl (fun b5 hb5 => ?_)) | (show oA (.alloc _); refine m_alloc tabs rfl rfl (fun bq hbq => ?_)) | (show oA (.build _ _); refine st_y (y_bld0 bld_mat0) rfl ?_) | refine st_gn rfl rfl rfl ?_ | refine st_gfy rfl rfl aS ?_ | refine st_gfn rfl rfl aS rfl ?_ | refine st_gd rfl rfl (fun h => ?_) (fun h => ?_)) | refine xNt ?_ | (show oC; first | refine c_seq ?_ | refine c_region ?_ | refine c_skip (x_then ?_) | refine c_ret ?_ | refine c_draw kr kr (fun _ c => Hp.drew c) ?_ | refine c_true rfl ?_ | refine c_if rfl (fun h => ?_) (fun h => ?_)) | (show QT _ _ _ _ _ _ (_ :: _); first | refine qFd tabs rfl rfl rfl rfl ?_ | (show qA (.load _ _); first | refine qLd 1 tabs rfl rfl rfl rfl rfl ?_ | refine qLd 2 tabs rfl rfl rfl rfl rfl ?_ | refine qLb 2 tabs rfl rfl rfl rfl rfl ?_)) | (show AT _ _ _ _; refine x_then_ret ?_))
    all_goals first
      | exact absurd ⟨by first | assumption | exact Decidable.not_not.1 aS, by first | assumption | exact Decidable.not_not.1 aS, by omega, by omega⟩ hA
      | exact x_ret2 Tryz.results32 (res_cellb 0 tabs rfl rfl rfl rfl) (res_tmp rfl) (fun w' c' => ⟨_, _, rfl, ⟨none, 0, rfl, .inl rfl, rfl⟩, Hp.nilp _ _ (c'.sub (List.nil_sublist _))⟩)
theorem spec_BlockSum_ok {w : World} {p : Int} {a b : Mat} {u v : Value} (hr : Rd w (iT a.2.2) u) (hv : Rd w (iT b.2.2) v) : Does Tryz.prog 33 [iV p, .agg #[iV a.1, iV a.2.1, u], .agg #[iV b.1, iV b.2.1, v]] w (GivesMB (blM p a b) (decide (BlP p a b))) := by
  by_cases hA : BlP p a b
  · rw [decide_eq_true hA]
    have hM := hA.1
    have hN := hA.2.1
    obtain ⟨R, C, S, D, f, g, rfl, rfl, hR, hC, hF, hf, hg, e⟩ := blM_of hA
    rw [e]
    simp only at hr hv ⊢
    refine fn_enter Tryz.func33 rfl Tryz.ntmps33 rfl ?_
    repeat' (first | (show oL; first | refine sMv rfl rfl ?_ | refine sAs rfl rfl ?_ | refine sFd tabs rfl rfl rfl rfl ?_ | (show oA (.load _ _); first | refine sLd 1 tabs rfl rfl rfl rfl rfl ?_ | refine sLd 2 tabs rfl rfl rfl rfl rfl ?_ | refine sLb 1 tabs rfl rfl rfl rfl rfl ?_ | refine sLb 2 tabs rfl rfl rfl rfl rfl ?_) | (show oA (.binOp _ _ _ _ _); first | refine sAd rfl rfl om rfl ?_ | refine st_y (y_gtr rfl rfl) rfl ?_) | (show oA (.unOp _ _ _); refine st_y (y_notd rfl) rfl ?_) | (show oA (.call _); first | (refine m_call (ent_of Tryz.func22 kr rfl) rfl rfl (fun w c => spec_IsMatrix_ok (m := (↑R, ↑C, mk R C f)) (c.rd hr)) ?_; rintro v H' ⟨rfl, rfl⟩) | (refine m_call (ent_of Tryz.func22 kr rfl) rfl rfl (fun w c => spec_IsMatrix_ok (m := (↑S, ↑D, mk S D g)) (c.rd hv)) ?_; rintro v H' ⟨rfl, rfl⟩) | (refine m_call (ent_of Tryz.func118 kr rfl) rfl rfl (fun w c => l3Block_ok (c.rd hr) (c.rd hv) om om om om) ?_; rintro v H' ⟨a2, c2, rfl, hs2, rfl⟩)) | (show oA (.pick _ _ _); first | refine st_y (y_pickt rfl aO rfl) rfl ?_ | refine st_y (y_pickf rfl aO rfl) rfl ?_ | refine st_y (y_pick rfl rfl rfl) rfl ?_) | (show oA (.store _ _ _); refine m_storeb 1 tabs rfl rfl rfl rfl rfl rfl rfl ?_) | (show oA (.box _ _); refine m_box rfl rfl (fun b5 hb5 => ?_)) | (show oA (.alloc _); refine m_alloc tabs rfl rfl (fun bq hbq => ?_)) | refine st_gn rfl rfl rfl ?_ | refine st_gfy rfl rfl aO ?_ | refine st_gfn rfl rfl aO rfl ?_ | refine st_gd rfl rfl (fun h => ?_) (fun h => ?_)) | refine xNt ?_ | (show oC; first | refine c_seq ?_ | refine c_region ?_ | refine c_skip (x_then ?_) | refine c_ret ?_ | refine c_true rfl ?_ | refine c_iff rfl nN ?_))
    all_goals first
      | exact x_ret2 Tryz.results33 (res_cellb 1 tabs rfl rfl rfl rfl) (res_tmp rfl) (fun w' c' => ⟨_, _, rfl, ⟨a2, c2, by rw [mk_length], by rw [mk_length]; exact hs2, by rw [mk_length]⟩, c'.sub (.cons_cons _ (List.nil_sublist _))⟩)
      | exact absurd hM aS
      | exact absurd hN aS
  · rw [blM, if_neg hA, decide_eq_false hA]
    refine fn_enter Tryz.func33 rfl Tryz.ntmps33 rfl ?_
    have bM : ∀ m : Mat, ¬¬MatP p m → (0 ≤ m.1 ∧ m.1 ≤ 8) ∧ (0 ≤ m.2.1 ∧ m.2.1 ≤ 8) := fun m h => ⟨(Decidable.not_not.1 h).1, (Decidable.not_not.1 h).2.1⟩
    repeat' (first | (show oL; first | refine sMv rfl rfl ?_ | refine sAs rfl rfl ?_ | refine sFd tabs rfl rfl rfl rfl ?_ | (show oA (.load _ _); first | refine sLd 1 tabs rfl rfl rfl rfl rfl ?_ | refine sLd 2 tabs rfl rfl rfl rfl rfl ?_ | refine sLb 1 tabs rfl rfl rfl rfl rfl ?_ | refine sLb 2 tabs rfl rfl rfl rfl rfl ?_) | (show oA (.binOp _ _ _ _ _); first | refine st_y (y_add rfl rfl (by have h1 := bM a aS; have h2 := bM b aS; omega)) rfl ?_ | refine st_y (y_gtr rfl rfl) rfl ?_) | (show oA (.unOp _ _ _); refine st_y (y_notd rfl) rfl ?_) | (show oA (.call _); first | (refine m_call (ent_of Tryz.func22 kr rfl) rfl rfl (fun w c => spec_IsMatrix_ok (m := a) (c.rd hr)) ?_; rintro v H' ⟨rfl, rfl⟩) | (refine m_call (ent_of Tryz.func22 kr rfl) rfl rfl (fun w c => spec_IsMatrix_ok (m := b) (c.rd hv)) ?_; rintro v H' ⟨rfl, rfl⟩)) | (show oA (.pick _ _ _); first | refine st_y (y_pickt rfl aS rfl) rfl ?_ | refine st_y (y_pickf rfl aS rfl) rfl ?_ | refine st_y (y_pick rfl rfl rfl) rfl ?_) | (show oA (.store _ _ _); refine m_storeb 0 tabs rfl rfl rfl rfl rfl rfl rfl ?_) | (show oA (.box _ _); refine m_box rfl rfl (fun b5 hb5 => ?_)) | (show oA (.alloc _); refine m_alloc tabs rfl rfl (fun bq hbq => ?_)) | (show oA (.build _ _); refine st_y (y_bld0 bld_mat0) rfl ?_) | refine st_gn rfl rfl rfl ?_ | refine st_gfy rfl rfl aS ?_ | refine st_gfn rfl rfl aS rfl ?_ | refine st_gd rfl rfl (fun h => ?_) (fun h => ?_)) | refine xNt ?_ | (show oC; first | refine c_seq ?_ | refine c_region ?_ | refine c_skip (x_then ?_) | refine c_ret ?_ | refine c_true rfl ?_ | refine c_if rfl (fun h => ?_) (fun h => ?_)) | (show AT _ _ _ _; refine x_then_ret ?_))
    all_goals first
      | exact absurd ⟨by first | assumption | exact Decidable.not_not.1 aS, by first | assumption | exact Decidable.not_not.1 aS, by omega, by omega⟩ hA
      | exact x_ret2 Tryz.results33 (res_cellb 0 tabs rfl rfl rfl rfl) (res_tmp rfl) (fun w' c' => ⟨_, _, rfl, ⟨none, 0, rfl, .inl rfl, rfl⟩, Hp.nilp _ _ (c'.sub (List.nil_sublist _))⟩)
end Go.Proofs.YtdnhmnnccfoliaaGreatDoor
