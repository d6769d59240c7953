import Derived.Test.YtcplmeajmpkpkaaGreatLCqsp
import Derived.Test.YtcplmeajmpkpkaaGreatQuiqsp
import Derived.Test.YtcplmeajmpkpkaaGreatRdIqsp
namespace Go.Proofs.YtcplmeajmpkpkaaGreat
open Go.Lg Go.Proofs Go.RowKit
attribute [local irreducible] Code.wp wpList bodyPost Exit.then Exit.inBlock Hp Again Calls Y AT ResV QT Qn QI wpAny wpAnyQ
set_option maxRecDepth 20000
set_option maxHeartbeats 4000000

theorem rows_sl (i : Nat) {M : List Nat} {w0 : World} {H : List HE} {e m c : Nat} {rs : List (List Int)} {a : Option Addr} (hi : H[i]? = some (.own (rowsT e rs) (.slice a m c))) : ∀ w, Hp M w0 H w → SA a rs.length := fun w cw => by
  obtain ⟨a', c', h1, h2, _⟩ := rd_rows (cw.own_rd hi)
  cases h1
  exact h2
def GivesK (R C : Nat) (f : Nat → Nat → Int) (r : Value) (H : List HE) : Prop := ∃ a c, r = .agg #[iV R, iV C, .slice a (R * C) c] ∧ SA a (R * C) ∧ H = [.own (iT (mk R C f)) (.slice a (R * C) c)]
theorem mk_zero {R C : Nat} : List.replicate (R * C) (0 : Int) = mk R C (fun _ _ => 0) := by
  apply List.ext_getElem?
  intro q
  by_cases hq : q < R * C
  · simp [mk, hq]
  · rw [List.getElem?_eq_none (by simp; omega), List.getElem?_eq_none (by simp; omega)]
theorem rc_le {R C : Nat} (hR : R ≤ 1024) (hC : C ≤ 1024) : R * C ≤ 1048576 := by
  have := Nat.mul_le_mul hR hC; omega
theorem zero_ok {w : World} {R C : Nat} (hR : R ≤ 1024) (hC : C ≤ 1024) : Does Tryz.prog 95 [iV R, iV C] w (GivesK R C (fun _ _ => 0)) := by
  have hRC := rc_le hR hC
  refine fn_enter Tryz.func95 rfl Tryz.ntmps95 rfl ?_
  repeat' (first | (show oL; first | refine sMv rfl rfl ?_ | (show oA (.binOp _ _ _ _ _); refine st_y (y_muln rfl rfl rfl rfl om) rfl ?_) | (show oA (.store _ _ _); refine m_storeb 1 tabs rfl rfl rfl rfl rfl rfl rfl ?_) | (show oA (.alloc _); refine m_alloc tabs rfl rfl (fun bq hbq => ?_)) | (show oA (.makeSlice _ _ _); refine m_maken tabs (m := R * C) rfl rfl rfl rfl om rfl (fun g hg => ?_)) | (show oA (.build _ _); refine st_y (y_bld3 (bld_mat _ _ _ _ _) rfl rfl rfl) rfl ?_)) | refine xNt ?_ | (show oC; first | refine c_seq ?_ | refine c_region ?_ | refine c_ret ?_))
  rw [mk_zero]
  exact x_ret1 Tryz.results95 (res_cellb 1 tabs rfl rfl rfl rfl) (fun w' c' => ⟨_, _, rfl, ⟨_, _, rfl, .mk, rfl⟩, c'.sub (.cons_cons _ (List.nil_sublist _))⟩)

theorem l3Zero_ok {w : World} {R C : Nat} (hR : R ≤ 1024) (hC : C ≤ 1024) : Does Tryz.prog 81 [iV R, iV C] w (GivesK R C (fun _ _ => 0)) := by
  have hRC := rc_le hR hC
  refine fn_enter Tryz.func81 rfl Tryz.ntmps81 rfl ?_
  repeat' (first | (show oL; first | refine sMv rfl rfl ?_ | (show oA (.binOp _ _ _ _ _); refine st_y (y_muln rfl rfl rfl rfl om) rfl ?_) | (show oA (.store _ _ _); refine m_storeb 1 tabs rfl rfl rfl rfl rfl rfl rfl ?_) | (show oA (.alloc _); refine m_alloc tabs rfl rfl (fun bq hbq => ?_)) | (show oA (.makeSlice _ _ _); refine m_maken tabs (m := R * C) rfl rfl rfl rfl om rfl (fun g hg => ?_)) | (show oA (.build _ _); refine st_y (y_bld3 (bld_mat _ _ _ _ _) rfl rfl rfl) rfl ?_)) | refine xNt ?_ | (show oC; first | refine c_seq ?_ | refine c_region ?_ | refine c_ret ?_))
  rw [mk_zero]
  exact x_ret1 Tryz.results81 (res_cellb 1 tabs rfl rfl rfl rfl) (fun w' c' => ⟨_, _, rfl, ⟨_, _, rfl, .mk, rfl⟩, c'.sub (.cons_cons _ (List.nil_sublist _))⟩)

def mkv (n : Nat) (g : Nat → Int) : List Int := (List.range n).map g
@[simp] theorem mkv_length {n : Nat} {g : Nat → Int} : (mkv n g).length = n := by simp [mkv]
theorem mkv_get {n i : Nat} {g : Nat → Int} (h : i < n) : (mkv n g).getD i 0 = g i := by simp [mkv, List.getD, h]
theorem mkv_ext {n : Nat} {f g : Nat → Int} (h : ∀ i, i < n → f i = g i) : mkv n f = mkv n g := List.map_congr_left (fun i hi => h i (List.mem_range.1 hi))
theorem mkv_zero {n : Nat} : List.replicate n (0 : Int) = mkv n (fun _ => 0) := by
  apply List.ext_getElem?
  intro q
  by_cases hq : q < n
  · simp [mkv, hq]
  · rw [List.getElem?_eq_none (by simp; omega), List.getElem?_eq_none (by simp; omega)]
theorem mkv_set {n i : Nat} {g : Nat → Int} {v : Int} : (mkv n g).set i v = mkv n (fun q => if q = i then v else g q) := by
  apply List.ext_getElem?
  intro q
  rw [List.getElem?_set]
  by_cases hq : i = q
  · subst hq
    by_cases hi : i < n
    · simp [mkv, hi]
    · simp [mkv, hi]
  · by_cases hn : q < n
    · have hq' : ¬ q = i := fun h => hq h.symm
      simp [mkv, hn, hq, hq']
    · simp [mkv, hn, hq]
theorem mkv_of {n : Nat} {l : List Int} (h : l.length = n) : l = mkv n (fun i => l.getD i 0) := by
  apply List.ext_getElem?
  intro q
  by_cases hq : q < n
  · simp [mkv, hq, h]
  · rw [List.getElem?_eq_none om, List.getElem?_eq_none (by simp; omega)]
theorem hc_rdk {w0 : World} {M : List Nat} {H : List HE} {e R C r c : Nat} {f : Nat → Nat → Int} {a : Option Addr} {n cc : Nat} (hr : RdOut w0 M (ints e (mk R C f)) (.slice a n cc)) (hi : r < R) (hj : c < C) : ∀ w, Hp M w0 H w → w.cell? ⟨ab a, ao a + (r * C + c), none⟩ = some (.int .i64 (f r c)) := fun w cw => by
  obtain ⟨a', c', h1, _, _, _, h5⟩ := (hr.rd cw).ints
  cases h1
  have := h5 (r * C + c) (by rw [mk_length]; exact cell_lt hi hj)
  rwa [mk_get hi hj] at this
theorem rd_mk {w : World} {e R C : Nat} {f : Nat → Nat → Int} {v : Value} (hr : Rd w (ints e (mk R C f)) v) : ∃ a c, v = .slice a (R * C) c ∧ SA a (R * C) ∧ R * C ≤ c := by
  obtain ⟨a, c, h1, h2, h3, _⟩ := hr.ints
  rw [mk_length] at h1 h2 h3
  exact ⟨a, c, h1, h2, h3⟩

def fromF (cols : List (List Int)) : Nat → Nat → Int := fun i k => (cols.getD k []).getD i 0
theorem fromColumns_ok {w : World} {R C e : Nat} {cols : List (List Int)} {u : Value} (hr : Rd w (rowsT e cols) u) (hCe : cols.length = C) (hR : R ≤ 1024) (hC : C ≤ 1024) (hl : ∀ (k : Nat) (xs : List Int), cols[k]? = some xs → xs.length = R) :
    Does Tryz.prog 77 [iV R, u] w (GivesK R C (fromF cols)) := by
  obtain ⟨a, c, rfl, hs, hc1, hc2, hget⟩ := rd_rows hr
  rw [hCe] at hs hc1 ⊢
  have hRC := rc_le hR hC
  refine fn_enter Tryz.func77 rfl Tryz.ntmps77 rfl ?_
  repeat' (first | (show oL; first | refine sMv rfl rfl ?_ | (show oA (.call _); first | (refine m_call (ent_of Tryz.func95 kr rfl) rfl rfl (fun w c => zero_ok hR hC) ?_; rintro v H' ⟨am, cm, rfl, hsm, rfl⟩) | refine sLn tabs rfl rfl rfl ?_) | (show oA (.store _ _ _); refine m_storeb 0 tabs rfl rfl rfl rfl rfl rfl rfl ?_) | (show oA (.alloc _); refine m_alloc tabs rfl rfl (fun b2 hb2 => ?_))) | refine xNt ?_ | (show oC; first | refine c_seq ?_ | refine c_region ?_ | refine c_block ?_))
  rename_i b1 hb1
  refine c_loopH (α := Nat) [4, 5, 14, 15] (fun k => [(16, .int .i64 k)]) (fun k => k ≤ C) (fun k => [.blk b2 #[iV R, iV C, .slice am (R * C) cm] 47, .own (iT (mk R C (fun i j => if j < k then fromF cols i j else 0))) (.slice am (R * C) cm), .blk b1 #[iV 0, iV 0, .slice none 0 0] 47]) (fun k => C - k) 0 rfl sB ?_ ?_ ?_
  · omega
  · intro w' c'
    exact c'
  · intro k hk
    by_cases hkC : k < C
    · obtain ⟨xs, hx⟩ : ∃ xs, cols[k]? = some xs := ⟨_, List.getElem?_eq_getElem om⟩
      obtain ⟨a2, c2, g1, g2⟩ := hget k xs hx
      have hxl := hl k xs hx
      have hfx : ∀ i, fromF cols i k = xs.getD i 0 := fun i => by simp only [fromF, List.getD, hx]; rfl
      rw [hxl] at g1 g2
      obtain ⟨_, _, e1, hs2, hd1, hd2, hge⟩ := g2.ints
      rw [hxl] at e1 hs2 hge
      cases e1
      repeat' (first | (show oL; first | refine sMv rfl rfl ?_ | refine sAs rfl rfl ?_ | (show oA (.load _ _); refine st_y (y_load tabs rfl rfl (hc_w0 g1)) rfl ?_) | (show oA (.indexAddr _ _ _); refine st_y (y_ix1 tabs (j := k) rfl rfl rfl hs rfl hkC) rfl ?_) | refine sLs rfl rfl rfl ?_ | refine sLn tabs rfl rfl rfl ?_) | refine xNt ?_ | (show oC; first | refine c_seq ?_ | refine c_region ?_ | refine c_skip (x_then ?_) | refine c_block ?_ | refine c_ift rfl aO ?_))
      refine c_loopH (α := Nat) [4, 5, 6, 14, 15, 16, 21, 22] (fun i => [(23, .int .i64 i)]) (fun i => i ≤ R) (fun i => [.blk b2 #[iV R, iV C, .slice am (R * C) cm] 47, .own (iT (mk R C (fun a j => if j < k ∨ (j = k ∧ a < i) then fromF cols a j else 0))) (.slice am (R * C) cm), .blk b1 #[iV 0, iV 0, .slice none 0 0] 47]) (fun i => R - i) 0 rfl sB ?_ ?_ ?_
      · omega
      · intro w' c'
        have e0 : (fun a j => if j < k ∨ (j = k ∧ a < 0) then fromF cols a j else 0) = (fun (a j : Nat) => if j < k then fromF cols a j else 0) := by funext a j; simp
        rw [e0]
        exact c'
      · intro i hi
        by_cases hiR : i < R
        · have hcl := cell_lt hiR hkC
          have hcl0 := Nat.mul_le_mul_right C hi
          repeat' (first | (show oL; first | refine sMv rfl rfl ?_ | refine sAs rfl rfl ?_ | refine sFd tabs rfl rfl rfl rfl ?_ | (show oA (.load _ _); first | refine st_y (y_load tabs rfl rfl (hc_w0 (hge i hiR))) rfl ?_ | refine sLd 0 tabs rfl rfl rfl rfl rfl ?_) | (show oA (.indexAddr _ _ _); first | refine st_y (y_ix1 tabs (j := i * C + k) rfl rfl rfl hsm rfl hcl) rfl ?_ | refine st_y (y_ix1 tabs (j := i) rfl rfl rfl hs2 rfl hiR) rfl ?_) | (show oA (.binOp _ _ _ _ _); first | refine st_y (y_muln rfl rfl rfl rfl om) rfl ?_ | refine st_y (y_addn (b := k) rfl rfl rfl rfl om) rfl ?_ | refine sAd rfl rfl om rfl ?_ | refine sLs rfl rfl rfl ?_) | (show oA (.store _ _ _); refine m_storeo 1 tabs rfl rfl rfl rfl (by rw [mk_length]; exact hcl) ?_)) | (show oN; first | refine c_nil (x_then ?_) | refine c_nil ?_) | (show oC; first | refine c_seq ?_ | refine c_region ?_ | refine c_skip (x_then ?_) | refine c_block ?_ | refine c_ift rfl aO ?_) | (show AT _ _ _ _; first | refine x_then ?_ | refine x_blk ?_))
          refine x_nx (i + 1) sB om (fun w' c' => ?_) om
          simp only [List.set_cons_succ, List.set_cons_zero] at c'
          rw [mk_set hiR hkC] at c'
          have e0 : upd (fun a j => if j < k ∨ (j = k ∧ a < i) then fromF cols a j else 0) i k (xs.getD i 0) = (fun a j => if j < k ∨ (j = k ∧ a < i + 1) then fromF cols a j else 0) := by
            have := hfx i
            funext a j
            unfold upd
            grind
          rw [e0] at c'
          exact c'
        · have hie : i = R := by omega
          subst hie
          have e0 : mk i C (fun a j => if j < k ∨ (j = k ∧ a < i) then fromF cols a j else 0) = mk i C (fun a j => if j < k + 1 then fromF cols a j else 0) := mk_ext (fun a j ha hj => by grind)
          rw [e0]
          repeat' (first | (show oL; first | refine sMv rfl rfl ?_ | (show oA (.binOp _ _ _ _ _); first | refine sAd rfl rfl om rfl ?_ | refine sLs rfl rfl rfl ?_)) | refine xNt ?_ | (show oC; first | refine c_seq ?_ | refine c_region ?_ | refine c_exit ?_ | refine c_iff rfl nN ?_) | (show AT _ _ _ _; first | refine x_then ?_ | refine x_then_exit ?_ | refine x_blk_exit rfl ?_ | refine x_blk ?_))
          exact x_nx (k + 1) sB om (fun w' c' => c') om
    · have hke : k = C := by omega
      subst hke
      have e0 : mk R k (fun i j => if j < k then fromF cols i j else 0) = mk R k (fromF cols) := mk_ext (fun a j ha hj => by simp [hj])
      rw [e0]
      repeat' (first | (show oL; first | refine sLb 0 tabs rfl rfl rfl rfl rfl ?_ | refine sLs rfl rfl rfl ?_ | (show oA (.store _ _ _); refine m_storeb 2 tabs rfl rfl rfl rfl rfl rfl rfl ?_)) | refine xNt ?_ | (show oC; first | refine c_seq ?_ | refine c_region ?_ | refine c_ret ?_ | refine c_exit ?_ | refine c_iff rfl nN ?_) | (show AT _ _ _ _; first | refine x_then ?_ | refine x_then_exit ?_ | refine x_blk_exit rfl ?_))
      exact x_ret1 Tryz.results77 (res_cellb 2 tabs rfl rfl rfl rfl) (fun w' c' => ⟨_, _, rfl, ⟨am, cm, rfl, hsm, rfl⟩, c'.sub (.cons _ (.cons_cons _ (List.nil_sublist _)))⟩)
theorem inP_mk {p : Int} {R C : Nat} {f : Nat → Nat → Int} (h : inF p R C f) : InP 0 (p - 1) (mk R C f) := fun x hx => by
  obtain ⟨q, hq, rfl⟩ := List.mem_map.1 hx
  have hq' : q < R * C := List.mem_range.1 hq
  have hC : 0 < C := by
    rcases Nat.eq_zero_or_pos C with h0 | h0
    · subst h0; simp at hq'
    · exact h0
  have := h (q / C) (q % C) (Nat.div_lt_of_lt_mul (by rw [Nat.mul_comm]; exact hq')) (Nat.mod_lt _ hC)
  omega
theorem matG_mk {p : Int} {R C : Nat} {f : Nat → Nat → Int} (hF : FieldP p) (hR : R ≤ 1024) (hC : C ≤ 1024) (h : inF p R C f) : MatG p (↑R, ↑C, mk R C f) :=
  ⟨hF, by simp only; omega, by simp only; omega, by simp, inP_mk h⟩
theorem matF_mk {R C : Nat} {f : Nat → Nat → Int} {i j : Nat} (hi : i < R) (hj : j < C) : matF (↑R, ↑C, mk R C f) i j = f i j := by
  simp only [matF, Int.toNat_natCast]
  exact mk_get hi hj
theorem find_congr {p q : Nat → Bool} : ∀ {l : List Nat}, (∀ x ∈ l, p x = q x) → l.find? p = l.find? q
  | [], _ => rfl
  | x :: l, h => by
    simp only [List.find?_cons, h x (by simp)]
    rw [find_congr (fun y hy => h y (by simp [hy]))]
theorem redTo_congr {p : Int} {R C : Nat} {f g : Nat → Nat → Int} (h : ∀ i j, i < R → j < C → f i j = g i j) : ∀ k, k ≤ C → (∀ i j, i < R → j < C → (redTo p R f k).1 i j = (redTo p R g k).1 i j) ∧ (redTo p R f k).2 = (redTo p R g k).2 ∧ (redTo p R f k).2.length ≤ R
  | 0, _ => ⟨h, rfl, by simp [redTo]⟩
  | k + 1, hk => by
    obtain ⟨h1, h2, h3⟩ := redTo_congr h k om
    have ha : findAt (redTo p R f k).1 k R (redTo p R f k).2.length = findAt (redTo p R g k).1 k R (redTo p R g k).2.length := by
      rw [← h2]
      unfold findAt
      rw [find_congr (fun i hi => by rw [h1 i k (List.mem_range.1 hi) om])]
    simp only [redTo, colStep]
    rw [← ha, ← h2]
    split
    · rename_i hlt
      have hsp := findAt_spec hlt
      refine ⟨fun i j hi hj => ?_, rfl, by simp; omega⟩
      have hsw : ∀ i j, i < R → j < C → swapF (redTo p R f k).1 (redTo p R f k).2.length (findAt (redTo p R f k).1 k R (redTo p R f k).2.length) i j = swapF (redTo p R g k).1 (redTo p R f k).2.length (findAt (redTo p R f k).1 k R (redTo p R f k).2.length) i j := fun i j hi hj => by
        unfold swapF
        split
        · exact h1 _ _ hlt hj
        · split
          · exact h1 _ _ om hj
          · exact h1 _ _ hi hj
      have hsc : ∀ i j, i < R → j < C → scaleF p (invM p (swapF (redTo p R f k).1 (redTo p R f k).2.length (findAt (redTo p R f k).1 k R (redTo p R f k).2.length) (redTo p R f k).2.length k)) (swapF (redTo p R f k).1 (redTo p R f k).2.length (findAt (redTo p R f k).1 k R (redTo p R f k).2.length)) (redTo p R f k).2.length i j = scaleF p (invM p (swapF (redTo p R g k).1 (redTo p R f k).2.length (findAt (redTo p R f k).1 k R (redTo p R f k).2.length) (redTo p R f k).2.length k)) (swapF (redTo p R g k).1 (redTo p R f k).2.length (findAt (redTo p R f k).1 k R (redTo p R f k).2.length)) (redTo p R f k).2.length i j := fun i j hi hj => by
        unfold scaleF
        rw [hsw _ k om om]
        split
        · rw [hsw _ j om hj]
        · exact hsw i j hi hj
      simp only [elimF]
      split
      · exact hsc i j hi hj
      · rw [hsc i j hi hj, hsc i k hi om, hsc _ j om hj]
    · exact ⟨h1, h2, h3⟩
theorem redM_mk {p : Int} {R C : Nat} {f : Nat → Nat → Int} : redM p (↑R, ↑C, mk R C f) = (↑R, ↑C, mk R C (redTo p R f C).1) := by
  simp only [redM, Int.toNat_natCast]
  congr 2
  exact mk_ext (fun i j hi hj => (redTo_congr (C := C) (fun i j hi hj => matF_mk hi hj) C (Nat.le_refl _)).1 i j hi hj)
theorem redL_mk {p : Int} {R C : Nat} {f : Nat → Nat → Int} : redL p (↑R, ↑C, mk R C f) = (redTo p R f C).2 := by
  simp only [redL, Int.toNat_natCast]
  exact (redTo_congr (C := C) (fun i j hi hj => matF_mk hi hj) C (Nat.le_refl _)).2.1
abbrev GivesRedK (R C : Nat) (f : Nat → Nat → Int) (l : List Int) (v : Value) (H : List HE) : Prop := ∃ a c a' c', v = .tuple #[.agg #[iV R, iV C, .slice a (R * C) c], .slice a' l.length c'] ∧ SA a (R * C) ∧ SA a' l.length ∧ H = [.own (iT l) (.slice a' l.length c'), .own (iT (mk R C f)) (.slice a (R * C) c)]
theorem reduceK_ok {w : World} {p : Int} {R C : Nat} {f : Nat → Nat → Int} {u : Value} (hr : Rd w (iT (mk R C f)) u) (hF : FieldP p) (hR : R ≤ 1024) (hC : C ≤ 1024) (h : inF p R C f) :
    Does Tryz.prog 87 [iV p, .agg #[iV R, iV C, u]] w (GivesRedK R C (redTo p R f C).1 (redTo p R f C).2) := by
  refine (reduce_ok (m := (↑R, ↑C, mk R C f)) hr (matG_mk hF hR hC h)).mono ?_
  rintro e w' ⟨v, H, rfl, ⟨a, c, a', c', rfl, hs, hs', rfl⟩, hp⟩
  rw [redM_mk, redL_mk] at *
  simp only [mk_length] at *
  exact ⟨_, _, rfl, ⟨a, c, a', c', rfl, hs, hs', rfl⟩, hp⟩
theorem l4ReduceK_ok {w : World} {p : Int} {R C : Nat} {f : Nat → Nat → Int} {u : Value} (hr : Rd w (iT (mk R C f)) u) (hF : FieldP p) (hR : R ≤ 1024) (hC : C ≤ 1024) (h : inF p R C f) :
    Does Tryz.prog 82 [iV p, .agg #[iV R, iV C, u]] w (GivesRedK R C (redTo p R f C).1 (redTo p R f C).2) := by
  refine (l4Reduce_ok (m := (↑R, ↑C, mk R C f)) hr (matG_mk hF hR hC h)).mono ?_
  rintro e w' ⟨v, H, rfl, ⟨a, c, a', c', rfl, hs, hs', rfl⟩, hp⟩
  rw [redM_mk, redL_mk] at *
  simp only [mk_length] at *
  exact ⟨_, _, rfl, ⟨a, c, a', c', rfl, hs, hs', rfl⟩, hp⟩
end Go.Proofs.YtcplmeajmpkpkaaGreat
