import Derived.Test.YtdnhmnnccfoliaaGreatDoorCopqrp
import Derived.Test.YtdnhmnnccfoliaaGreatDoorPrdqrp
namespace Go.Proofs.YtdnhmnnccfoliaaGreatDoor
open Go.Lg Go.Proofs Go.RowKit

theorem findAt_step {f : Nat → Nat → Int} {k R t : Nat} (h : t < R) : findAt f k R t = if f t k = 0 then findAt f k R (t + 1) else t := by
  split
  · rename_i hz
    rcases Nat.lt_or_ge (findAt f k R (t + 1)) R with h1 | h1
    · have h2 := findAt_spec h1
      refine findAt_eq h1 om h2.2 (fun i hi hj => ?_)
      by_cases hit : i = t
      · subst hit; exact hz
      · exact Decidable.byContradiction (fun hn => by
          have := findAt_min (f := f) (k := k) (R := R) (r := t + 1) (i := i) om om hn
          omega)
    · have h3 := findAt_le (f := f) (k := k) (R := R) (r := t + 1)
      have h4 : findAt f k R (t + 1) = R := by omega
      rw [h4]
      refine findAt_none (fun i hi hj => ?_)
      by_cases hit : i = t
      · subst hit; exact hz
      · exact Decidable.byContradiction (fun hn => by
          have := findAt_min (f := f) (k := k) (R := R) (r := t + 1) (i := i) om om hn
          omega)
  · rename_i hz
    exact findAt_eq h (Nat.le_refl _) hz (fun i hi hj => by omega)
theorem findAt_ge {f : Nat → Nat → Int} {k R t : Nat} (h : R ≤ t) : findAt f k R t = R := findAt_none (fun i hi hj => by omega)
def atv (f : Nat → Nat → Int) (k R t : Nat) : Int := if findAt f k R t < R then (findAt f k R t : Int) else -1

theorem atv_hit {f : Nat → Nat → Int} {k R t : Nat} (h : t < R) (hf : f t k ≠ 0) : atv f k R t = t := by
  unfold atv
  rw [findAt_step h, if_neg hf, if_pos h]
theorem atv_miss {f : Nat → Nat → Int} {k R t : Nat} (h : t < R) (hf : f t k = 0) : atv f k R t = atv f k R (t + 1) := by
  unfold atv
  rw [findAt_step h, if_pos hf]
def inF (p : Int) (R C : Nat) (f : Nat → Nat → Int) : Prop := ∀ i j, i < R → j < C → 0 ≤ f i j ∧ f i j < p
theorem inF_swap {p : Int} {R C r a : Nat} {f : Nat → Nat → Int} (h : inF p R C f) (hr : r < R) (ha : a < R) : inF p R C (swapF f r a) := fun i j hi hj => by
  unfold swapF
  split
  · exact h a j ha hj
  · split
    · exact h r j hr hj
    · exact h i j hi hj
theorem inF_scale {p v : Int} {R C r : Nat} {f : Nat → Nat → Int} (hp : 0 < p) (h : inF p R C f) : inF p R C (scaleF p v f r) := fun i j hi hj => by
  unfold scaleF
  split
  · exact ⟨Int.emod_nonneg _ om, Int.emod_lt_of_pos _ hp⟩
  · exact h i j hi hj
theorem inF_elim {p : Int} {R C r k : Nat} {f : Nat → Nat → Int} (hp : 0 < p) (h : inF p R C f) : inF p R C (elimF p f r k) := fun i j hi hj => by
  unfold elimF
  split
  · exact h i j hi hj
  · exact ⟨Int.emod_nonneg _ om, Int.emod_lt_of_pos _ hp⟩
theorem colStep_in {p : Int} {R C k : Nat} {st : (Nat → Nat → Int) × List Int} (hp : 0 < p) (h : inF p R C st.1) (hl : st.2.length ≤ R) : inF p R C (colStep p R k st).1 ∧ (colStep p R k st).2.length ≤ R := by
  unfold colStep
  simp only
  split
  · rename_i ha
    have h1 := findAt_spec ha
    refine ⟨inF_elim hp (inF_scale hp (inF_swap h om ha)), ?_⟩
    simp; omega
  · exact ⟨h, hl⟩
theorem redTo_in {p : Int} {R C : Nat} {f : Nat → Nat → Int} (hp : 0 < p) (h : inF p R C f) : ∀ k, inF p R C (redTo p R f k).1 ∧ (redTo p R f k).2.length ≤ R
  | 0 => ⟨h, by simp [redTo]⟩
  | k + 1 => colStep_in hp (redTo_in hp h k).1 (redTo_in hp h k).2
theorem redTo_skip {p : Int} {R : Nat} {f : Nat → Nat → Int} {k : Nat} (h : findAt (redTo p R f k).1 k R (redTo p R f k).2.length = R) : redTo p R f (k + 1) = redTo p R f k := by
  simp only [redTo, colStep]
  rw [if_neg om]
theorem redTo_full {p : Int} {R : Nat} {f : Nat → Nat → Int} {k : Nat} (h : R ≤ (redTo p R f k).2.length) : ∀ d, redTo p R f (k + d) = redTo p R f k
  | 0 => rfl
  | d + 1 => by
    have ih := redTo_full h d
    rw [← Nat.add_assoc, redTo_skip (findAt_ge (by rw [ih]; exact h)), ih]
theorem redTo_next {p : Int} {R : Nat} {f : Nat → Nat → Int} {k : Nat} (h : findAt (redTo p R f k).1 k R (redTo p R f k).2.length < R) :
    redTo p R f (k + 1) = (elimF p (scaleF p (invM p (swapF (redTo p R f k).1 (redTo p R f k).2.length (findAt (redTo p R f k).1 k R (redTo p R f k).2.length) (redTo p R f k).2.length k)) (swapF (redTo p R f k).1 (redTo p R f k).2.length (findAt (redTo p R f k).1 k R (redTo p R f k).2.length)) (redTo p R f k).2.length) (redTo p R f k).2.length k, (redTo p R f k).2 ++ [(k : Int)]) := by
  simp only [redTo, colStep]
  rw [if_pos h]
theorem redL_length {p : Int} {R : Nat} {f : Nat → Nat → Int} : ∀ k, (redTo p R f k).2.length ≤ k
  | 0 => by simp [redTo]
  | k + 1 => by
    have := redL_length (p := p) (R := R) (f := f) k
    simp only [redTo, colStep]
    split
    · simp; omega
    · omega

def MatG (p : Int) (m : Mat) : Prop := FieldP p ∧ (0 ≤ m.1 ∧ m.1 ≤ 1024) ∧ (0 ≤ m.2.1 ∧ m.2.1 ≤ 1024) ∧ (m.2.2.length : Int) = m.1 * m.2.1 ∧ InP 0 (p - 1) m.2.2
theorem MatP.g {p : Int} {m : Mat} (h : MatP p m) : MatG p m := by
  obtain ⟨⟨h1, h2⟩, ⟨h3, h4⟩, h5, h6, h7, h8⟩ := h
  exact ⟨h6, ⟨h1, by omega⟩, ⟨h3, by omega⟩, h5, h8⟩
theorem matG_size {R C : Nat} (hR : (R : Int) ≤ 1024) (hC : (C : Int) ≤ 1024) : R * C ≤ 1048576 := by
  have := Nat.mul_le_mul (show R ≤ 1024 by omega) (show C ≤ 1024 by omega)
  omega

def swapTo (f : Nat → Nat → Int) (r a c : Nat) : Nat → Nat → Int := fun i j => if j < c then swapF f r a i j else f i j
def scaleTo (p v : Int) (f : Nat → Nat → Int) (r c : Nat) : Nat → Nat → Int := fun i j => if j < c then scaleF p v f r i j else f i j
def elimTo (p : Int) (f : Nat → Nat → Int) (r k n : Nat) : Nat → Nat → Int := fun i j => if i < n then elimF p f r k i j else f i j
def elimAt (p : Int) (f : Nat → Nat → Int) (r k n c : Nat) : Nat → Nat → Int := fun i j => if i < n ∨ (i = n ∧ j < c) then elimF p f r k i j else f i j
theorem swapTo_next {f : Nat → Nat → Int} {r a c : Nat} : upd (upd (swapTo f r a c) r c (f a c)) a c (f r c) = swapTo f r a (c + 1) := by
  funext i j
  unfold upd swapTo swapF
  grind
theorem scaleTo_next {p v : Int} {f : Nat → Nat → Int} {r c : Nat} : upd (scaleTo p v f r c) r c (v * f r c % p) = scaleTo p v f r (c + 1) := by
  funext i j
  unfold upd scaleTo scaleF
  grind
theorem elimAt_next {p : Int} {f : Nat → Nat → Int} {r k n c : Nat} (h : n ≠ r) : upd (elimAt p f r k n c) n c ((f n c - f n k * f r c) % p) = elimAt p f r k n (c + 1) := by
  funext i j
  unfold upd elimAt elimF
  grind
theorem elimAt_zero {p : Int} {f : Nat → Nat → Int} {r k n : Nat} : elimAt p f r k n 0 = elimTo p f r k n := by
  funext i j
  unfold elimAt elimTo
  grind
theorem elimAt_self {p : Int} {f : Nat → Nat → Int} {r k c : Nat} : elimAt p f r k r c = elimTo p f r k (r + 1) := by
  funext i j
  unfold elimAt elimTo elimF
  grind
theorem elimAt_full {p : Int} {f : Nat → Nat → Int} {R C r k n : Nat} : mk R C (elimAt p f r k n C) = mk R C (elimTo p f r k (n + 1)) := mk_ext (fun i j hi hj => by
  unfold elimAt elimTo
  grind)
theorem elimAt_row {p : Int} {f : Nat → Nat → Int} {r k n c j : Nat} : elimAt p f r k n c r j = f r j := by
  unfold elimAt elimF
  grind
theorem elimAt_cur {p : Int} {f : Nat → Nat → Int} {r k n c : Nat} : elimAt p f r k n c n c = f n c := by
  unfold elimAt
  grind
end Go.Proofs.YtdnhmnnccfoliaaGreatDoor

namespace Go.Proofs.YtdnhmnnccfoliaaGreatDoor
open Go.Lg Go.Proofs Go.RowKit
attribute [local irreducible] Code.wp wpList bodyPost Exit.then Exit.inBlock Hp Again Calls Y AT ResV QT
set_option maxRecDepth 20000
set_option maxHeartbeats 4000000

theorem inP_take {lo hi : Int} {xs : List Int} {i : Nat} (h : InP lo hi (xs.take i)) (hi' : i < xs.length) (hx : lo ≤ xs.getD i 0 ∧ xs.getD i 0 ≤ hi) : InP lo hi (xs.take (i + 1)) := by
  intro x hm
  rw [take_next (z := 0) hi'] at hm
  rcases List.mem_append.1 hm with hm | hm
  · exact h x hm
  · simp only [List.mem_singleton] at hm
    subst hm; exact hx
theorem inP_not {lo hi : Int} {xs : List Int} {i : Nat} (hi' : i < xs.length) (hx : ¬ (lo ≤ xs.getD i 0 ∧ xs.getD i 0 ≤ hi)) : ¬ InP lo hi xs := fun h => hx (h _ (by
  have : xs.getD i 0 = xs[i] := by simp [List.getD, hi']
  rw [this]; exact List.getElem_mem hi'))
theorem inP_get {lo hi : Int} {xs : List Int} {i : Nat} (h : InP lo hi xs) (hi' : i < xs.length) : lo ≤ xs.getD i 0 ∧ xs.getD i 0 ≤ hi := h _ (by
  have : xs.getD i 0 = xs[i] := by simp [List.getD, hi']
  rw [this]; exact List.getElem_mem hi')

theorem spec_IsVector_ok {w : World} {p : Int} {v : Value} {xs : List Int} (hr : Rd w (iT xs) v) : Does Tryz.prog 105 [iV p, v] w (fun v H => v = .bool (decide (VecP p xs)) ∧ H = []) := by
  obtain ⟨a, c, rfl, hs, hc1, hc2, hget⟩ := hr.ints
  unfold maxLen at hc2
  refine fn_enter Tryz.func105 rfl Tryz.ntmps105 rfl ?_
  repeat' (first | (show oL; first | refine sMv rfl rfl ?_ | refine sAs rfl rfl ?_ | (show oA (.binOp _ _ _ _ _); refine st_y (y_gtr rfl rfl) rfl ?_) | (show oA (.unOp _ _ _); refine st_y (y_notd rfl) rfl ?_) | (show oA (.call _); first | (refine m_call (ent_of Tryz.func76 kr rfl) rfl rfl (fun w c => spec_IsField_ok p) ?_; rintro v H' ⟨rfl, rfl⟩) | refine sLn tabs rfl rfl rfl ?_) | (show oA (.pick _ _ _); first | refine st_y (y_pickt rfl aS rfl) rfl ?_ | refine st_y (y_pickf rfl aS rfl) rfl ?_) | refine st_gfy rfl rfl aS ?_ | refine st_gfn rfl rfl aS rfl ?_ | refine st_gd rfl rfl (fun h => ?_) (fun h => ?_)) | refine xNt ?_ | (show oC; first | refine c_seq ?_ | refine c_region ?_ | refine c_skip (x_then ?_) | refine c_block ?_ | refine c_ret ?_ | refine c_true rfl ?_ | refine c_if rfl (fun h => ?_) (fun h => ?_)) | (show AT _ _ _ _; refine x_then_ret ?_))
  · refine x_ret1 Tryz.results105 (res_tmp rfl) (fun w c => ⟨_, _, rfl, ⟨congrArg Value.bool ?_, rfl⟩, c⟩)
    simp_all [VecP]
  · refine x_ret1 Tryz.results105 (res_tmp rfl) (fun w c => ⟨_, _, rfl, ⟨congrArg Value.bool ?_, rfl⟩, c⟩)
    have : ¬ VecP p xs := fun hv => by have := hv.2.1; omega
    simp [this]
  · have hF : FieldP p := by simp_all
    have hp : p ≤ 5 ∧ 2 ≤ p := by unfold FieldP at hF; omega
    refine c_loop (fun i : Nat => [(0, iV p), (1, .slice a xs.length c), (5, .int .i64 i)])
      (fun i w' => (i ≤ xs.length ∧ InP 0 (p - 1) (xs.take i)) ∧ Hp [] w [] w') (fun i => xs.length - i) 0 ?_ ?_ ?_
    · exact sB
    · intro w' c'
      exact ⟨⟨by omega, by intro x hx; simp at hx⟩, c'⟩
    · intro i
      refine AT.pr (fun ⟨hi, hn⟩ => ?_)
      repeat' (first | (show oL; first | refine sMv rfl rfl ?_ | refine sAs rfl rfl ?_ | (show oA (.load _ _); refine st_y (y_load tabs rfl rfl (hc_w0 (hget _ om))) rfl ?_) | (show oA (.indexAddr _ _ _); refine st_y (y_ix1 tabs rfl rfl rfl mK rfl om) rfl ?_) | (show oA (.binOp _ _ _ _ _); first | refine sAd rfl rfl om rfl ?_ | refine st_y (y_sub rfl rfl om) rfl ?_ | refine sLs rfl rfl rfl ?_) | (show oA (.unOp _ _ _); refine st_y (y_notd rfl) rfl ?_) | (show oA (.call _); first | (refine m_call (ent_of Tryz.func104 kr rfl) rfl rfl (fun w c => l1In_ok _ _ _) ?_; rintro v H' ⟨rfl, rfl⟩) | refine sLn tabs rfl rfl rfl ?_)) | refine xNt ?_ | (show oC; first | refine c_seq ?_ | refine c_region ?_ | refine c_skip (x_then ?_) | refine c_skip (x_blk ?_) | refine c_block ?_ | refine c_ret ?_ | refine c_exit ?_ | refine c_ifnd rfl (fun h => ?_) (fun h => ?_) | refine c_if rfl (fun h => ?_) (fun h => ?_)) | (show AT _ _ _ _; first | refine x_then ?_ | refine x_then_ret ?_ | refine x_blk_ret ?_ | refine x_then_exit ?_ | refine x_blk_exit rfl ?_))
      · refine x_ret1 Tryz.results105 (res_tmp rfl) (fun w c => ⟨_, _, rfl, ⟨congrArg Value.bool ?_, rfl⟩, c⟩)
        have : ¬ VecP p xs := fun hv => inP_not om h hv.2.2
        simp [this]
      · refine x_next (i + 1) sB (fun w' c' => ⟨⟨by omega, inP_take hn om (by simpa using h)⟩, c'⟩) om
      · refine x_ret1 Tryz.results105 (res_tmp rfl) (fun w c => ⟨_, _, rfl, ⟨congrArg Value.bool ?_, rfl⟩, c⟩)
        rw [take_end om] at hn
        have : VecP p xs := ⟨hF, by omega, hn⟩
        simp [this]

theorem impl_IsVector_ok {w : World} {p : Int} {v : Value} {xs : List Int} (hr : Rd w (iT xs) v) : Does Tryz.prog 107 [iV p, v] w (fun v H => v = .bool (decide (VecP p xs)) ∧ H = []) := by
  obtain ⟨a, c, rfl, hs, hc1, hc2, hget⟩ := hr.ints
  unfold maxLen at hc2
  have hF : FieldP p → p ≤ 5 ∧ 2 ≤ p := by unfold FieldP; omega
  refine fn_enter Tryz.func107 rfl Tryz.ntmps107 rfl ?_
  repeat' (first | (show oL; first | refine sMv rfl rfl ?_ | refine sAs rfl rfl ?_ | (show oA (.binOp _ _ _ _ _); first | refine st_y (y_sub rfl rfl (by have := hF aS; omega)) rfl ?_ | refine st_y (y_leq rfl rfl) rfl ?_) | (show oA (.call _); first | (refine m_call (ent_of Tryz.func131 kr rfl) rfl rfl (fun w c => impl_IsField_ok p) ?_; rintro v H' ⟨rfl, rfl⟩) | (refine m_call (ent_of Tryz.func149 kr rfl) rfl rfl (fun w c => allWithin_ok (c.rd hr)) ?_; rintro v H' ⟨rfl, rfl⟩) | refine sLn tabs rfl rfl rfl ?_) | (show oA (.pick _ _ _); first | refine st_y (y_pickt rfl aS rfl) rfl ?_ | refine st_y (y_pickf rfl aS rfl) rfl ?_ | refine st_y (y_pick rfl rfl rfl) rfl ?_) | refine st_gn rfl rfl rfl ?_ | refine st_gdy rfl rfl aS ?_ | refine st_gdn rfl rfl aS rfl ?_ | refine st_gd rfl rfl (fun h => ?_) (fun h => ?_)) | refine xNt ?_ | (show oC; first | refine c_seq ?_ | refine c_region ?_ | refine c_ret ?_))
  all_goals refine x_ret1 Tryz.results107 (res_tmp rfl) (fun w c => ⟨_, _, rfl, ⟨congrArg Value.bool ?_, rfl⟩, c⟩)
  all_goals first | (simp_all [VecP]; done) | (simp_all [VecP]; omega)

theorem spec_IsMatrix_ok {w : World} {p : Int} {m : Mat} {u : Value} (hr : Rd w (iT m.2.2) u) : Does Tryz.prog 22 [iV p, .agg #[iV m.1, iV m.2.1, u]] w (fun v H => v = .bool (decide (MatP p m)) ∧ H = []) := by
  obtain ⟨r, k, xs⟩ := m
  simp only at hr ⊢
  obtain ⟨a, c, rfl, hs, hc1, hc2, hget⟩ := hr.ints
  have hm : (0 ≤ r ∧ r ≤ 8) → (0 ≤ k ∧ k ≤ 8) → 0 ≤ r * k ∧ r * k ≤ 64 := fun h1 h2 => ⟨Int.mul_nonneg h1.1 h2.1, by have := Int.mul_le_mul h1.2 h2.2 h2.1 om; omega⟩
  refine fn_enter Tryz.func22 rfl Tryz.ntmps22 rfl ?_
  repeat' (first | (show oL; first | refine sMv rfl rfl ?_ | refine sAs rfl rfl ?_ | refine sFd tabs rfl rfl rfl rfl ?_ | refine sLd 0 tabs rfl rfl rfl rfl rfl ?_ | (show oA (.binOp _ _ _ _ _); first | refine st_y (y_mul rfl rfl (by have := hm aS aS; omega)) rfl ?_ | refine st_y (y_eql rfl rfl) rfl ?_) | (show oA (.call _); first | (refine m_call (ent_of Tryz.func104 kr rfl) rfl rfl (fun w c => l1In_ok _ _ _) ?_; rintro v H' ⟨rfl, rfl⟩) | (refine m_call (ent_of Tryz.func105 kr rfl) rfl rfl (fun w c => spec_IsVector_ok (c.rd hr)) ?_; rintro v H' ⟨rfl, rfl⟩) | refine sLn tabs rfl rfl rfl ?_) | (show oA (.pick _ _ _); first | refine st_y (y_pickt rfl aS rfl) rfl ?_ | refine st_y (y_pickf rfl aS rfl) rfl ?_ | refine st_y (y_pick rfl rfl rfl) rfl ?_) | (show oA (.box _ _); refine m_box rfl rfl (fun b hb => ?_)) | refine st_gn rfl rfl rfl ?_ | refine st_gdy rfl rfl aS ?_ | refine st_gdn rfl rfl aS rfl ?_ | refine st_gd rfl rfl (fun h => ?_) (fun h => ?_)) | refine xNt ?_ | (show oC; first | refine c_seq ?_ | refine c_region ?_ | refine c_ret ?_))
  all_goals refine x_ret1 Tryz.results22 (res_tmp rfl) (fun w c => ⟨_, _, rfl, ⟨congrArg Value.bool ?_, rfl⟩, c.sub (List.nil_sublist _)⟩)
  all_goals first | (simp_all [MatP]; done) | (simp_all [MatP]; omega) | (have hM : ¬ MatP p (r, k, xs) := fun hv => absurd hv.1 aS; simp [hM])
theorem impl_IsMatrix_ok {w : World} {p : Int} {m : Mat} {u : Value} (hr : Rd w (iT m.2.2) u) : Does Tryz.prog 24 [iV p, .agg #[iV m.1, iV m.2.1, u]] w (fun v H => v = .bool (decide (MatP p m)) ∧ H = []) := by
  obtain ⟨r, k, xs⟩ := m
  simp only at hr ⊢
  obtain ⟨a, c, rfl, hs, hc1, hc2, hget⟩ := hr.ints
  have hm : (0 ≤ r ∧ r ≤ 8) → (0 ≤ k ∧ k ≤ 8) → 0 ≤ r * k ∧ r * k ≤ 64 := fun h1 h2 => ⟨Int.mul_nonneg h1.1 h2.1, by have := Int.mul_le_mul h1.2 h2.2 h2.1 om; omega⟩
  refine fn_enter Tryz.func24 rfl Tryz.ntmps24 rfl ?_
  repeat' (first | (show oL; first | refine sMv rfl rfl ?_ | refine sAs rfl rfl ?_ | refine sFd tabs rfl rfl rfl rfl ?_ | refine sLd 0 tabs rfl rfl rfl rfl rfl ?_ | (show oA (.binOp _ _ _ _ _); first | refine st_y (y_mul rfl rfl (by have := hm aS aS; omega)) rfl ?_ | refine st_y (y_eql rfl rfl) rfl ?_) | (show oA (.call _); first | (refine m_call (ent_of Tryz.func106 kr rfl) rfl rfl (fun w c => within_ok _ _ _) ?_; rintro v H' ⟨rfl, rfl⟩) | (refine m_call (ent_of Tryz.func107 kr rfl) rfl rfl (fun w c => impl_IsVector_ok (c.rd hr)) ?_; rintro v H' ⟨rfl, rfl⟩) | refine sLn tabs rfl rfl rfl ?_) | (show oA (.pick _ _ _); first | refine st_y (y_pickt rfl aS rfl) rfl ?_ | refine st_y (y_pickf rfl aS rfl) rfl ?_ | refine st_y (y_pick rfl rfl rfl) rfl ?_) | (show oA (.box _ _); refine m_box rfl rfl (fun b hb => ?_)) | refine st_gn rfl rfl rfl ?_ | refine st_gdy rfl rfl aS ?_ | refine st_gdn rfl rfl aS rfl ?_ | refine st_gd rfl rfl (fun h => ?_) (fun h => ?_)) | refine xNt ?_ | (show oC; first | refine c_seq ?_ | refine c_region ?_ | refine c_ret ?_))
  all_goals refine x_ret1 Tryz.results24 (res_tmp rfl) (fun w c => ⟨_, _, rfl, ⟨congrArg Value.bool ?_, rfl⟩, c.sub (List.nil_sublist _)⟩)
  all_goals first | (simp_all [MatP]; done) | (simp_all [MatP]; omega) | (have hM : ¬ MatP p (r, k, xs) := fun hv => absurd hv.1 aS; simp [hM])
end Go.Proofs.YtdnhmnnccfoliaaGreatDoor
