import Derived.Test.YtijjkfbkihgfgaaGreatLBqsu
import Derived.Test.YtijjkfbkihgfgaaGreatOpnqsu
import Derived.Test.YtijjkfbkihgfgaaGreatRrfqsu
import Derived.Test.YtijjkfbkihgfgaaGreatTabqsu
namespace Go.Proofs.YtijjkfbkihgfgaaGreat
open Go.Lg Go.Proofs Go.RowKit

inductive Spn (p : Int) (R C : Nat) (g : Nat → Nat → Int) : (Nat → Int) → Prop where
  | nil {v : Nat → Int} (h : ∀ j, j < C → p ∣ v j) : Spn p R C g v
  | add {u v : Nat → Int} (i : Nat) (c : Int) (hi : i < R) (hu : Spn p R C g u) (h : ∀ j, j < C → p ∣ v j - (u j + c * g i j)) : Spn p R C g v
theorem dvd_add2 {p a b c : Int} (h1 : p ∣ a) (h2 : p ∣ b) (h : c = a + b) : p ∣ c := h ▸ Int.dvd_add h1 h2
theorem Spn.congr {p : Int} {R C : Nat} {g : Nat → Nat → Int} {v v' : Nat → Int} (h : Spn p R C g v) (e : ∀ j, j < C → p ∣ v' j - v j) : Spn p R C g v' := by
  cases h with
  | nil h => exact .nil (fun j hj => dvd_add2 (e j hj) (h j hj) om)
  | add i c hi hu h => exact .add i c hi hu (fun j hj => dvd_add2 (e j hj) (h j hj) om)
theorem Spn.row {p : Int} {R C i : Nat} {g : Nat → Nat → Int} (hi : i < R) : Spn p R C g (g i) :=
  .add (u := fun _ => 0) i 1 hi (.nil (fun j _ => Int.dvd_zero p)) (fun j _ => by rw [show g i j - (0 + 1 * g i j) = 0 by omega]; exact Int.dvd_zero p)
theorem Spn.plus {p : Int} {R C : Nat} {g : Nat → Nat → Int} {u v : Nat → Int} (hu : Spn p R C g u) (hv : Spn p R C g v) : Spn p R C g (fun j => u j + v j) := by
  induction hv with
  | nil h => exact hu.congr (fun j hj => by rw [show u j + _ - u j = _ by rw [Int.add_comm, Int.add_sub_cancel]]; exact h j hj)
  | add i c hi _ h ih => exact .add i c hi ih (fun j hj => by have := h j hj; exact dvd_add2 this (Int.dvd_zero p) om)
theorem Spn.mul {p : Int} {R C : Nat} {g : Nat → Nat → Int} {u : Nat → Int} (x : Int) (hu : Spn p R C g u) : Spn p R C g (fun j => x * u j) := by
  induction hu with
  | nil h => exact .nil (fun j hj => Int.dvd_trans (h j hj) (Int.dvd_mul_left ..))
  | add i c hi _ h ih => exact .add i (x * c) hi ih (fun j hj => by
      obtain ⟨y, hy⟩ := h j hj
      exact ⟨x * y, by grind⟩)
theorem Spn.mono {p : Int} {R R' C : Nat} {g g' : Nat → Nat → Int} {v : Nat → Int} (h : ∀ i, i < R → Spn p R' C g' (g i)) (hv : Spn p R C g v) : Spn p R' C g' v := by
  induction hv with
  | nil h => exact .nil h
  | add i c hi _ e ih => exact (ih.plus ((h i hi).mul c)).congr e
theorem sumN_pick {f : Nat → Int} {i : Nat} : ∀ n, sumN (fun t => if t = i then f t else 0) n = if i < n then f i else 0
  | 0 => by simp [sumN]
  | n + 1 => by
    simp only [sumN, sumN_pick n]
    by_cases h : n = i
    · subst h; simp
    · rw [if_neg h]
      by_cases h2 : i < n
      · rw [if_pos h2, if_pos om]; omega
      · rw [if_neg h2, if_neg om]; omega
theorem dvd_sumN0 {p : Int} {f : Nat → Int} {n : Nat} (h : ∀ i, i < n → p ∣ f i) : p ∣ sumN f n := by
  have := dvd_sumN (p := p) (f := f) (g := fun _ => 0) (n := n) (fun i hi => by simpa using h i hi)
  rw [sumN_zero] at this
  simpa using this
theorem pv_lt {R k t : Nat} {g : Nat → Nat → Int} {l : List Int} (h : RR R g l k) (ht : t < l.length) : pv l t < k := by
  have := h.2.1 t ht
  unfold pv
  omega
theorem spn_swap {p : Int} {R C r a : Nat} {g : Nat → Nat → Int} (hr : r < R) (ha : a < R) : (∀ i, i < R → Spn p R C g (swapF g r a i)) ∧ ∀ i, i < R → Spn p R C (swapF g r a) (g i) := by
  refine ⟨fun i hi => ?_, fun i hi => ?_⟩
  · by_cases h1 : i = r
    · have : swapF g r a i = g a := by funext j; simp [swapF, h1]
      rw [this]; exact Spn.row ha
    · by_cases h2 : i = a
      · have : swapF g r a i = g r := by
          funext j
          simp only [swapF]
          rw [if_neg h1, if_pos h2]
        rw [this]; exact Spn.row hr
      · have : swapF g r a i = g i := by
          funext j
          simp only [swapF]
          rw [if_neg h1, if_neg h2]
        rw [this]; exact Spn.row hi
  · by_cases h1 : i = r
    · have : g i = swapF g r a a := by
        funext j
        simp only [swapF]
        by_cases h3 : a = r
        · rw [if_pos h3, h1, h3]
        · rw [if_neg h3]; simp [h1]
      rw [this]; exact Spn.row ha
    · by_cases h2 : i = a
      · have : g i = swapF g r a r := by funext j; simp [swapF, h2]
        rw [this]; exact Spn.row hr
      · have : g i = swapF g r a i := by
          funext j
          simp only [swapF]
          rw [if_neg h1, if_neg h2]
        rw [this]; exact Spn.row hi
theorem spn_scale {p v x : Int} {R C r : Nat} {g : Nat → Nat → Int} (hr : r < R) (hx : v * x % p = 1) : (∀ i, i < R → Spn p R C g (scaleF p v g r i)) ∧ ∀ i, i < R → Spn p R C (scaleF p v g r) (g i) := by
  refine ⟨fun i hi => ?_, fun i hi => ?_⟩
  · by_cases h1 : i = r
    · refine ((Spn.row (p := p) (C := C) (g := g) hr).mul v).congr (fun j hj => ?_)
      simp only [scaleF, if_pos h1]
      exact emod_sub
    · have : scaleF p v g r i = g i := by funext j; simp [scaleF, h1]
      rw [this]; exact Spn.row hi
  · by_cases h1 : i = r
    · subst h1
      refine ((Spn.row (p := p) (C := C) (g := scaleF p v g i) hr).mul x).congr (fun j hj => ?_)
      simp only [scaleF, if_pos]
      obtain ⟨y, hy⟩ := emod_sub (p := p) (x := v * g i j)
      obtain ⟨z, hz⟩ := emod_sub (p := p) (x := v * x)
      rw [hx] at hz
      refine ⟨z * g i j - x * y, ?_⟩
      have e : g i j - x * (v * g i j % p) = (1 - v * x) * g i j - x * (v * g i j % p - v * g i j) := by grind
      rw [e, hy, hz]; grind
    · have : g i = scaleF p v g r i := by funext j; simp [scaleF, h1]
      rw [this]; exact Spn.row hi
theorem spn_elim {p : Int} {R C r k : Nat} {g : Nat → Nat → Int} (hr : r < R) : (∀ i, i < R → Spn p R C g (elimF p g r k i)) ∧ ∀ i, i < R → Spn p R C (elimF p g r k) (g i) := by
  have er : elimF p g r k r = g r := by funext j; simp [elimF]
  refine ⟨fun i hi => ?_, fun i hi => ?_⟩
  · by_cases h1 : i = r
    · rw [h1, er]; exact Spn.row hr
    · refine ((Spn.row (p := p) (C := C) (g := g) hi).plus ((Spn.row hr).mul (-g i k))).congr (fun j hj => ?_)
      simp only [elimF, if_neg h1]
      obtain ⟨y, hy⟩ := emod_sub (p := p) (x := g i j - g i k * g r j)
      exact ⟨y, by rw [← hy]; grind⟩
  · by_cases h1 : i = r
    · rw [h1]
      have := Spn.row (p := p) (C := C) (g := elimF p g r k) hr
      rwa [er] at this
    · refine ((Spn.row (p := p) (C := C) (g := elimF p g r k) hi).plus ((Spn.row (p := p) (C := C) (g := elimF p g r k) hr).mul (g i k))).congr (fun j hj => ?_)
      rw [er]
      simp only [elimF, if_neg h1]
      obtain ⟨y, hy⟩ := emod_sub (p := p) (x := g i j - g i k * g r j)
      exact ⟨-y, by grind⟩
theorem redTo_spn {p : Int} {R C : Nat} {f : Nat → Nat → Int} (hF : FieldP p) (hin : inF p R C f) : ∀ k, k ≤ C → (∀ i, i < R → Spn p R C f ((redTo p R f k).1 i)) ∧ ∀ i, i < R → Spn p R C (redTo p R f k).1 (f i)
  | 0, _ => ⟨fun i hi => Spn.row hi, fun i hi => Spn.row hi⟩
  | k + 1, hk => by
    have hp := fieldP_pos hF
    have ih := redTo_spn hF hin k om
    have hgi := (redTo_in om hin k).1
    simp only [redTo]
    generalize redTo p R f k = st at ih hgi ⊢
    obtain ⟨g, l⟩ := st
    simp only at ih hgi
    by_cases hlt : findAt g k R l.length < R
    · rw [colStep_yes hlt]
      have hsp := findAt_spec hlt
      have hr : l.length < R := by omega
      have hx := hgi _ k hlt om
      have hsr : swapF g l.length (findAt g k R l.length) l.length k = g (findAt g k R l.length) k := by simp [swapF]
      have hv := (invM_is hF (x := g (findAt g k R l.length) k) om).1
      rw [emod_small (p := p) ⟨hx.1, hx.2⟩, Int.mul_comm] at hv
      obtain ⟨a1, a2⟩ := spn_swap (p := p) (C := C) (g := g) hr hlt
      generalize hsw : swapF g l.length (findAt g k R l.length) = g1 at a1 a2 hsr
      obtain ⟨b1, b2⟩ := spn_scale (p := p) (C := C) (g := g1) hr hv
      have e : stepF p g l.length (findAt g k R l.length) k = elimF p (scaleF p (invM p (g (findAt g k R l.length) k)) g1 l.length) l.length k := by
        unfold stepF
        rw [hsw, hsr]
      rw [e]
      obtain ⟨c1, c2⟩ := spn_elim (p := p) (C := C) (k := k) (g := scaleF p (invM p (g (findAt g k R l.length) k)) g1 l.length) hr
      exact ⟨fun i hi => (((c1 i hi).mono b1).mono a1).mono ih.1, fun i hi => (((ih.2 i hi).mono a2).mono b2).mono c2⟩
    · rw [colStep_no hlt]; exact ih

theorem pv_mono {R k t s : Nat} {g : Nat → Nat → Int} {l : List Int} (h : RR R g l k) (hts : t < s) (hs : s < l.length) : pv l t < pv l s := by
  have h1 := h.2.2.1 t s hts hs
  have h2 := h.2.1 t om
  have h3 := h.2.1 s hs
  unfold pv
  omega
theorem dvd_eq {p x y : Int} (h : p ∣ x - y) (hx : 0 ≤ x ∧ x < p) (hy : 0 ≤ y ∧ y < p) : x = y := by
  have := Int.emod_emod_of_dvd
  have h1 : x % p = y % p := Int.emod_eq_emod_iff_emod_sub_eq_zero.2 (Int.emod_eq_zero_of_dvd h)
  rwa [Int.emod_eq_of_lt hx.1 hx.2, Int.emod_eq_of_lt hy.1 hy.2] at h1
end Go.Proofs.YtijjkfbkihgfgaaGreat

namespace Go.Proofs.YtijjkfbkihgfgaaGreat
open Go.Lg Go.Proofs Go.RowKit
attribute [local irreducible] Code.wp wpList bodyPost Exit.then Exit.inBlock Hp Again Calls Y AT ResV QT
set_option maxRecDepth 20000
set_option maxHeartbeats 4000000

theorem spec_EqualMatrices_ok (w : World) (m m' : Mat) (u u' : Value) (hu : Rd w (iT m.2.2) u) (hu' : Rd w (iT m'.2.2) u') :
    Does Tryz.prog 152 [.agg #[iV m.1, iV m.2.1, u], .agg #[iV m'.1, iV m'.2.1, u']] w (fun v H => v = .bool (decide (m = m')) ∧ H = []) := by
  obtain ⟨r, c, xs⟩ := m
  obtain ⟨r', c', ys⟩ := m'
  simp only at hu hu' ⊢
  obtain ⟨a, k, rfl, hs, hc1, hc2, hget⟩ := hu.ints
  obtain ⟨a', k', rfl, hs', hc1', hc2', hget'⟩ := hu'.ints
  unfold maxLen at hc2 hc2'
  refine fn_enter Tryz.func152 rfl Tryz.ntmps152 rfl ?_
  refine c_seq (c_region (m_box rfl rfl fun b1 hb1 => m_box rfl rfl fun b2 hb2 => ?_))
  repeat' (first | (show oL; first | refine sMv rfl rfl ?_ | refine sAs rfl rfl ?_ | refine sFd tabs rfl rfl rfl rfl ?_ | (show oA (.load _ _); first | refine sLd 0 tabs rfl rfl rfl rfl rfl ?_ | refine sLd 1 tabs rfl rfl rfl rfl rfl ?_) | (show oA (.binOp _ _ _ _ _); refine st_y (y_neq rfl rfl) rfl ?_) | refine sLn tabs rfl rfl rfl ?_ | (show oA (.pick _ _ _); first | refine st_y (y_pickt rfl aS rfl) rfl ?_ | refine st_y (y_pickf rfl aS rfl) rfl ?_ | refine st_y (y_pick rfl rfl rfl) rfl ?_) | refine st_gn rfl rfl rfl ?_ | refine st_gfy rfl rfl aS ?_ | refine st_gfn rfl rfl aS rfl ?_ | refine st_gd rfl rfl (fun h => ?_) (fun h => ?_)) | refine xNt ?_ | (show oC; first | refine c_seq ?_ | refine c_region ?_ | refine c_skip (x_then ?_) | refine c_block ?_ | refine c_ret ?_ | refine c_true rfl ?_ | refine c_ifnd rfl (fun h => ?_) (fun h => ?_)) | (show AT _ _ _ _; refine x_then_ret ?_))
  · refine x_ret1 Tryz.results152 (res_tmp rfl) (fun w c => ⟨_, _, rfl, ⟨?_, rfl⟩, c.sub (List.nil_sublist _)⟩)
    simp_all
  · refine x_ret1 Tryz.results152 (res_tmp rfl) (fun w c => ⟨_, _, rfl, ⟨?_, rfl⟩, c.sub (List.nil_sublist _)⟩)
    simp_all
  · refine x_ret1 Tryz.results152 (res_tmp rfl) (fun w c => ⟨_, _, rfl, ⟨?_, rfl⟩, c.sub (List.nil_sublist _)⟩)
    have : ¬ xs = ys := fun e => h (by rw [e])
    simp [this]
  · have hl : xs.length = ys.length := by omega
    refine c_loop (fun i : Nat => [(2, .pointer (some ⟨b1, 0, none⟩)), (3, .pointer (some ⟨b2, 0, none⟩)), (5, .int .i64 i)])
      (fun i w' => (i ≤ xs.length ∧ xs.take i = ys.take i) ∧ Hp [] w [.blk b2 #[iV r', iV c', .slice a' ys.length k'] 47, .blk b1 #[iV r, iV c, .slice a xs.length k] 47] w') (fun i => xs.length - i) 0 ?_ ?_ ?_
    · exact sB
    · intro w' c'
      exact ⟨⟨by omega, rfl⟩, c'⟩
    · intro i
      refine AT.pr (fun ⟨hi, he⟩ => ?_)
      repeat' (first | (show oL; first | refine sMv rfl rfl ?_ | refine sAs rfl rfl ?_ | refine sFd tabs rfl rfl rfl rfl ?_ | refine sLd 1 tabs rfl rfl rfl rfl rfl ?_ | (show oA (.binOp _ _ _ _ _); first | refine sAd rfl rfl om rfl ?_ | refine sLs rfl rfl rfl ?_) | refine sLn tabs rfl rfl rfl ?_) | refine xNt ?_ | (show oC; first | refine c_seq ?_ | refine c_region ?_ | refine c_skip (x_then ?_) | refine c_skip (x_blk ?_) | refine c_block ?_ | refine c_ret ?_ | refine c_exit ?_ | refine c_draw kr kr (fun _ c => Hp.drew c) ?_ | refine c_ifnd rfl (fun h => ?_) (fun h => ?_) | refine c_if rfl (fun h => ?_) (fun h => ?_)) | (show QT _ _ _ _ _ _ (_ :: _); first | refine qMv rfl rfl ?_ | refine qFd tabs rfl rfl rfl rfl ?_ | (show qA (.load _ _); first | refine q_y (y_load tabs rfl rfl (hc_w0 (hget _ om))) rfl ?_ | refine q_y (y_load tabs rfl rfl (hc_w0 (hget' _ om))) rfl ?_ | refine qLd 0 tabs rfl rfl rfl rfl rfl ?_ | refine qLd 1 tabs rfl rfl rfl rfl rfl ?_) | (show qA (.indexAddr _ _ _); first | refine q_y (y_ixa tabs rfl rfl rfl hs om om) rfl ?_ | refine q_y (y_ixa tabs rfl rfl rfl hs' om om) rfl ?_) | (show qA (.binOp _ _ _ _ _); refine q_y (y_neq rfl rfl) rfl ?_)) | (show QT _ _ _ _ _ _ []; refine q_nil (x_then ?_)) | (show AT _ _ _ _; first | refine x_then ?_ | refine x_then_ret ?_ | refine x_blk_ret ?_ | refine x_then_exit ?_ | refine x_blk_exit rfl ?_))
      · refine x_ret1 Tryz.results152 (res_tmp rfl) (fun w c => ⟨_, _, rfl, ⟨?_, rfl⟩, c.sub (List.nil_sublist _)⟩)
        have : ¬ xs = ys := fun e => h (by rw [e])
        simp [this]
      · have h2 : xs.getD i 0 = ys.getD i 0 := by simpa using h
        refine x_next (i + 1) sB (fun w' c' => ⟨⟨by omega, ?_⟩, c'⟩) om
        rw [take_next (z := 0) om, take_next (z := 0) om, he, h2]
      · refine x_ret1 Tryz.results152 (res_tmp rfl) (fun w c => ⟨_, _, rfl, ⟨?_, rfl⟩, c.sub (List.nil_sublist _)⟩)
        rw [take_end om, take_end om] at he
        simp_all

theorem Equal_ok (w : World) (v u : Value) (xs ys : List Int) (hr : Rd w (iT xs) v) (hr' : Rd w (iT ys) u) :
    Does Tryz.prog 142 [v, u] w (fun r H => r = .bool (decide (xs = ys)) ∧ H = []) := by
  obtain ⟨a, c, rfl, hs, hc1, hc2, hget⟩ := hr.ints
  obtain ⟨a', c', rfl, hs', hc1', hc2', hget'⟩ := hr'.ints
  unfold maxLen at hc2 hc2'
  refine fn_enter Tryz.func142 rfl Tryz.ntmps142 rfl ?_
  repeat' (first | (show oL; first | refine sMv rfl rfl ?_ | refine sAs rfl rfl ?_ | (show oA (.binOp _ _ _ _ _); refine st_y (y_neq rfl rfl) rfl ?_) | refine sLn tabs rfl rfl rfl ?_) | refine xNt ?_ | (show oC; first | refine c_seq ?_ | refine c_region ?_ | refine c_skip (x_then ?_) | refine c_block ?_ | refine c_ret ?_ | refine c_ifnd rfl (fun h => ?_) (fun h => ?_)) | (show AT _ _ _ _; refine x_then_ret ?_))
  · refine x_ret1 Tryz.results142 (res_tmp rfl) (fun w' c' => ⟨_, _, rfl, ⟨?_, rfl⟩, c'⟩)
    have : ¬ xs = ys := fun e => h (by rw [e])
    simp [this]
  · have hl : xs.length = ys.length := by omega
    refine c_loop (fun i : Nat => [(0, .slice a xs.length c), (1, .slice a' ys.length c'), (12, iV xs.length), (13, .int .i64 i)])
      (fun i w' => (i ≤ xs.length ∧ xs.take i = ys.take i) ∧ Hp [] w [] w') (fun i => xs.length - i) 0 ?_ ?_ ?_
    · exact sB
    · intro w' c'
      exact ⟨⟨by omega, rfl⟩, c'⟩
    · intro i
      refine AT.pr (fun ⟨hi, he⟩ => ?_)
      repeat' (first | (show oL; first | refine sMv rfl rfl ?_ | refine sAs rfl rfl ?_ | (show oA (.binOp _ _ _ _ _); first | refine sAd rfl rfl om rfl ?_ | refine sLs rfl rfl rfl ?_)) | refine xNt ?_ | (show oC; first | refine c_seq ?_ | refine c_region ?_ | refine c_skip (x_then ?_) | refine c_skip (x_blk ?_) | refine c_block ?_ | refine c_ret ?_ | refine c_exit ?_ | refine c_draw kr kr (fun _ c => Hp.drew c) ?_ | refine c_ifnd rfl (fun h => ?_) (fun h => ?_) | refine c_if rfl (fun h => ?_) (fun h => ?_)) | (show QT _ _ _ _ _ _ (_ :: _); first | refine qMv rfl rfl ?_ | (show qA (.load _ _); first | refine q_y (y_load tabs rfl rfl (hc_w0 (hget _ om))) rfl ?_ | refine q_y (y_load tabs rfl rfl (hc_w0 (hget' _ om))) rfl ?_) | (show qA (.indexAddr _ _ _); first | refine q_y (y_ixa tabs rfl rfl rfl hs om om) rfl ?_ | refine q_y (y_ixa tabs rfl rfl rfl hs' om om) rfl ?_) | (show qA (.binOp _ _ _ _ _); refine q_y (y_neq rfl rfl) rfl ?_)) | (show QT _ _ _ _ _ _ []; refine q_nil (x_then ?_)) | (show AT _ _ _ _; first | refine x_then ?_ | refine x_then_ret ?_ | refine x_blk_ret ?_ | refine x_then_exit ?_ | refine x_blk_exit rfl ?_))
      · refine x_ret1 Tryz.results142 (res_tmp rfl) (fun w' c' => ⟨_, _, rfl, ⟨?_, rfl⟩, c'⟩)
        have : ¬ xs = ys := fun e => h (by rw [e])
        simp [this]
      · have h2 : xs.getD i 0 = ys.getD i 0 := by simpa using h
        refine x_next (i + 1) sB (fun w' c' => ⟨⟨by omega, ?_⟩, c'⟩) om
        rw [take_next (z := 0) om, take_next (z := 0) om, he, h2]
      · refine x_ret1 Tryz.results142 (res_tmp rfl) (fun w' c' => ⟨_, _, rfl, ⟨?_, rfl⟩, c'⟩)
        rw [take_end om, take_end om] at he
        simp [he]

end Go.Proofs.YtijjkfbkihgfgaaGreat
