import Derived.Test.YtfhgpkdhhclpbaaClsqco
import Derived.Test.YtfhgpkdhhclpbaaCobqco
import Derived.Test.YtfhgpkdhhclpbaaCrdqco
import Derived.Test.YtfhgpkdhhclpbaaDuaqco
import Derived.Test.YtfhgpkdhhclpbaaEqsqco
import Derived.Test.YtfhgpkdhhclpbaaHmbqco
import Derived.Test.YtfhgpkdhhclpbaaHspqco
import Derived.Test.YtfhgpkdhhclpbaaKerqco
import Derived.Test.YtfhgpkdhhclpbaaLEqco
import Derived.Test.YtfhgpkdhhclpbaaMphqco
import Derived.Test.YtfhgpkdhhclpbaaMssqco
import Derived.Test.YtfhgpkdhhclpbaaMulqco
import Derived.Test.YtfhgpkdhhclpbaaRdIqco
import Derived.Test.YtfhgpkdhhclpbaaSpbqco
namespace Go.Proofs.Ytfhgpkdhhclpbaa
open Go.Lg Go.Proofs Go.RowKit
attribute [local irreducible] Code.wp wpList bodyPost Exit.then Exit.inBlock Hp Again Calls Y AT ResV QT Qn QI wpAny wpAnyQ
set_option maxRecDepth 20000
set_option maxHeartbeats 4000000

/-! ### combinations of morphisms: the cells by the reference -/
theorem l11Flat_ok {w : World} {ms : List Mat} {e : Nat} {v : Value} (hr : Rd w (matsT e ms) v) (hb : (flatL ms).length ≤ 100000) : Does Try.prog 86 [v] w (GivesIL (flatL ms)) := by
  obtain ⟨a3, c3, rfl, hs3, hc3, hd3, hg3⟩ := rd_mats hr
  unfold maxLen at hd3
  refine fn_enter Try.func86 rfl Try.ntmps86 rfl ?_
  repeat' (first
    | (show AT _ _ _ (wpList _ _ _ (_ :: _)); first
       | (show AT _ _ _ (wpList _ _ _ (⟨_, Op.move _, _, _, _, _⟩ :: _)); refine st_y (y_move rfl) rfl ?_)
       | (show AT _ _ _ (wpList _ _ _ (⟨_, Op.assign _, _, _, _, _⟩ :: _)); refine st_y (y_assign rfl) rfl ?_)
       | (show AT _ _ _ (wpList _ _ _ (⟨_, Op.fieldAddr _ _ _, _, _, _, _⟩ :: _)); refine st_y (y_field tabs rfl rfl rfl) rfl ?_)
       | (show AT _ _ _ (wpList _ _ _ (⟨_, Op.load _ _, _, _, _, _⟩ :: _)); refine st_y (y_load tabs rfl rfl (hc_rd (by assumption) (by omega))) rfl ?_)
       | (show AT _ _ _ (wpList _ _ _ (⟨_, Op.indexAddr _ _ _, _, _, _, _⟩ :: _)); first | refine st_y (y_ix1 tabs rfl rfl rfl (by first | assumption | exact .mk) rfl (by omega)) rfl ?_ | refine st_y (y_ixi tabs rfl rfl rfl (by first | assumption | exact .mk) (by omega) (by omega)) rfl ?_ | refine st_y (y_ixa tabs rfl rfl rfl (by first | assumption | exact .mk) (by omega) (by omega)) rfl ?_)
       | (show AT _ _ _ (wpList _ _ _ (⟨_, Op.binOp _ _ _ _ _, _, _, _, _⟩ :: _)); first | refine st_y (y_add rfl rfl (by omega)) rfl ?_ | refine st_y (y_lss rfl rfl) rfl ?_)
       | (show AT _ _ _ (wpList _ _ _ (⟨_, Op.call _, _, _, _, _⟩ :: _)); refine st_y (y_len tabs rfl rfl) rfl ?_)
       | (show AT _ _ _ (wpList _ _ _ (⟨_, Op.buildSlice _ _ _, _, _, _, _⟩ :: _)); refine m_build0 tabs rfl rfl (fun g hg => ?_)))
    | (show AT _ _ _ (wpList _ _ _ []); first | refine c_nil (x_then ?_) | refine c_nil (x_qn ?_) | refine c_nil ?_)
    | (show AT _ _ _ (Code.wp _ _ _); first | refine c_seq ?_ | refine c_region ?_ | refine c_skip (x_then ?_) | refine c_skip (x_blk ?_) | refine c_skip ?_ | refine c_block ?_ | refine c_ret ?_ | refine c_exit ?_ | refine c_true rfl ?_ | refine c_false rfl ?_ | refine c_ift rfl (by first | assumption | omega) ?_ | refine c_iff rfl (by first | assumption | exact not_not_intro (by assumption) | omega) ?_ | refine c_ifnd rfl (fun h => ?_) (fun h => ?_) | refine c_if rfl (fun h => ?_) (fun h => ?_) | refine c_ifn rfl (fun h => ?_) (fun h => ?_))
    | (show AT _ _ _ _; first | refine x_then ?_ | refine x_qn ?_ | refine x_then_ret ?_ | refine x_blk_ret ?_ | refine x_then_exit ?_ | refine x_blk_exit rfl ?_ | refine x_blk_other rfl ?_ | refine x_blk ?_))
  refine c_loopH (α := Nat × Option Addr × Nat) [0] (fun s => [(3, .slice s.2.1 (flatL (ms.take s.1)).length s.2.2), (4, .int .i64 s.1)]) (fun s => s.1 ≤ ms.length) (fun s => [.own (iT (flatL (ms.take s.1))) (.slice s.2.1 (flatL (ms.take s.1)).length s.2.2)]) (fun s => ms.length - s.1) (0, some ⟨g, 0, none⟩, 0) rfl (by repeat' (first | exact Sub.nil | refine Sub.cons rfl ?_ | refine Sub.consi rfl (by omega) ?_)) ?_ ?_ ?_
  · exact Nat.zero_le _
  · exact fun w' c' => c'
  · rintro ⟨i, al, cl⟩ hi
    simp only at hi ⊢
    have hle := flatL_le (ms := ms) (i := i)
    by_cases hin : i < ms.length
    · obtain ⟨m, hm⟩ : ∃ m, ms[i]? = some m := ⟨_, List.getElem?_eq_getElem hin⟩
      obtain ⟨a4, c4, g1, g2, g3, g4⟩ := hg3 i m hm
      have hn := flatL_next hm
      have hle2 := flatL_le (ms := ms) (i := i + 1)
      rw [← hn, List.length_append] at hle2
      repeat' (first
        | (show AT _ _ _ (wpList _ _ _ (_ :: _)); first
           | (show AT _ _ _ (wpList _ _ _ (⟨_, Op.move _, _, _, _, _⟩ :: _)); refine st_y (y_move rfl) rfl ?_)
           | (show AT _ _ _ (wpList _ _ _ (⟨_, Op.assign _, _, _, _, _⟩ :: _)); refine st_y (y_assign rfl) rfl ?_)
           | (show AT _ _ _ (wpList _ _ _ (⟨_, Op.fieldAddr _ _ _, _, _, _, _⟩ :: _)); refine st_y (y_field tabs rfl rfl rfl) rfl ?_)
           | (show AT _ _ _ (wpList _ _ _ (⟨_, Op.load _ _, _, _, _, _⟩ :: _)); first | refine st_y (y_load tabs rfl rfl (hc_w0 g3)) rfl ?_ | refine st_y (y_load tabs rfl rfl (hc_rd (by assumption) (by omega))) rfl ?_)
           | (show AT _ _ _ (wpList _ _ _ (⟨_, Op.indexAddr _ _ _, _, _, _, _⟩ :: _)); first | refine st_y (y_ixa tabs rfl rfl rfl hs3 (by omega) (by omega)) rfl ?_ | refine st_y (y_ix1 tabs rfl rfl rfl (by first | assumption | exact .mk) rfl (by omega)) rfl ?_ | refine st_y (y_ixi tabs rfl rfl rfl (by first | assumption | exact .mk) (by omega) (by omega)) rfl ?_ | refine st_y (y_ixa tabs rfl rfl rfl (by first | assumption | exact .mk) (by omega) (by omega)) rfl ?_)
           | (show AT _ _ _ (wpList _ _ _ (⟨_, Op.binOp _ _ _ _ _, _, _, _, _⟩ :: _)); first | refine st_y (y_add rfl rfl (by omega)) rfl ?_ | refine st_y (y_lss rfl rfl) rfl ?_)
           | (show AT _ _ _ (wpList _ _ _ (⟨_, Op.call _, _, _, _, _⟩ :: _)); first | refine m_appi 0 tabs (ys := m.2.2) rfl rfl rfl rfl rfl (by omega) (fun w' c' => rd_src (c'.rd g4)) (fun a6 c6 => ?_) | refine st_y (y_len tabs rfl rfl) rfl ?_)
           | (show AT _ _ _ (wpList _ _ _ (⟨_, Op.buildSlice _ _ _, _, _, _, _⟩ :: _)); refine m_build0 tabs rfl rfl (fun g hg => ?_)))
        | (show AT _ _ _ (wpList _ _ _ []); first | refine c_nil (x_then ?_) | refine c_nil (x_qn ?_) | refine c_nil ?_)
        | (show AT _ _ _ (Code.wp _ _ _); first | refine c_seq ?_ | refine c_region ?_ | refine c_skip (x_then ?_) | refine c_skip (x_blk ?_) | refine c_skip ?_ | refine c_block ?_ | refine c_ret ?_ | refine c_exit ?_ | refine c_true rfl ?_ | refine c_false rfl ?_ | refine c_ift rfl (by first | assumption | omega) ?_ | refine c_iff rfl (by first | assumption | exact not_not_intro (by assumption) | omega) ?_ | refine c_ifnd rfl (fun h => ?_) (fun h => ?_) | refine c_if rfl (fun h => ?_) (fun h => ?_) | refine c_ifn rfl (fun h => ?_) (fun h => ?_))
        | (show AT _ _ _ _; first | refine x_then ?_ | refine x_qn ?_ | refine x_then_ret ?_ | refine x_blk_ret ?_ | refine x_then_exit ?_ | refine x_blk_exit rfl ?_ | refine x_blk_other rfl ?_ | refine x_blk ?_))
      refine x_nx (i + 1, a6, c6) (by rw [← hn, List.length_append]; exact (by repeat' (first | exact Sub.nil | refine Sub.cons rfl ?_ | refine Sub.consi rfl (by omega) ?_))) (by simp only; omega) (fun w' c' => ?_) (by simp only; omega)
      simp only [← hn, List.length_append]
      exact c'
    · have : i = ms.length := by omega
      subst this
      rw [List.take_length]
      refine AT.fact (own_sl 0 rfl) (fun hsl => ?_)
      obtain ⟨a4, c4, e4, hs4⟩ := hsl
      cases e4
      repeat' (first
        | (show AT _ _ _ (wpList _ _ _ (_ :: _)); first
           | (show AT _ _ _ (wpList _ _ _ (⟨_, Op.move _, _, _, _, _⟩ :: _)); refine st_y (y_move rfl) rfl ?_)
           | (show AT _ _ _ (wpList _ _ _ (⟨_, Op.assign _, _, _, _, _⟩ :: _)); refine st_y (y_assign rfl) rfl ?_)
           | (show AT _ _ _ (wpList _ _ _ (⟨_, Op.fieldAddr _ _ _, _, _, _, _⟩ :: _)); refine st_y (y_field tabs rfl rfl rfl) rfl ?_)
           | (show AT _ _ _ (wpList _ _ _ (⟨_, Op.load _ _, _, _, _, _⟩ :: _)); refine st_y (y_load tabs rfl rfl (hc_rd (by assumption) (by omega))) rfl ?_)
           | (show AT _ _ _ (wpList _ _ _ (⟨_, Op.indexAddr _ _ _, _, _, _, _⟩ :: _)); first | refine st_y (y_ix1 tabs rfl rfl rfl (by first | assumption | exact .mk) rfl (by omega)) rfl ?_ | refine st_y (y_ixi tabs rfl rfl rfl (by first | assumption | exact .mk) (by omega) (by omega)) rfl ?_ | refine st_y (y_ixa tabs rfl rfl rfl (by first | assumption | exact .mk) (by omega) (by omega)) rfl ?_)
           | (show AT _ _ _ (wpList _ _ _ (⟨_, Op.binOp _ _ _ _ _, _, _, _, _⟩ :: _)); first | refine st_y (y_add rfl rfl (by omega)) rfl ?_ | refine st_y (y_lss rfl rfl) rfl ?_)
           | (show AT _ _ _ (wpList _ _ _ (⟨_, Op.call _, _, _, _, _⟩ :: _)); refine st_y (y_len tabs rfl rfl) rfl ?_)
           | (show AT _ _ _ (wpList _ _ _ (⟨_, Op.buildSlice _ _ _, _, _, _, _⟩ :: _)); refine m_build0 tabs rfl rfl (fun g hg => ?_)))
        | (show AT _ _ _ (wpList _ _ _ []); first | refine c_nil (x_then ?_) | refine c_nil (x_qn ?_) | refine c_nil ?_)
        | (show AT _ _ _ (Code.wp _ _ _); first | refine c_seq ?_ | refine c_region ?_ | refine c_skip (x_then ?_) | refine c_skip (x_blk ?_) | refine c_skip ?_ | refine c_block ?_ | refine c_ret ?_ | refine c_exit ?_ | refine c_true rfl ?_ | refine c_false rfl ?_ | refine c_ift rfl (by first | assumption | omega) ?_ | refine c_iff rfl (by first | assumption | exact not_not_intro (by assumption) | omega) ?_ | refine c_ifnd rfl (fun h => ?_) (fun h => ?_) | refine c_if rfl (fun h => ?_) (fun h => ?_) | refine c_ifn rfl (fun h => ?_) (fun h => ?_))
        | (show AT _ _ _ _; first | refine x_then ?_ | refine x_qn ?_ | refine x_then_ret ?_ | refine x_blk_ret ?_ | refine x_then_exit ?_ | refine x_blk_exit rfl ?_ | refine x_blk_other rfl ?_ | refine x_blk ?_))
      exact x_ret1 Try.results86 (res_tmp rfl) (fun w' c' => ⟨_, _, rfl, ⟨_, _, rfl, hs4, rfl⟩, c'.sub (.cons_cons _ (List.nil_sublist _))⟩)
/-! the digits of a number -/
end Go.Proofs.Ytfhgpkdhhclpbaa

namespace Go.Proofs.Ytfhgpkdhhclpbaa
open Go.Lg Go.Proofs Go.RowKit
attribute [local irreducible] Code.wp wpList bodyPost Exit.then Exit.inBlock Hp Again Calls Y AT ResV QT Qn QI wpAny wpAnyQ
set_option maxRecDepth 20000
set_option maxHeartbeats 4000000

/-! ### the meet of two spaces -/
theorem kerV_in {p : Int} {g : Nat → Nat → Int} {piv : List Int} {k : Nat} (hp : 2 ≤ p) : ∀ n q, 0 ≤ kerV p g piv k n q ∧ kerV p g piv k n q < p
  | 0, q => by
    simp only [kerV]
    split <;> omega
  | n + 1, q => by
    simp only [kerV]
    split
    · exact ⟨Int.emod_nonneg _ (by omega), Int.emod_lt_of_pos _ (by omega)⟩
    · exact kerV_in hp n q
theorem kerL_rows {p : Int} {C : Nat} {g : Nat → Nat → Int} {piv l : List Int} (hp : 2 ≤ p) : RowsP p C (kerL p C g piv l) := fun xs h => by
  obtain ⟨k, _, rfl⟩ := List.mem_map.1 h
  refine ⟨by simp, fun x hx => ?_⟩
  obtain ⟨q, _, rfl⟩ := List.mem_map.1 hx
  have := kerV_in (g := g) (piv := piv) (k := k.toNat) hp piv.length q
  omega
end Go.Proofs.Ytfhgpkdhhclpbaa

namespace Go.Proofs.Ytfhgpkdhhclpbaa
open Go.Lg Go.Proofs Go.RowKit
attribute [local irreducible] Code.wp wpList bodyPost Exit.then Exit.inBlock Hp Again Calls Y AT ResV QT Qn QI wpAny wpAnyQ
set_option maxRecDepth 20000
set_option maxHeartbeats 4000000

/-! ### the combination with the digits of a number -/
theorem flat_cut {da db x : List Int} : ∀ n, flatL (tabM (cutM da db x) n) = x.take (offN da db n)
  | 0 => by simp [tabM, flatL, offN]
  | n + 1 => by
    have e : tabM (cutM da db x) (n + 1) = tabM (cutM da db x) n ++ [cutM da db x n] := by simp [tabM, List.range_succ]
    rw [e, flatL, List.flatMap_append, offN, List.take_add, ← flat_cut n]
    simp [flatL, cutM]
end Go.Proofs.Ytfhgpkdhhclpbaa

namespace Go.Proofs.Ytfhgpkdhhclpbaa
open Go.Lg Go.Proofs Go.RowKit
attribute [local irreducible] Code.wp wpList bodyPost Exit.then Exit.inBlock Hp Again Calls Y AT ResV QT Qn QI wpAny wpAnyQ
set_option maxRecDepth 20000
set_option maxHeartbeats 4000000

/-! ### combinations of morphisms, in plain -/
/-- where the cells of a vertex lie among all cells -/
theorem flat_at {a b : Rp} {ms : List Mat} (h : AreP a b ms) : ∀ v, v ≤ a.d.length → (flatL (ms.take v)).length = offN a.d b.d v
  | 0, _ => by simp [flatL, offN]
  | v + 1, hv => by
    have ih := flat_at h v (by omega)
    have hl := h.2.1
    obtain ⟨m, hm⟩ : ∃ m, ms[v]? = some m := ⟨_, List.getElem?_eq_getElem (by omega)⟩
    have gm : ms.getD v mat0 = m := by rw [List.getD, hm]; rfl
    obtain ⟨p1, p2, p3⟩ := h.2.2 v (by omega)
    rw [gm] at p1 p2 p3
    have d1 := h.1.1.dg v
    have d2 := h.1.2.1.dg v
    obtain ⟨_, _, c3, _⟩ := cellsP_of (R := (b.d.getD v 0).toNat) (C := (a.d.getD v 0).toNat) p1 (by omega) (by omega)
    rw [← flatL_next hm, List.length_append, ih, offN, szV, c3, mk_length, Nat.mul_comm (b.d.getD v 0).toNat]
theorem flat_get {a b : Rp} {ms : List Mat} {v q : Nat} {m : Mat} (h : AreP a b ms) (hm : ms[v]? = some m) (hq : q < m.2.2.length) : (flatL ms).getD (offN a.d b.d v + q) 0 = m.2.2.getD q 0 := by
  have hv : v < ms.length := (List.getElem?_eq_some_iff.1 hm).1
  have hl := flat_at h v (by have := h.2.1; omega)
  have e : flatL ms = flatL (ms.take v) ++ (m.2.2 ++ flatL (ms.drop (v + 1))) := by
    conv => lhs; rw [← List.take_append_drop (v + 1) ms]
    rw [flatL, List.flatMap_append, ← List.append_assoc, flatL_next hm]; rfl
  rw [e, List.getD, List.getElem?_append_right (by omega), hl, Nat.add_sub_cancel_left, List.getElem?_append_left hq]
  rfl
end Go.Proofs.Ytfhgpkdhhclpbaa

namespace Go.Proofs.Ytfhgpkdhhclpbaa
open Go.Lg Go.Proofs Go.RowKit

/-! ### the coordinates of a morphism, in plain -/
theorem mem_idx {a b : Rp} {t : Nat × Nat × Nat} {N : Nat} (h : t ∈ idxN a b N) : t.1 < N ∧ t.2.1 < dN b.d (a.q.2.2.getD t.1 0) ∧ t.2.2 < dN a.d (a.q.2.1.getD t.1 0) := by
  rw [idxN, List.mem_flatMap] at h
  obtain ⟨i, hi, h⟩ := h
  rw [rowsI, List.mem_flatMap] at h
  obtain ⟨r, hr, h⟩ := h
  obtain ⟨k, hk, rfl⟩ := List.mem_map.1 h
  exact ⟨List.mem_range.1 hi, List.mem_range.1 hr, List.mem_range.1 hk⟩
theorem sum_at {A : Nat → Nat} {B : Nat → Int} {x : Nat → Int} {n : Nat} : ∀ m, (∀ j, j < m → A j < n) → sumN (fun c => sumN (fun j => if A j = c then B j else 0) m * x c) n = sumN (fun j => B j * x (A j)) m
  | 0, _ => by
    rw [sumN_congr (g := fun _ => 0) (fun c _ => by rw [sumN, Int.zero_mul]), sumN_zero, sumN]
  | m + 1, h => by
    rw [sumN_congr (g := fun c => sumN (fun j => if A j = c then B j else 0) m * x c + (if c = A m then B m * x c else 0)) (fun c _ => by
      rw [sumN, Int.add_mul]
      by_cases e : A m = c
      · rw [if_pos e, if_pos e.symm]
      · rw [if_neg e, if_neg (fun h => e h.symm), Int.zero_mul]), sumN_add, sum_at m (fun j hj => h j (by omega)), sumN_pick (f := fun c => B m * x c), if_pos (h m (by omega)), sumN]
/-- the cells of a matrix among all cells -/
theorem flat_cell {a b : Rp} {ms : List Mat} {v j k : Nat} (h : AreP a b ms) (hv : v < a.d.length) (hj : j < (b.d.getD v 0).toNat) (hk : k < (a.d.getD v 0).toNat) : matF (ms.getD v mat0) j k = (flatL ms).getD (offN a.d b.d v + (j * (a.d.getD v 0).toNat + k)) 0 := by
  have hl := h.2.1
  obtain ⟨m, hm⟩ : ∃ m, ms[v]? = some m := ⟨_, List.getElem?_eq_getElem (by omega)⟩
  have gm : ms.getD v mat0 = m := by rw [List.getD, hm]; rfl
  obtain ⟨p1, p2, p3⟩ := h.2.2 v (by omega)
  rw [gm] at p1 p2 p3 ⊢
  have d1 := h.1.1.dg v
  have d2 := h.1.2.1.dg v
  obtain ⟨_, _, c3, _⟩ := cellsP_of (R := (b.d.getD v 0).toNat) (C := (a.d.getD v 0).toNat) p1 (by omega) (by omega)
  rw [flat_get h hm (by rw [c3, mk_length]; exact cell_lt hj hk), matF, p2]
theorem flat_len {a b : Rp} {ms : List Mat} (h : AreP a b ms) : (flatL ms).length = offN a.d b.d a.d.length := by
  have := flat_at h a.d.length (Nat.le_refl _)
  rwa [List.take_of_length_le (by rw [h.2.1]; exact Nat.le_refl _)] at this
theorem flat_in {a b : Rp} {ms : List Mat} (h : AreP a b ms) : InP 0 (a.p - 1) (flatL ms) := fun x hx => by
  rw [flatL, List.mem_flatMap] at hx
  obtain ⟨m, hm, hx⟩ := hx
  obtain ⟨i, hi, e⟩ := List.getElem_of_mem hm
  have gm : ms.getD i mat0 = m := by rw [List.getD, List.getElem?_eq_getElem hi]; exact e
  have := (h.2.2 i hi).1
  rw [gm] at this
  exact this.2.2.2.2.2 x hx
/-- the cells of a morphism are orthogonal to the equations -/
theorem mor_ort {a b : Rp} {ms : List Mat} (h : MorP a b ms) {t : Nat} (ht : t < (idxN a b a.q.2.1.length).length) : a.p ∣ sumN (fun c => eqsF a b t c * (flatL ms).getD c 0) (offN a.d b.d a.d.length) := by
  obtain ⟨hA, hE⟩ := h
  have hF := hA.1
  have hm : (idxN a b a.q.2.1.length).getD t (0, 0, 0) ∈ idxN a b a.q.2.1.length := by
    rw [List.getD, List.getElem?_eq_getElem ht]; exact List.getElem_mem _
  have e0 : ∀ c, eqsF a b t c = eqE a b ((idxN a b a.q.2.1.length).getD t (0, 0, 0)).1 ((idxN a b a.q.2.1.length).getD t (0, 0, 0)).2.1 ((idxN a b a.q.2.1.length).getD t (0, 0, 0)).2.2 c := fun _ => rfl
  simp only [e0]
  generalize (idxN a b a.q.2.1.length).getD t (0, 0, 0) = z at hm
  obtain ⟨i, r, k⟩ := z
  obtain ⟨hi, hr, hk⟩ := mem_idx hm
  simp only at hi hr hk ⊢
  have hQ := hF.1.2.1.1
  have hs := inP_get hQ.2.2.2.1 (i := i) hi
  have htt := inP_get hQ.2.2.2.2 (i := i) (by have := hQ.2.2.1; omega)
  have hdl := hF.1.2.1.2.1
  have hs' : (a.q.2.1.getD i 0).toNat < a.d.length := by omega
  have ht' : (a.q.2.2.getD i 0).toNat < a.d.length := by omega
  have hEi := hE i hi
  have hrk : firF a b ms i r k = secF a ms i r k := by
    rw [← mk_get (f := firF a b ms i) hr hk, hEi, mk_get hr hk]
  rw [firF, secF, mulF, mulF, accF_sum, accF_sum] at hrk
  have h1 := sum_at (A := fun j => at1 a b i k j) (B := fun j => matF (b.m.getD i mat0) r j) (x := fun c => (flatL ms).getD c 0) (n := offN a.d b.d a.d.length) (dN b.d (a.q.2.1.getD i 0)) (fun j hj => off_lt hs' hj hk)
  have h2 := sum_at (A := fun j => at2 a b i r j) (B := fun j => matF (a.m.getD i mat0) j k) (x := fun c => (flatL ms).getD c 0) (n := offN a.d b.d a.d.length) (dN a.d (a.q.2.2.getD i 0)) (fun j hj => off_lt ht' hr hj)
  have e1 : sumN (fun j => matF (b.m.getD i mat0) r j * matF (ms.getD (a.q.2.1.getD i 0).toNat mat0) j k) (dN b.d (a.q.2.1.getD i 0)) = sumN (fun j => matF (b.m.getD i mat0) r j * (flatL ms).getD (at1 a b i k j) 0) (dN b.d (a.q.2.1.getD i 0)) := sumN_congr (fun j hj => by
    rw [flat_cell hA hs' hj hk]; rfl)
  have e2 : sumN (fun j => matF (ms.getD (a.q.2.2.getD i 0).toNat mat0) r j * matF (a.m.getD i mat0) j k) (dN a.d (a.q.2.2.getD i 0)) = sumN (fun j => matF (a.m.getD i mat0) j k * (flatL ms).getD (at2 a b i r j) 0) (dN a.d (a.q.2.2.getD i 0)) := sumN_congr (fun j hj => by
    rw [flat_cell hA ht' hr hj, Int.mul_comm]; rfl)
  rw [e1, e2, ← h1, ← h2] at hrk
  have hd : a.p ∣ sumN (fun c => eqE a b i r k c * (flatL ms).getD c 0) (offN a.d b.d a.d.length) - sumN (fun c => sum1 a b i r k c (dN b.d (a.q.2.1.getD i 0)) * (flatL ms).getD c 0 + sum2 a b i r k c (dN a.d (a.q.2.2.getD i 0)) * (flatL ms).getD c 0 * (-1)) (offN a.d b.d a.d.length) := dvd_sumN (fun c _ => by
    obtain ⟨y, hy⟩ := emod_sub (p := a.p) (x := sum1 a b i r k c (dN b.d (a.q.2.1.getD i 0)) - sum2 a b i r k c (dN a.d (a.q.2.2.getD i 0)))
    exact ⟨y * (flatL ms).getD c 0, by rw [eqE]; grind⟩)
  rw [sumN_add, sumN_mul] at hd
  have hz := Int.emod_emod_of_dvd
  have hd2 : a.p ∣ sumN (fun c => sum1 a b i r k c (dN b.d (a.q.2.1.getD i 0)) * (flatL ms).getD c 0) (offN a.d b.d a.d.length) - sumN (fun c => sum2 a b i r k c (dN a.d (a.q.2.2.getD i 0)) * (flatL ms).getD c 0) (offN a.d b.d a.d.length) := Int.dvd_of_emod_eq_zero (Int.emod_eq_emod_iff_emod_sub_eq_zero.1 hrk)
  exact dvd_add2 hd hd2 (by omega)
/-- the values of a morphism at the free columns -/
def crdL (a b : Rp) (ms : List Mat) : List Int := (freeN (redTo a.p (idxN a b a.q.2.1.length).length (eqsF a b) (offN a.d b.d a.d.length)).2 (offN a.d b.d a.d.length)).map (fun k => (flatL ms).getD k.toNat 0)
theorem crdL_length {a b : Rp} {ms : List Mat} : (crdL a b ms).length = homN a b := by rw [crdL, List.length_map, homN]
theorem hk_get {a b : Rp} {c : Nat} (hc : c < homN a b) : (hkL a b).getD c [] = mkv (offN a.d b.d a.d.length) (kerV a.p (redTo a.p (idxN a b a.q.2.1.length).length (eqsF a b) (offN a.d b.d a.d.length)).1 (redTo a.p (idxN a b a.q.2.1.length).length (eqsF a b) (offN a.d b.d a.d.length)).2 ((freeN (redTo a.p (idxN a b a.q.2.1.length).length (eqsF a b) (offN a.d b.d a.d.length)).2 (offN a.d b.d a.d.length)).getD c 0).toNat (redTo a.p (idxN a b a.q.2.1.length).length (eqsF a b) (offN a.d b.d a.d.length)).2.length) := by
  have hc' : c < (freeN (redTo a.p (idxN a b a.q.2.1.length).length (eqsF a b) (offN a.d b.d a.d.length)).2 (offN a.d b.d a.d.length)).length := hc
  rw [hkL, kerL, List.getD, List.getElem?_map, List.getElem?_eq_getElem hc', Option.map_some, Option.getD_some, ← getD_ix hc']
theorem crd_sol {a b : Rp} {ms : List Mat} (h : MorP a b ms) :
    solX a.p (offN a.d b.d a.d.length) (homN a b) (fun i j => rowsF (hkL a b) j i) (flatL ms) = crdL a b ms ∧ solB a.p (offN a.d b.d a.d.length) (homN a b) (fun i j => rowsF (hkL a b) j i) (flatL ms) = true := by
  have hA := h.1
  have hF := hA.1
  have hp := hF.1.1
  have hin0 : inF a.p (idxN a b a.q.2.1.length).length (offN a.d b.d a.d.length) (eqsF a b) := eqs_in hp
  have hr := redTo_rr hp hin0 (offN a.d b.d a.d.length) (Nat.le_refl _)
  have hfl := flat_len hA
  have hfi := flat_in hA
  have hort : ∀ i, i < (idxN a b a.q.2.1.length).length → a.p ∣ sumN (fun j => (redTo a.p (idxN a b a.q.2.1.length).length (eqsF a b) (offN a.d b.d a.d.length)).1 i j * (flatL ms).getD j 0) (offN a.d b.d a.d.length) := fun i hi =>
    spn_ort (fun i hi => mor_ort h hi) ((redTo_spn hp hin0 (offN a.d b.d a.d.length) (Nat.le_refl _)).1 i hi)
  have hsp := ker_span hr hort
  have hA1 : ∀ i j, i < offN a.d b.d a.d.length → j < homN a b → rowsF (hkL a b) j i = kerV a.p (redTo a.p (idxN a b a.q.2.1.length).length (eqsF a b) (offN a.d b.d a.d.length)).1 (redTo a.p (idxN a b a.q.2.1.length).length (eqsF a b) (offN a.d b.d a.d.length)).2 ((freeN (redTo a.p (idxN a b a.q.2.1.length).length (eqsF a b) (offN a.d b.d a.d.length)).2 (offN a.d b.d a.d.length)).getD j 0).toNat (redTo a.p (idxN a b a.q.2.1.length).length (eqsF a b) (offN a.d b.d a.d.length)).2.length i := fun i j hi hj => by
    rw [rowsF, hk_get hj, mkv_get hi]
  have hmem : ∀ c, c < homN a b → 0 ≤ (freeN (redTo a.p (idxN a b a.q.2.1.length).length (eqsF a b) (offN a.d b.d a.d.length)).2 (offN a.d b.d a.d.length)).getD c 0 ∧ (freeN (redTo a.p (idxN a b a.q.2.1.length).length (eqsF a b) (offN a.d b.d a.d.length)).2 (offN a.d b.d a.d.length)).getD c 0 < offN a.d b.d a.d.length ∧ ¬ (freeN (redTo a.p (idxN a b a.q.2.1.length).length (eqsF a b) (offN a.d b.d a.d.length)).2 (offN a.d b.d a.d.length)).getD c 0 ∈ (redTo a.p (idxN a b a.q.2.1.length).length (eqsF a b) (offN a.d b.d a.d.length)).2 := fun c hc => by
    have hc' : c < (freeN (redTo a.p (idxN a b a.q.2.1.length).length (eqsF a b) (offN a.d b.d a.d.length)).2 (offN a.d b.d a.d.length)).length := hc
    have hm := List.getElem_mem hc'
    rw [← getD_ix hc'] at hm
    exact ⟨(freeN_mem hm).1, (freeN_mem hm).2, freeN_not hm⟩
  have hs := sol_unit (p := a.p) (R := offN a.d b.d a.d.length) (K := homN a b) (f := fun i j => rowsF (hkL a b) j i) (v := flatL ms) (y := fun c => (flatL ms).getD ((freeN (redTo a.p (idxN a b a.q.2.1.length).length (eqsF a b) (offN a.d b.d a.d.length)).2 (offN a.d b.d a.d.length)).getD c 0).toNat 0) hp
    (fun i j hi hj => by
      have hm : (hkL a b).getD j [] ∈ hkL a b := by
        have hj' : j < (hkL a b).length := by rw [hkL_length]; exact hj
        rw [List.getD, List.getElem?_eq_getElem hj']; exact List.getElem_mem _
      have := inP_get (kerL_rows (fieldP_pos hp).1 _ hm).2 (i := i) (by rw [(kerL_rows (fieldP_pos hp).1 _ hm).1]; exact hi)
      simp only [rowsF]; omega)
    hfi hfl
    (fun c hc => by
      have hc1 := hmem c hc
      refine ⟨((freeN (redTo a.p (idxN a b a.q.2.1.length).length (eqsF a b) (offN a.d b.d a.d.length)).2 (offN a.d b.d a.d.length)).getD c 0).toNat, by omega, fun j hj => ?_⟩
      have hj1 := hmem j hj
      rw [hA1 _ _ (by omega) hj, kerV_un _ (pv_ne (by rw [Int.toNat_of_nonneg hc1.1]; exact hc1.2.2) hr)]
      by_cases e : j = c
      · rw [if_pos e, e, if_pos rfl]
      · rw [if_neg e, if_neg]
        intro e2
        rcases Nat.lt_or_gt_of_ne e with h | h
        · have := freeN_up (l := (redTo a.p (idxN a b a.q.2.1.length).length (eqsF a b) (offN a.d b.d a.d.length)).2) (offN a.d b.d a.d.length) j c h hc; omega
        · have := freeN_up (l := (redTo a.p (idxN a b a.q.2.1.length).length (eqsF a b) (offN a.d b.d a.d.length)).2) (offN a.d b.d a.d.length) c j h hj; omega)
    (fun c hc => by
      have hc1 := hmem c hc
      have := inP_get hfi (i := ((freeN (redTo a.p (idxN a b a.q.2.1.length).length (eqsF a b) (offN a.d b.d a.d.length)).2 (offN a.d b.d a.d.length)).getD c 0).toNat) (by omega)
      omega)
    (fun i hi => by
      have := hsp i hi
      rw [sumN_congr (g := fun c => (fun i j => rowsF (hkL a b) j i) i c * (flatL ms).getD ((freeN (redTo a.p (idxN a b a.q.2.1.length).length (eqsF a b) (offN a.d b.d a.d.length)).2 (offN a.d b.d a.d.length)).getD c 0).toNat 0) (fun s hs => by simp only; rw [hA1 i s hi hs])] at this
      exact this)
  refine ⟨?_, hs.2⟩
  rw [hs.1, crdL]
  refine List.ext_getElem (by rw [mkv_length, List.length_map]; rfl) (fun i h1 h2 => ?_)
  rw [mkv_length] at h1
  rw [List.getElem_map, ← getD_ix (by rw [mkv_length]; exact h1), mkv_get h1, ← getD_ix]
end Go.Proofs.Ytfhgpkdhhclpbaa

namespace Go.Proofs.Ytfhgpkdhhclpbaa
open Go.Lg Go.Proofs Go.RowKit
attribute [local irreducible] Code.wp wpList bodyPost Exit.then Exit.inBlock Hp Again Calls Y AT ResV QT Qn QI wpAny wpAnyQ
set_option maxRecDepth 20000
set_option maxHeartbeats 4000000

/-! ### coordinates of morphisms -/
def crV (a b : Rp) (ms : List Mat) : List Int := if MorP a b ms then crdL a b ms else []
theorem impl_CoordinatesOf_ok {w : World} {a b : Rp} {ms : List Mat} {e e' e2 : Nat} {u0 u1 u2 u3 v0 v1 v2 v3 um : Value} (h0 : Rd w (iT a.q.2.1) u0) (h1 : Rd w (iT a.q.2.2) u1) (h2 : Rd w (iT a.d) u2) (h3 : Rd w (matsT e a.m) u3) (k0 : Rd w (iT b.q.2.1) v0) (k1 : Rd w (iT b.q.2.2) v1) (k2 : Rd w (iT b.d) v2) (k3 : Rd w (matsT e' b.m) v3) (hm : Rd w (matsT e2 ms) um) :
    Does Try.prog 37 [.agg #[iV a.p, iV a.q.1, u0, u1, u2, u3], .agg #[iV b.p, iV b.q.1, v0, v1, v2, v3], um] w (GivesIB (crV a b ms) (decide (MorP a b ms))) := by
  by_cases hM : MorP a b ms
  · rw [crV, if_pos hM, decide_eq_true hM]
    have hM' := not_not_intro hM
    have hA := hM.1
    have hF := hA.1
    have hn := off_le hF
    have hI := idx_le hF
    have hfl := flat_len hA
    obtain ⟨n, en⟩ : ∃ n, n = offN a.d b.d a.d.length := ⟨_, rfl⟩
    obtain ⟨piv, ep⟩ : ∃ piv, piv = (redTo a.p (idxN a b a.q.2.1.length).length (eqsF a b) (offN a.d b.d a.d.length)).2 := ⟨_, rfl⟩
    obtain ⟨fr, ef⟩ : ∃ fr, fr = freeN piv n := ⟨_, rfl⟩
    have hcr : crdL a b ms = fr.map (fun k => (flatL ms).getD k.toNat 0) := by rw [crdL, ← ep, ← en, ← ef]
    have hfle := freeN_le piv n
    have hfm : ∀ x ∈ fr, 0 ≤ x ∧ x < n := fun x hx => by rw [ef] at hx; exact freeN_mem hx
    rw [hcr]
    rw [← en] at hfl hn
    rw [← ef] at hfle
    refine fn_enter Try.func37 rfl Try.ntmps37 rfl ?_
    repeat' (first
      | (show AT _ _ _ (wpList _ _ _ (_ :: _)); first
         | (show AT _ _ _ (wpList _ _ _ (⟨_, Op.move _, _, _, _, _⟩ :: _)); refine st_y (y_move rfl) rfl ?_)
         | (show AT _ _ _ (wpList _ _ _ (⟨_, Op.assign _, _, _, _, _⟩ :: _)); refine st_y (y_assign rfl) rfl ?_)
         | (show AT _ _ _ (wpList _ _ _ (⟨_, Op.fieldAddr _ _ _, _, _, _, _⟩ :: _)); refine st_y (y_field tabs rfl rfl rfl) rfl ?_)
         | (show AT _ _ _ (wpList _ _ _ (⟨_, Op.load _ _, _, _, _, _⟩ :: _)); first | refine st_y (y_loadb 0 tabs rfl rfl rfl rfl) rfl ?_ | refine st_y (y_loadb 1 tabs rfl rfl rfl rfl) rfl ?_ | refine st_y (y_load tabs rfl rfl (hc_blk 3 rfl rfl)) rfl ?_)
         | (show AT _ _ _ (wpList _ _ _ (⟨_, Op.unOp _ _ _, _, _, _, _⟩ :: _)); refine st_y (y_notd rfl) rfl ?_)
         | (show AT _ _ _ (wpList _ _ _ (⟨_, Op.call _, _, _, _, _⟩ :: _)); first | (refine m_call (ent_of Try.func91 (by kernel_rfl) rfl) rfl rfl (fun w c => impl_IsMorphism_ok (a := a) (b := b) (c.rd h0) (c.rd h1) (c.rd h2) (c.rd h3) (c.rd k0) (c.rd k1) (c.rd k2) (c.rd k3) (c.rd hm)) ?_; rintro v H' ⟨rfl, rfl⟩) | (refine m_call (ent_of Try.func92 (by kernel_rfl) rfl) rfl rfl (fun w c => boundaries_ok (a := a) (b := b) (c.rd h0) (c.rd h1) (c.rd h2) (c.rd h3) (c.rd k2) (c.rd k3) hF) ?_; rintro v H' ⟨ab, cb, rfl, hsb, rfl⟩) | (refine m_call (ent_of Try.func93 (by kernel_rfl) rfl) rfl rfl (fun w c => reduceK_ok (R := (idxN a b a.q.2.1.length).length) (C := offN a.d b.d a.d.length) (c.own_rd (i := 1) rfl) hF.1.1 (by omega) (by omega) (eqs_in hF.1.1)) ?_; rintro v H' ⟨a4, c4, a5, c5, rfl, hs4, hs5, rfl⟩) | (refine m_call (ent_of Try.func94 (by kernel_rfl) rfl) rfl rfl (fun w c => (by have h := freeColumns_ok (C := n) (piv := piv) (by rw [ep]; exact c.own_rd (i := 1) rfl) (by omega); rw [← ef, en] at h; exact h)) ?_; rintro v H' ⟨af, cf, rfl, hsf, rfl⟩) | refine st_y (y_len tabs rfl rfl) rfl ?_)
         | (show AT _ _ _ (wpList _ _ _ (⟨_, Op.extract _ _, _, _, _, _⟩ :: _)); refine st_y (y_ext rfl rfl) rfl ?_)
         | (show AT _ _ _ (wpList _ _ _ (⟨_, Op.store _ _ _, _, _, _, _⟩ :: _)); refine m_storeb 0 tabs rfl rfl rfl rfl rfl rfl rfl ?_)
         | (show AT _ _ _ (wpList _ _ _ (⟨_, Op.box _ _, _, _, _, _⟩ :: _)); refine m_box rfl rfl (fun b4 hb4 => ?_))
         | (show AT _ _ _ (wpList _ _ _ (⟨_, Op.alloc _, _, _, _, _⟩ :: _)); refine m_alloc tabs rfl rfl (fun b5 hb5 => ?_)))
      | (show AT _ _ _ (wpList _ _ _ []); refine c_nil (x_then ?_))
      | (show AT _ _ _ (Code.wp _ _ _); first | refine c_seq ?_ | refine c_region ?_ | refine c_skip (x_then ?_) | refine c_block ?_ | refine c_iff rfl (by first | assumption | exact not_not_intro (by assumption) | omega) ?_))
    all_goals first | exact absurd hM (by assumption) | skip
    refine c_loopH (α := Nat × Option Addr × Nat) [2, 32, 33] (fun s => [(11, .slice s.2.1 s.1 s.2.2), (34, .int .i64 s.1)]) (fun s => s.1 ≤ fr.length) (fun s => [.own (iT ((fr.take s.1).map (fun k => (flatL ms).getD k.toNat 0))) (.slice s.2.1 s.1 s.2.2), .own (iT fr) (.slice af fr.length cf)]) (fun s => fr.length - s.1) (0, none, 0) rfl (by repeat' (first | exact Sub.nil | refine Sub.cons rfl ?_ | refine Sub.consi rfl (by omega) ?_)) ?_ ?_ ?_
    · exact Nat.zero_le _
    · exact fun w' c' => Hp.nilp _ _ (c'.sub (.cons_cons _ (List.nil_sublist _)))
    · rintro ⟨i, ao, co⟩ hi
      simp only at hi ⊢
      have hln : ((fr.take i).map (fun k => (flatL ms).getD k.toNat 0)).length = i := by rw [List.length_map, List.length_take]; omega
      by_cases hin : i < fr.length
      · have hx := hfm (fr.getD i 0) (by rw [getD_ix hin]; exact List.getElem_mem _)
        repeat' (first
          | (show AT _ _ _ (wpList _ _ _ (_ :: _)); first
             | (show AT _ _ _ (wpList _ _ _ (⟨_, Op.move _, _, _, _, _⟩ :: _)); refine st_y (y_move rfl) rfl ?_)
             | (show AT _ _ _ (wpList _ _ _ (⟨_, Op.assign _, _, _, _, _⟩ :: _)); refine st_y (y_assign rfl) rfl ?_)
             | (show AT _ _ _ (wpList _ _ _ (⟨_, Op.load _ _, _, _, _, _⟩ :: _)); first | refine st_y (y_load tabs rfl rfl (hc_own 1 rfl hin)) rfl ?_ | refine st_y (y_load tabs rfl rfl (hc_own 0 rfl (by omega))) rfl ?_)
             | (show AT _ _ _ (wpList _ _ _ (⟨_, Op.indexAddr _ _ _, _, _, _, _⟩ :: _)); first | refine st_y (y_ix1 tabs (j := i) rfl rfl rfl hsf rfl hin) rfl ?_ | refine st_y (y_ixi tabs rfl rfl rfl hs6 (by omega) (by omega)) rfl ?_)
             | (show AT _ _ _ (wpList _ _ _ (⟨_, Op.binOp _ _ _ _ _, _, _, _, _⟩ :: _)); first | refine st_y (y_add rfl rfl (by omega)) rfl ?_ | refine st_y (y_lss rfl rfl) rfl ?_)
             | (show AT _ _ _ (wpList _ _ _ (⟨_, Op.call _, _, _, _, _⟩ :: _)); first | (refine m_call (ent_of Try.func95 (by kernel_rfl) rfl) rfl rfl (fun w c => flat_ok (c.rd hm) (by omega)) ?_; rintro v H' ⟨a6, c6, rfl, hs6, rfl⟩) | refine m_pushn 1 tabs (k := (flatL ms).getD (fr.getD i 0).toNat 0) (m := i) rfl rfl rfl rfl rfl hln (by omega) (fun a7 c7 => ?_))
             | (show AT _ _ _ (wpList _ _ _ (⟨_, Op.buildSlice _ _ _, _, _, _, _⟩ :: _)); refine m_build1 tabs (us := [iV ((flatL ms).getD (fr.getD i 0).toNat 0)]) rfl rfl rfl rfl (by decide) rfl (fun g5 hg5 => ?_)))
          | (show AT _ _ _ (wpList _ _ _ []); first | refine c_nil (x_then ?_) | refine c_nil ?_)
          | (show AT _ _ _ (Code.wp _ _ _); first | refine c_seq ?_ | refine c_region ?_ | refine c_skip (x_then ?_) | refine c_block ?_ | refine c_ift rfl (by first | assumption | omega) ?_)
          | (show AT _ _ _ _; first | refine x_then ?_ | refine x_blk ?_))
        refine x_nx (i + 1, a7, c7) (by repeat' (first | exact Sub.nil | refine Sub.cons rfl ?_ | refine Sub.consi rfl (by omega) ?_)) (by simp only; omega) (fun w' c' => ?_) (by simp only; omega)
        have e1 : (fr.take (i + 1)).map (fun k => (flatL ms).getD k.toNat 0) = (fr.take i).map (fun k => (flatL ms).getD k.toNat 0) ++ [(flatL ms).getD (fr.getD i 0).toNat 0] := by
          rw [take_next (z := 0) hin, List.map_append]; rfl
        rw [e1]
        exact c'.sub (.cons_cons _ (.cons _ (List.Sublist.refl _)))
      · have : i = fr.length := by omega
        subst this
        rw [List.take_length]
        refine AT.fact (own_sl 0 rfl) (fun hsl => ?_)
        obtain ⟨a9, c9, e9, hs9⟩ := hsl
        injection e9 with q1 q2 q3
        rw [List.length_map, ← q1] at hs9
        repeat' (first
          | (show AT _ _ _ (wpList _ _ _ (_ :: _)); first
             | (show AT _ _ _ (wpList _ _ _ (⟨_, Op.move _, _, _, _, _⟩ :: _)); refine st_y (y_move rfl) rfl ?_)
             | (show AT _ _ _ (wpList _ _ _ (⟨_, Op.assign _, _, _, _, _⟩ :: _)); refine st_y (y_assign rfl) rfl ?_)
             | (show AT _ _ _ (wpList _ _ _ (⟨_, Op.binOp _ _ _ _ _, _, _, _, _⟩ :: _)); refine st_y (y_lss rfl rfl) rfl ?_))
          | (show AT _ _ _ (wpList _ _ _ []); refine c_nil (x_then ?_))
          | (show AT _ _ _ (Code.wp _ _ _); first | refine c_seq ?_ | refine c_region ?_ | refine c_ret ?_ | refine c_exit ?_ | refine c_iff rfl (by first | assumption | exact not_not_intro (by assumption) | omega) ?_)
          | (show AT _ _ _ _; first | refine x_then ?_ | refine x_then_exit ?_ | refine x_blk_exit rfl ?_))
        exact x_ret2 Try.results37 (res_tmp rfl) (res_tmp rfl) (fun w' c' => ⟨_, _, rfl, ⟨ao, co, by rw [List.length_map], by rw [List.length_map]; exact hs9, by rw [List.length_map]⟩, c'.sub (.cons_cons _ (List.nil_sublist _))⟩)
  · rw [crV, if_neg hM, decide_eq_false hM]
    refine fn_enter Try.func37 rfl Try.ntmps37 rfl ?_
    repeat' (first
      | (show AT _ _ _ (wpList _ _ _ (_ :: _)); first
         | (show AT _ _ _ (wpList _ _ _ (⟨_, Op.move _, _, _, _, _⟩ :: _)); refine st_y (y_move rfl) rfl ?_)
         | (show AT _ _ _ (wpList _ _ _ (⟨_, Op.assign _, _, _, _, _⟩ :: _)); refine st_y (y_assign rfl) rfl ?_)
         | (show AT _ _ _ (wpList _ _ _ (⟨_, Op.load _ _, _, _, _, _⟩ :: _)); first | refine st_y (y_loadb 0 tabs rfl rfl rfl rfl) rfl ?_ | refine st_y (y_loadb 1 tabs rfl rfl rfl rfl) rfl ?_)
         | (show AT _ _ _ (wpList _ _ _ (⟨_, Op.unOp _ _ _, _, _, _, _⟩ :: _)); refine st_y (y_notd rfl) rfl ?_)
         | (show AT _ _ _ (wpList _ _ _ (⟨_, Op.call _, _, _, _, _⟩ :: _)); (refine m_call (ent_of Try.func91 (by kernel_rfl) rfl) rfl rfl (fun w c => impl_IsMorphism_ok (a := a) (b := b) (c.rd h0) (c.rd h1) (c.rd h2) (c.rd h3) (c.rd k0) (c.rd k1) (c.rd k2) (c.rd k3) (c.rd hm)) ?_; rintro v H' ⟨rfl, rfl⟩))
         | (show AT _ _ _ (wpList _ _ _ (⟨_, Op.box _ _, _, _, _, _⟩ :: _)); refine m_box rfl rfl (fun b4 hb4 => ?_)))
      | (show AT _ _ _ (wpList _ _ _ []); refine c_nil (x_then ?_))
      | (show AT _ _ _ (Code.wp _ _ _); first | refine c_seq ?_ | refine c_region ?_ | refine c_ret ?_ | refine c_ift rfl (by first | assumption | omega) ?_)
      | (show AT _ _ _ _; refine x_then_ret ?_))
    all_goals first | exact absurd (by assumption) hM | skip
    exact x_ret2 Try.results37 (res_tmp rfl) (res_tmp rfl) (fun w' c' => ⟨_, _, rfl, ⟨none, 0, rfl, .inl rfl, rfl⟩, Hp.nilp _ _ (c'.sub (List.nil_sublist _))⟩)
end Go.Proofs.Ytfhgpkdhhclpbaa
