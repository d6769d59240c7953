import Derived.Test.YtfhgpkdhhclpbaaClsqcb
import Derived.Test.YtfhgpkdhhclpbaaCobqcb
import Derived.Test.YtfhgpkdhhclpbaaEqsqcb
import Derived.Test.YtfhgpkdhhclpbaaHdsqcb
import Derived.Test.YtfhgpkdhhclpbaaMnbqcb
import Derived.Test.YtfhgpkdhhclpbaaMxfqcb
namespace Go.Proofs.Ytfhgpkdhhclpbaa
open Go.Lg Go.Proofs Go.RowKit
theorem OwnL.unapp {w : World} : ∀ {t1 t2 : List T} {vs : List Value} {fp : List Nat}, OwnL w (t1 ++ t2) vs fp → ∃ v1 v2 f1 f2, vs = v1 ++ v2 ∧ fp = f1 ++ f2 ∧ OwnL w t1 v1 f1 ∧ OwnL w t2 v2 f2 ∧ v1.length = t1.length
  | [], t2, vs, fp, h => ⟨[], vs, [], fp, rfl, rfl, by simp [OwnL], h, rfl⟩
  | t :: t1, t2, vs, fp, h => by
    simp only [List.cons_append, OwnL] at h
    obtain ⟨v, vs', f1, f2, rfl, rfl, h3, h4⟩ := h
    obtain ⟨v1, v2, g1, g2, rfl, rfl, h5, h6, h7⟩ := OwnL.unapp h4
    exact ⟨v :: v1, v2, f1 ++ g1, g2, rfl, by rw [List.append_assoc], by simp only [OwnL]; exact ⟨v, v1, f1, g1, rfl, rfl, h3, h5⟩, h6, by simp [h7]⟩
/-- a tree in the midst of a list of ours, taken out -/
theorem own_mid {M : List Nat} {w0 w : World} {H : List HE} {t1 t2 : List T} {t : T} {vs : List Value} (hp : Hp M w0 (.ownL (t1 ++ t :: t2) vs :: H) w) : ∃ v1 v v2, vs = v1 ++ v :: v2 ∧ v1.length = t1.length ∧ Hp M w0 (.own t v :: .ownL t1 v1 :: .ownL t2 v2 :: H) w := by
  obtain ⟨fp, ⟨f1, f2, rfl, s1, s2⟩, nd, ge, kp⟩ := hp
  simp only [HE.sat] at s1
  obtain ⟨v1, v2', g1, g2, rfl, rfl, h5, h6, h7⟩ := OwnL.unapp s1
  simp only [OwnL] at h6
  obtain ⟨v, v2, k1, k2, rfl, rfl, h8, h9⟩ := h6
  have hpm : List.Perm (k1 ++ (g1 ++ (k2 ++ f2))) ((g1 ++ (k1 ++ k2)) ++ f2) := by
    simp only [List.append_assoc]
    exact (List.perm_append_comm_assoc k1 g1 (k2 ++ f2))
  exact ⟨v1, v, v2, rfl, h7, k1 ++ (g1 ++ (k2 ++ f2)), ⟨k1, g1 ++ (k2 ++ f2), rfl, h8, g1, k2 ++ f2, rfl, h5, k2, f2, rfl, h9, s2⟩, hpm.nodup_iff.2 nd, fun b hb => ge b (hpm.mem_iff.1 hb), kp⟩
theorem at_mid {n : Nat} {s : List (Nat × Value)} {R : Act → World → Prop} {M : List Nat} {w0 : World} {H : List HE} {t1 t2 : List T} {t : T} {vs : List Value} (h : ∀ v1 v v2, vs = v1 ++ v :: v2 → v1.length = t1.length → AT n (Hp M w0 (.own t v :: .ownL t1 v1 :: .ownL t2 v2 :: H)) s R) : AT n (Hp M w0 (.ownL (t1 ++ t :: t2) vs :: H)) s R := fun a w f c => by
  obtain ⟨v1, v, v2, e, hl, c'⟩ := own_mid c
  exact h v1 v v2 e hl a w f c'
/-- .. and put back -/
theorem own_back {M : List Nat} {w0 w : World} {H : List HE} {t1 t2 : List T} {t : T} {v1 v2 : List Value} {v : Value} (hp : Hp M w0 (.own t v :: .ownL t1 v1 :: .ownL t2 v2 :: H) w) : Hp M w0 (.ownL (t1 ++ t :: t2) (v1 ++ v :: v2) :: H) w := by
  obtain ⟨fp, ⟨k1, _, rfl, h8, g1, _, rfl, h5, k2, f2, rfl, h9, s2⟩, nd, ge, kp⟩ := hp
  have hpm : List.Perm (k1 ++ (g1 ++ (k2 ++ f2))) ((g1 ++ (k1 ++ k2)) ++ f2) := by
    simp only [List.append_assoc]
    exact (List.perm_append_comm_assoc k1 g1 (k2 ++ f2))
  refine ⟨(g1 ++ (k1 ++ k2)) ++ f2, ⟨g1 ++ (k1 ++ k2), f2, rfl, ?_, s2⟩, hpm.nodup_iff.1 nd, fun b hb => ge b (hpm.mem_iff.2 hb), kp⟩
  simp only [HE.sat] at h5 h8 h9 ⊢
  refine OwnL.append h5 ?_
  simp only [OwnL]
  exact ⟨v, v2, k1, k2, rfl, rfl, h8, h9⟩
attribute [local irreducible] Code.wp wpList bodyPost Exit.then Exit.inBlock Hp Again Calls Y AT ResV QT Qn QI wpAny wpAnyQ
set_option maxRecDepth 20000
set_option maxHeartbeats 4000000

/-! ### combinations of morphisms, in plain -/
/-- the sum of the products of the first lists with numbers -/
def cmS (p : Int) (ks : List Int) (l : List (List Mat)) (t : Nat) : Nat → Int := fun q => sumN (fun s => ks.getD s 0 * (flatL (l.getD s [])).getD q 0) t % p
theorem cut_mkv {n o s : Nat} {y : Nat → Int} (h : o + s ≤ n) : ((mkv n y).drop o).take s = mkv s (fun q => y (o + q)) := by
  refine List.ext_getElem (by simp [mkv]; omega) (fun i h1 h2 => ?_)
  simp [mkv]
/-- midway through a list of matrices: the cells ahead of a vertex have their new values -/
def cmT (p : Int) (ks : List Int) (l : List (List Mat)) (da db : List Int) (i v : Nat) : Nat → Int := fun q => if q < offN da db v then cmS p ks l (i + 1) q else cmS p ks l i q
theorem cmT_zero {p : Int} {ks : List Int} {l : List (List Mat)} {da db : List Int} {n i : Nat} : mkv n (cmS p ks l i) = mkv n (cmT p ks l da db i 0) := mkv_ext (fun q _ => by rw [cmT, if_neg (by rw [offN]; omega)])
theorem cmT_end {p : Int} {ks : List Int} {l : List (List Mat)} {da db : List Int} {i v : Nat} : mkv (offN da db v) (cmT p ks l da db i v) = mkv (offN da db v) (cmS p ks l (i + 1)) := mkv_ext (fun q hq => by rw [cmT, if_pos hq])
theorem cmS_step {p : Int} {ks : List Int} {l : List (List Mat)} {i q : Nat} : (cmS p ks l i q + ks.getD i 0 * (flatL (l.getD i [])).getD q 0) % p = cmS p ks l (i + 1) q := by
  rw [cmS, cmS, sumN, Int.emod_add_emod]
/-- where the cells of a vertex lie among all cells -/
theorem flat_at {a b : Rp} {ms : List Mat} (h : AreP a b ms) : ∀ v, v ≤ a.d.length → (flatL (ms.take v)).length = offN a.d b.d v
  | 0, _ => by simp [flatL, offN]
  | v + 1, hv => by
    have ih := flat_at h v (by omega)
    have hl := h.2.1
    obtain ⟨m, hm⟩ : ∃ m, ms[v]? = some m := ⟨_, List.getElem?_eq_getElem (by omega)⟩
    have gm : ms.getD v mat0 = m := by rw [List.getD, hm]; rfl
    obtain ⟨p1, p2, p3⟩ := h.2.2 v (by omega)
    rw [gm] at p1 p2 p3
    have d1 := h.1.1.dg v
    have d2 := h.1.2.1.dg v
    obtain ⟨_, _, c3, _⟩ := cellsP_of (R := (b.d.getD v 0).toNat) (C := (a.d.getD v 0).toNat) p1 (by omega) (by omega)
    rw [← flatL_next hm, List.length_append, ih, offN, szV, c3, mk_length, Nat.mul_comm (b.d.getD v 0).toNat]
theorem flat_get {a b : Rp} {ms : List Mat} {v q : Nat} {m : Mat} (h : AreP a b ms) (hm : ms[v]? = some m) (hq : q < m.2.2.length) : (flatL ms).getD (offN a.d b.d v + q) 0 = m.2.2.getD q 0 := by
  have hv : v < ms.length := (List.getElem?_eq_some_iff.1 hm).1
  have hl := flat_at h v (by have := h.2.1; omega)
  have e : flatL ms = flatL (ms.take v) ++ (m.2.2 ++ flatL (ms.drop (v + 1))) := by
    conv => lhs; rw [← List.take_append_drop (v + 1) ms]
    rw [flatL, List.flatMap_append, ← List.append_assoc, flatL_next hm]; rfl
  rw [e, List.getD, List.getElem?_append_right (by omega), hl, Nat.add_sub_cancel_left, List.getElem?_append_left hq]
  rfl
theorem flat_split {D : List Mat} {v : Nat} {m : Mat} (h : D[v]? = some m) : D.flatMap matT = ((D.take v).flatMap matT ++ [.c (iV m.1), .c (iV m.2.1)]) ++ iT m.2.2 :: (D.drop (v + 1)).flatMap matT := by
  conv => lhs; rw [← List.take_append_drop (v + 1) D]
  rw [List.flatMap_append, List.take_add_one, h, List.flatMap_append]
  simp only [Option.toList_some, List.flatMap_cons, List.flatMap_nil, List.append_nil, List.append_assoc]
  rfl
theorem flat_set {D : List Mat} {v : Nat} {m : Mat} {xs : List Int} (h : D[v]? = some m) : ((D.take v).flatMap matT ++ [.c (iV m.1), .c (iV m.2.1)]) ++ iT xs :: (D.drop (v + 1)).flatMap matT = (D.set v (m.1, m.2.1, xs)).flatMap matT := by
  have hv : v < D.length := (List.getElem?_eq_some_iff.1 h).1
  rw [flat_split (D := D.set v (m.1, m.2.1, xs)) (v := v) (m := (m.1, m.2.1, xs)) (by rw [List.getElem?_set, if_pos rfl, if_pos hv]), List.take_set_of_le (Nat.le_refl _), List.drop_set_of_lt (by omega)]
theorem flat_pre {da db x : List Int} {v : Nat} (h : v < da.length) {m : Mat} : ((((cutL da db x).take v).flatMap matT) ++ [T.c (iV m.1), T.c (iV m.2.1)]).length = v * 3 + 2 := by
  rw [List.length_append, flatMap_length matT_length, List.length_take, cutL, tabM_length]
  simp only [List.length_cons, List.length_nil]
  omega
/-- the cells at a vertex, midway -/
theorem cmT_cell {p : Int} {ks : List Int} {l : List (List Mat)} {da db : List Int} {n i v : Nat} (hn : n = offN da db da.length) (hv : v < da.length) :
    (cutM da db (mkv n (cmT p ks l da db i v)) v).2.2 = mkv (szV da db v) (fun q => cmS p ks l i (offN da db v + q)) ∧
    ∀ (ys : List Int), (∀ q, q < szV da db v → ys.getD q 0 = (flatL (l.getD i [])).getD (offN da db v + q) 0) →
      (cutL da db (mkv n (cmT p ks l da db i v))).set v ((cutM da db (mkv n (cmT p ks l da db i v)) v).1, (cutM da db (mkv n (cmT p ks l da db i v)) v).2.1, addTo p (ks.getD i 0) (mkv (szV da db v) (fun q => cmS p ks l i (offN da db v + q))) 0 ys (szV da db v)) = cutL da db (mkv n (cmT p ks l da db i (v + 1))) := by
  have hm := offN_mono (da := da) (db := db) (u := v + 1) (v := da.length) hv
  have hs : offN da db (v + 1) = offN da db v + szV da db v := rfl
  refine ⟨?_, fun ys hy => ?_⟩
  · rw [cutM]
    simp only
    rw [cut_mkv (by omega)]
    exact mkv_ext (fun q hq => by rw [cmT, if_neg (by omega)])
  · refine List.ext_getElem? (fun u => ?_)
    rw [List.getElem?_set]
    by_cases hu : u < da.length
    · have e1 : (cutL da db (mkv n (cmT p ks l da db i (v + 1))))[u]? = some (cutM da db (mkv n (cmT p ks l da db i (v + 1))) u) := tabM_get hu
      have e2 : (cutL da db (mkv n (cmT p ks l da db i v)))[u]? = some (cutM da db (mkv n (cmT p ks l da db i v)) u) := tabM_get hu
      have hmu := offN_mono (da := da) (db := db) (u := u + 1) (v := da.length) hu
      have hsu : offN da db (u + 1) = offN da db u + szV da db u := rfl
      rw [e1, e2]
      by_cases huv : v = u
      · subst huv
        rw [if_pos rfl, if_pos (by rw [cutL, tabM_length]; exact hv), cutM, cutM]
        simp only
        rw [cut_mkv (by omega), addTo_all]
        congr 3
        exact mkv_ext (fun q hq => by rw [hy q hq, cmS_step, cmT, if_pos (by omega)])
      · rw [if_neg huv, cutM, cutM, cut_mkv (by omega), cut_mkv (by omega)]
        congr 3
        refine mkv_ext (fun q hq => ?_)
        rcases Nat.lt_or_gt_of_ne huv with h | h
        · have := offN_mono (da := da) (db := db) (u := v + 1) (v := u) h
          rw [cmT, cmT, if_neg (by omega), if_neg (by omega)]
        · have := offN_mono (da := da) (db := db) (u := u + 1) (v := v) h
          rw [cmT, cmT, if_pos (by omega), if_pos (by omega)]
    · have e1 : (cutL da db (mkv n (cmT p ks l da db i (v + 1))))[u]? = none := List.getElem?_eq_none (by rw [cutL, tabM_length]; omega)
      have e2 : (cutL da db (mkv n (cmT p ks l da db i v)))[u]? = none := List.getElem?_eq_none (by rw [cutL, tabM_length]; omega)
      rw [if_neg (by omega), e1, e2]
theorem cmS_rng {p : Int} {ks : List Int} {l : List (List Mat)} {i q : Nat} (hF : FieldP p) : 0 ≤ cmS p ks l i q ∧ cmS p ks l i q ≤ 5 := by
  have hp := fieldP_pos hF
  have h1 := Int.emod_nonneg (sumN (fun s => ks.getD s 0 * (flatL (l.getD s [])).getD q 0) i) (show p ≠ 0 by omega)
  have h2 := Int.emod_lt_of_pos (sumN (fun s => ks.getD s 0 * (flatL (l.getD s [])).getD q 0) i) (show 0 < p by omega)
  rw [cmS]
  omega
theorem zn_cut {p : Int} {ks : List Int} {l : List (List Mat)} {da db : List Int} {n : Nat} (hn : n = offN da db da.length) : znMs da db da.length = cutL da db (mkv n (cmS p ks l 0)) := by
  rw [znMs, cutL, tabM]
  refine List.map_congr_left (fun v hv => ?_)
  have hv := List.mem_range.1 hv
  have h1 := offN_mono (da := da) (db := db) (u := v + 1) (v := da.length) hv
  rw [offN] at h1
  have e : (mkv n (cmS p ks l 0)) = mkv n (fun _ => 0) := mkv_ext (fun q _ => by rw [cmS, sumN, Int.zero_emod])
  rw [znM, cutM, e, cut_mkv (by omega), ← mk_zero, ← mkv_zero, szV, Nat.mul_comm (da.getD v 0).toNat]
end Go.Proofs.Ytfhgpkdhhclpbaa
