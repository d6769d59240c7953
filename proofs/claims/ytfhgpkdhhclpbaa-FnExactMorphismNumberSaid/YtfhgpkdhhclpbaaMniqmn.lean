import Derived.Test.YtfhgpkdhhclpbaaCobqmn
import Derived.Test.YtfhgpkdhhclpbaaHspqmn
import Derived.Test.YtfhgpkdhhclpbaaMnbqmn
namespace Go.Proofs.Ytfhgpkdhhclpbaa
open Go.Lg Go.Proofs Go.RowKit
theorem OwnL.unapp {w : World} : ∀ {t1 t2 : List T} {vs : List Value} {fp : List Nat}, OwnL w (t1 ++ t2) vs fp → ∃ v1 v2 f1 f2, vs = v1 ++ v2 ∧ fp = f1 ++ f2 ∧ OwnL w t1 v1 f1 ∧ OwnL w t2 v2 f2 ∧ v1.length = t1.length
  | [], t2, vs, fp, h => ⟨[], vs, [], fp, rfl, rfl, by simp [OwnL], h, rfl⟩
  | t :: t1, t2, vs, fp, h => by
    simp only [List.cons_append, OwnL] at h
    obtain ⟨v, vs', f1, f2, rfl, rfl, h3, h4⟩ := h
    obtain ⟨v1, v2, g1, g2, rfl, rfl, h5, h6, h7⟩ := OwnL.unapp h4
    exact ⟨v :: v1, v2, f1 ++ g1, g2, rfl, by rw [List.append_assoc], by simp only [OwnL]; exact ⟨v, v1, f1, g1, rfl, rfl, h3, h5⟩, h6, by simp [h7]⟩
/-- a tree in the midst of a list of ours, taken out -/
theorem own_mid {M : List Nat} {w0 w : World} {H : List HE} {t1 t2 : List T} {t : T} {vs : List Value} (hp : Hp M w0 (.ownL (t1 ++ t :: t2) vs :: H) w) : ∃ v1 v v2, vs = v1 ++ v :: v2 ∧ v1.length = t1.length ∧ Hp M w0 (.own t v :: .ownL t1 v1 :: .ownL t2 v2 :: H) w := by
  obtain ⟨fp, ⟨f1, f2, rfl, s1, s2⟩, nd, ge, kp⟩ := hp
  simp only [HE.sat] at s1
  obtain ⟨v1, v2', g1, g2, rfl, rfl, h5, h6, h7⟩ := OwnL.unapp s1
  simp only [OwnL] at h6
  obtain ⟨v, v2, k1, k2, rfl, rfl, h8, h9⟩ := h6
  have hpm : List.Perm (k1 ++ (g1 ++ (k2 ++ f2))) ((g1 ++ (k1 ++ k2)) ++ f2) := by
    simp only [List.append_assoc]
    exact (List.perm_append_comm_assoc k1 g1 (k2 ++ f2))
  exact ⟨v1, v, v2, rfl, h7, k1 ++ (g1 ++ (k2 ++ f2)), ⟨k1, g1 ++ (k2 ++ f2), rfl, h8, g1, k2 ++ f2, rfl, h5, k2, f2, rfl, h9, s2⟩, hpm.nodup_iff.2 nd, fun b hb => ge b (hpm.mem_iff.1 hb), kp⟩
theorem at_mid {n : Nat} {s : List (Nat × Value)} {R : Act → World → Prop} {M : List Nat} {w0 : World} {H : List HE} {t1 t2 : List T} {t : T} {vs : List Value} (h : ∀ v1 v v2, vs = v1 ++ v :: v2 → v1.length = t1.length → AT n (Hp M w0 (.own t v :: .ownL t1 v1 :: .ownL t2 v2 :: H)) s R) : AT n (Hp M w0 (.ownL (t1 ++ t :: t2) vs :: H)) s R := fun a w f c => by
  obtain ⟨v1, v, v2, e, hl, c'⟩ := own_mid c
  exact h v1 v v2 e hl a w f c'
/-- .. and put back -/
theorem own_back {M : List Nat} {w0 w : World} {H : List HE} {t1 t2 : List T} {t : T} {v1 v2 : List Value} {v : Value} (hp : Hp M w0 (.own t v :: .ownL t1 v1 :: .ownL t2 v2 :: H) w) : Hp M w0 (.ownL (t1 ++ t :: t2) (v1 ++ v :: v2) :: H) w := by
  obtain ⟨fp, ⟨k1, _, rfl, h8, g1, _, rfl, h5, k2, f2, rfl, h9, s2⟩, nd, ge, kp⟩ := hp
  have hpm : List.Perm (k1 ++ (g1 ++ (k2 ++ f2))) ((g1 ++ (k1 ++ k2)) ++ f2) := by
    simp only [List.append_assoc]
    exact (List.perm_append_comm_assoc k1 g1 (k2 ++ f2))
  refine ⟨(g1 ++ (k1 ++ k2)) ++ f2, ⟨g1 ++ (k1 ++ k2), f2, rfl, ?_, s2⟩, hpm.nodup_iff.1 nd, fun b hb => ge b (hpm.mem_iff.2 hb), kp⟩
  simp only [HE.sat] at h5 h8 h9 ⊢
  refine OwnL.append h5 ?_
  simp only [OwnL]
  exact ⟨v, v2, k1, k2, rfl, rfl, h8, h9⟩
attribute [local irreducible] Code.wp wpList bodyPost Exit.then Exit.inBlock Hp Again Calls Y AT ResV QT Qn QI wpAny wpAnyQ
set_option maxRecDepth 20000
set_option maxHeartbeats 4000000

/-! ### combinations of morphisms, in plain -/
theorem sumN_first {G : Nat → Int} : ∀ n, sumN G (n + 1) = G 0 + sumN (fun s => G (s + 1)) n
  | 0 => by simp [sumN]
  | n + 1 => by rw [sumN, sumN_first n, sumN]; omega
theorem sumN_rev {F : Nat → Int} : ∀ n, sumN (fun s => F (n - 1 - s)) n = sumN F n
  | 0 => rfl
  | n + 1 => by
    have ih := sumN_rev (F := F) n
    rw [sumN_first, sumN, ← ih]
    have e : sumN (fun s => F (n + 1 - 1 - (s + 1))) n = sumN (fun s => F (n - 1 - s)) n := sumN_congr (fun s hs => by congr 1; omega)
    rw [e]
    simp only [Nat.add_sub_cancel, Nat.sub_zero]
    omega
/-- the sum of the products of the first lists with numbers -/
def cmS (p : Int) (ks : List Int) (l : List (List Mat)) (t : Nat) : Nat → Int := fun q => sumN (fun s => ks.getD s 0 * (flatL (l.getD s [])).getD q 0) t % p
theorem cmS_dig {p c : Int} {l : List (List Mat)} {n : Nat} : mkv n (cmS p (mkv l.length (digF p c l.length)) l l.length) = mkv n (nmS p c l l.length) := mkv_ext (fun q _ => by
  rw [cmS, nmS]
  congr 1
  rw [← sumN_rev]
  refine sumN_congr (fun s hs => ?_)
  rw [mkv_get (show l.length - 1 - s < l.length by omega), digF, show l.length - 1 - (l.length - 1 - s) = s by omega])
theorem cut_mkv {n o s : Nat} {y : Nat → Int} (h : o + s ≤ n) : ((mkv n y).drop o).take s = mkv s (fun q => y (o + q)) := by
  refine List.ext_getElem (by simp [mkv]; omega) (fun i h1 h2 => ?_)
  simp [mkv]
/-- midway through a list of matrices: the cells ahead of a vertex have their new values -/
def cmT (p : Int) (ks : List Int) (l : List (List Mat)) (da db : List Int) (i v : Nat) : Nat → Int := fun q => if q < offN da db v then cmS p ks l (i + 1) q else cmS p ks l i q
theorem cmT_zero {p : Int} {ks : List Int} {l : List (List Mat)} {da db : List Int} {n i : Nat} : mkv n (cmS p ks l i) = mkv n (cmT p ks l da db i 0) := mkv_ext (fun q _ => by rw [cmT, if_neg (by rw [offN]; omega)])
theorem cmT_end {p : Int} {ks : List Int} {l : List (List Mat)} {da db : List Int} {i v : Nat} : mkv (offN da db v) (cmT p ks l da db i v) = mkv (offN da db v) (cmS p ks l (i + 1)) := mkv_ext (fun q hq => by rw [cmT, if_pos hq])
theorem cmS_step {p : Int} {ks : List Int} {l : List (List Mat)} {i q : Nat} : (cmS p ks l i q + ks.getD i 0 * (flatL (l.getD i [])).getD q 0) % p = cmS p ks l (i + 1) q := by
  rw [cmS, cmS, sumN, Int.emod_add_emod]
/-- where the cells of a vertex lie among all cells -/
theorem flat_at {a b : Rp} {ms : List Mat} (h : AreP a b ms) : ∀ v, v ≤ a.d.length → (flatL (ms.take v)).length = offN a.d b.d v
  | 0, _ => by simp [flatL, offN]
  | v + 1, hv => by
    have ih := flat_at h v (by omega)
    have hl := h.2.1
    obtain ⟨m, hm⟩ : ∃ m, ms[v]? = some m := ⟨_, List.getElem?_eq_getElem (by omega)⟩
    have gm : ms.getD v mat0 = m := by rw [List.getD, hm]; rfl
    obtain ⟨p1, p2, p3⟩ := h.2.2 v (by omega)
    rw [gm] at p1 p2 p3
    have d1 := h.1.1.dg v
    have d2 := h.1.2.1.dg v
    obtain ⟨_, _, c3, _⟩ := cellsP_of (R := (b.d.getD v 0).toNat) (C := (a.d.getD v 0).toNat) p1 (by omega) (by omega)
    rw [← flatL_next hm, List.length_append, ih, offN, szV, c3, mk_length, Nat.mul_comm (b.d.getD v 0).toNat]
theorem flat_get {a b : Rp} {ms : List Mat} {v q : Nat} {m : Mat} (h : AreP a b ms) (hm : ms[v]? = some m) (hq : q < m.2.2.length) : (flatL ms).getD (offN a.d b.d v + q) 0 = m.2.2.getD q 0 := by
  have hv : v < ms.length := (List.getElem?_eq_some_iff.1 hm).1
  have hl := flat_at h v (by have := h.2.1; omega)
  have e : flatL ms = flatL (ms.take v) ++ (m.2.2 ++ flatL (ms.drop (v + 1))) := by
    conv => lhs; rw [← List.take_append_drop (v + 1) ms]
    rw [flatL, List.flatMap_append, ← List.append_assoc, flatL_next hm]; rfl
  rw [e, List.getD, List.getElem?_append_right (by omega), hl, Nat.add_sub_cancel_left, List.getElem?_append_left hq]
  rfl
theorem flat_split {D : List Mat} {v : Nat} {m : Mat} (h : D[v]? = some m) : D.flatMap matT = ((D.take v).flatMap matT ++ [.c (iV m.1), .c (iV m.2.1)]) ++ iT m.2.2 :: (D.drop (v + 1)).flatMap matT := by
  conv => lhs; rw [← List.take_append_drop (v + 1) D]
  rw [List.flatMap_append, List.take_add_one, h, List.flatMap_append]
  simp only [Option.toList_some, List.flatMap_cons, List.flatMap_nil, List.append_nil, List.append_assoc]
  rfl
theorem flat_set {D : List Mat} {v : Nat} {m : Mat} {xs : List Int} (h : D[v]? = some m) : ((D.take v).flatMap matT ++ [.c (iV m.1), .c (iV m.2.1)]) ++ iT xs :: (D.drop (v + 1)).flatMap matT = (D.set v (m.1, m.2.1, xs)).flatMap matT := by
  have hv : v < D.length := (List.getElem?_eq_some_iff.1 h).1
  rw [flat_split (D := D.set v (m.1, m.2.1, xs)) (v := v) (m := (m.1, m.2.1, xs)) (by rw [List.getElem?_set, if_pos rfl, if_pos hv]), List.take_set_of_le (Nat.le_refl _), List.drop_set_of_lt (by omega)]
theorem flat_pre {da db x : List Int} {v : Nat} (h : v < da.length) {m : Mat} : ((((cutL da db x).take v).flatMap matT) ++ [T.c (iV m.1), T.c (iV m.2.1)]).length = v * 3 + 2 := by
  rw [List.length_append, flatMap_length matT_length, List.length_take, cutL, tabM_length]
  simp only [List.length_cons, List.length_nil]
  omega
/-- the cells at a vertex, midway -/
theorem cmT_cell {p : Int} {ks : List Int} {l : List (List Mat)} {da db : List Int} {n i v : Nat} (hn : n = offN da db da.length) (hv : v < da.length) :
    (cutM da db (mkv n (cmT p ks l da db i v)) v).2.2 = mkv (szV da db v) (fun q => cmS p ks l i (offN da db v + q)) ∧
    ∀ (ys : List Int), (∀ q, q < szV da db v → ys.getD q 0 = (flatL (l.getD i [])).getD (offN da db v + q) 0) →
      (cutL da db (mkv n (cmT p ks l da db i v))).set v ((cutM da db (mkv n (cmT p ks l da db i v)) v).1, (cutM da db (mkv n (cmT p ks l da db i v)) v).2.1, addTo p (ks.getD i 0) (mkv (szV da db v) (fun q => cmS p ks l i (offN da db v + q))) 0 ys (szV da db v)) = cutL da db (mkv n (cmT p ks l da db i (v + 1))) := by
  have hm := offN_mono (da := da) (db := db) (u := v + 1) (v := da.length) hv
  have hs : offN da db (v + 1) = offN da db v + szV da db v := rfl
  refine ⟨?_, fun ys hy => ?_⟩
  · rw [cutM]
    simp only
    rw [cut_mkv (by omega)]
    exact mkv_ext (fun q hq => by rw [cmT, if_neg (by omega)])
  · refine List.ext_getElem? (fun u => ?_)
    rw [List.getElem?_set]
    by_cases hu : u < da.length
    · have e1 : (cutL da db (mkv n (cmT p ks l da db i (v + 1))))[u]? = some (cutM da db (mkv n (cmT p ks l da db i (v + 1))) u) := tabM_get hu
      have e2 : (cutL da db (mkv n (cmT p ks l da db i v)))[u]? = some (cutM da db (mkv n (cmT p ks l da db i v)) u) := tabM_get hu
      have hmu := offN_mono (da := da) (db := db) (u := u + 1) (v := da.length) hu
      have hsu : offN da db (u + 1) = offN da db u + szV da db u := rfl
      rw [e1, e2]
      by_cases huv : v = u
      · subst huv
        rw [if_pos rfl, if_pos (by rw [cutL, tabM_length]; exact hv), cutM, cutM]
        simp only
        rw [cut_mkv (by omega), addTo_all]
        congr 3
        exact mkv_ext (fun q hq => by rw [hy q hq, cmS_step, cmT, if_pos (by omega)])
      · rw [if_neg huv, cutM, cutM, cut_mkv (by omega), cut_mkv (by omega)]
        congr 3
        refine mkv_ext (fun q hq => ?_)
        rcases Nat.lt_or_gt_of_ne huv with h | h
        · have := offN_mono (da := da) (db := db) (u := v + 1) (v := u) h
          rw [cmT, cmT, if_neg (by omega), if_neg (by omega)]
        · have := offN_mono (da := da) (db := db) (u := u + 1) (v := v) h
          rw [cmT, cmT, if_pos (by omega), if_pos (by omega)]
    · have e1 : (cutL da db (mkv n (cmT p ks l da db i (v + 1))))[u]? = none := List.getElem?_eq_none (by rw [cutL, tabM_length]; omega)
      have e2 : (cutL da db (mkv n (cmT p ks l da db i v)))[u]? = none := List.getElem?_eq_none (by rw [cutL, tabM_length]; omega)
      rw [if_neg (by omega), e1, e2]
theorem cmS_rng {p : Int} {ks : List Int} {l : List (List Mat)} {i q : Nat} (hF : FieldP p) : 0 ≤ cmS p ks l i q ∧ cmS p ks l i q ≤ 5 := by
  have hp := fieldP_pos hF
  have h1 := Int.emod_nonneg (sumN (fun s => ks.getD s 0 * (flatL (l.getD s [])).getD q 0) i) (show p ≠ 0 by omega)
  have h2 := Int.emod_lt_of_pos (sumN (fun s => ks.getD s 0 * (flatL (l.getD s [])).getD q 0) i) (show 0 < p by omega)
  rw [cmS]
  omega
theorem zn_cut {p : Int} {ks : List Int} {l : List (List Mat)} {da db : List Int} {n : Nat} (hn : n = offN da db da.length) : znMs da db da.length = cutL da db (mkv n (cmS p ks l 0)) := by
  rw [znMs, cutL, tabM]
  refine List.map_congr_left (fun v hv => ?_)
  have hv := List.mem_range.1 hv
  have h1 := offN_mono (da := da) (db := db) (u := v + 1) (v := da.length) hv
  rw [offN] at h1
  have e : (mkv n (cmS p ks l 0)) = mkv n (fun _ => 0) := mkv_ext (fun q _ => by rw [cmS, sumN, Int.zero_emod])
  rw [znM, cutM, e, cut_mkv (by omega), ← mk_zero, ← mkv_zero, szV, Nat.mul_comm (da.getD v 0).toNat]
end Go.Proofs.Ytfhgpkdhhclpbaa

namespace Go.Proofs.Ytfhgpkdhhclpbaa
open Go.Lg Go.Proofs Go.RowKit
attribute [local irreducible] Code.wp wpList bodyPost Exit.then Exit.inBlock Hp Again Calls Y AT ResV QT Qn QI wpAny wpAnyQ
set_option maxRecDepth 20000
set_option maxHeartbeats 4000000

/-! ### combinations of morphisms, by the program -/
theorem combined_ok {w : World} {a b : Rp} {l : List (List Mat)} {ks : List Int} {e e' : Nat} {u0 u1 u2 u3 v0 v1 v2 v3 ul uk : Value} (h2 : Rd w (iT a.d) u2) (k2 : Rd w (iT b.d) v2) (hl : Rd w (mssT e e' l) ul) (hk : Rd w (iT ks) uk) (hF : FitP a b) (hkl : ks.length = l.length) (hks : InP 0 (a.p - 1) ks)
    (hx : ∀ (i : Nat) (ms : List Mat), l[i]? = some ms → AreP a b ms) :
    Does Try.prog 105 [.agg #[iV a.p, iV a.q.1, u0, u1, u2, u3], .agg #[iV b.p, iV b.q.1, v0, v1, v2, v3], ul, uk] w (GivesMs (cutL a.d b.d (mkv (offN a.d b.d a.d.length) (cmS a.p ks l l.length)))) := by
  have hp := fieldP_pos hF.1.1
  have hn := off_le hF
  obtain ⟨al, cl, rfl, hsl, hcl, hdl, hgl⟩ := rd_mss hl
  obtain ⟨ak, ck, rfl, hsk, hck, hdk, hgk⟩ := hk.ints
  unfold maxLen at hdl
  obtain ⟨n, en⟩ : ∃ n, n = offN a.d b.d a.d.length := ⟨_, rfl⟩
  rw [← en] at hn ⊢
  have e0 : znMs a.d b.d a.d.length = cutL a.d b.d (mkv n (cmS a.p ks l 0)) := zn_cut en
  refine fn_enter Try.func105 rfl Try.ntmps105 rfl ?_
  repeat' (first
    | (show AT _ _ _ (wpList _ _ _ (_ :: _)); first
       | (show AT _ _ _ (wpList _ _ _ (⟨_, Op.move _, _, _, _, _⟩ :: _)); refine st_y (y_move rfl) rfl ?_)
       | (show AT _ _ _ (wpList _ _ _ (⟨_, Op.assign _, _, _, _, _⟩ :: _)); refine st_y (y_assign rfl) rfl ?_)
       | (show AT _ _ _ (wpList _ _ _ (⟨_, Op.load _ _, _, _, _, _⟩ :: _)); first | refine st_y (y_loadb 0 tabs rfl rfl rfl rfl) rfl ?_ | refine st_y (y_loadb 1 tabs rfl rfl rfl rfl) rfl ?_)
       | (show AT _ _ _ (wpList _ _ _ (⟨_, Op.call _, _, _, _, _⟩ :: _)); first | (refine m_call (ent_of Try.func136 (by kernel_rfl) rfl) rfl rfl (fun w c => zeros_ok (a := a) (b := b) (c.rd h2) (c.rd k2) hF) ?_; rintro v H' ⟨az, cz, rfl, hsa, rfl⟩; rw [e0]) | refine st_y (y_len tabs rfl rfl) rfl ?_)
       | (show AT _ _ _ (wpList _ _ _ (⟨_, Op.box _ _, _, _, _, _⟩ :: _)); refine m_box rfl rfl (fun b4 hb4 => ?_)))
    | (show AT _ _ _ (wpList _ _ _ []); refine c_nil (x_then ?_))
    | (show AT _ _ _ (Code.wp _ _ _); first | refine c_seq ?_ | refine c_region ?_ | refine c_block ?_))
  rename_i b3 hb3
  have hz : SA az a.d.length := by rw [e0, cutL, tabM_length] at hsa; exact hsa
  rw [show (cutL a.d b.d (mkv n (cmS a.p ks l 0))).length = a.d.length from tabM_length]
  refine c_loopH (α := Nat) [3, 4, 9, 17, 18] (fun i => [(19, .int .i64 i)]) (fun i => i ≤ l.length) (fun i => [.own (matsT 81 (cutL a.d b.d (mkv n (cmS a.p ks l i)))) (.slice az a.d.length cz), .blk b4 #[iV b.p, iV b.q.1, v0, v1, v2, v3] 35, .blk b3 #[iV a.p, iV a.q.1, u0, u1, u2, u3] 35]) (fun i => l.length - i) 0 rfl (by repeat' (first | exact Sub.nil | refine Sub.cons rfl ?_ | refine Sub.consi rfl (by omega) ?_)) ?_ ?_ ?_
  · exact Nat.zero_le _
  · exact fun w' c' => c'
  · rintro i hi
    by_cases hin : i < l.length
    · obtain ⟨ms, hms⟩ : ∃ ms, l[i]? = some ms := ⟨_, List.getElem?_eq_getElem hin⟩
      obtain ⟨a5, c5, g1, g2⟩ := hgl i ms hms
      have hA := hx i ms hms
      have hml := hA.2.1
      rw [cmT_zero (da := a.d) (db := b.d)]
      repeat' (first
        | (show AT _ _ _ (wpList _ _ _ (_ :: _)); first
           | (show AT _ _ _ (wpList _ _ _ (⟨_, Op.move _, _, _, _, _⟩ :: _)); refine st_y (y_move rfl) rfl ?_)
           | (show AT _ _ _ (wpList _ _ _ (⟨_, Op.assign _, _, _, _, _⟩ :: _)); refine st_y (y_assign rfl) rfl ?_)
           | (show AT _ _ _ (wpList _ _ _ (⟨_, Op.load _ _, _, _, _, _⟩ :: _)); refine st_y (y_load tabs rfl rfl (hc_w0 g1)) rfl ?_)
           | (show AT _ _ _ (wpList _ _ _ (⟨_, Op.indexAddr _ _ _, _, _, _, _⟩ :: _)); refine st_y (y_ix1 tabs (j := i) rfl rfl rfl hsl rfl hin) rfl ?_)
           | (show AT _ _ _ (wpList _ _ _ (⟨_, Op.binOp _ _ _ _ _, _, _, _, _⟩ :: _)); refine st_y (y_lss rfl rfl) rfl ?_)
           | (show AT _ _ _ (wpList _ _ _ (⟨_, Op.call _, _, _, _, _⟩ :: _)); refine st_y (y_len tabs rfl rfl) rfl ?_))
        | (show AT _ _ _ (wpList _ _ _ []); refine c_nil (x_then ?_))
        | (show AT _ _ _ (Code.wp _ _ _); first | refine c_seq ?_ | refine c_region ?_ | refine c_skip (x_then ?_) | refine c_block ?_ | refine c_ift rfl (by first | assumption | omega) ?_))
      refine c_loopH (α := Nat) [3, 4, 9, 10, 17, 18, 19, 24, 25] (fun v => [(26, .int .i64 v)]) (fun v => v ≤ ms.length) (fun v => [.own (matsT 81 (cutL a.d b.d (mkv n (cmT a.p ks l a.d b.d i v)))) (.slice az a.d.length cz), .blk b4 #[iV b.p, iV b.q.1, v0, v1, v2, v3] 35, .blk b3 #[iV a.p, iV a.q.1, u0, u1, u2, u3] 35]) (fun v => ms.length - v) 0 rfl (by repeat' (first | exact Sub.nil | refine Sub.cons rfl ?_ | refine Sub.consi rfl (by omega) ?_)) ?_ ?_ ?_
      · exact Nat.zero_le _
      · exact fun w' c' => c'
      · rintro v hv
        by_cases hvn : v < ms.length
        · obtain ⟨a6, c6, e6, hs6, q1, q2, hg6⟩ := rd_mats g2
          cases e6
          unfold maxLen at q2
          obtain ⟨m, hm⟩ : ∃ m, ms[v]? = some m := ⟨_, List.getElem?_eq_getElem hvn⟩
          obtain ⟨a7, c7, f1, f2, f3, f4⟩ := hg6 v m hm
          have hvd : v < a.d.length := by omega
          have hD : (cutL a.d b.d (mkv n (cmT a.p ks l a.d b.d i v)))[v]? = some (cutM a.d b.d (mkv n (cmT a.p ks l a.d b.d i v)) v) := tabM_get hvd
          obtain ⟨f5, f6⟩ := cmT_cell (p := a.p) (ks := ks) (l := l) (i := i) en hvd
          have hil : l.getD i [] = ms := by rw [List.getD, hms]; rfl
          obtain ⟨p1, p2, p3⟩ := hA.2.2 v hvn
          have gm : ms.getD v mat0 = m := by rw [List.getD, hm]; rfl
          rw [gm] at p1 p2 p3
          have d1 := hF.1.dg v
          have d2 := hF.2.1.dg v
          have hml2 : m.2.2.length = szV a.d b.d v := by
            obtain ⟨_, _, c3, _⟩ := cellsP_of (R := (b.d.getD v 0).toNat) (C := (a.d.getD v 0).toNat) p1 (by omega) (by omega)
            rw [c3, mk_length, szV, Nat.mul_comm]
          have hsz : szV a.d b.d v ≤ 4 * 4 := Nat.mul_le_mul (by omega) (by omega)
          have hil' := f6 m.2.2 (fun q hq => by rw [hil, flat_get hA hm (by omega)])
          have hki := inP_get hks (i := i) (by omega)
          rw [hml2] at f3 f4
          have hs7 : SA a7 (szV a.d b.d v) := by obtain ⟨x7, y7, e7, h7, _⟩ := f4.ints; injection e7 with e1 e2 e3; rw [e1, e2]; exact h7
          repeat' (first
            | (show AT _ _ _ (wpList _ _ _ (_ :: _)); first
               | (show AT _ _ _ (wpList _ _ _ (⟨_, Op.move _, _, _, _, _⟩ :: _)); refine st_y (y_move rfl) rfl ?_)
               | (show AT _ _ _ (wpList _ _ _ (⟨_, Op.assign _, _, _, _, _⟩ :: _)); refine st_y (y_assign rfl) rfl ?_)
               | (show AT _ _ _ (wpList _ _ _ (⟨_, Op.load _ _, _, _, _, _⟩ :: _)); refine st_y (y_load3 tabs rfl rfl (hc_w0 f1) (hc_w0 f2) (hc_w0 f3)) rfl ?_)
               | (show AT _ _ _ (wpList _ _ _ (⟨_, Op.indexAddr _ _ _, _, _, _, _⟩ :: _)); refine st_y (y_ixa tabs rfl rfl rfl hs6 (by omega) (by omega)) rfl ?_)
               | (show AT _ _ _ (wpList _ _ _ (⟨_, Op.binOp _ _ _ _ _, _, _, _, _⟩ :: _)); refine st_y (y_lss rfl rfl) rfl ?_)
               | (show AT _ _ _ (wpList _ _ _ (⟨_, Op.store _ _ _, _, _, _, _⟩ :: _)); refine m_storeb 0 tabs rfl rfl rfl rfl rfl rfl rfl ?_)
               | (show AT _ _ _ (wpList _ _ _ (⟨_, Op.alloc _, _, _, _, _⟩ :: _)); refine m_alloc tabs rfl rfl (fun b5 hb5 => ?_)))
            | (show AT _ _ _ (wpList _ _ _ []); refine c_nil (x_then ?_))
            | (show AT _ _ _ (Code.wp _ _ _); first | refine c_seq ?_ | refine c_region ?_ | refine c_skip (x_then ?_) | refine c_block ?_ | refine c_ift rfl (by first | assumption | omega) ?_))
          refine AT.opn 1 rfl (fun us hus => ?_)
          refine AT.cls (fun w' c' => c'.swap) ?_
          rw [flat_split hD]
          refine at_mid (fun v1 uv v2 evs hv1 => ?_)
          refine AT.fact (own_sl 0 rfl) (fun hsl0 => ?_)
          obtain ⟨ac, cc, rfl, hsc⟩ := hsl0
          rw [f5, mkv_length] at hsc
          have hu : us[v * 3 + 2]? = some (.slice ac (szV a.d b.d v) cc) := by
            rw [evs, List.getElem?_append_right (by rw [hv1, flat_pre hvd]; omega), hv1, flat_pre hvd, Nat.sub_self, f5, mkv_length]
            rfl
          rw [f5, mkv_length] at evs
          rw [f5, mkv_length]
          repeat' (first
            | (show AT _ _ _ (Code.wp _ _ _); refine c_tailR 13 (by kernel_rfl) (by kernel_rfl) (by kernel_rfl) (by kernel_rfl) (by kernel_rfl) (by kernel_rfl) (fun _ c => Hp.drew c) ?_)
            | (show QT _ _ _ _ _ _ (_ :: _); first
               | (show QT _ _ _ _ _ _ (⟨_, Op.move _, _, _, _, _⟩ :: _); refine q_y (y_move rfl) rfl ?_)
               | (show QT _ _ _ _ _ _ (⟨_, Op.fieldAddr _ _ _, _, _, _, _⟩ :: _); refine q_y (y_field tabs rfl rfl rfl) rfl ?_)
               | (show QT _ _ _ _ _ _ (⟨_, Op.load _ _, _, _, _, _⟩ :: _); first | refine q_y (y_load tabs rfl rfl (hc_blk 6 rfl rfl)) rfl ?_ | refine q_y (y_load tabs rfl rfl (hc_nmk 3 (by decide) rfl hu)) rfl ?_ | refine q_y (y_load tabs rfl rfl (hc_w0 (hgk i (by omega)))) rfl ?_ | refine q_y (y_load tabs rfl rfl (hc_blk 4 rfl rfl)) rfl ?_)
               | (show QT _ _ _ _ _ _ (⟨_, Op.indexAddr _ _ _, _, _, _, _⟩ :: _); first | refine q_y (y_ixa tabs rfl rfl rfl hz (by omega) (by omega)) rfl ?_ | refine q_y (y_ix1 tabs (j := i) rfl rfl rfl hsk rfl (by omega)) rfl ?_))
            | (show QT _ _ _ _ _ _ []; refine q_nil ?_)
            | (show AT _ _ _ (Qk _ _ _); refine x_one ?_))
          refine m_callL 0 (ent_of Try.func130 (by kernel_rfl) rfl) rfl rfl rfl (fun w M' hl => addMultiple_ok (o := 0) (n := szV a.d b.d v) (xs := mkv (szV a.d b.d v) (fun q => cmS a.p ks l i (offN a.d b.d v + q))) (ys := m.2.2) hF.1.1 (by omega) hl (fun h => by have := hsc.get h; exact this) (by rw [mkv_length]; omega) (by omega) (fun j hj => by rw [Nat.zero_add, mkv_get hj]; exact cmS_rng hF.1.1) (fun j hj => by have := inP_get p1.2.2.2.2.2 (i := j) (by omega); omega) hs7 (fun w' xs' c' hxl hxo j hj => by have h := (RdOut.rd (hl.old f4) c').ints; obtain ⟨_, _, e, _, _, _, hh⟩ := h; injection e with e1 e2 e3; subst e1; exact hh j (by omega))) ?_
          rintro v H' ⟨rfl, rfl⟩
          repeat' (first
            | (show AT _ _ _ (wpList _ _ _ (_ :: _)); first
               | (show AT _ _ _ (wpList _ _ _ (⟨_, Op.move _, _, _, _, _⟩ :: _)); refine st_y (y_move rfl) rfl ?_)
               | (show AT _ _ _ (wpList _ _ _ (⟨_, Op.binOp _ _ _ _ _, _, _, _, _⟩ :: _)); refine st_y (y_add rfl rfl (by omega)) rfl ?_))
            | (show AT _ _ _ (wpList _ _ _ []); first | refine c_nil (x_then ?_) | refine c_nil ?_)
            | (show AT _ _ _ (Code.wp _ _ _); refine c_region ?_)
            | (show AT _ _ _ _; first | refine x_then ?_ | refine x_blk ?_))
          refine x_nx (v + 1) (by repeat' (first | exact Sub.nil | refine Sub.cons rfl ?_ | refine Sub.consi rfl (by omega) ?_)) (by omega) (fun w' c' => ?_) (by omega)
          have c2 := own_back c'
          rw [← evs, flat_set hD, hil'] at c2
          have c3 := Hp.cls c2.swap
          exact c3.sub (by repeat' first | exact List.Sublist.refl _ | exact List.nil_sublist _ | apply List.Sublist.cons_cons | apply List.Sublist.cons)
        · have : v = ms.length := by omega
          subst this
          have e9 : mkv n (cmT a.p ks l a.d b.d i ms.length) = mkv n (cmS a.p ks l (i + 1)) := by rw [en, ← hml]; exact cmT_end
          rw [e9]
          repeat' (first
            | (show AT _ _ _ (wpList _ _ _ (_ :: _)); first
               | (show AT _ _ _ (wpList _ _ _ (⟨_, Op.move _, _, _, _, _⟩ :: _)); refine st_y (y_move rfl) rfl ?_)
               | (show AT _ _ _ (wpList _ _ _ (⟨_, Op.binOp _ _ _ _ _, _, _, _, _⟩ :: _)); first | refine st_y (y_add rfl rfl (by omega)) rfl ?_ | refine st_y (y_lss rfl rfl) rfl ?_))
            | (show AT _ _ _ (wpList _ _ _ []); refine c_nil (x_then ?_))
            | (show AT _ _ _ (Code.wp _ _ _); first | refine c_seq ?_ | refine c_region ?_ | refine c_exit ?_ | refine c_iff rfl (by first | assumption | exact not_not_intro (by assumption) | omega) ?_)
            | (show AT _ _ _ _; first | refine x_then ?_ | refine x_then_exit ?_ | refine x_blk_exit rfl ?_ | refine x_blk ?_))
          exact x_nx (i + 1) (by repeat' (first | exact Sub.nil | refine Sub.cons rfl ?_ | refine Sub.consi rfl (by omega) ?_)) (by omega) (fun w' c' => c') (by omega)
    · have : i = l.length := by omega
      subst this
      refine AT.fact (mats_sl 0 rfl) (fun hs0 => ?_)
      repeat' (first
        | (show AT _ _ _ (wpList _ _ _ (_ :: _)); first
           | (show AT _ _ _ (wpList _ _ _ (⟨_, Op.move _, _, _, _, _⟩ :: _)); refine st_y (y_move rfl) rfl ?_)
           | (show AT _ _ _ (wpList _ _ _ (⟨_, Op.assign _, _, _, _, _⟩ :: _)); refine st_y (y_assign rfl) rfl ?_)
           | (show AT _ _ _ (wpList _ _ _ (⟨_, Op.binOp _ _ _ _ _, _, _, _, _⟩ :: _)); refine st_y (y_lss rfl rfl) rfl ?_))
        | (show AT _ _ _ (wpList _ _ _ []); refine c_nil (x_then ?_))
        | (show AT _ _ _ (Code.wp _ _ _); first | refine c_seq ?_ | refine c_region ?_ | refine c_ret ?_ | refine c_exit ?_ | refine c_iff rfl (by first | assumption | exact not_not_intro (by assumption) | omega) ?_)
        | (show AT _ _ _ _; first | refine x_then ?_ | refine x_then_exit ?_ | refine x_blk_exit rfl ?_))
      exact x_ret1 Try.results105 (res_tmp rfl) (fun w' c' => ⟨_, _, rfl, ⟨az, cz, by rw [cutL, tabM_length], hs0, by rw [cutL, tabM_length]⟩, c'.sub (.cons_cons _ (List.nil_sublist _))⟩)
end Go.Proofs.Ytfhgpkdhhclpbaa

namespace Go.Proofs.Ytfhgpkdhhclpbaa
open Go.Lg Go.Proofs Go.RowKit
attribute [local irreducible] Code.wp wpList bodyPost Exit.then Exit.inBlock Hp Again Calls Y AT ResV QT Qn QI wpAny wpAnyQ
set_option maxRecDepth 20000
set_option maxHeartbeats 4000000

/-! ### morphisms by number, by the program -/
theorem coV_ge (a b : Rp) : -2 ≤ coV a b := by
  unfold coV cntN
  split
  · rename_i hF
    have := powI_pos (fieldP_pos hF.1.1).1 (homN a b)
    split <;> omega
  · omega
theorem homB_are {a b : Rp} (hF : FitP a b) : ∀ (i : Nat) (ms : List Mat), (homB a b)[i]? = some ms → AreP a b ms := fun i ms h => by
  have hp := fieldP_pos hF.1.1
  have hm := List.mem_of_getElem? h
  rw [homB, if_pos hF] at hm
  obtain ⟨ks, hk, rfl⟩ := List.mem_map.1 hm
  exact cut_are hF (hkL_len ks hk) (kerL_rows hp.1 ks hk).2
theorem numbered_ok {w : World} {a b : Rp} {c : Int} {e e' : Nat} {u0 u1 u2 u3 v0 v1 v2 v3 ul : Value} (h2 : Rd w (iT a.d) u2) (k2 : Rd w (iT b.d) v2) (hl : Rd w (mssT e e' (homB a b)) ul) (hF : FitP a b) (hc : 0 ≤ c ∧ c ≤ 1000000) :
    Does Try.prog 83 [.agg #[iV a.p, iV a.q.1, u0, u1, u2, u3], .agg #[iV b.p, iV b.q.1, v0, v1, v2, v3], ul, iV c] w (GivesMs (cutL a.d b.d (mkv (offN a.d b.d a.d.length) (nmS a.p c (homB a b) (homB a b).length)))) := by
  have hN := homN_le hF
  have hlen : (homB a b).length = homN a b := by rw [homB, if_pos hF, List.length_map, hkL_length]
  have hp := fieldP_pos hF.1.1
  obtain ⟨al, cl, rfl, hsl, hcl, hdl, hgl⟩ := rd_mss hl
  have hdig : InP 0 (a.p - 1) (mkv (homB a b).length (digF a.p c (homB a b).length)) := fun x hx => by
    simp only [mkv, List.mem_map] at hx
    obtain ⟨q, _, rfl⟩ := hx
    rw [digF]
    exact ⟨Int.emod_nonneg _ (by omega), by have := Int.emod_lt_of_pos (cdT a.p c ((homB a b).length - 1 - q)) (show 0 < a.p by omega); omega⟩
  refine fn_enter Try.func83 rfl Try.ntmps83 rfl ?_
  repeat' (first
    | (show AT _ _ _ (wpList _ _ _ (_ :: _)); first
       | (show AT _ _ _ (wpList _ _ _ (⟨_, Op.assign _, _, _, _, _⟩ :: _)); refine st_y (y_assign rfl) rfl ?_)
       | (show AT _ _ _ (wpList _ _ _ (⟨_, Op.box _ _, _, _, _, _⟩ :: _)); refine m_box rfl rfl (fun b4 hb4 => ?_)))
    | (show AT _ _ _ (wpList _ _ _ []); refine c_nil (x_then ?_))
    | (show AT _ _ _ (Code.wp _ _ _); first | refine c_seq ?_ | refine c_region ?_))
  rename_i b3 hb3
  refine c_all (Hp [] w [.blk b4 #[iV b.p, iV b.q.1, v0, v1, v2, v3] 35, .blk b3 #[iV a.p, iV a.q.1, u0, u1, u2, u3] 35]) (by kernel_rfl) (fun _ c => Hp.drew c) ?_
  refine h_take 0 rfl (by kernel_rfl) (by kernel_rfl) (by kernel_rfl) (by first | exact y_move rfl | exact y_assign rfl | exact y_field tabs rfl rfl rfl | exact y_load tabs rfl rfl (hc_blk 1 rfl rfl) | exact y_loadb 0 tabs rfl rfl rfl rfl | exact y_loadb 1 tabs rfl rfl rfl rfl | exact y_load tabs rfl rfl (hc_blk 0 rfl rfl) | exact y_load tabs rfl rfl (hc_blk 2 rfl rfl) | exact y_load tabs rfl rfl (hc_blk 3 rfl rfl) | exact y_load tabs rfl rfl (hc_blk 4 rfl rfl) | exact y_load tabs rfl rfl (hc_blk 5 rfl rfl) | exact y_ix1 tabs rfl rfl rfl (by first | assumption | exact .mk) rfl (by omega) | exact y_ixi tabs rfl rfl rfl (by first | assumption | exact .mk) (by omega) (by omega) | exact y_ixa tabs rfl rfl rfl (by first | assumption | exact .mk) (by omega) (by omega) | exact y_add rfl rfl (by omega) | exact y_sub rfl rfl (by omega) | exact y_lss rfl rfl | exact y_leq rfl rfl | exact y_gtr rfl rfl | exact y_geq rfl rfl | exact y_eql rfl rfl | exact y_neq rfl rfl | exact y_neqb_same Try.underlying4 rfl rfl | exact y_notd rfl | exact y_not rfl | exact y_len tabs rfl rfl | exact y_ext rfl rfl | exact y_pickt rfl (by assumption) rfl | exact y_pickf rfl (by assumption) rfl | exact y_pick rfl rfl rfl | exact y_loadb 0 tabs rfl rfl rfl rfl | exact y_loadb 1 tabs rfl rfl rfl rfl | exact y_loadb 2 tabs rfl rfl rfl rfl | exact y_loadb 3 tabs rfl rfl rfl rfl | exact y_loadb 4 tabs rfl rfl rfl rfl) rfl (fun w c => by first | exact c | exact c.drop | exact c.drop.drop | exact Hp.sub (List.sublist_append_right _ _) c | exact c.sub (by repeat' first | exact List.Sublist.refl _ | exact List.nil_sublist _ | apply List.Sublist.cons_cons | apply List.Sublist.cons)) ?_
  refine h_take 1 rfl (by kernel_rfl) (by kernel_rfl) (by kernel_rfl) (by first | exact y_move rfl | exact y_assign rfl | exact y_field tabs rfl rfl rfl | exact y_load tabs rfl rfl (hc_blk 1 rfl rfl) | exact y_loadb 0 tabs rfl rfl rfl rfl | exact y_loadb 1 tabs rfl rfl rfl rfl | exact y_load tabs rfl rfl (hc_blk 0 rfl rfl) | exact y_load tabs rfl rfl (hc_blk 2 rfl rfl) | exact y_load tabs rfl rfl (hc_blk 3 rfl rfl) | exact y_load tabs rfl rfl (hc_blk 4 rfl rfl) | exact y_load tabs rfl rfl (hc_blk 5 rfl rfl) | exact y_ix1 tabs rfl rfl rfl (by first | assumption | exact .mk) rfl (by omega) | exact y_ixi tabs rfl rfl rfl (by first | assumption | exact .mk) (by omega) (by omega) | exact y_ixa tabs rfl rfl rfl (by first | assumption | exact .mk) (by omega) (by omega) | exact y_add rfl rfl (by omega) | exact y_sub rfl rfl (by omega) | exact y_lss rfl rfl | exact y_leq rfl rfl | exact y_gtr rfl rfl | exact y_geq rfl rfl | exact y_eql rfl rfl | exact y_neq rfl rfl | exact y_neqb_same Try.underlying4 rfl rfl | exact y_notd rfl | exact y_not rfl | exact y_len tabs rfl rfl | exact y_ext rfl rfl | exact y_pickt rfl (by assumption) rfl | exact y_pickf rfl (by assumption) rfl | exact y_pick rfl rfl rfl | exact y_loadb 0 tabs rfl rfl rfl rfl | exact y_loadb 1 tabs rfl rfl rfl rfl | exact y_loadb 2 tabs rfl rfl rfl rfl | exact y_loadb 3 tabs rfl rfl rfl rfl | exact y_loadb 4 tabs rfl rfl rfl rfl) rfl (fun w c => by first | exact c | exact c.drop | exact c.drop.drop | exact Hp.sub (List.sublist_append_right _ _) c | exact c.sub (by repeat' first | exact List.Sublist.refl _ | exact List.nil_sublist _ | apply List.Sublist.cons_cons | apply List.Sublist.cons)) ?_
  refine h_take 2 rfl (by kernel_rfl) (by kernel_rfl) (by kernel_rfl) (by first | exact y_move rfl | exact y_assign rfl | exact y_field tabs rfl rfl rfl | exact y_load tabs rfl rfl (hc_blk 1 rfl rfl) | exact y_loadb 0 tabs rfl rfl rfl rfl | exact y_loadb 1 tabs rfl rfl rfl rfl | exact y_load tabs rfl rfl (hc_blk 0 rfl rfl) | exact y_load tabs rfl rfl (hc_blk 2 rfl rfl) | exact y_load tabs rfl rfl (hc_blk 3 rfl rfl) | exact y_load tabs rfl rfl (hc_blk 4 rfl rfl) | exact y_load tabs rfl rfl (hc_blk 5 rfl rfl) | exact y_ix1 tabs rfl rfl rfl (by first | assumption | exact .mk) rfl (by omega) | exact y_ixi tabs rfl rfl rfl (by first | assumption | exact .mk) (by omega) (by omega) | exact y_ixa tabs rfl rfl rfl (by first | assumption | exact .mk) (by omega) (by omega) | exact y_add rfl rfl (by omega) | exact y_sub rfl rfl (by omega) | exact y_lss rfl rfl | exact y_leq rfl rfl | exact y_gtr rfl rfl | exact y_geq rfl rfl | exact y_eql rfl rfl | exact y_neq rfl rfl | exact y_neqb_same Try.underlying4 rfl rfl | exact y_notd rfl | exact y_not rfl | exact y_len tabs rfl rfl | exact y_ext rfl rfl | exact y_pickt rfl (by assumption) rfl | exact y_pickf rfl (by assumption) rfl | exact y_pick rfl rfl rfl | exact y_loadb 0 tabs rfl rfl rfl rfl | exact y_loadb 1 tabs rfl rfl rfl rfl | exact y_loadb 2 tabs rfl rfl rfl rfl | exact y_loadb 3 tabs rfl rfl rfl rfl | exact y_loadb 4 tabs rfl rfl rfl rfl) rfl (fun w c => by first | exact c | exact c.drop | exact c.drop.drop | exact Hp.sub (List.sublist_append_right _ _) c | exact c.sub (by repeat' first | exact List.Sublist.refl _ | exact List.nil_sublist _ | apply List.Sublist.cons_cons | apply List.Sublist.cons)) ?_
  refine h_take 3 rfl (by kernel_rfl) (by kernel_rfl) (by kernel_rfl) (by first | exact y_move rfl | exact y_assign rfl | exact y_field tabs rfl rfl rfl | exact y_load tabs rfl rfl (hc_blk 1 rfl rfl) | exact y_loadb 0 tabs rfl rfl rfl rfl | exact y_loadb 1 tabs rfl rfl rfl rfl | exact y_load tabs rfl rfl (hc_blk 0 rfl rfl) | exact y_load tabs rfl rfl (hc_blk 2 rfl rfl) | exact y_load tabs rfl rfl (hc_blk 3 rfl rfl) | exact y_load tabs rfl rfl (hc_blk 4 rfl rfl) | exact y_load tabs rfl rfl (hc_blk 5 rfl rfl) | exact y_ix1 tabs rfl rfl rfl (by first | assumption | exact .mk) rfl (by omega) | exact y_ixi tabs rfl rfl rfl (by first | assumption | exact .mk) (by omega) (by omega) | exact y_ixa tabs rfl rfl rfl (by first | assumption | exact .mk) (by omega) (by omega) | exact y_add rfl rfl (by omega) | exact y_sub rfl rfl (by omega) | exact y_lss rfl rfl | exact y_leq rfl rfl | exact y_gtr rfl rfl | exact y_geq rfl rfl | exact y_eql rfl rfl | exact y_neq rfl rfl | exact y_neqb_same Try.underlying4 rfl rfl | exact y_notd rfl | exact y_not rfl | exact y_len tabs rfl rfl | exact y_ext rfl rfl | exact y_pickt rfl (by assumption) rfl | exact y_pickf rfl (by assumption) rfl | exact y_pick rfl rfl rfl | exact y_loadb 0 tabs rfl rfl rfl rfl | exact y_loadb 1 tabs rfl rfl rfl rfl | exact y_loadb 2 tabs rfl rfl rfl rfl | exact y_loadb 3 tabs rfl rfl rfl rfl | exact y_loadb 4 tabs rfl rfl rfl rfl) rfl (fun w c => by first | exact c | exact c.drop | exact c.drop.drop | exact Hp.sub (List.sublist_append_right _ _) c | exact c.sub (by repeat' first | exact List.Sublist.refl _ | exact List.nil_sublist _ | apply List.Sublist.cons_cons | apply List.Sublist.cons)) ?_
  refine h_take 4 rfl (by kernel_rfl) (by kernel_rfl) (by kernel_rfl) (by first | exact y_move rfl | exact y_assign rfl | exact y_field tabs rfl rfl rfl | exact y_load tabs rfl rfl (hc_blk 1 rfl rfl) | exact y_loadb 0 tabs rfl rfl rfl rfl | exact y_loadb 1 tabs rfl rfl rfl rfl | exact y_load tabs rfl rfl (hc_blk 0 rfl rfl) | exact y_load tabs rfl rfl (hc_blk 2 rfl rfl) | exact y_load tabs rfl rfl (hc_blk 3 rfl rfl) | exact y_load tabs rfl rfl (hc_blk 4 rfl rfl) | exact y_load tabs rfl rfl (hc_blk 5 rfl rfl) | exact y_ix1 tabs rfl rfl rfl (by first | assumption | exact .mk) rfl (by omega) | exact y_ixi tabs rfl rfl rfl (by first | assumption | exact .mk) (by omega) (by omega) | exact y_ixa tabs rfl rfl rfl (by first | assumption | exact .mk) (by omega) (by omega) | exact y_add rfl rfl (by omega) | exact y_sub rfl rfl (by omega) | exact y_lss rfl rfl | exact y_leq rfl rfl | exact y_gtr rfl rfl | exact y_geq rfl rfl | exact y_eql rfl rfl | exact y_neq rfl rfl | exact y_neqb_same Try.underlying4 rfl rfl | exact y_notd rfl | exact y_not rfl | exact y_len tabs rfl rfl | exact y_ext rfl rfl | exact y_pickt rfl (by assumption) rfl | exact y_pickf rfl (by assumption) rfl | exact y_pick rfl rfl rfl | exact y_loadb 0 tabs rfl rfl rfl rfl | exact y_loadb 1 tabs rfl rfl rfl rfl | exact y_loadb 2 tabs rfl rfl rfl rfl | exact y_loadb 3 tabs rfl rfl rfl rfl | exact y_loadb 4 tabs rfl rfl rfl rfl) rfl (fun w c => by first | exact c | exact c.drop | exact c.drop.drop | exact Hp.sub (List.sublist_append_right _ _) c | exact c.sub (by repeat' first | exact List.Sublist.refl _ | exact List.nil_sublist _ | apply List.Sublist.cons_cons | apply List.Sublist.cons)) ?_
  refine h_take 5 rfl (by kernel_rfl) (by kernel_rfl) (by kernel_rfl) (by first | exact y_move rfl | exact y_assign rfl | exact y_field tabs rfl rfl rfl | exact y_load tabs rfl rfl (hc_blk 1 rfl rfl) | exact y_loadb 0 tabs rfl rfl rfl rfl | exact y_loadb 1 tabs rfl rfl rfl rfl | exact y_load tabs rfl rfl (hc_blk 0 rfl rfl) | exact y_load tabs rfl rfl (hc_blk 2 rfl rfl) | exact y_load tabs rfl rfl (hc_blk 3 rfl rfl) | exact y_load tabs rfl rfl (hc_blk 4 rfl rfl) | exact y_load tabs rfl rfl (hc_blk 5 rfl rfl) | exact y_ix1 tabs rfl rfl rfl (by first | assumption | exact .mk) rfl (by omega) | exact y_ixi tabs rfl rfl rfl (by first | assumption | exact .mk) (by omega) (by omega) | exact y_ixa tabs rfl rfl rfl (by first | assumption | exact .mk) (by omega) (by omega) | exact y_add rfl rfl (by omega) | exact y_sub rfl rfl (by omega) | exact y_lss rfl rfl | exact y_leq rfl rfl | exact y_gtr rfl rfl | exact y_geq rfl rfl | exact y_eql rfl rfl | exact y_neq rfl rfl | exact y_neqb_same Try.underlying4 rfl rfl | exact y_notd rfl | exact y_not rfl | exact y_len tabs rfl rfl | exact y_ext rfl rfl | exact y_pickt rfl (by assumption) rfl | exact y_pickf rfl (by assumption) rfl | exact y_pick rfl rfl rfl | exact y_loadb 0 tabs rfl rfl rfl rfl | exact y_loadb 1 tabs rfl rfl rfl rfl | exact y_loadb 2 tabs rfl rfl rfl rfl | exact y_loadb 3 tabs rfl rfl rfl rfl | exact y_loadb 4 tabs rfl rfl rfl rfl) rfl (fun w c => by first | exact c | exact c.drop | exact c.drop.drop | exact Hp.sub (List.sublist_append_right _ _) c | exact c.sub (by repeat' first | exact List.Sublist.refl _ | exact List.nil_sublist _ | apply List.Sublist.cons_cons | apply List.Sublist.cons)) ?_
  refine h_take 6 rfl (by kernel_rfl) (by kernel_rfl) (by kernel_rfl) (by first | exact y_move rfl | exact y_assign rfl | exact y_field tabs rfl rfl rfl | exact y_load tabs rfl rfl (hc_blk 1 rfl rfl) | exact y_loadb 0 tabs rfl rfl rfl rfl | exact y_loadb 1 tabs rfl rfl rfl rfl | exact y_load tabs rfl rfl (hc_blk 0 rfl rfl) | exact y_load tabs rfl rfl (hc_blk 2 rfl rfl) | exact y_load tabs rfl rfl (hc_blk 3 rfl rfl) | exact y_load tabs rfl rfl (hc_blk 4 rfl rfl) | exact y_load tabs rfl rfl (hc_blk 5 rfl rfl) | exact y_ix1 tabs rfl rfl rfl (by first | assumption | exact .mk) rfl (by omega) | exact y_ixi tabs rfl rfl rfl (by first | assumption | exact .mk) (by omega) (by omega) | exact y_ixa tabs rfl rfl rfl (by first | assumption | exact .mk) (by omega) (by omega) | exact y_add rfl rfl (by omega) | exact y_sub rfl rfl (by omega) | exact y_lss rfl rfl | exact y_leq rfl rfl | exact y_gtr rfl rfl | exact y_geq rfl rfl | exact y_eql rfl rfl | exact y_neq rfl rfl | exact y_neqb_same Try.underlying4 rfl rfl | exact y_notd rfl | exact y_not rfl | exact y_len tabs rfl rfl | exact y_ext rfl rfl | exact y_pickt rfl (by assumption) rfl | exact y_pickf rfl (by assumption) rfl | exact y_pick rfl rfl rfl | exact y_loadb 0 tabs rfl rfl rfl rfl | exact y_loadb 1 tabs rfl rfl rfl rfl | exact y_loadb 2 tabs rfl rfl rfl rfl | exact y_loadb 3 tabs rfl rfl rfl rfl | exact y_loadb 4 tabs rfl rfl rfl rfl) rfl (fun w c => by first | exact c | exact c.drop | exact c.drop.drop | exact Hp.sub (List.sublist_append_right _ _) c | exact c.sub (by repeat' first | exact List.Sublist.refl _ | exact List.nil_sublist _ | apply List.Sublist.cons_cons | apply List.Sublist.cons)) ?_
  refine h_take 7 rfl (by kernel_rfl) (by kernel_rfl) (by kernel_rfl) (by first | exact y_move rfl | exact y_assign rfl | exact y_field tabs rfl rfl rfl | exact y_load tabs rfl rfl (hc_blk 1 rfl rfl) | exact y_loadb 0 tabs rfl rfl rfl rfl | exact y_loadb 1 tabs rfl rfl rfl rfl | exact y_load tabs rfl rfl (hc_blk 0 rfl rfl) | exact y_load tabs rfl rfl (hc_blk 2 rfl rfl) | exact y_load tabs rfl rfl (hc_blk 3 rfl rfl) | exact y_load tabs rfl rfl (hc_blk 4 rfl rfl) | exact y_load tabs rfl rfl (hc_blk 5 rfl rfl) | exact y_ix1 tabs rfl rfl rfl (by first | assumption | exact .mk) rfl (by omega) | exact y_ixi tabs rfl rfl rfl (by first | assumption | exact .mk) (by omega) (by omega) | exact y_ixa tabs rfl rfl rfl (by first | assumption | exact .mk) (by omega) (by omega) | exact y_add rfl rfl (by omega) | exact y_sub rfl rfl (by omega) | exact y_lss rfl rfl | exact y_leq rfl rfl | exact y_gtr rfl rfl | exact y_geq rfl rfl | exact y_eql rfl rfl | exact y_neq rfl rfl | exact y_neqb_same Try.underlying4 rfl rfl | exact y_notd rfl | exact y_not rfl | exact y_len tabs rfl rfl | exact y_ext rfl rfl | exact y_pickt rfl (by assumption) rfl | exact y_pickf rfl (by assumption) rfl | exact y_pick rfl rfl rfl | exact y_loadb 0 tabs rfl rfl rfl rfl | exact y_loadb 1 tabs rfl rfl rfl rfl | exact y_loadb 2 tabs rfl rfl rfl rfl | exact y_loadb 3 tabs rfl rfl rfl rfl | exact y_loadb 4 tabs rfl rfl rfl rfl) rfl (fun w c => by first | exact c | exact c.drop | exact c.drop.drop | exact Hp.sub (List.sublist_append_right _ _) c | exact c.sub (by repeat' first | exact List.Sublist.refl _ | exact List.nil_sublist _ | apply List.Sublist.cons_cons | apply List.Sublist.cons)) ?_
  refine h_only 8 rfl (by kernel_rfl) ?_
  first | (refine m_build0 tabs rfl rfl (fun g hg => ?_)) | (refine m_call (ent_of Try.func133 (by kernel_rfl) rfl) rfl rfl (fun w c => vectorOf_ok (n := (homB a b).length) hF.1.1 (by omega) hc) ?_; rintro v H' ⟨av, cv, rfl, hsv, rfl⟩) | (refine m_call (ent_of Try.func105 (by kernel_rfl) rfl) rfl rfl (fun w c' => combined_ok (a := a) (b := b) (l := homB a b) (ks := mkv (homB a b).length (digF a.p c (homB a b).length)) (c'.rd h2) (c'.rd k2) (c'.rd hl) (c'.own_rd (i := 0) rfl) hF mkv_length hdig (homB_are hF)) ?_; rintro v H' ⟨an, cn, rfl, hs2, rfl⟩) | (refine st_y (y_len tabs rfl rfl) rfl ?_) | (refine st_y (y_load tabs rfl rfl (hc_blk 1 rfl rfl)) rfl ?_) | (refine st_y (y_loadb 0 tabs rfl rfl rfl rfl) rfl ?_) | (refine st_y (y_loadb 1 tabs rfl rfl rfl rfl) rfl ?_) | (refine st_y (y_load tabs rfl rfl (hc_blk 0 rfl rfl)) rfl ?_) | (refine st_y (y_load tabs rfl rfl (hc_blk 2 rfl rfl)) rfl ?_) | (refine st_y (y_load tabs rfl rfl (hc_blk 3 rfl rfl)) rfl ?_) | (refine st_y (y_load tabs rfl rfl (hc_blk 4 rfl rfl)) rfl ?_) | (refine st_y (y_load tabs rfl rfl (hc_blk 5 rfl rfl)) rfl ?_) | (refine m_storeb 0 tabs rfl rfl rfl rfl rfl rfl rfl ?_) | (refine m_storeb 1 tabs rfl rfl rfl rfl rfl rfl rfl ?_) | (refine m_storeb 2 tabs rfl rfl rfl rfl rfl rfl rfl ?_) | (refine m_storeb 3 tabs rfl rfl rfl rfl rfl rfl rfl ?_) | (refine m_storeb 4 tabs rfl rfl rfl rfl rfl rfl rfl ?_)
  refine c_nil (x_one (h_keep (fun w c => by first | exact c | exact c.drop | exact c.drop.drop | exact Hp.sub (List.sublist_append_right _ _) c | exact c.sub (by repeat' first | exact List.Sublist.refl _ | exact List.nil_sublist _ | apply List.Sublist.cons_cons | apply List.Sublist.cons)) ?_))
  refine h_only 9 rfl (by kernel_rfl) ?_
  first | (refine m_build0 tabs rfl rfl (fun g hg => ?_)) | (refine m_call (ent_of Try.func133 (by kernel_rfl) rfl) rfl rfl (fun w c => vectorOf_ok (n := (homB a b).length) hF.1.1 (by omega) hc) ?_; rintro v H' ⟨av, cv, rfl, hsv, rfl⟩) | (refine m_call (ent_of Try.func105 (by kernel_rfl) rfl) rfl rfl (fun w c' => combined_ok (a := a) (b := b) (l := homB a b) (ks := mkv (homB a b).length (digF a.p c (homB a b).length)) (c'.rd h2) (c'.rd k2) (c'.rd hl) (c'.own_rd (i := 0) rfl) hF mkv_length hdig (homB_are hF)) ?_; rintro v H' ⟨an, cn, rfl, hs2, rfl⟩) | (refine st_y (y_len tabs rfl rfl) rfl ?_) | (refine st_y (y_load tabs rfl rfl (hc_blk 1 rfl rfl)) rfl ?_) | (refine st_y (y_loadb 0 tabs rfl rfl rfl rfl) rfl ?_) | (refine st_y (y_loadb 1 tabs rfl rfl rfl rfl) rfl ?_) | (refine st_y (y_load tabs rfl rfl (hc_blk 0 rfl rfl)) rfl ?_) | (refine st_y (y_load tabs rfl rfl (hc_blk 2 rfl rfl)) rfl ?_) | (refine st_y (y_load tabs rfl rfl (hc_blk 3 rfl rfl)) rfl ?_) | (refine st_y (y_load tabs rfl rfl (hc_blk 4 rfl rfl)) rfl ?_) | (refine st_y (y_load tabs rfl rfl (hc_blk 5 rfl rfl)) rfl ?_) | (refine m_storeb 0 tabs rfl rfl rfl rfl rfl rfl rfl ?_) | (refine m_storeb 1 tabs rfl rfl rfl rfl rfl rfl rfl ?_) | (refine m_storeb 2 tabs rfl rfl rfl rfl rfl rfl rfl ?_) | (refine m_storeb 3 tabs rfl rfl rfl rfl rfl rfl rfl ?_) | (refine m_storeb 4 tabs rfl rfl rfl rfl rfl rfl rfl ?_)
  refine c_nil (x_one (h_keep (fun w c => by first | exact c | exact c.drop | exact c.drop.drop | exact Hp.sub (List.sublist_append_right _ _) c | exact c.sub (by repeat' first | exact List.Sublist.refl _ | exact List.nil_sublist _ | apply List.Sublist.cons_cons | apply List.Sublist.cons)) ?_))
  refine h_take 10 rfl (by kernel_rfl) (by kernel_rfl) (by kernel_rfl) (by first | exact y_move rfl | exact y_assign rfl | exact y_field tabs rfl rfl rfl | exact y_load tabs rfl rfl (hc_blk 1 rfl rfl) | exact y_loadb 0 tabs rfl rfl rfl rfl | exact y_loadb 1 tabs rfl rfl rfl rfl | exact y_load tabs rfl rfl (hc_blk 0 rfl rfl) | exact y_load tabs rfl rfl (hc_blk 2 rfl rfl) | exact y_load tabs rfl rfl (hc_blk 3 rfl rfl) | exact y_load tabs rfl rfl (hc_blk 4 rfl rfl) | exact y_load tabs rfl rfl (hc_blk 5 rfl rfl) | exact y_ix1 tabs rfl rfl rfl (by first | assumption | exact .mk) rfl (by omega) | exact y_ixi tabs rfl rfl rfl (by first | assumption | exact .mk) (by omega) (by omega) | exact y_ixa tabs rfl rfl rfl (by first | assumption | exact .mk) (by omega) (by omega) | exact y_add rfl rfl (by omega) | exact y_sub rfl rfl (by omega) | exact y_lss rfl rfl | exact y_leq rfl rfl | exact y_gtr rfl rfl | exact y_geq rfl rfl | exact y_eql rfl rfl | exact y_neq rfl rfl | exact y_neqb_same Try.underlying4 rfl rfl | exact y_notd rfl | exact y_not rfl | exact y_len tabs rfl rfl | exact y_ext rfl rfl | exact y_pickt rfl (by assumption) rfl | exact y_pickf rfl (by assumption) rfl | exact y_pick rfl rfl rfl | exact y_loadb 0 tabs rfl rfl rfl rfl | exact y_loadb 1 tabs rfl rfl rfl rfl | exact y_loadb 2 tabs rfl rfl rfl rfl | exact y_loadb 3 tabs rfl rfl rfl rfl | exact y_loadb 4 tabs rfl rfl rfl rfl) rfl (fun w c => by first | exact c | exact c.drop | exact c.drop.drop | exact Hp.sub (List.sublist_append_right _ _) c | exact c.sub (by repeat' first | exact List.Sublist.refl _ | exact List.nil_sublist _ | apply List.Sublist.cons_cons | apply List.Sublist.cons)) ?_
  refine h_end (by kernel_rfl) ?_
  repeat' (first
    | (show AT _ _ _ (Code.wp _ _ _); refine c_ret ?_)
    | (show AT _ _ _ _; refine x_then ?_))
  rw [cmS_dig] at *
  exact x_ret1 Try.results83 (res_tmp rfl) (fun w' c' => ⟨_, _, rfl, ⟨an, cn, rfl, hs2, rfl⟩, c'.sub (.cons_cons _ (List.nil_sublist _))⟩)
theorem impl_MorphismNumber_ok {w : World} {a b : Rp} {c : Int} {e e' : Nat} {u0 u1 u2 u3 v0 v1 v2 v3 : Value} (h0 : Rd w (iT a.q.2.1) u0) (h1 : Rd w (iT a.q.2.2) u1) (h2 : Rd w (iT a.d) u2) (h3 : Rd w (matsT e a.m) u3) (k0 : Rd w (iT b.q.2.1) v0) (k1 : Rd w (iT b.q.2.2) v1) (k2 : Rd w (iT b.d) v2) (k3 : Rd w (matsT e' b.m) v3) :
    Does Try.prog 35 [.agg #[iV a.p, iV a.q.1, u0, u1, u2, u3], .agg #[iV b.p, iV b.q.1, v0, v1, v2, v3], iV c] w (GivesMsB (mnL a b c) (decide (mnP a b c))) := by
  have hco := coV_le a b
  have hco2 := coV_ge a b
  by_cases hM : mnP a b c
  · have hF := hM.fit
    have hB : homB a b = (hkL a b).map (cutL a.d b.d) := by rw [homB, if_pos hF]
    obtain ⟨hm1, hm2⟩ := hM
    have hW : 0 ≤ c ∧ c ≤ coV a b - 1 := ⟨hm1, by omega⟩
    rw [mnL, if_pos ⟨hm1, hm2⟩, decide_eq_true ⟨hm1, hm2⟩]
    refine fn_enter Try.func35 rfl Try.ntmps35 rfl ?_
    repeat' (first
      | (show AT _ _ _ (wpList _ _ _ (_ :: _)); first
         | (show AT _ _ _ (wpList _ _ _ (⟨_, Op.move _, _, _, _, _⟩ :: _)); refine st_y (y_move rfl) rfl ?_)
         | (show AT _ _ _ (wpList _ _ _ (⟨_, Op.assign _, _, _, _, _⟩ :: _)); refine st_y (y_assign rfl) rfl ?_)
         | (show AT _ _ _ (wpList _ _ _ (⟨_, Op.load _ _, _, _, _, _⟩ :: _)); first | refine st_y (y_loadb 0 tabs rfl rfl rfl rfl) rfl ?_ | refine st_y (y_loadb 1 tabs rfl rfl rfl rfl) rfl ?_)
         | (show AT _ _ _ (wpList _ _ _ (⟨_, Op.binOp _ _ _ _ _, _, _, _, _⟩ :: _)); refine st_y (y_sub rfl rfl (by omega)) rfl ?_)
         | (show AT _ _ _ (wpList _ _ _ (⟨_, Op.unOp _ _ _, _, _, _, _⟩ :: _)); refine st_y (y_notd rfl) rfl ?_)
         | (show AT _ _ _ (wpList _ _ _ (⟨_, Op.call _, _, _, _, _⟩ :: _)); first | (refine m_call (ent_of Try.func31 (by kernel_rfl) rfl) rfl rfl (fun w c => impl_CountMorphisms_ok (a := a) (b := b) (c.rd h0) (c.rd h1) (c.rd h2) (c.rd h3) (c.rd k0) (c.rd k1) (c.rd k2) (c.rd k3)) ?_; rintro v H' ⟨rfl, rfl⟩) | (refine m_call (ent_of Try.func82 (by kernel_rfl) rfl) rfl rfl (fun w c' => within_ok c 0 (coV a b - 1)) ?_; rintro v H' ⟨rfl, rfl⟩))
         | (show AT _ _ _ (wpList _ _ _ (⟨_, Op.box _ _, _, _, _, _⟩ :: _)); refine m_box rfl rfl (fun b4 hb4 => ?_)))
      | (show AT _ _ _ (wpList _ _ _ []); refine c_nil (x_then ?_))
      | (show AT _ _ _ (Code.wp _ _ _); first | refine c_seq ?_ | refine c_region ?_ | refine c_skip (x_then ?_) | refine c_iff rfl (by first | assumption | exact not_not_intro (by assumption) | omega) ?_))
    all_goals first | exact absurd hW (by assumption) | skip
    rename_i b3 hb3
    refine c_all (Hp [] w [.blk b4 #[iV b.p, iV b.q.1, v0, v1, v2, v3] 35, .blk b3 #[iV a.p, iV a.q.1, u0, u1, u2, u3] 35]) (by kernel_rfl) (fun _ c => Hp.drew c) ?_
    refine h_take 0 rfl (by kernel_rfl) (by kernel_rfl) (by kernel_rfl) (by first | exact y_loadb 1 tabs rfl rfl rfl rfl | exact y_loadb 1 tabs rfl rfl rfl rfl) rfl (fun _ c => c) ?_
    refine h_take 1 rfl (by kernel_rfl) (by kernel_rfl) (by kernel_rfl) (by first | exact y_loadb 0 tabs rfl rfl rfl rfl | exact y_loadb 0 tabs rfl rfl rfl rfl) rfl (fun _ c => c) ?_
    refine h_take 2 rfl (by kernel_rfl) (by kernel_rfl) (by kernel_rfl) (by first | exact y_loadb 1 tabs rfl rfl rfl rfl | exact y_loadb 1 tabs rfl rfl rfl rfl) rfl (fun _ c => c) ?_
    refine h_take 3 rfl (by kernel_rfl) (by kernel_rfl) (by kernel_rfl) (by first | exact y_loadb 0 tabs rfl rfl rfl rfl | exact y_loadb 0 tabs rfl rfl rfl rfl) rfl (fun _ c => c) ?_
    refine h_take 5 rfl (by kernel_rfl) (by kernel_rfl) (by kernel_rfl) (by exact y_move rfl) rfl (fun _ c => c) ?_
    refine h_only 4 rfl (by kernel_rfl) ?_
    first | (refine m_call (ent_of Try.func84 (by kernel_rfl) rfl) rfl rfl (fun w c => homBasis_ok (a := a) (b := b) (c.rd h0) (c.rd h1) (c.rd h2) (c.rd h3) (c.rd k2) (c.rd k3) hF) ?_; rintro v H' ⟨am, cm, rfl, hs, rfl⟩) | (refine m_call (ent_of Try.func83 (by kernel_rfl) rfl) rfl rfl (fun w c' => numbered_ok (a := a) (b := b) (c'.rd h2) (c'.rd k2) (by rw [hB]; exact c'.own_rd (i := 0) rfl) hF ⟨hm1, by omega⟩) ?_; rintro v H' ⟨an, cn, rfl, hs2, rfl⟩)
    refine c_nil (x_one (h_keep (fun w c => by exact c.drop) ?_))
    refine h_only 6 rfl (by kernel_rfl) ?_
    first | (refine m_call (ent_of Try.func84 (by kernel_rfl) rfl) rfl rfl (fun w c => homBasis_ok (a := a) (b := b) (c.rd h0) (c.rd h1) (c.rd h2) (c.rd h3) (c.rd k2) (c.rd k3) hF) ?_; rintro v H' ⟨am, cm, rfl, hs, rfl⟩) | (refine m_call (ent_of Try.func83 (by kernel_rfl) rfl) rfl rfl (fun w c' => numbered_ok (a := a) (b := b) (c'.rd h2) (c'.rd k2) (by rw [hB]; exact c'.own_rd (i := 0) rfl) hF ⟨hm1, by omega⟩) ?_; rintro v H' ⟨an, cn, rfl, hs2, rfl⟩)
    refine c_nil (x_one (h_keep (fun w c => by exact c.drop.drop) ?_))
    refine h_take 7 rfl (by kernel_rfl) (by kernel_rfl) (by kernel_rfl) (by exact y_assign rfl) rfl (fun w c => by exact c.drop.drop) ?_
    refine h_take 8 rfl (by kernel_rfl) (by kernel_rfl) (by kernel_rfl) (by exact y_assign rfl) rfl (fun w c => by exact c.drop.drop) ?_
    refine h_end (by kernel_rfl) ?_
    repeat' (first
      | (show AT _ _ _ (Code.wp _ _ _); refine c_ret ?_)
      | (show AT _ _ _ _; refine x_then ?_))
    exact x_ret2 Try.results35 (res_tmp rfl) (res_tmp rfl) (fun w' c' => ⟨_, _, rfl, ⟨an, cn, rfl, hs2, rfl⟩, c'.sub (.cons_cons _ (List.nil_sublist _))⟩)
  · rw [mnL, if_neg hM, decide_eq_false hM]
    have hM' : ¬ (0 ≤ c ∧ c ≤ coV a b - 1) := fun h => hM ⟨h.1, by omega⟩
    refine fn_enter Try.func35 rfl Try.ntmps35 rfl ?_
    repeat' (first
      | (show AT _ _ _ (wpList _ _ _ (_ :: _)); first
         | (show AT _ _ _ (wpList _ _ _ (⟨_, Op.move _, _, _, _, _⟩ :: _)); refine st_y (y_move rfl) rfl ?_)
         | (show AT _ _ _ (wpList _ _ _ (⟨_, Op.assign _, _, _, _, _⟩ :: _)); refine st_y (y_assign rfl) rfl ?_)
         | (show AT _ _ _ (wpList _ _ _ (⟨_, Op.load _ _, _, _, _, _⟩ :: _)); first | refine st_y (y_loadb 0 tabs rfl rfl rfl rfl) rfl ?_ | refine st_y (y_loadb 1 tabs rfl rfl rfl rfl) rfl ?_)
         | (show AT _ _ _ (wpList _ _ _ (⟨_, Op.binOp _ _ _ _ _, _, _, _, _⟩ :: _)); refine st_y (y_sub rfl rfl (by omega)) rfl ?_)
         | (show AT _ _ _ (wpList _ _ _ (⟨_, Op.unOp _ _ _, _, _, _, _⟩ :: _)); refine st_y (y_notd rfl) rfl ?_)
         | (show AT _ _ _ (wpList _ _ _ (⟨_, Op.call _, _, _, _, _⟩ :: _)); first | (refine m_call (ent_of Try.func31 (by kernel_rfl) rfl) rfl rfl (fun w c => impl_CountMorphisms_ok (a := a) (b := b) (c.rd h0) (c.rd h1) (c.rd h2) (c.rd h3) (c.rd k0) (c.rd k1) (c.rd k2) (c.rd k3)) ?_; rintro v H' ⟨rfl, rfl⟩) | (refine m_call (ent_of Try.func82 (by kernel_rfl) rfl) rfl rfl (fun w c' => within_ok c 0 (coV a b - 1)) ?_; rintro v H' ⟨rfl, rfl⟩))
         | (show AT _ _ _ (wpList _ _ _ (⟨_, Op.box _ _, _, _, _, _⟩ :: _)); refine m_box rfl rfl (fun b4 hb4 => ?_)))
      | (show AT _ _ _ (wpList _ _ _ []); refine c_nil (x_then ?_))
      | (show AT _ _ _ (Code.wp _ _ _); first | refine c_seq ?_ | refine c_region ?_ | refine c_ret ?_ | refine c_ift rfl (by first | assumption | omega) ?_)
      | (show AT _ _ _ _; refine x_then_ret ?_))
    all_goals first | exact absurd (by assumption) hM' | skip
    all_goals exact x_ret2 Try.results35 (res_tmp rfl) (res_tmp rfl) (fun w' c' => ⟨_, _, rfl, ⟨none, 0, rfl, .inl rfl, rfl⟩, Hp.nilp _ _ (c'.sub (List.nil_sublist _))⟩)
end Go.Proofs.Ytfhgpkdhhclpbaa
