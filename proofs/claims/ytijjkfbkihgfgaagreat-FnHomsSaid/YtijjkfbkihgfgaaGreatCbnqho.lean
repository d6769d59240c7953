import Derived.Test.YtijjkfbkihgfgaaGreatCobqho
import Derived.Test.YtijjkfbkihgfgaaGreatFndqho
import Derived.Test.YtijjkfbkihgfgaaGreatMnbqho
namespace Go.Proofs.YtijjkfbkihgfgaaGreat
open Go.Lg Go.Proofs Go.RowKit
theorem OwnL.unapp {w : World} : ∀ {t1 t2 : List T} {vs : List Value} {fp : List Nat}, OwnL w (t1 ++ t2) vs fp → ∃ v1 v2 f1 f2, vs = v1 ++ v2 ∧ fp = f1 ++ f2 ∧ OwnL w t1 v1 f1 ∧ OwnL w t2 v2 f2 ∧ v1.length = t1.length
  | [], t2, vs, fp, h => ⟨[], vs, [], fp, rfl, rfl, by simp [OwnL], h, rfl⟩
  | t :: t1, t2, vs, fp, h => by
    simp only [List.cons_append, OwnL] at h
    obtain ⟨v, vs', f1, f2, rfl, rfl, h3, h4⟩ := h
    obtain ⟨v1, v2, g1, g2, rfl, rfl, h5, h6, h7⟩ := OwnL.unapp h4
    exact ⟨v :: v1, v2, f1 ++ g1, g2, rfl, by rw [List.append_assoc], by simp only [OwnL]; exact ⟨v, v1, f1, g1, rfl, rfl, h3, h5⟩, h6, by simp [h7]⟩
theorem own_mid {M : List Nat} {w0 w : World} {H : List HE} {t1 t2 : List T} {t : T} {vs : List Value} (hp : Hp M w0 (.ownL (t1 ++ t :: t2) vs :: H) w) : ∃ v1 v v2, vs = v1 ++ v :: v2 ∧ v1.length = t1.length ∧ Hp M w0 (.own t v :: .ownL t1 v1 :: .ownL t2 v2 :: H) w := by
  obtain ⟨fp, ⟨f1, f2, rfl, s1, s2⟩, nd, ge, kp⟩ := hp
  simp only [HE.sat] at s1
  obtain ⟨v1, v2', g1, g2, rfl, rfl, h5, h6, h7⟩ := OwnL.unapp s1
  simp only [OwnL] at h6
  obtain ⟨v, v2, k1, k2, rfl, rfl, h8, h9⟩ := h6
  have hpm : List.Perm (k1 ++ (g1 ++ (k2 ++ f2))) ((g1 ++ (k1 ++ k2)) ++ f2) := by
    simp only [List.append_assoc]
    exact (List.perm_append_comm_assoc k1 g1 (k2 ++ f2))
  exact ⟨v1, v, v2, rfl, h7, k1 ++ (g1 ++ (k2 ++ f2)), ⟨k1, g1 ++ (k2 ++ f2), rfl, h8, g1, k2 ++ f2, rfl, h5, k2, f2, rfl, h9, s2⟩, hpm.nodup_iff.2 nd, fun b hb => ge b (hpm.mem_iff.1 hb), kp⟩
theorem at_mid {n : Nat} {s : List (Nat × Value)} {R : Act → World → Prop} {M : List Nat} {w0 : World} {H : List HE} {t1 t2 : List T} {t : T} {vs : List Value} (h : ∀ v1 v v2, vs = v1 ++ v :: v2 → v1.length = t1.length → AT n (Hp M w0 (.own t v :: .ownL t1 v1 :: .ownL t2 v2 :: H)) s R) : AT n (Hp M w0 (.ownL (t1 ++ t :: t2) vs :: H)) s R := fun a w f c => by
  obtain ⟨v1, v, v2, e, hl, c'⟩ := own_mid c
  exact h v1 v v2 e hl a w f c'
theorem own_back {M : List Nat} {w0 w : World} {H : List HE} {t1 t2 : List T} {t : T} {v1 v2 : List Value} {v : Value} (hp : Hp M w0 (.own t v :: .ownL t1 v1 :: .ownL t2 v2 :: H) w) : Hp M w0 (.ownL (t1 ++ t :: t2) (v1 ++ v :: v2) :: H) w := by
  obtain ⟨fp, ⟨k1, _, rfl, h8, g1, _, rfl, h5, k2, f2, rfl, h9, s2⟩, nd, ge, kp⟩ := hp
  have hpm : List.Perm (k1 ++ (g1 ++ (k2 ++ f2))) ((g1 ++ (k1 ++ k2)) ++ f2) := by
    simp only [List.append_assoc]
    exact (List.perm_append_comm_assoc k1 g1 (k2 ++ f2))
  refine ⟨(g1 ++ (k1 ++ k2)) ++ f2, ⟨g1 ++ (k1 ++ k2), f2, rfl, ?_, s2⟩, hpm.nodup_iff.1 nd, fun b hb => ge b (hpm.mem_iff.2 hb), kp⟩
  simp only [HE.sat] at h5 h8 h9 ⊢
  refine OwnL.append h5 ?_
  simp only [OwnL]
  exact ⟨v, v2, k1, k2, rfl, rfl, h8, h9⟩
attribute [local irreducible] Code.wp wpList bodyPost Exit.then Exit.inBlock Hp Again Calls Y AT ResV QT Qn QI wpAny wpAnyQ
set_option maxRecDepth 20000
set_option maxHeartbeats 4000000

theorem sumN_first {G : Nat → Int} : ∀ n, sumN G (n + 1) = G 0 + sumN (fun s => G (s + 1)) n
  | 0 => by simp [sumN]
  | n + 1 => by rw [sumN, sumN_first n, sumN]; omega
theorem sumN_rev {F : Nat → Int} : ∀ n, sumN (fun s => F (n - 1 - s)) n = sumN F n
  | 0 => rfl
  | n + 1 => by
    have ih := sumN_rev (F := F) n
    rw [sumN_first, sumN, ← ih]
    have e : sumN (fun s => F (n + 1 - 1 - (s + 1))) n = sumN (fun s => F (n - 1 - s)) n := sumN_congr (fun s hs => by congr 1; omega)
    rw [e]
    simp only [Nat.add_sub_cancel, Nat.sub_zero]
    omega
def cmS (p : Int) (ks : List Int) (l : List (List Mat)) (t : Nat) : Nat → Int := fun q => sumN (fun s => ks.getD s 0 * (flatL (l.getD s [])).getD q 0) t % p
theorem cmS_dig {p c : Int} {l : List (List Mat)} {n : Nat} : mkv n (cmS p (mkv l.length (digF p c l.length)) l l.length) = mkv n (nmS p c l l.length) := mkv_ext (fun q _ => by
  rw [cmS, nmS]
  congr 1
  rw [← sumN_rev]
  refine sumN_congr (fun s hs => ?_)
  rw [mkv_get (show l.length - 1 - s < l.length by omega), digF, show l.length - 1 - (l.length - 1 - s) = s by omega])
theorem cut_mkv {n o s : Nat} {y : Nat → Int} (h : o + s ≤ n) : ((mkv n y).drop o).take s = mkv s (fun q => y (o + q)) := by
  refine List.ext_getElem (by simp [mkv]; omega) (fun i h1 h2 => ?_)
  simp [mkv]
def cmT (p : Int) (ks : List Int) (l : List (List Mat)) (da db : List Int) (i v : Nat) : Nat → Int := fun q => if q < offN da db v then cmS p ks l (i + 1) q else cmS p ks l i q
theorem cmT_zero {p : Int} {ks : List Int} {l : List (List Mat)} {da db : List Int} {n i : Nat} : mkv n (cmS p ks l i) = mkv n (cmT p ks l da db i 0) := mkv_ext (fun q _ => by rw [cmT, if_neg (by rw [offN]; omega)])
theorem cmT_end {p : Int} {ks : List Int} {l : List (List Mat)} {da db : List Int} {i v : Nat} : mkv (offN da db v) (cmT p ks l da db i v) = mkv (offN da db v) (cmS p ks l (i + 1)) := mkv_ext (fun q hq => by rw [cmT, if_pos hq])
theorem cmS_step {p : Int} {ks : List Int} {l : List (List Mat)} {i q : Nat} : (cmS p ks l i q + ks.getD i 0 * (flatL (l.getD i [])).getD q 0) % p = cmS p ks l (i + 1) q := by
  rw [cmS, cmS, sumN, Int.emod_add_emod]
theorem flat_at {a b : Rp} {ms : List Mat} (h : AreP a b ms) : ∀ v, v ≤ a.d.length → (flatL (ms.take v)).length = offN a.d b.d v
  | 0, _ => by simp [flatL, offN]
  | v + 1, hv => by
    have ih := flat_at h v om
    have hl := h.2.1
    obtain ⟨m, hm⟩ : ∃ m, ms[v]? = some m := ⟨_, List.getElem?_eq_getElem om⟩
    have gm : ms.getD v mat0 = m := by rw [List.getD, hm]; rfl
    obtain ⟨p1, p2, p3⟩ := h.2.2 v om
    rw [gm] at p1 p2 p3
    have d1 := h.1.1.dg v
    have d2 := h.1.2.1.dg v
    obtain ⟨_, _, c3, _⟩ := cellsP_of (R := (b.d.getD v 0).toNat) (C := (a.d.getD v 0).toNat) p1 om om
    rw [← flatL_next hm, List.length_append, ih, offN, szV, c3, mk_length, Nat.mul_comm (b.d.getD v 0).toNat]
theorem flat_get {a b : Rp} {ms : List Mat} {v q : Nat} {m : Mat} (h : AreP a b ms) (hm : ms[v]? = some m) (hq : q < m.2.2.length) : (flatL ms).getD (offN a.d b.d v + q) 0 = m.2.2.getD q 0 := by
  have hv : v < ms.length := (List.getElem?_eq_some_iff.1 hm).1
  have hl := flat_at h v (by have := h.2.1; omega)
  have e : flatL ms = flatL (ms.take v) ++ (m.2.2 ++ flatL (ms.drop (v + 1))) := by
    conv => lhs; rw [← List.take_append_drop (v + 1) ms]
    rw [flatL, List.flatMap_append, ← List.append_assoc, flatL_next hm]; rfl
  rw [e, List.getD, List.getElem?_append_right om, hl, Nat.add_sub_cancel_left, List.getElem?_append_left hq]
  rfl
theorem flat_split {D : List Mat} {v : Nat} {m : Mat} (h : D[v]? = some m) : D.flatMap matT = ((D.take v).flatMap matT ++ [.c (iV m.1), .c (iV m.2.1)]) ++ iT m.2.2 :: (D.drop (v + 1)).flatMap matT := by
  conv => lhs; rw [← List.take_append_drop (v + 1) D]
  rw [List.flatMap_append, List.take_add_one, h, List.flatMap_append]
  simp only [Option.toList_some, List.flatMap_cons, List.flatMap_nil, List.append_nil, List.append_assoc]
  rfl
theorem flat_set {D : List Mat} {v : Nat} {m : Mat} {xs : List Int} (h : D[v]? = some m) : ((D.take v).flatMap matT ++ [.c (iV m.1), .c (iV m.2.1)]) ++ iT xs :: (D.drop (v + 1)).flatMap matT = (D.set v (m.1, m.2.1, xs)).flatMap matT := by
  have hv : v < D.length := (List.getElem?_eq_some_iff.1 h).1
  rw [flat_split (D := D.set v (m.1, m.2.1, xs)) (v := v) (m := (m.1, m.2.1, xs)) (by rw [List.getElem?_set, if_pos rfl, if_pos hv]), List.take_set_of_le (Nat.le_refl _), List.drop_set_of_lt om]
theorem flat_pre {da db x : List Int} {v : Nat} (h : v < da.length) {m : Mat} : ((((cutL da db x).take v).flatMap matT) ++ [T.c (iV m.1), T.c (iV m.2.1)]).length = v * 3 + 2 := by
  rw [List.length_append, flatMap_length matT_length, List.length_take, cutL, tabM_length]
  simp only [List.length_cons, List.length_nil]
  omega
theorem cmT_cell {p : Int} {ks : List Int} {l : List (List Mat)} {da db : List Int} {n i v : Nat} (hn : n = offN da db da.length) (hv : v < da.length) :
    (cutM da db (mkv n (cmT p ks l da db i v)) v).2.2 = mkv (szV da db v) (fun q => cmS p ks l i (offN da db v + q)) ∧
    ∀ (ys : List Int), (∀ q, q < szV da db v → ys.getD q 0 = (flatL (l.getD i [])).getD (offN da db v + q) 0) →
      (cutL da db (mkv n (cmT p ks l da db i v))).set v ((cutM da db (mkv n (cmT p ks l da db i v)) v).1, (cutM da db (mkv n (cmT p ks l da db i v)) v).2.1, addTo p (ks.getD i 0) (mkv (szV da db v) (fun q => cmS p ks l i (offN da db v + q))) 0 ys (szV da db v)) = cutL da db (mkv n (cmT p ks l da db i (v + 1))) := by
  have hm := offN_mono (da := da) (db := db) (u := v + 1) (v := da.length) hv
  have hs : offN da db (v + 1) = offN da db v + szV da db v := rfl
  refine ⟨?_, fun ys hy => ?_⟩
  · rw [cutM]
    simp only
    rw [cut_mkv om]
    exact mkv_ext (fun q hq => by rw [cmT, if_neg om])
  · refine List.ext_getElem? (fun u => ?_)
    rw [List.getElem?_set]
    by_cases hu : u < da.length
    · have e1 : (cutL da db (mkv n (cmT p ks l da db i (v + 1))))[u]? = some (cutM da db (mkv n (cmT p ks l da db i (v + 1))) u) := tabM_get hu
      have e2 : (cutL da db (mkv n (cmT p ks l da db i v)))[u]? = some (cutM da db (mkv n (cmT p ks l da db i v)) u) := tabM_get hu
      have hmu := offN_mono (da := da) (db := db) (u := u + 1) (v := da.length) hu
      have hsu : offN da db (u + 1) = offN da db u + szV da db u := rfl
      rw [e1, e2]
      by_cases huv : v = u
      · subst huv
        rw [if_pos rfl, if_pos (by rw [cutL, tabM_length]; exact hv), cutM, cutM]
        simp only
        rw [cut_mkv om, addTo_all]
        congr 3
        exact mkv_ext (fun q hq => by rw [hy q hq, cmS_step, cmT, if_pos om])
      · rw [if_neg huv, cutM, cutM, cut_mkv om, cut_mkv om]
        congr 3
        refine mkv_ext (fun q hq => ?_)
        rcases Nat.lt_or_gt_of_ne huv with h | h
        · have := offN_mono (da := da) (db := db) (u := v + 1) (v := u) h
          rw [cmT, cmT, if_neg om, if_neg om]
        · have := offN_mono (da := da) (db := db) (u := u + 1) (v := v) h
          rw [cmT, cmT, if_pos om, if_pos om]
    · have e1 : (cutL da db (mkv n (cmT p ks l da db i (v + 1))))[u]? = none := List.getElem?_eq_none (by rw [cutL, tabM_length]; omega)
      have e2 : (cutL da db (mkv n (cmT p ks l da db i v)))[u]? = none := List.getElem?_eq_none (by rw [cutL, tabM_length]; omega)
      rw [if_neg om, e1, e2]
theorem cmS_rng {p : Int} {ks : List Int} {l : List (List Mat)} {i q : Nat} (hF : FieldP p) : 0 ≤ cmS p ks l i q ∧ cmS p ks l i q ≤ 5 := by
  have hp := fieldP_pos hF
  have h1 := Int.emod_nonneg (sumN (fun s => ks.getD s 0 * (flatL (l.getD s [])).getD q 0) i) (show p ≠ 0 by omega)
  have h2 := Int.emod_lt_of_pos (sumN (fun s => ks.getD s 0 * (flatL (l.getD s [])).getD q 0) i) (show 0 < p by omega)
  rw [cmS]
  omega
theorem zn_cut {p : Int} {ks : List Int} {l : List (List Mat)} {da db : List Int} {n : Nat} (hn : n = offN da db da.length) : znMs da db da.length = cutL da db (mkv n (cmS p ks l 0)) := by
  rw [znMs, cutL, tabM]
  refine List.map_congr_left (fun v hv => ?_)
  have hv := List.mem_range.1 hv
  have h1 := offN_mono (da := da) (db := db) (u := v + 1) (v := da.length) hv
  rw [offN] at h1
  have e : (mkv n (cmS p ks l 0)) = mkv n (fun _ => 0) := mkv_ext (fun q _ => by rw [cmS, sumN, Int.zero_emod])
  rw [znM, cutM, e, cut_mkv om, ← mk_zero, ← mkv_zero, szV, Nat.mul_comm (da.getD v 0).toNat]
end Go.Proofs.YtijjkfbkihgfgaaGreat

namespace Go.Proofs.YtijjkfbkihgfgaaGreat
open Go.Lg Go.Proofs Go.RowKit
attribute [local irreducible] Code.wp wpList bodyPost Exit.then Exit.inBlock Hp Again Calls Y AT ResV QT Qn QI wpAny wpAnyQ
set_option maxRecDepth 20000
set_option maxHeartbeats 4000000

theorem combined_ok {w : World} {a b : Rp} {l : List (List Mat)} {ks : List Int} {e e' : Nat} {u0 u1 u2 u3 v0 v1 v2 v3 ul uk : Value} (h2 : Rd w (iT a.d) u2) (k2 : Rd w (iT b.d) v2) (hl : Rd w (mssT e e' l) ul) (hk : Rd w (iT ks) uk) (hF : FitP a b) (hkl : ks.length = l.length) (hks : InP 0 (a.p - 1) ks)
    (hx : ∀ (i : Nat) (ms : List Mat), l[i]? = some ms → AreP a b ms) :
    Does Tryz.prog 215 [.agg #[iV a.p, iV a.q.1, u0, u1, u2, u3], .agg #[iV b.p, iV b.q.1, v0, v1, v2, v3], ul, uk] w (GivesMs (cutL a.d b.d (mkv (offN a.d b.d a.d.length) (cmS a.p ks l l.length)))) := by
  have hp := fieldP_pos hF.1.1
  have hn := off_le hF
  obtain ⟨al, cl, rfl, hsl, hcl, hdl, hgl⟩ := rd_mss hl
  obtain ⟨ak, ck, rfl, hsk, hck, hdk, hgk⟩ := hk.ints
  unfold maxLen at hdl
  obtain ⟨n, en⟩ : ∃ n, n = offN a.d b.d a.d.length := ⟨_, rfl⟩
  rw [← en] at hn ⊢
  have e0 : znMs a.d b.d a.d.length = cutL a.d b.d (mkv n (cmS a.p ks l 0)) := zn_cut en
  refine fn_enter Tryz.func215 rfl Tryz.ntmps215 rfl ?_
  repeat' (first | (show oL; first | refine sMv rfl rfl ?_ | refine sAs rfl rfl ?_ | (show oA (.load _ _); first | refine sLb 0 tabs rfl rfl rfl rfl rfl ?_ | refine sLb 1 tabs rfl rfl rfl rfl rfl ?_) | (show oA (.call _); first | (refine m_call (ent_of Tryz.func171 kr rfl) rfl rfl (fun w c => zeros_ok (a := a) (b := b) (c.rd h2) (c.rd k2) hF) ?_; rintro v H' ⟨az, cz, rfl, hsa, rfl⟩; rw [e0]) | refine sLn tabs rfl rfl rfl ?_) | (show oA (.box _ _); refine m_box rfl rfl (fun b4 hb4 => ?_))) | refine xNt ?_ | (show oC; first | refine c_seq ?_ | refine c_region ?_ | refine c_block ?_))
  rename_i b3 hb3
  have hz : SA az a.d.length := by rw [e0, cutL, tabM_length] at hsa; exact hsa
  rw [show (cutL a.d b.d (mkv n (cmS a.p ks l 0))).length = a.d.length from tabM_length]
  refine c_loopH (α := Nat) [3, 4, 9, 17, 18] (fun i => [(19, .int .i64 i)]) (fun i => i ≤ l.length) (fun i => [.own (matsT 47 (cutL a.d b.d (mkv n (cmS a.p ks l i)))) (.slice az a.d.length cz), .blk b4 #[iV b.p, iV b.q.1, v0, v1, v2, v3] 60, .blk b3 #[iV a.p, iV a.q.1, u0, u1, u2, u3] 60]) (fun i => l.length - i) 0 rfl sB ?_ ?_ ?_
  · exact Nat.zero_le _
  · exact fun w' c' => c'
  · rintro i hi
    by_cases hin : i < l.length
    · obtain ⟨ms, hms⟩ : ∃ ms, l[i]? = some ms := ⟨_, List.getElem?_eq_getElem hin⟩
      obtain ⟨a5, c5, g1, g2⟩ := hgl i ms hms
      have hA := hx i ms hms
      have hml := hA.2.1
      rw [cmT_zero (da := a.d) (db := b.d)]
      repeat' (first | (show oL; first | refine sMv rfl rfl ?_ | refine sAs rfl rfl ?_ | (show oA (.load _ _); refine st_y (y_load tabs rfl rfl (hc_w0 g1)) rfl ?_) | (show oA (.indexAddr _ _ _); refine st_y (y_ix1 tabs (j := i) rfl rfl rfl hsl rfl hin) rfl ?_) | refine sLs rfl rfl rfl ?_ | refine sLn tabs rfl rfl rfl ?_) | refine xNt ?_ | (show oC; first | refine c_seq ?_ | refine c_region ?_ | refine c_skip (x_then ?_) | refine c_block ?_ | refine c_ift rfl aO ?_))
      refine c_loopH (α := Nat) [3, 4, 9, 10, 17, 18, 19, 24, 25] (fun v => [(26, .int .i64 v)]) (fun v => v ≤ ms.length) (fun v => [.own (matsT 47 (cutL a.d b.d (mkv n (cmT a.p ks l a.d b.d i v)))) (.slice az a.d.length cz), .blk b4 #[iV b.p, iV b.q.1, v0, v1, v2, v3] 60, .blk b3 #[iV a.p, iV a.q.1, u0, u1, u2, u3] 60]) (fun v => ms.length - v) 0 rfl sB ?_ ?_ ?_
      · exact Nat.zero_le _
      · exact fun w' c' => c'
      · rintro v hv
        by_cases hvn : v < ms.length
        · obtain ⟨a6, c6, e6, hs6, q1, q2, hg6⟩ := rd_mats g2
          cases e6
          unfold maxLen at q2
          obtain ⟨m, hm⟩ : ∃ m, ms[v]? = some m := ⟨_, List.getElem?_eq_getElem hvn⟩
          obtain ⟨a7, c7, f1, f2, f3, f4⟩ := hg6 v m hm
          have hvd : v < a.d.length := by omega
          have hD : (cutL a.d b.d (mkv n (cmT a.p ks l a.d b.d i v)))[v]? = some (cutM a.d b.d (mkv n (cmT a.p ks l a.d b.d i v)) v) := tabM_get hvd
          obtain ⟨f5, f6⟩ := cmT_cell (p := a.p) (ks := ks) (l := l) (i := i) en hvd
          have hil : l.getD i [] = ms := by rw [List.getD, hms]; rfl
          obtain ⟨p1, p2, p3⟩ := hA.2.2 v hvn
          have gm : ms.getD v mat0 = m := by rw [List.getD, hm]; rfl
          rw [gm] at p1 p2 p3
          have d1 := hF.1.dg v
          have d2 := hF.2.1.dg v
          have hml2 : m.2.2.length = szV a.d b.d v := by
            obtain ⟨_, _, c3, _⟩ := cellsP_of (R := (b.d.getD v 0).toNat) (C := (a.d.getD v 0).toNat) p1 om om
            rw [c3, mk_length, szV, Nat.mul_comm]
          have hsz : szV a.d b.d v ≤ 4 * 4 := Nat.mul_le_mul om om
          have hil' := f6 m.2.2 (fun q hq => by rw [hil, flat_get hA hm om])
          have hki := inP_get hks (i := i) om
          rw [hml2] at f3 f4
          have hs7 : SA a7 (szV a.d b.d v) := by obtain ⟨x7, y7, e7, h7, _⟩ := f4.ints; injection e7 with e1 e2 e3; rw [e1, e2]; exact h7
          repeat' (first | (show oL; first | refine sMv rfl rfl ?_ | refine sAs rfl rfl ?_ | (show oA (.load _ _); refine st_y (y_load3 tabs rfl rfl (hc_w0 f1) (hc_w0 f2) (hc_w0 f3)) rfl ?_) | (show oA (.indexAddr _ _ _); refine st_y (y_ixa tabs rfl rfl rfl hs6 om om) rfl ?_) | refine sLs rfl rfl rfl ?_ | (show oA (.store _ _ _); refine m_storeb 0 tabs rfl rfl rfl rfl rfl rfl rfl ?_) | (show oA (.alloc _); refine m_alloc tabs rfl rfl (fun b5 hb5 => ?_))) | refine xNt ?_ | (show oC; first | refine c_seq ?_ | refine c_region ?_ | refine c_skip (x_then ?_) | refine c_block ?_ | refine c_ift rfl aO ?_))
          refine AT.opn 1 rfl (fun us hus => ?_)
          refine AT.cls (fun w' c' => c'.swap) ?_
          rw [flat_split hD]
          refine at_mid (fun v1 uv v2 evs hv1 => ?_)
          refine AT.fact (own_sl 0 rfl) (fun hsl0 => ?_)
          obtain ⟨ac, cc, rfl, hsc⟩ := hsl0
          rw [f5, mkv_length] at hsc
          have hu : us[v * 3 + 2]? = some (.slice ac (szV a.d b.d v) cc) := by
            rw [evs, List.getElem?_append_right (by rw [hv1, flat_pre hvd]; omega), hv1, flat_pre hvd, Nat.sub_self, f5, mkv_length]
            rfl
          rw [f5, mkv_length] at evs
          rw [f5, mkv_length]
          repeat' (first | (show oC; refine c_tailR 13 kr kr kr kr kr kr (fun _ c => Hp.drew c) ?_) | (show QT _ _ _ _ _ _ (_ :: _); first | refine qMv rfl rfl ?_ | refine qFd tabs rfl rfl rfl rfl ?_ | (show qA (.load _ _); first | refine qLd 6 tabs rfl rfl rfl rfl rfl ?_ | refine q_y (y_load tabs rfl rfl (hc_nmk 3 (by decide) rfl hu)) rfl ?_ | refine q_y (y_load tabs rfl rfl (hc_w0 (hgk i om))) rfl ?_ | refine qLd 4 tabs rfl rfl rfl rfl rfl ?_) | (show qA (.indexAddr _ _ _); first | refine q_y (y_ixa tabs rfl rfl rfl hz om om) rfl ?_ | refine q_y (y_ix1 tabs (j := i) rfl rfl rfl hsk rfl om) rfl ?_)) | (show QT _ _ _ _ _ _ []; refine q_nil ?_) | (show AT _ _ _ (Qk _ _ _); refine x_one ?_))
          refine m_callL 0 (ent_of Tryz.func221 kr rfl) rfl rfl rfl (fun w M' hl => addMultiple_ok (o := 0) (n := szV a.d b.d v) (xs := mkv (szV a.d b.d v) (fun q => cmS a.p ks l i (offN a.d b.d v + q))) (ys := m.2.2) hF.1.1 om hl (fun h => by have := hsc.get h; exact this) (by rw [mkv_length]; omega) om (fun j hj => by rw [Nat.zero_add, mkv_get hj]; exact cmS_rng hF.1.1) (fun j hj => by have := inP_get p1.2.2.2.2.2 (i := j) om; omega) hs7 (fun w' xs' c' hxl hxo j hj => by have h := (RdOut.rd (hl.old f4) c').ints; obtain ⟨_, _, e, _, _, _, hh⟩ := h; injection e with e1 e2 e3; subst e1; exact hh j om)) ?_
          rintro v H' ⟨rfl, rfl⟩
          repeat' (first | (show oL; first | refine sMv rfl rfl ?_ | refine sAd rfl rfl om rfl ?_) | (show oN; first | refine c_nil (x_then ?_) | refine c_nil ?_) | (show oC; refine c_region ?_) | (show AT _ _ _ _; first | refine x_then ?_ | refine x_blk ?_))
          refine x_nx (v + 1) sB om (fun w' c' => ?_) om
          have c2 := own_back c'
          rw [← evs, flat_set hD, hil'] at c2
          have c3 := Hp.cls c2.swap
          exact c3.sub sL
        · have : v = ms.length := by omega
          subst this
          have e9 : mkv n (cmT a.p ks l a.d b.d i ms.length) = mkv n (cmS a.p ks l (i + 1)) := by rw [en, ← hml]; exact cmT_end
          rw [e9]
          repeat' (first | (show oL; first | refine sMv rfl rfl ?_ | (show oA (.binOp _ _ _ _ _); first | refine sAd rfl rfl om rfl ?_ | refine sLs rfl rfl rfl ?_)) | refine xNt ?_ | (show oC; first | refine c_seq ?_ | refine c_region ?_ | refine c_exit ?_ | refine c_iff rfl nN ?_) | (show AT _ _ _ _; first | refine x_then ?_ | refine x_then_exit ?_ | refine x_blk_exit rfl ?_ | refine x_blk ?_))
          exact x_nx (i + 1) sB om (fun w' c' => c') om
    · have : i = l.length := by omega
      subst this
      refine AT.fact (mats_sl 0 rfl) (fun hs0 => ?_)
      repeat' (first | (show oL; first | refine sMv rfl rfl ?_ | refine sAs rfl rfl ?_ | refine sLs rfl rfl rfl ?_) | refine xNt ?_ | (show oC; first | refine c_seq ?_ | refine c_region ?_ | refine c_ret ?_ | refine c_exit ?_ | refine c_iff rfl nN ?_) | (show AT _ _ _ _; first | refine x_then ?_ | refine x_then_exit ?_ | refine x_blk_exit rfl ?_))
      exact x_ret1 Tryz.results215 (res_tmp rfl) (fun w' c' => ⟨_, _, rfl, ⟨az, cz, by rw [cutL, tabM_length], hs0, by rw [cutL, tabM_length]⟩, c'.sub (.cons_cons _ (List.nil_sublist _))⟩)
end Go.Proofs.YtijjkfbkihgfgaaGreat
