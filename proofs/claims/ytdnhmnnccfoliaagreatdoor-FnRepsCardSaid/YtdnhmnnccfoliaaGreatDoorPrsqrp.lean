import Derived.Test.YtdnhmnnccfoliaaGreatDoorAlgqrp
import Derived.Test.YtdnhmnnccfoliaaGreatDoorFmrqrp
import Derived.Test.YtdnhmnnccfoliaaGreatDoorPmsqrp
import Derived.Test.YtdnhmnnccfoliaaGreatDoorQupqrp
import Derived.Test.YtdnhmnnccfoliaaGreatDoorZerqrp
namespace Go.Proofs.YtdnhmnnccfoliaaGreatDoor
open Go.Lg Go.Proofs Go.RowKit
attribute [local irreducible] Code.wp wpList bodyPost Exit.then Exit.inBlock Hp Again Calls Y AT ResV QT Qn QI wpAny wpAnyQ
set_option maxRecDepth 20000
set_option maxHeartbeats 4000000

def parRL (p : Int) (q : Qv) (s : List UInt8) : Rp := if parR p q s then candR p q s else repZ
theorem parR_no {p : Int} {q : Qv} {s : List UInt8} {v : Value} {H : List HE} (hn : ¬ parR p q s) (hv : v = .tuple #[.agg #[iV 0, iV 0, .slice none 0 0, .slice none 0 0, .slice none 0 0, .slice none 0 0], .bool false]) (hH : H = [.own (matsT 41 []) (.slice none 0 0), .own (iT []) (.slice none 0 0), .own (iT []) (.slice none 0 0), .own (iT []) (.slice none 0 0)]) : GivesRB (parRL p q s) (decide (parR p q s)) v H := by
  rw [parRL, if_neg hn, decide_eq_false hn]
  exact ⟨none, 0, none, 0, none, 0, none, 0, hv, .inl rfl, .inl rfl, .inl rfl, .inl rfl, hH⟩
theorem map_len {r : Rp} (h : RepP r) {i : Nat} (hi : i < r.m.length) : (fmtM r.p (r.m.getD i mat0)).length ≤ 36 := by
  obtain ⟨m1, m2, m3⟩ := h.2.2.2 i hi
  have d1 := (RepP.dd h).1 (r.q.2.1.getD i 0).toNat
  have d2 := (RepP.dd h).1 (r.q.2.2.getD i 0).toNat
  have hl := m1.2.2.1
  rw [fmtM_eq m1]
  have h1 := bodyN_len (C := (r.m.getD i mat0).2.1.toNat) (xs := (r.m.getD i mat0).2.2) (r.m.getD i mat0).2.2.length
  have h2 : (r.m.getD i mat0).1 * (r.m.getD i mat0).2.1 ≤ 4 * 4 := Int.mul_le_mul (by rw [m3]; exact d2.2) (by rw [m2]; exact d1.2) (by rw [m2]; exact d1.1) (by decide)
  simp only [List.length_cons]
  omega
theorem flat_len36 {f : Mat → List UInt8} : ∀ ms : List Mat, (∀ i, i < ms.length → (f (ms.getD i mat0)).length ≤ 36) → (ms.flatMap (fun m => 32 :: f m)).length ≤ 37 * ms.length
  | [], _ => by simp
  | m :: ms, h => by
    have h1 := h 0 (by simp)
    have h2 := flat_len36 ms (fun i hi => h (i + 1) (by simp; omega))
    rw [List.flatMap_cons, List.length_append, List.length_cons, List.length_cons]
    have h3 : (f m).length ≤ 36 := h1
    omega
theorem parR_bd {p : Int} {q : Qv} {s : List UInt8} (h : parR p q s) : FieldP p ∧ QuivP q ∧ s.length ≤ 300 := by
  obtain ⟨h1, h2⟩ := h
  refine ⟨h1.1, h1.2.1.1, ?_⟩
  have hd : (candR p q s).d.length ≤ 5 := by have := h1.2.1.2.1; have := h1.2.1.1.1; omega
  have hm : (candR p q s).m.length ≤ 6 := by have := h1.2.2.1; have := h1.2.1.1.2.1; omega
  have := flat_len36 (f := fmtM p) (candR p q s).m (fun i hi => map_len h1 hi)
  rw [← h2, fmtR, if_pos h1, List.length_append, digL, List.length_map]
  have e : (candR p q s).p = p := rfl
  rw [e]
  omega
theorem parR_words {p : Int} {q : Qv} {s : List UInt8} (h : parR p q s) {j : Nat} (hj : j + 1 < (spL 32 s).length) : parM p ((spL 32 s).getD (j + 1) []) := by
  obtain ⟨h1, h2⟩ := h
  have e := cut_fmtR h1
  rw [h2] at e
  rw [e] at hj ⊢
  rw [List.length_cons, List.length_map] at hj
  have hi : j < (candR p q s).m.length := by omega
  refine parM_iff.2 ⟨(candR p q s).m.getD j mat0, (h1.2.2.2 j hi).1, ?_⟩
  rw [List.getD_cons_succ]
  rw [List.getD, List.getD, List.getElem?_map, List.getElem?_eq_getElem hi]
  rfl
theorem nums_next {W : List UInt8} {i : Nat} (h : i < W.length) : numsS (W.take (i + 1)) = numsS (W.take i) ++ [((W.getD i 0).toNat : Int) - 48] := by
  have e : W.take (i + 1) = W.take i ++ [W.getD i 0] := by
    rw [List.take_add_one]
    simp [List.getD, h]
  rw [numsS, e, List.map_append]; rfl
theorem spR_tot {d : UInt8} : ∀ (s : List UInt8) (r : List (List UInt8) × List UInt8) (N : Nat), (∀ v ∈ r.1, v.length ≤ N) → r.2.length ≤ N → (∀ v ∈ (s.foldl (fun r x => if x = d then (r.1 ++ [r.2], []) else (r.1, r.2 ++ [x])) r).1, v.length ≤ N + s.length) ∧ (s.foldl (fun r x => if x = d then (r.1 ++ [r.2], []) else (r.1, r.2 ++ [x])) r).2.length ≤ N + s.length
  | [], r, N, h1, h2 => ⟨h1, h2⟩
  | y :: s, r, N, h1, h2 => by
    rw [List.foldl_cons]
    have key := spR_tot (d := d) s (if y = d then (r.1 ++ [r.2], []) else (r.1, r.2 ++ [y])) (N + 1)
    have e : N + 1 + s.length = N + (y :: s).length := by rw [List.length_cons]; omega
    rw [e] at key
    refine key ?_ ?_
    · intro v hv
      split at hv
      · rcases List.mem_append.1 hv with h | h
        · have := h1 v h; omega
        · simp at h; subst h; omega
      · have := h1 v hv; omega
    · split
      · simp
      · rw [List.length_append, List.length_singleton]; omega
theorem word_le {d : UInt8} {s : List UInt8} (j : Nat) : ((spL d s).getD j []).length ≤ s.length := by
  obtain ⟨k1, k2⟩ := spR_tot (d := d) s ([], []) 0 (by simp) (by simp)
  rw [Nat.zero_add] at k1 k2
  rcases Nat.lt_or_ge j (spL d s).length with hj | hj
  · have hm : (spL d s).getD j [] ∈ spL d s := by
      rw [List.getD, List.getElem?_eq_getElem hj]; exact List.getElem_mem _
    generalize (spL d s).getD j [] = v at hm ⊢
    rw [spL] at hm
    rcases List.mem_append.1 hm with h | h
    · exact k1 _ h
    · rw [List.mem_singleton.1 h]; exact k2
  · rw [List.getD, List.getElem?_eq_none hj]; simp
theorem spec_ParseRep_ok {w : World} {p : Int} {q : Qv} {s : List UInt8} {u0 u1 : Value} (hl : s.length ≤ 2000000) (h0 : Rd w (iT q.2.1) u0) (h1 : Rd w (iT q.2.2) u1) : Does Tryz.prog 7 [iV p, .agg #[iV q.1, u0, u1], sV s] w (GivesRB (parRL p q s) (decide (parR p q s))) := by
  have hbd := parR_bd (p := p) (q := q) (s := s)
  have hwd := parR_words (p := p) (q := q) (s := s)
  have hpos := cut_pos 32 s
  obtain ⟨v0, v0', rfl, _, _, _, _⟩ := h0.ints
  obtain ⟨v1, v1', rfl, _, _, _, _⟩ := h1.ints
  have hg : ∀ j, j < (spL 32 s).length → ((spL 32 s).map sV)[j]? = some (sV ((spL 32 s).getD j [])) := fun j hj => by
    rw [List.getElem?_map, List.getD, List.getElem?_eq_getElem hj]; rfl
  have tok0 : True := trivial
  by_cases hq : FieldP p ∧ QuivP q ∧ s.length ≤ 300
  · obtain ⟨q1, q2, q3⟩ := hq
    have hsz : szQ q ≤ 1048576 := by have := q2.2.1; have := q2.2.2.1; unfold szQ; omega
    have hlw : (spL 32 s).length ≤ s.length + 1 ∧ ∀ j, ((spL 32 s).getD j []).length ≤ 300 := by
      have k1 := spR_len (d := 32) (s := s) s.length (Nat.le_refl _)
      rw [List.take_length] at k1
      refine ⟨by rw [spL, List.length_append, List.length_singleton]; omega, fun j => ?_⟩
      have := word_le (d := 32) (s := s) j
      omega
    refine fn_enter Tryz.func7 rfl Tryz.ntmps7 rfl ?_
    repeat' (first | (show oL; first | refine sMv rfl rfl ?_ | refine sAs rfl rfl ?_ | refine sLb 2 tabs rfl rfl rfl rfl rfl ?_ | (show oA (.binOp _ _ _ _ _); refine st_y (y_gtr rfl rfl) rfl ?_) | (show oA (.unOp _ _ _); refine st_y (y_not rfl) rfl ?_) | (show oA (.call _); first | refine st_y (y_lens Tryz.underlying9 rfl) rfl ?_ | (refine m_call (ent_of Tryz.func75 kr rfl) rfl rfl (fun w c => l6Cut_ok2 (d := 32) rfl hl) ?_; rintro v H' ⟨a, c, rfl, rfl⟩) | (refine m_call (ent_of Tryz.func76 kr rfl) rfl rfl (fun w c => spec_IsField_ok p) ?_; rw [decide_eq_true q1]; rintro v H' ⟨rfl, rfl⟩) | (refine m_call (ent_of Tryz.func77 kr rfl) rfl rfl (fun w c => spec_IsQuiver_ok (q := q) (c.rd h0) (c.rd h1)) ?_; rw [decide_eq_true q2]; rintro v H' ⟨rfl, rfl⟩) | (refine m_call (ent_of Tryz.func78 kr rfl) rfl rfl (fun w c => l6Copy_ok (q := q) (c.rd h0) (c.rd h1) hsz) ?_; rintro v H' ⟨x0, x0', x1, x1', rfl, sx0, sx1, rfl⟩)) | (show oA (.pick _ _ _); refine st_y (y_pick rfl rfl rfl) rfl ?_) | (show oA (.store _ _ _); refine m_storeb 0 tabs rfl rfl rfl rfl rfl rfl rfl ?_) | (show oA (.box _ _); refine m_box rfl rfl (fun b4 hb4 => ?_)) | (show oA (.alloc _); first | (have _t := tok0; refine m_alloc tabs rfl rfl (fun b6 hb6 => ?_); clear _t tok0) | refine m_alloc tabs rfl rfl (fun b9 hb9 => ?_)) | (show oA (.buildSlice _ _ _); refine m_build0 tabs rfl rfl (fun gm hgm => ?_)) | (show oA (.build _ _); refine st_y (y_bld4 (bld_rp4 _ _ _ _ _ _ _ _ _ _ _ _ _ _) rfl rfl rfl rfl) rfl ?_) | refine st_gy rfl rfl ?_) | refine xNt ?_ | (show oC; first | refine c_seq ?_ | refine c_region ?_ | refine c_skip (x_then ?_) | refine c_block ?_ | refine c_iff rfl nN ?_))
    rename_i gd hgd
    refine AT.fact (str_sl 5 rfl) (fun hsl => ?_)
    have hs := hsl.1
    refine c_loopH (α := Nat × Option Addr × Nat) [0, 2, 6, 8, 9] (fun x => [(10, iV x.1)]) (fun x => x.1 ≤ ((spL 32 s).getD 0 []).length) (fun x => [.blk b9 #[iV p, iV q.1, .slice x0 q.2.1.length x0', .slice x1 q.2.2.length x1', .slice x.2.1 x.1 x.2.2, .slice (some ⟨gm, 0, none⟩) 0 0] 29, .own (.s 41 3 []) (.slice (some ⟨gm, 0, none⟩) 0 0), .own (iT (numsS (((spL 32 s).getD 0 []).take x.1))) (.slice x.2.1 x.1 x.2.2), .own (iT q.2.2) (.slice x1 q.2.2.length x1'), .own (iT q.2.1) (.slice x0 q.2.1.length x0'), .own (strT (spL 32 s)) (.slice a (spL 32 s).length c), .blk b6 #[iV 0, iV 0, .slice none 0 0, .slice none 0 0, .slice none 0 0, .slice none 0 0] 29, .blk b4 #[iV q.1, .slice v0 q.2.1.length v0', .slice v1 q.2.2.length v1'] 26]) (fun x => ((spL 32 s).getD 0 []).length - x.1) (0, some ⟨gd, 0, none⟩, 0) rfl sB ?_ ?_ ?_
    · exact Nat.zero_le _
    · exact fun w' c' => c'
    · rintro ⟨i, ad, cd⟩ hi
      simp only at hi ⊢
      have hw0 := hlw.2 0
      by_cases hin : i < ((spL 32 s).getD 0 []).length
      · have hb := (((spL 32 s).getD 0 []).getD i 0).toNat_lt
        have hnl : (numsS (((spL 32 s).getD 0 []).take i)).length = i := by rw [numsS, List.length_map, List.length_take]; omega
        repeat' (first | (show oL; first | refine sMv rfl rfl ?_ | (show oA (.load _ _); refine st_y (y_load tabs rfl rfl (hc_nm 5 rfl (hg 0 hpos))) rfl ?_) | (show oA (.indexAddr _ _ _); refine st_y (y_ix1 tabs (j := 0) rfl rfl rfl hs rfl hpos) rfl ?_) | refine sLs rfl rfl rfl ?_ | (show oA (.call _); refine st_y (y_lens Tryz.underlying9 rfl) rfl ?_)) | refine xNt ?_ | (show oC; first | refine c_seq ?_ | refine c_region ?_ | refine c_skip (x_then ?_) | refine c_block ?_ | refine c_ift rfl aO ?_))
        refine c_mixR (Hp [] w [.blk b9 #[iV p, iV q.1, .slice x0 q.2.1.length x0', .slice x1 q.2.2.length x1', .slice ad i cd, .slice (some ⟨gm, 0, none⟩) 0 0] 29, .own (strT (spL 32 s)) (.slice a (spL 32 s).length c)]) 11 kr kr kr kr kr (fun _ c => Hp.drew c) ?_
        refine h_take 0 rfl kr kr kr (by exact y_field tabs rfl rfl rfl) rfl sS ?_
        refine h_take 1 rfl kr kr kr (by exact y_load tabs rfl rfl (hc_blk 0 rfl rfl)) rfl sS ?_
        refine h_take 2 rfl kr kr kr (by exact y_move rfl) rfl sS ?_
        refine h_take 3 rfl kr kr kr (by exact y_ix1 tabs (j := 0) rfl rfl rfl hs rfl hpos) rfl sS ?_
        refine h_take 4 rfl kr kr kr (by exact y_load tabs rfl rfl (hc_nm 1 rfl (hg 0 hpos))) rfl sS ?_
        refine h_take 5 rfl kr kr kr (by exact y_move rfl) rfl sS ?_
        refine h_take 6 rfl kr kr kr (by exact y_indexc (j := i) Tryz.underlying9 rfl rfl om om) rfl sS ?_
        refine h_take 7 rfl kr kr kr (by exact y_convk (t := 5) (t' := 3) (k := .u8) (k' := .i64) kr kr kr rfl (byte_i64 _)) rfl sS ?_
        refine h_take 8 rfl kr kr kr (by exact y_sub rfl rfl om) rfl sS ?_
        refine h_only 9 rfl kr ?_
        first | (refine m_build1 tabs (us := [iV ((((spL 32 s).getD 0 []).getD i 0).toNat - 48)]) rfl rfl rfl rfl (by decide) rfl (fun g7 hg7 => ?_)) | (refine m_pushn 2 tabs (m := i) rfl rfl rfl rfl rfl hnl om (fun a8 c8 => ?_))
        refine c_nil (x_one (h_keep sS ?_))
        refine h_only 10 rfl kr ?_
        first | (refine m_build1 tabs (us := [iV ((((spL 32 s).getD 0 []).getD i 0).toNat - 48)]) rfl rfl rfl rfl (by decide) rfl (fun g7 hg7 => ?_)) | (refine m_pushn 2 tabs (m := i) rfl rfl rfl rfl rfl hnl om (fun a8 c8 => ?_))
        refine c_nil (x_one (h_keep sS ?_))
        refine h_end kr ?_
        repeat' (first | (show oL; first | refine sMv rfl rfl ?_ | refine sAs rfl rfl ?_ | refine sFd tabs rfl rfl rfl rfl ?_ | refine sAd rfl rfl om rfl ?_ | (show oA (.store _ _ _); refine m_storef 1 tabs rfl rfl rfl rfl rfl rfl ?_)) | (show oN; first | refine c_nil (x_then ?_) | refine c_nil ?_) | (show oC; refine c_region ?_) | (show AT _ _ _ _; first | refine x_then ?_ | refine x_blk ?_))
        exact x_nx (i + 1, a8, c8) sB (by simp only; omega) (fun w' c' => by simp only [nums_next hin]; exact c'.sel [1, 2, 0, 3, 4, 5, 6, 7] rfl) (by simp only; omega)
      · have eW : ((spL 32 s).getD 0 []).take i = (spL 32 s).getD 0 [] := List.take_of_length_le om
        have ei : i = (numsS ((spL 32 s).getD 0 [])).length := by rw [numsS, List.length_map]; omega
        rw [eW, ei]
        repeat' (first | (show oL; first | refine sMv rfl rfl ?_ | refine sAs rfl rfl ?_ | (show oA (.load _ _); refine st_y (y_load tabs rfl rfl (hc_nm 5 rfl (hg 0 hpos))) rfl ?_) | (show oA (.indexAddr _ _ _); refine st_y (y_ix1 tabs (j := 0) rfl rfl rfl hs rfl hpos) rfl ?_) | refine sLs rfl rfl rfl ?_ | (show oA (.call _); refine st_y (y_lens Tryz.underlying9 rfl) rfl ?_)) | refine xNt ?_ | (show oC; first | refine c_seq ?_ | refine c_region ?_ | refine c_block ?_ | refine c_exit ?_ | refine c_iff rfl nN ?_) | (show AT _ _ _ _; first | refine x_then ?_ | refine x_then_exit ?_ | refine x_blk_exit rfl ?_))
        refine c_loopH (α := Nat × Option Addr × Nat) [0, 2, 6, 8, 9] (fun x => [(11, iV ((1 : Int) + x.1))]) (fun x => x.1 + 1 ≤ (spL 32 s).length) (fun x => [.blk b9 #[iV p, iV q.1, .slice x0 q.2.1.length x0', .slice x1 q.2.2.length x1', .slice ad (numsS ((spL 32 s).getD 0 [])).length cd, .slice x.2.1 x.1 x.2.2] 29, .own (matsT 41 ((((spL 32 s).drop 1).take x.1).map (parML p))) (.slice x.2.1 x.1 x.2.2), .own (iT (numsS ((spL 32 s).getD 0 []))) (.slice ad (numsS ((spL 32 s).getD 0 [])).length cd), .own (iT q.2.2) (.slice x1 q.2.2.length x1'), .own (iT q.2.1) (.slice x0 q.2.1.length x0'), .own (strT (spL 32 s)) (.slice a (spL 32 s).length c), .blk b6 #[iV 0, iV 0, .slice none 0 0, .slice none 0 0, .slice none 0 0, .slice none 0 0] 29, .blk b4 #[iV q.1, .slice v0 q.2.1.length v0', .slice v1 q.2.2.length v1'] 26]) (fun x => (spL 32 s).length - x.1) (0, some ⟨gm, 0, none⟩, 0) rfl sB ?_ ?_ ?_
        · simp only; omega
        · exact fun w' c' => c'
        · rintro ⟨k, am, cm⟩ hk
          simp only at hk ⊢
          have hml : ((((spL 32 s).drop 1).take k).map (parML p)).length = k := by rw [List.length_map, List.length_take, List.length_drop]; omega
          by_cases hin : k + 1 < (spL 32 s).length
          · by_cases hp : parM p ((spL 32 s).getD (k + 1) [])
            · have hM := hp.1
              have hcl : (parML p ((spL 32 s).getD (k + 1) [])).2.2.length ≤ 64 := by rw [parML, if_pos hp]; exact hM.2.2.2.2.1
              have e : (((((spL 32 s).drop 1).take (k + 1)).map (parML p))) = ((((spL 32 s).drop 1).take k).map (parML p)) ++ [parML p ((spL 32 s).getD (k + 1) [])] := by
                rw [List.take_add_one, List.map_append]
                congr 1
                rw [List.getElem?_drop, Nat.add_comm 1 k, List.getD, List.getElem?_eq_getElem hin]; rfl
              repeat' (first | (show oL; first | refine sMv rfl rfl ?_ | refine sAs rfl rfl ?_ | refine sFd tabs rfl rfl rfl rfl ?_ | (show oA (.load _ _); first | refine st_y (y_load tabs rfl rfl (hc_nm 5 rfl (hg (k + 1) hin))) rfl ?_ | refine sLd 2 tabs rfl rfl rfl rfl rfl ?_ | refine sLb 0 tabs rfl rfl rfl rfl rfl ?_) | (show oA (.indexAddr _ _ _); refine st_y (y_ix1 tabs (j := k + 1) rfl rfl rfl hs om hin) rfl ?_) | (show oA (.binOp _ _ _ _ _); first | refine sAd rfl rfl om rfl ?_ | refine sLs rfl rfl rfl ?_) | (show oA (.unOp _ _ _); refine st_y (y_not rfl) rfl ?_) | (show oA (.call _); first | (refine m_call (ent_of Tryz.func20 kr rfl) rfl rfl (fun w c => spec_ParseMatrix_ok (p := p) (s := (spL 32 s).getD (k + 1) []) (by have := hlw.2 (k + 1); omega)) ?_; rw [decide_eq_true hp]; rintro v H' ⟨a9, c9, rfl, hs9, rfl⟩) | refine m_push1 [iV (parML p ((spL 32 s).getD (k + 1) [])).1, iV (parML p ((spL 32 s).getD (k + 1) [])).2.1] 2 1 tabs (m' := k) rfl rfl rfl rfl rfl rfl rfl (by rw [flatMap_length matT_length, hml]) (by rw [flatMap_length matT_length, hml]; omega) (by decide) rfl rfl (fun a8 c8 => ?_) | refine sLn tabs rfl rfl rfl ?_) | (show oA (.extract _ _); refine st_y (y_ext rfl rfl) rfl ?_) | (show oA (.store _ _ _); first | refine m_storeb 0 tabs rfl rfl rfl rfl rfl rfl rfl ?_ | refine m_storef 2 tabs rfl rfl rfl rfl rfl rfl ?_) | (show oA (.alloc _); refine m_alloc tabs rfl rfl (fun b12 hb12 => ?_)) | (show oA (.buildSlice _ _ _); refine m_build1 tabs (us := [iV (parML p ((spL 32 s).getD (k + 1) [])).1, iV (parML p ((spL 32 s).getD (k + 1) [])).2.1, .slice a9 (parML p ((spL 32 s).getD (k + 1) [])).2.2.length c9]) rfl rfl rfl rfl (by decide) rfl (fun g5 hg5 => ?_))) | (show oN; first | refine c_nil (x_then ?_) | refine c_nil ?_) | (show oC; first | refine c_seq ?_ | refine c_region ?_ | refine c_skip (x_then ?_) | refine c_block ?_ | refine c_false rfl ?_ | refine c_ift rfl aO ?_) | (show AT _ _ _ _; first | refine x_then ?_ | refine x_blk ?_))
              exact x_nx (k + 1, a8, c8) sB (by simp only; omega) (fun w' c' => by
                simp only [e]
                have e2 : ((((spL 32 s).drop 1).take k).map (parML p)).flatMap matT ++ (List.map T.c [iV (parML p ((spL 32 s).getD (k + 1) [])).1, iV (parML p ((spL 32 s).getD (k + 1) [])).2.1] ++ [iT (parML p ((spL 32 s).getD (k + 1) [])).2.2]) = (((((spL 32 s).drop 1).take k).map (parML p)) ++ [parML p ((spL 32 s).getD (k + 1) [])]).flatMap matT := by
                  rw [List.flatMap_append]; rfl
                rw [e2] at c'
                exact c'.sel [2, 0, 3, 4, 5, 6, 7, 8] rfl) (by simp only; omega)
            · have hn : ¬ parR p q s := fun h => hp (hwd h hin)
              repeat' (first | (show oL; first | refine sMv rfl rfl ?_ | refine sAs rfl rfl ?_ | (show oA (.load _ _); refine st_y (y_load tabs rfl rfl (hc_nm 5 rfl (hg (k + 1) hin))) rfl ?_) | (show oA (.indexAddr _ _ _); refine st_y (y_ix1 tabs (j := k + 1) rfl rfl rfl hs om hin) rfl ?_) | refine sLs rfl rfl rfl ?_ | (show oA (.unOp _ _ _); refine st_y (y_not rfl) rfl ?_) | (show oA (.call _); first | (refine m_call (ent_of Tryz.func20 kr rfl) rfl rfl (fun w c => spec_ParseMatrix_ok (p := p) (s := (spL 32 s).getD (k + 1) []) (by have := hlw.2 (k + 1); omega)) ?_; rw [decide_eq_false hp]; rintro v H' ⟨a9, c9, rfl, hs9, rfl⟩) | refine sLn tabs rfl rfl rfl ?_) | (show oA (.extract _ _); refine st_y (y_ext rfl rfl) rfl ?_) | (show oA (.store _ _ _); first | refine m_storeb 8 tabs rfl rfl rfl rfl rfl rfl rfl ?_ | refine m_storeb 0 tabs rfl rfl rfl rfl rfl rfl rfl ?_) | (show oA (.alloc _); refine m_alloc tabs rfl rfl (fun b12 hb12 => ?_)) | (show oA (.build _ _); refine st_y (y_bld0 bld_rp0) rfl ?_)) | refine xNt ?_ | (show oC; first | refine c_seq ?_ | refine c_region ?_ | refine c_skip (x_then ?_) | refine c_block ?_ | refine c_ret ?_ | refine c_true rfl ?_ | refine c_ift rfl aO ?_) | (show AT _ _ _ _; first | refine x_then_ret ?_ | refine x_blk_ret ?_))
              exact x_ret2 Tryz.results7 (res_cellb 8 tabs rfl rfl rfl rfl) (res_tmp rfl) (fun w' c' => ⟨_, _, rfl, parR_no hn rfl rfl, Hp.nilp _ _ (Hp.nilp _ _ (Hp.nilp _ _ (Hp.nilp _ _ (c'.sub (List.nil_sublist _)))))⟩)
          · have eM : ((spL 32 s).drop 1).take k = (spL 32 s).drop 1 := List.take_of_length_le (by rw [List.length_drop]; omega)
            have ek : k = (((spL 32 s).drop 1).map (parML p)).length := by rw [List.length_map, List.length_drop]; omega
            rw [eM, ek]
            refine AT.fact (own_sl 2 rfl) (fun hsd => ?_)
            obtain ⟨_, _, e1, hsd⟩ := hsd
            cases e1
            refine AT.fact (mats_sl 1 rfl) (fun hsm => ?_)
            by_cases hR : RepP (candR p q s)
            · skip
              repeat' (first | (show oL; first | refine sMv rfl rfl ?_ | refine sAs rfl rfl ?_ | refine sLb 0 tabs rfl rfl rfl rfl rfl ?_ | (show oA (.binOp _ _ _ _ _); first | refine st_y (y_neqs rfl rfl) rfl ?_ | refine sLs rfl rfl rfl ?_) | (show oA (.unOp _ _ _); refine st_y (y_not rfl) rfl ?_) | (show oA (.call _); first | (refine m_call (ent_of Tryz.func53 kr rfl) rfl rfl (fun w c => spec_IsRep_ok (r := candR p q s) (c.own_rd (i := 4) rfl) (c.own_rd (i := 3) rfl) (c.own_rd (i := 2) rfl) (c.own_rd (i := 1) rfl)) ?_; rw [decide_eq_true hR]; rintro v H' ⟨rfl, rfl⟩) | (refine m_call (ent_of Tryz.func51 kr rfl) rfl rfl (fun w c => spec_FormatRep_ok (r := candR p q s) (c.own_rd (i := 4) rfl) (c.own_rd (i := 3) rfl) (c.own_rd (i := 2) rfl) (c.own_rd (i := 1) rfl)) ?_; rintro v H' ⟨rfl, rfl⟩) | refine sLn tabs rfl rfl rfl ?_) | (show oA (.pick _ _ _); refine st_y (y_pick rfl rfl rfl) rfl ?_) | (show oA (.store _ _ _); refine m_storeb 6 tabs rfl rfl rfl rfl rfl rfl rfl ?_) | (show oA (.build _ _); refine st_y (y_bld0 bld_rp0) rfl ?_) | refine st_gy rfl rfl ?_) | refine xNt ?_ | (show oC; first | refine c_seq ?_ | refine c_region ?_ | refine c_skip (x_then ?_) | refine c_ret ?_ | refine c_exit ?_ | refine c_iff rfl nN ?_ | refine c_ifnd rfl (fun h => ?_) (fun h => ?_)) | (show AT _ _ _ _; first | refine x_then ?_ | refine x_then_ret ?_ | refine x_then_exit ?_ | refine x_blk_exit rfl ?_))
              · have hn : ¬ parR p q s := fun hP => h hP.2
                exact x_ret2 Tryz.results7 (res_cellb 6 tabs rfl rfl rfl rfl) (res_tmp rfl) (fun w' c' => ⟨_, _, rfl, parR_no hn rfl rfl, Hp.nilp _ _ (Hp.nilp _ _ (Hp.nilp _ _ (Hp.nilp _ _ (c'.sub (List.nil_sublist _)))))⟩)
              · have he : fmtR (candR p q s) = s := by first | exact Decidable.not_not.1 h | exact h
                have hP : parR p q s := ⟨hR, he⟩
                rw [parRL, if_pos hP, decide_eq_true hP]
                exact x_ret2 Tryz.results7 (res_cellb 6 tabs rfl rfl rfl rfl) (res_tmp rfl) (fun w' c' => ⟨_, _, rfl, ⟨x0, x0', x1, x1', ad, cd, am, cm, rfl, sx0, sx1, hsd, hsm, rfl⟩, c'.sel [1, 2, 3, 4] rfl⟩)
            · have hn : ¬ parR p q s := fun hP => hR hP.1
              repeat' (first | (show oL; first | refine sMv rfl rfl ?_ | refine sAs rfl rfl ?_ | refine sLb 0 tabs rfl rfl rfl rfl rfl ?_ | refine sLs rfl rfl rfl ?_ | (show oA (.unOp _ _ _); refine st_y (y_not rfl) rfl ?_) | (show oA (.call _); first | (refine m_call (ent_of Tryz.func53 kr rfl) rfl rfl (fun w c => spec_IsRep_ok (r := candR p q s) (c.own_rd (i := 4) rfl) (c.own_rd (i := 3) rfl) (c.own_rd (i := 2) rfl) (c.own_rd (i := 1) rfl)) ?_; rw [decide_eq_false hR]; rintro v H' ⟨rfl, rfl⟩) | refine sLn tabs rfl rfl rfl ?_) | (show oA (.pick _ _ _); refine st_y (y_pick rfl rfl rfl) rfl ?_) | (show oA (.store _ _ _); refine m_storeb 6 tabs rfl rfl rfl rfl rfl rfl rfl ?_) | (show oA (.build _ _); refine st_y (y_bld0 bld_rp0) rfl ?_) | refine st_gn rfl rfl rfl ?_) | refine xNt ?_ | (show oC; first | refine c_seq ?_ | refine c_region ?_ | refine c_ret ?_ | refine c_exit ?_ | refine c_true rfl ?_ | refine c_iff rfl nN ?_) | (show AT _ _ _ _; first | refine x_then ?_ | refine x_then_ret ?_ | refine x_then_exit ?_ | refine x_blk_exit rfl ?_))
              all_goals exact x_ret2 Tryz.results7 (res_cellb 6 tabs rfl rfl rfl rfl) (res_tmp rfl) (fun w' c' => ⟨_, _, rfl, parR_no hn rfl rfl, Hp.nilp _ _ (Hp.nilp _ _ (Hp.nilp _ _ (Hp.nilp _ _ (c'.sub (List.nil_sublist _)))))⟩)
  · have hn : ¬ parR p q s := fun h => hq (hbd h)
    refine fn_enter Tryz.func7 rfl Tryz.ntmps7 rfl ?_
    repeat' (first | (show oL; first | refine sMv rfl rfl ?_ | refine sAs rfl rfl ?_ | refine sLb 2 tabs rfl rfl rfl rfl rfl ?_ | (show oA (.binOp _ _ _ _ _); refine st_y (y_gtr rfl rfl) rfl ?_) | (show oA (.unOp _ _ _); refine st_y (y_notd rfl) rfl ?_) | (show oA (.call _); first | refine st_y (y_lens Tryz.underlying9 rfl) rfl ?_ | (refine m_call (ent_of Tryz.func75 kr rfl) rfl rfl (fun w c => l6Cut_ok2 (d := 32) rfl hl) ?_; rintro v H' ⟨a, c, rfl, rfl⟩) | (refine m_call (ent_of Tryz.func76 kr rfl) rfl rfl (fun w c => spec_IsField_ok p) ?_; rintro v H' ⟨rfl, rfl⟩) | (refine m_call (ent_of Tryz.func77 kr rfl) rfl rfl (fun w c => spec_IsQuiver_ok (q := q) (c.rd h0) (c.rd h1)) ?_; rintro v H' ⟨rfl, rfl⟩)) | (show oA (.pick _ _ _); first | refine st_y (y_pickt rfl aO rfl) rfl ?_ | refine st_y (y_pickf rfl aO rfl) rfl ?_ | refine st_y (y_pick rfl rfl rfl) rfl ?_) | (show oA (.store _ _ _); refine m_storeb 1 tabs rfl rfl rfl rfl rfl rfl rfl ?_) | (show oA (.box _ _); refine m_box rfl rfl (fun b4 hb4 => ?_)) | (show oA (.alloc _); refine m_alloc tabs rfl rfl (fun b6 hb6 => ?_)) | (show oA (.build _ _); refine st_y (y_bld0 bld_rp0) rfl ?_) | refine st_gn rfl rfl rfl ?_ | refine st_gfy rfl rfl aO ?_ | refine st_gfn rfl rfl aO rfl ?_ | refine st_gd rfl rfl (fun h => ?_) (fun h => ?_)) | refine xNt ?_ | (show oC; first | refine c_seq ?_ | refine c_region ?_ | refine c_skip (x_then ?_) | refine c_ret ?_ | refine c_true rfl ?_ | refine c_if rfl (fun h => ?_) (fun h => ?_)) | (show AT _ _ _ _; refine x_then_ret ?_))
    all_goals first | (exact absurd ⟨by first | assumption | exact Decidable.not_not.1 aS, by first | assumption | exact Decidable.not_not.1 aS, by omega⟩ hq) | exact x_ret2 Tryz.results7 (res_cellb 1 tabs rfl rfl rfl rfl) (res_tmp rfl) (fun w' c' => ⟨_, _, rfl, parR_no hn rfl rfl, Hp.nilp _ _ (Hp.nilp _ _ (Hp.nilp _ _ (Hp.nilp _ _ (c'.sub (List.nil_sublist _)))))⟩)
end Go.Proofs.YtdnhmnnccfoliaaGreatDoor
