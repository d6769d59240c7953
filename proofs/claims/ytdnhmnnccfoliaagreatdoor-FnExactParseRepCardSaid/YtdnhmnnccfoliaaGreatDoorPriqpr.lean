import Derived.Test.YtdnhmnnccfoliaaGreatDoorSplqpr
namespace Go.Proofs.YtdnhmnnccfoliaaGreatDoor
open Go.Lg Go.Proofs Go.RowKit
attribute [local irreducible] Code.wp wpList bodyPost Exit.then Exit.inBlock Hp Again Calls Y AT ResV QT Qn QI wpAny wpAnyQ
set_option maxRecDepth 20000
set_option maxHeartbeats 4000000

theorem splitK_len {d : List UInt8} : ∀ (k : Nat) (s : List UInt8), ∀ v ∈ Lib.splitK d 0 k s, v.length ≤ s.length
  | 0, s, v, hv => by rw [Lib.splitK, List.mem_singleton] at hv; rw [hv]; exact Nat.le_refl _
  | k + 1, s, v, hv => by
    rw [Lib.splitK] at hv
    split at hv
    · rw [List.mem_singleton] at hv; rw [hv]; exact Nat.le_refl _
    · rcases List.mem_cons.1 hv with h | h
      · rw [h, List.length_take]; omega
      · have := splitK_len k _ v h
        rw [List.length_drop] at this
        omega
theorem split_len {s : List UInt8} {d : List UInt8} (j : Nat) : ((Lib.split s d).getD j []).length ≤ s.length := by
  rcases Nat.lt_or_ge j (Lib.split s d).length with hj | hj
  · refine splitK_len (d := d) (Lib.count s d) s _ ?_
    rw [List.getD, List.getElem?_eq_getElem hj]; exact List.getElem_mem _
  · rw [List.getD, List.getElem?_eq_none hj]; simp
def candI (p : Int) (q : Qv) (s : List UInt8) : Rp := ⟨p, q, numsS ((Lib.split s [32]).getD 0 []), ((Lib.split s [32]).drop 1).map (parML p)⟩
theorem candI_fmt {r : Rp} (h : RepP r) : candI r.p r.q (fmtR r) = r := by
  have h1 := cand_fmtR h
  rw [candR, cut_fmtR h] at h1
  rw [candI, split_fmtR h]
  exact h1
theorem parR_I {p : Int} {q : Qv} {s : List UInt8} (h : parR p q s) : candI p q s = candR p q s ∧ QuivP q ∧ s ≠ [] ∧ (Lib.split s [32]).length = 1 + q.2.1.length ∧ ((Lib.split s [32]).getD 0 []).length ≤ 5 := by
  obtain ⟨h1, h2⟩ := h
  have e1 := candI_fmt h1
  have e2 := split_fmtR h1
  rw [h2] at e1 e2
  have hd : (candR p q s).d.length ≤ 5 := by have := h1.2.1.2.1; have := h1.2.1.1.1; omega
  have hd1 : 1 ≤ (candR p q s).d.length := by have := h1.2.1.2.1; have := h1.2.1.1.1; omega
  refine ⟨e1, h1.2.1.1, fun e => ?_, ?_, ?_⟩
  · have h3 : (fmtR (candR p q s)).length = 0 := by rw [h2, e]; rfl
    rw [fmtR, if_pos h1, List.length_append, digL, List.length_map] at h3
    omega
  · rw [e2, List.length_cons, List.length_map, h1.2.2.1]
    show q.2.1.length + 1 = _
    omega
  · rw [e2]
    show (digL (candR p q s).d).length ≤ 5
    rw [digL, List.length_map]; exact hd
theorem subA1 {a : Option Addr} {n cap : Nat} (hs : SA a (n + 1)) (hn : 0 < n) (hc : n + 1 ≤ cap) : subA a 1 1 cap = some ⟨ab a, ao a + 1, none⟩ := by
  unfold subA
  rw [if_neg om, hs.get om]
  simp [Addr.add_lit, ab, ao]
theorem str_cap (i : Nat) {M : List Nat} {w0 : World} {H : List HE} {l : List (List UInt8)} {a : Option Addr} {m c : Nat} (hi : H[i]? = some (.own (strT l) (.slice a m c))) : ∀ w, Hp M w0 H w → l.length ≤ c := fun w cw => by
  obtain ⟨a', m', cap, h1, h2, h3, h4, h5, h6⟩ := Rd.open (by decide) (cw.own_rd hi)
  cases h1
  rw [List.length_map, List.length_map, Nat.mul_one] at h5
  omega
theorem bld_rpq (p r : Int) (a0 a1 : Option Addr) (m0 c0 m1 c1 : Nat) (w : World) : (Instr.build 29 #[(0, iV p), (1, .agg #[iV r, .slice a0 m0 c0, .slice a1 m1 c1])]).run Tryz.prog w = .ok (.agg #[iV p, iV r, .slice a0 m0 c0, .slice a1 m1 c1, .slice none 0 0, .slice none 0 0]) w := by kernel_rfl
theorem impl_ParseRep_ok {w : World} {p : Int} {q : Qv} {s : List UInt8} {u0 u1 : Value} (hG : Glb w) (hl : s.length ≤ 2000000) (h0 : Rd w (iT q.2.1) u0) (h1 : Rd w (iT q.2.2) u1) : Does Tryz.prog 9 [iV p, .agg #[iV q.1, u0, u1], sV s] w (GivesRB (parRL p q s) (decide (parR p q s))) := by
  have hpr := parR_I (p := p) (q := q) (s := s)
  obtain ⟨v0, v0', rfl, _, _, _, _⟩ := h0.ints
  obtain ⟨v1, v1', rfl, _, _, _, _⟩ := h1.ints
  have hg : ∀ j, j < (Lib.split s [32]).length → ((Lib.split s [32]).map sV)[j]? = some (sV ((Lib.split s [32]).getD j [])) := fun j hj => by
    rw [List.getElem?_map, List.getD, List.getElem?_eq_getElem hj]; rfl
  have hsl0 := fun j => split_len (s := s) (d := [32]) j
  have tok0 : True := trivial
  by_cases hq : s ≠ [] ∧ QuivP q ∧ (Lib.split s [32]).length = 1 + q.2.1.length
  · obtain ⟨q1, q2, q3⟩ := hq
    have q3' : (((Lib.split s [32]).length : Nat) : Int) = 1 + ((q.2.1.length : Nat) : Int) := by omega
    have hpos : 0 < (Lib.split s [32]).length := by omega
    have hF6 := q2.2.1
    have hsz : szQ q ≤ 1048576 := by have := q2.2.1; have := q2.2.2.1; unfold szQ; omega
    refine fn_enter Tryz.func9 rfl Tryz.ntmps9 rfl ?_
    repeat' (first | (show oL; first | refine sMv rfl rfl ?_ | refine sAs rfl rfl ?_ | (show oA (.call _); (refine m_call (ent_of Tryz.func80 kr rfl) rfl rfl (fun w c => split_ok (s := s) (d := 32) (hG.mono c) hl) ?_; rintro v H' ⟨a, c, rfl, rfl⟩)) | (show oA (.box _ _); refine m_box rfl rfl (fun b4 hb4 => ?_)) | (show oA (.alloc _); (have _t := tok0; refine m_alloc tabs rfl rfl (fun b6 hb6 => ?_); clear _t tok0))) | refine xNt ?_ | (show oC; first | refine c_seq ?_ | refine c_region ?_))
    refine AT.fact (str_sl 0 rfl) (fun hsl => ?_)
    have hs := hsl.1
    refine AT.fact (str_cap 0 rfl) (fun hcap => ?_)
    repeat' (first | (show oL; first | refine sMv rfl rfl ?_ | refine sAs rfl rfl ?_ | refine sFd tabs rfl rfl rfl rfl ?_ | (show oA (.load _ _); first | refine sLb 2 tabs rfl rfl rfl rfl rfl ?_ | refine sLd 2 tabs rfl rfl rfl rfl rfl ?_ | refine st_y (y_load tabs rfl rfl (hc_nm 3 rfl (hg 0 hpos))) rfl ?_) | (show oA (.indexAddr _ _ _); refine st_y (y_ix1 tabs (j := 0) rfl rfl rfl hs rfl hpos) rfl ?_) | (show oA (.binOp _ _ _ _ _); first | refine st_y (y_eqls rfl rfl) rfl ?_ | refine sAd rfl rfl om rfl ?_ | refine st_y (y_gtr rfl rfl) rfl ?_ | refine st_y (y_neq rfl rfl) rfl ?_) | (show oA (.unOp _ _ _); refine st_y (y_not rfl) rfl ?_) | (show oA (.call _); first | refine st_y (y_lens Tryz.underlying9 rfl) rfl ?_ | (refine m_call (ent_of Tryz.func81 kr rfl) rfl rfl (fun w c => impl_IsQuiver_ok (q := q) (c.rd h0) (c.rd h1)) ?_; rw [decide_eq_true q2]; rintro v H' ⟨rfl, rfl⟩) | (refine m_call (ent_of Tryz.func82 kr rfl) rfl rfl (fun w c => qclone_ok (q := q) (c.rd h0) (c.rd h1) hsz) ?_; rintro v H' ⟨x0, x0', x1, x1', rfl, sx0, sx1, rfl⟩) | refine sLn tabs rfl rfl rfl ?_) | (show oA (.pick _ _ _); first | refine st_y (y_pickf rfl aO rfl) rfl ?_ | refine st_y (y_pick rfl rfl rfl) rfl ?_) | (show oA (.store _ _ _); first | refine m_storeb 0 tabs rfl rfl rfl rfl rfl rfl rfl ?_ | refine m_storeb 4 tabs rfl rfl rfl rfl rfl rfl rfl ?_) | (show oA (.alloc _); refine m_alloc tabs rfl rfl (fun b9 hb9 => ?_)) | (show oA (.build _ _); first | refine st_y (y_bld2 (bld_rpq _ _ _ _ _ _ _ _) rfl rfl) rfl ?_ | refine st_y (y_bld0 bld_rp0) rfl ?_) | refine st_gy rfl rfl ?_ | refine st_gfy rfl rfl aO ?_) | refine xNt ?_ | (show oC; first | refine c_seq ?_ | refine c_region ?_ | refine c_skip (x_then ?_) | refine c_block ?_ | refine c_ret ?_ | refine c_iff rfl nN ?_ | refine c_if rfl (fun h => ?_) (fun h => ?_)) | (show AT _ _ _ _; refine x_then_ret ?_))
    · have hn : ¬ parR p q s := fun hP => by have h5 := (hpr hP).2.2.2.2; omega
      exact x_ret2 Tryz.results9 (res_cellb 4 tabs rfl rfl rfl rfl) (res_tmp rfl) (fun w' c' => ⟨_, _, rfl, parR_no hn rfl rfl, Hp.nilp _ _ (Hp.nilp _ _ (Hp.nilp _ _ (Hp.nilp _ _ (c'.sub (List.nil_sublist _)))))⟩)
    · have hw5 : ((Lib.split s [32]).getD 0 []).length ≤ 5 := by omega
      refine AT.cls (C' := Hp [] w [.blk b9 #[iV p, iV q.1, .slice x0 q.2.1.length x0', .slice x1 q.2.2.length x1', .slice none 0 0, .slice none 0 0] 29, .own (matsT 41 []) (.slice none 0 0), .own (iT (numsS (((Lib.split s [32]).getD 0 []).take 0))) (.slice none 0 0), .own (iT q.2.2) (.slice x1 q.2.2.length x1'), .own (iT q.2.1) (.slice x0 q.2.1.length x0'), .own (strT (Lib.split s [32])) (.slice a (Lib.split s [32]).length c), .blk b6 #[iV 0, iV 0, .slice none 0 0, .slice none 0 0, .slice none 0 0, .slice none 0 0] 29, .blk b4 #[iV q.1, .slice v0 q.2.1.length v0', .slice v1 q.2.2.length v1'] 26]) (fun w' c' => (Hp.nilp _ _ (Hp.nilp _ _ c')).sel [2, 0, 1, 3, 4, 5, 6, 7] rfl) ?_
      refine c_loopH (α := Nat × Option Addr × Nat) [0, 2, 6, 8, 9, 47] (fun x => [(48, iV x.1)]) (fun x => x.1 ≤ ((Lib.split s [32]).getD 0 []).length) (fun x => [.blk b9 #[iV p, iV q.1, .slice x0 q.2.1.length x0', .slice x1 q.2.2.length x1', .slice x.2.1 x.1 x.2.2, .slice none 0 0] 29, .own (matsT 41 []) (.slice none 0 0), .own (iT (numsS (((Lib.split s [32]).getD 0 []).take x.1))) (.slice x.2.1 x.1 x.2.2), .own (iT q.2.2) (.slice x1 q.2.2.length x1'), .own (iT q.2.1) (.slice x0 q.2.1.length x0'), .own (strT (Lib.split s [32])) (.slice a (Lib.split s [32]).length c), .blk b6 #[iV 0, iV 0, .slice none 0 0, .slice none 0 0, .slice none 0 0, .slice none 0 0] 29, .blk b4 #[iV q.1, .slice v0 q.2.1.length v0', .slice v1 q.2.2.length v1'] 26]) (fun x => ((Lib.split s [32]).getD 0 []).length - x.1) (0, none, 0) rfl sB ?_ ?_ ?_
      · exact Nat.zero_le _
      · exact fun w' c' => c'
      · rintro ⟨i, ad, cd⟩ hi
        simp only at hi ⊢
        by_cases hin : i < ((Lib.split s [32]).getD 0 []).length
        · have hb := (((Lib.split s [32]).getD 0 []).getD i 0).toNat_lt
          have hnl : (numsS (((Lib.split s [32]).getD 0 []).take i)).length = i := by rw [numsS, List.length_map, List.length_take]; omega
          repeat' (first | (show oL; first | refine sMv rfl rfl ?_ | refine sAs rfl rfl ?_ | refine sLs rfl rfl rfl ?_) | refine xNt ?_ | (show oC; first | refine c_seq ?_ | refine c_region ?_ | refine c_skip (x_then ?_) | refine c_block ?_ | refine c_ift rfl aO ?_))
          refine c_mixR (Hp [] w [.blk b9 #[iV p, iV q.1, .slice x0 q.2.1.length x0', .slice x1 q.2.2.length x1', .slice ad i cd, .slice none 0 0] 29, .own (strT (Lib.split s [32])) (.slice a (Lib.split s [32]).length c)]) 11 kr kr kr kr kr (fun _ c => Hp.drew c) ?_
          refine h_take 0 rfl kr kr kr (by exact y_field tabs rfl rfl rfl) rfl sS ?_
          refine h_take 1 rfl kr kr kr (by exact y_load tabs rfl rfl (hc_blk 0 rfl rfl)) rfl sS ?_
          refine h_take 2 rfl kr kr kr (by exact y_move rfl) rfl sS ?_
          refine h_take 3 rfl kr kr kr (by exact y_ix1 tabs (j := 0) rfl rfl rfl hs rfl hpos) rfl sS ?_
          refine h_take 4 rfl kr kr kr (by exact y_load tabs rfl rfl (hc_nm 1 rfl (hg 0 hpos))) rfl sS ?_
          refine h_take 5 rfl kr kr kr (by exact y_move rfl) rfl sS ?_
          refine h_take 6 rfl kr kr kr (by exact y_indexc (j := i) Tryz.underlying9 rfl rfl om om) rfl sS ?_
          refine h_take 7 rfl kr kr kr (by exact y_convk (t := 5) (t' := 3) (k := .u8) (k' := .i64) kr kr kr rfl (byte_i64 _)) rfl sS ?_
          refine h_take 8 rfl kr kr kr (by exact y_sub rfl rfl om) rfl sS ?_
          refine h_only 9 rfl kr ?_
          first | (refine m_build1 tabs (us := [iV ((((Lib.split s [32]).getD 0 []).getD i 0).toNat - 48)]) rfl rfl rfl rfl (by decide) rfl (fun g7 hg7 => ?_)) | (refine m_pushn 2 tabs (m := i) rfl rfl rfl rfl rfl hnl om (fun a8 c8 => ?_))
          refine c_nil (x_one (h_keep sS ?_))
          refine h_only 10 rfl kr ?_
          first | (refine m_build1 tabs (us := [iV ((((Lib.split s [32]).getD 0 []).getD i 0).toNat - 48)]) rfl rfl rfl rfl (by decide) rfl (fun g7 hg7 => ?_)) | (refine m_pushn 2 tabs (m := i) rfl rfl rfl rfl rfl hnl om (fun a8 c8 => ?_))
          refine c_nil (x_one (h_keep sS ?_))
          refine h_end kr ?_
          repeat' (first | (show oL; first | refine sMv rfl rfl ?_ | refine sFd tabs rfl rfl rfl rfl ?_ | refine sAd rfl rfl om rfl ?_ | (show oA (.store _ _ _); refine m_storef 1 tabs rfl rfl rfl rfl rfl rfl ?_)) | (show oN; first | refine c_nil (x_then ?_) | refine c_nil ?_) | (show oC; refine c_region ?_) | (show AT _ _ _ _; first | refine x_then ?_ | refine x_blk ?_))
          exact x_nx (i + 1, a8, c8) sB (by simp only; omega) (fun w' c' => by simp only [nums_next hin]; exact c'.sel [1, 2, 0, 3, 4, 5, 6, 7] rfl) (by simp only; omega)
        · have eW : ((Lib.split s [32]).getD 0 []).take i = ((Lib.split s [32]).getD 0 []) := List.take_of_length_le om
          have ei : i = (numsS ((Lib.split s [32]).getD 0 [])).length := by rw [numsS, List.length_map]; omega
          rw [eW, ei]
          repeat' (first | (show oL; first | refine sMv rfl rfl ?_ | refine sLs rfl rfl rfl ?_ | refine sLn tabs rfl rfl rfl ?_ | (show oA (.slice _ _ _ _ _); refine st_y (y_slo tabs (lo := 1) rfl rfl rfl rfl om) rfl ?_)) | refine xNt ?_ | (show oC; first | refine c_seq ?_ | refine c_region ?_ | refine c_block ?_ | refine c_exit ?_ | refine c_iff rfl nN ?_) | (show AT _ _ _ _; first | refine x_then ?_ | refine x_then_exit ?_ | refine x_blk_exit rfl ?_))
          refine c_loopH (α := Nat × Option Addr × Nat) [0, 2, 6, 9, 65, 66] (fun x => [(67, iV x.1)]) (fun x => x.1 + 1 ≤ (Lib.split s [32]).length) (fun x => [.blk b9 #[iV p, iV q.1, .slice x0 q.2.1.length x0', .slice x1 q.2.2.length x1', .slice ad (numsS ((Lib.split s [32]).getD 0 [])).length cd, .slice x.2.1 x.1 x.2.2] 29, .own (matsT 41 ((((Lib.split s [32]).drop 1).take x.1).map (parML p))) (.slice x.2.1 x.1 x.2.2), .own (iT (numsS ((Lib.split s [32]).getD 0 []))) (.slice ad (numsS ((Lib.split s [32]).getD 0 [])).length cd), .own (iT q.2.2) (.slice x1 q.2.2.length x1'), .own (iT q.2.1) (.slice x0 q.2.1.length x0'), .own (strT (Lib.split s [32])) (.slice a (Lib.split s [32]).length c), .blk b6 #[iV 0, iV 0, .slice none 0 0, .slice none 0 0, .slice none 0 0, .slice none 0 0] 29, .blk b4 #[iV q.1, .slice v0 q.2.1.length v0', .slice v1 q.2.2.length v1'] 26]) (fun x => (Lib.split s [32]).length - x.1) (0, none, 0) rfl sB ?_ ?_ ?_
          · simp only; omega
          · exact fun w' c' => c'
          · rintro ⟨k, am, cm⟩ hk
            simp only at hk ⊢
            have hml : ((((Lib.split s [32]).drop 1).take k).map (parML p)).length = k := by rw [List.length_map, List.length_take, List.length_drop]; omega
            by_cases hin : k + 1 < (Lib.split s [32]).length
            · obtain ⟨N, hN⟩ : ∃ N, (Lib.split s [32]).length = N + 1 := ⟨(Lib.split s [32]).length - 1, by omega⟩
              have hsu := subA1 (cap := c) (hN ▸ hs) om om
              have hcl : (parML p ((Lib.split s [32]).getD (k + 1) [])).2.2.length ≤ 64 := by
                rw [parML]
                split
                · rename_i h; exact h.1.2.2.2.2.1
                · exact Nat.zero_le _
              have e : ((((Lib.split s [32]).drop 1).take (k + 1)).map (parML p)) = ((((Lib.split s [32]).drop 1).take k).map (parML p)) ++ [(parML p ((Lib.split s [32]).getD (k + 1) []))] := by
                rw [List.take_add_one, List.map_append]
                congr 1
                rw [List.getElem?_drop, Nat.add_comm 1 k, List.getD, List.getElem?_eq_getElem hin]; rfl
              rw [hsu]
              repeat' (first | (show oL; first | refine sMv rfl rfl ?_ | refine sAs rfl rfl ?_ | refine sFd tabs rfl rfl rfl rfl ?_ | (show oA (.load _ _); first | refine st_y (y_load tabs rfl rfl (fun w c => by have := hc_nm 5 rfl (hg (k + 1) hin) w c; rw [show ao a + (k + 1) = ao a + 1 + k by omega] at this; exact this)) rfl ?_ | refine sLd 2 tabs rfl rfl rfl rfl rfl ?_ | refine sLb 0 tabs rfl rfl rfl rfl rfl ?_) | (show oA (.indexAddr _ _ _); refine st_y (y_ix1 tabs (j := k) rfl rfl rfl .mk rfl om) rfl ?_) | (show oA (.binOp _ _ _ _ _); first | refine sAd rfl rfl om rfl ?_ | refine sLs rfl rfl rfl ?_) | (show oA (.call _); first | (refine m_call (ent_of Tryz.func18 kr rfl) rfl rfl (fun w c => impl_ParseMatrix_ok (p := p) (s := ((Lib.split s [32]).getD (k + 1) [])) (hG.mono c) (by have := hsl0 (k + 1); omega)) ?_; rintro v H' ⟨a9, c9, rfl, hs9, rfl⟩) | refine m_push1 [iV (parML p ((Lib.split s [32]).getD (k + 1) [])).1, iV (parML p ((Lib.split s [32]).getD (k + 1) [])).2.1] 2 1 tabs (m' := k) rfl rfl rfl rfl rfl rfl rfl (by rw [flatMap_length matT_length, hml]) (by rw [flatMap_length matT_length, hml]; omega) (by decide) rfl rfl (fun a8 c8 => ?_)) | (show oA (.extract _ _); refine st_y (y_ext rfl rfl) rfl ?_) | (show oA (.store _ _ _); first | refine m_storeb 0 tabs rfl rfl rfl rfl rfl rfl rfl ?_ | refine m_storef 2 tabs rfl rfl rfl rfl rfl rfl ?_) | (show oA (.alloc _); refine m_alloc tabs rfl rfl (fun b12 hb12 => ?_)) | (show oA (.buildSlice _ _ _); refine m_build1 tabs (us := [iV (parML p ((Lib.split s [32]).getD (k + 1) [])).1, iV (parML p ((Lib.split s [32]).getD (k + 1) [])).2.1, .slice a9 (parML p ((Lib.split s [32]).getD (k + 1) [])).2.2.length c9]) rfl rfl rfl rfl (by decide) rfl (fun g5 hg5 => ?_))) | (show oN; first | refine c_nil (x_then ?_) | refine c_nil ?_) | (show oC; first | refine c_seq ?_ | refine c_region ?_ | refine c_skip (x_then ?_) | refine c_block ?_ | refine c_ift rfl aO ?_) | (show AT _ _ _ _; first | refine x_then ?_ | refine x_blk ?_))
              rw [← hsu]
              exact x_nx (k + 1, a8, c8) sB (by simp only; omega) (fun w' c' => by
                simp only [e]
                have e2 : ((((Lib.split s [32]).drop 1).take k).map (parML p)).flatMap matT ++ (List.map T.c [iV (parML p ((Lib.split s [32]).getD (k + 1) [])).1, iV (parML p ((Lib.split s [32]).getD (k + 1) [])).2.1] ++ [iT (parML p ((Lib.split s [32]).getD (k + 1) [])).2.2]) = (((((Lib.split s [32]).drop 1).take k).map (parML p)) ++ [(parML p ((Lib.split s [32]).getD (k + 1) []))]).flatMap matT := by
                  rw [List.flatMap_append]; rfl
                rw [e2] at c'
                exact c'.sel [2, 0, 3, 4, 5, 6, 7, 8] rfl) (by simp only; omega)
            · have eM : ((Lib.split s [32]).drop 1).take k = (Lib.split s [32]).drop 1 := List.take_of_length_le (by rw [List.length_drop]; omega)
              have ek : k = (((Lib.split s [32]).drop 1).map (parML p)).length := by rw [List.length_map, List.length_drop]; omega
              have hk1 : ¬ ((k : Int) < (((Lib.split s [32]).length - 1 : Nat) : Int)) := by omega
              rw [eM, ek]
              rw [ek] at hk1
              refine AT.fact (own_sl 2 rfl) (fun hsd => ?_)
              obtain ⟨_, _, e1, hsd⟩ := hsd
              cases e1
              refine AT.fact (mats_sl 1 rfl) (fun hsm => ?_)
              by_cases he : fmtR (candI p q s) = s
              · have he' := not_not_intro he
                have hR : RepP (candI p q s) := Decidable.by_contra (fun hm => by
                  rw [fmtR, if_neg hm] at he
                  exact q1 he.symm)
                have hP : parR p q s := parR_iff.2 ⟨_, hR, rfl, rfl, he⟩
                have hc := (hpr hP).1
                repeat' (first | (show oL; first | refine sMv rfl rfl ?_ | refine sAs rfl rfl ?_ | refine sLb 0 tabs rfl rfl rfl rfl rfl ?_ | (show oA (.binOp _ _ _ _ _); first | refine st_y (y_neqs rfl rfl) rfl ?_ | refine sLs rfl rfl rfl ?_) | (show oA (.call _); (refine m_call (ent_of Tryz.func49 kr rfl) rfl rfl (fun w c => impl_FormatRep_ok (r := candI p q s) (c.own_rd (i := 4) rfl) (c.own_rd (i := 3) rfl) (c.own_rd (i := 2) rfl) (c.own_rd (i := 1) rfl)) ?_; rintro v H' ⟨rfl, rfl⟩)) | (show oA (.store _ _ _); refine m_storeb 6 tabs rfl rfl rfl rfl rfl rfl rfl ?_)) | refine xNt ?_ | (show oC; first | refine c_seq ?_ | refine c_region ?_ | refine c_skip (x_then ?_) | refine c_ret ?_ | refine c_exit ?_ | refine c_iff rfl nN ?_) | (show AT _ _ _ _; first | refine x_then ?_ | refine x_then_exit ?_ | refine x_blk_exit rfl ?_))
                rw [parRL, if_pos hP, decide_eq_true hP, ← hc]
                exact x_ret2 Tryz.results9 (res_cellb 6 tabs rfl rfl rfl rfl) (res_tmp rfl) (fun w' c' => ⟨_, _, rfl, ⟨x0, x0', x1, x1', ad, cd, am, cm, rfl, sx0, sx1, hsd, hsm, rfl⟩, c'.sel [1, 2, 3, 4] rfl⟩)
              · have hn : ¬ parR p q s := fun hP => he (by rw [(hpr hP).1]; exact hP.2)
                repeat' (first | (show oL; first | refine sMv rfl rfl ?_ | refine sAs rfl rfl ?_ | refine sLb 0 tabs rfl rfl rfl rfl rfl ?_ | (show oA (.binOp _ _ _ _ _); first | refine st_y (y_neqs rfl rfl) rfl ?_ | refine sLs rfl rfl rfl ?_) | (show oA (.call _); (refine m_call (ent_of Tryz.func49 kr rfl) rfl rfl (fun w c => impl_FormatRep_ok (r := candI p q s) (c.own_rd (i := 4) rfl) (c.own_rd (i := 3) rfl) (c.own_rd (i := 2) rfl) (c.own_rd (i := 1) rfl)) ?_; rintro v H' ⟨rfl, rfl⟩)) | (show oA (.store _ _ _); refine m_storeb 6 tabs rfl rfl rfl rfl rfl rfl rfl ?_) | (show oA (.build _ _); refine st_y (y_bld0 bld_rp0) rfl ?_)) | refine xNt ?_ | (show oC; first | refine c_seq ?_ | refine c_region ?_ | refine c_ret ?_ | refine c_exit ?_ | refine c_ift rfl aO ?_ | refine c_iff rfl nN ?_) | (show AT _ _ _ _; first | refine x_then ?_ | refine x_then_ret ?_ | refine x_then_exit ?_ | refine x_blk_exit rfl ?_))
                exact x_ret2 Tryz.results9 (res_cellb 6 tabs rfl rfl rfl rfl) (res_tmp rfl) (fun w' c' => ⟨_, _, rfl, parR_no hn rfl rfl, Hp.nilp _ _ (Hp.nilp _ _ (Hp.nilp _ _ (Hp.nilp _ _ (c'.sub (List.nil_sublist _)))))⟩)
  · have hn : ¬ parR p q s := fun h => hq ⟨(hpr h).2.2.1, (hpr h).2.1, (hpr h).2.2.2.1⟩
    refine fn_enter Tryz.func9 rfl Tryz.ntmps9 rfl ?_
    repeat' (first | (show oL; first | refine sMv rfl rfl ?_ | refine sAs rfl rfl ?_ | refine sFd tabs rfl rfl rfl rfl ?_ | (show oA (.load _ _); first | refine sLb 2 tabs rfl rfl rfl rfl rfl ?_ | refine sLd 2 tabs rfl rfl rfl rfl rfl ?_) | (show oA (.binOp _ _ _ _ _); first | refine st_y (y_add rfl rfl (by have := (Decidable.not_not.1 (show ¬¬QuivP q by assumption)).2.1; omega)) rfl ?_ | refine st_y (y_eqls rfl rfl) rfl ?_ | refine st_y (y_neq rfl rfl) rfl ?_) | (show oA (.unOp _ _ _); refine st_y (y_notd rfl) rfl ?_) | (show oA (.call _); first | (refine m_call (ent_of Tryz.func80 kr rfl) rfl rfl (fun w c => split_ok (s := s) (d := 32) (hG.mono c) hl) ?_; rintro v H' ⟨a, c, rfl, rfl⟩) | (refine m_call (ent_of Tryz.func81 kr rfl) rfl rfl (fun w c => impl_IsQuiver_ok (q := q) (c.rd h0) (c.rd h1)) ?_; rintro v H' ⟨rfl, rfl⟩) | refine sLn tabs rfl rfl rfl ?_) | (show oA (.pick _ _ _); first | refine st_y (y_pickt rfl aO rfl) rfl ?_ | refine st_y (y_pickf rfl aO rfl) rfl ?_ | refine st_y (y_pick rfl rfl rfl) rfl ?_) | (show oA (.store _ _ _); refine m_storeb 1 tabs rfl rfl rfl rfl rfl rfl rfl ?_) | (show oA (.box _ _); refine m_box rfl rfl (fun b4 hb4 => ?_)) | (show oA (.alloc _); refine m_alloc tabs rfl rfl (fun b6 hb6 => ?_)) | (show oA (.build _ _); refine st_y (y_bld0 bld_rp0) rfl ?_) | refine st_gn rfl rfl rfl ?_ | refine st_gfy rfl rfl aO ?_ | refine st_gfn rfl rfl aO rfl ?_ | refine st_gd rfl rfl (fun h => ?_) (fun h => ?_)) | refine xNt ?_ | (show oC; first | refine c_seq ?_ | refine c_region ?_ | refine c_skip (x_then ?_) | refine c_ret ?_ | refine c_true rfl ?_ | refine c_ifnd rfl (fun h => ?_) (fun h => ?_)) | (show AT _ _ _ _; refine x_then_ret ?_))
    all_goals first | (exact absurd ⟨by first | assumption | exact Decidable.not_not.1 aS, by first | assumption | exact Decidable.not_not.1 aS, by omega⟩ hq) | exact x_ret2 Tryz.results9 (res_cellb 1 tabs rfl rfl rfl rfl) (res_tmp rfl) (fun w' c' => ⟨_, _, rfl, parR_no hn rfl rfl, Hp.nilp _ _ (Hp.nilp _ _ (Hp.nilp _ _ (Hp.nilp _ _ (c'.sub (List.nil_sublist _)))))⟩)
end Go.Proofs.YtdnhmnnccfoliaaGreatDoor
