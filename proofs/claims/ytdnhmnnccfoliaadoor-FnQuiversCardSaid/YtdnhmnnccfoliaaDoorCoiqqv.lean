import Derived.Test.YtdnhmnnccfoliaaDoorConqqv
namespace Go.Proofs.YtdnhmnnccfoliaaDoor
open Go.Lg Go.Proofs Go.RowKit
attribute [local irreducible] Code.wp wpList bodyPost Exit.then Exit.inBlock Hp Again Calls Y AT ResV QT Qn QI wpAny wpAnyQ
set_option maxRecDepth 20000
set_option maxHeartbeats 4000000

theorem bld_ar (a b : Int) (w : World) : (Instr.build 66 #[(0, iV a), (1, iV b)]).run Tryd.prog w = .ok (.agg #[iV a, iV b]) w := by kernel_rfl
theorem ixar0 (a : Addr) (w : World) : (Instr.indexAt 66 (.pointer (some a)) (.int .i64 0)).run Tryd.prog w = .ok (.pointer (some (a.add 0))) w := by kernel_rfl
theorem ixar1 (a : Addr) (w : World) : (Instr.indexAt 66 (.pointer (some a)) (.int .i64 1)).run Tryd.prog w = .ok (.pointer (some (a.add 1))) w := by kernel_rfl
theorem Contains_yes {w : World} {xs : List Int} {x : Int} {v : Value} (hr : Rd w (iT xs) v) (h : x ∈ xs) : Does Tryd.prog 49 [v, iV x] w (fun r H => r = .bool true ∧ H = []) := by
  have := Contains_ok (x := x) hr
  rwa [decide_eq_true h] at this
theorem Contains_no {w : World} {xs : List Int} {x : Int} {v : Value} (hr : Rd w (iT xs) v) (h : ¬ x ∈ xs) : Does Tryd.prog 49 [v, iV x] w (fun r H => r = .bool false ∧ H = []) := by
  have := Contains_ok (x := x) hr
  rwa [decide_eq_false h] at this
theorem add_yes {m : List Int} {x a b : Int} (h : a = x) (hm : ¬ b ∈ m) : add1 m x a b = m ++ [b] := if_pos ⟨h, hm⟩
theorem add_in {m : List Int} {x a b : Int} (hm : b ∈ m) : add1 m x a b = m := if_neg (fun k => k.2 hm)
theorem add_ne {m : List Int} {x a b : Int} (h : ¬ a = x) : add1 m x a b = m := if_neg (fun k => h k.1)
theorem impl_IsConnectedQuiver_ok {w : World} {q : Qv} {u0 u1 : Value} (h0 : Rd w (iT q.2.1) u0) (h1 : Rd w (iT q.2.2) u1) : Does Tryd.prog 32 [.agg #[iV q.1, u0, u1]] w (fun r H => r = .bool (decide (ConP q)) ∧ H = []) := by
  by_cases hQ : QuivP q
  · obtain ⟨n, F, T⟩ := q
    have h6 : F.length ≤ 6 := hQ.2.1
    have hFT : T.length = F.length := hQ.2.2.1
    simp only at h0 h1
    obtain ⟨a0, c0, rfl, hs0, _, hm0, hg0⟩ := h0.ints
    obtain ⟨a1, c1, rfl, hs1, _, hm1, hg1⟩ := h1.ints
    refine fn_enter Tryd.func32 rfl Tryd.ntmps32 rfl ?_
    repeat' (first | (show oL; first | refine sAs rfl rfl ?_ | refine sLb 0 tabs rfl rfl rfl rfl rfl ?_ | (show oA (.unOp _ _ _); refine st_y (y_not rfl) rfl ?_) | (show oA (.call _); (refine m_call (ent_of Tryd.func13 kr rfl) rfl rfl (fun w c => impl_IsQuiver_ok (q := (n, F, T)) (c.rd h0) (c.rd h1)) ?_; rw [decide_eq_true hQ]; rintro v H' ⟨rfl, rfl⟩)) | (show oA (.box _ _); refine m_box rfl rfl (fun b hb => ?_)) | (show oA (.buildSlice _ _ _); refine m_buildi tabs [0] rfl rfl rfl rfl rfl rfl rfl (fun g0 hg0' => ?_))) | refine xNt ?_ | (show oC; first | refine c_seq ?_ | refine c_region ?_ | refine c_skip (x_then ?_) | refine c_block ?_ | refine c_false rfl ?_))
    refine c_loopH (α := Nat × Option Addr × Nat) [1] (fun s => [(3, .slice s.2.1 (con (n, F, T) s.1).length s.2.2), (4, iV s.1)]) (fun s => s.1 ≤ (con (n, F, T) s.1).length) (fun s => [.own (iT (con (n, F, T) s.1)) (.slice s.2.1 (con (n, F, T) s.1).length s.2.2), .blk b #[iV n, .slice a0 F.length c0, .slice a1 T.length c1] 26]) (fun s => 6 - s.1) (0, some ⟨g0, 0, none⟩, 1) rfl sB ?_ ?_ ?_
    · exact Nat.zero_le _
    · exact fun w' c' => c'
    · rintro ⟨k, ao, co⟩ hk
      simp only at hk ⊢
      have hcl := con_len hQ k
      by_cases hkl : k < (con (n, F, T) k).length
      · obtain ⟨m, hm⟩ : ∃ m, m = con (n, F, T) k := ⟨_, rfl⟩
        obtain ⟨x, hx⟩ : ∃ x, x = m.getD k 0 := ⟨_, rfl⟩
        have hCm : Cn n m := by rw [hm]; exact cn_con hQ k
        rw [← hm] at hcl hkl ⊢
        repeat' (first | (show oL; first | refine sMv rfl rfl ?_ | refine sFd tabs rfl rfl rfl rfl ?_ | refine sLd 1 tabs rfl rfl rfl rfl rfl ?_ | refine sLs rfl rfl rfl ?_ | refine sLn tabs rfl rfl rfl ?_) | refine xNt ?_ | (show oC; first | refine c_seq ?_ | refine c_region ?_ | refine c_skip (x_then ?_) | refine c_block ?_ | refine c_ift rfl aO ?_))
        refine c_loopH (α := Nat × Option Addr × Nat) [1, 4, 20, 21] (fun s => [(3, .slice s.2.1 (crow (n, F, T) x s.1 m).length s.2.2), (22, iV s.1)]) (fun s => s.1 ≤ F.length) (fun s => [.own (iT (crow (n, F, T) x s.1 m)) (.slice s.2.1 (crow (n, F, T) x s.1 m).length s.2.2), .blk b #[iV n, .slice a0 F.length c0, .slice a1 T.length c1] 26]) (fun s => F.length - s.1) (0, ao, co) rfl sB ?_ ?_ ?_
        · exact Nat.zero_le _
        · exact fun w' c' => c'
        · rintro ⟨i, a2, c2⟩ hi
          simp only at hi ⊢
          by_cases hin : i < F.length
          · have hin1 : i < T.length := by omega
            repeat' (first | (show oL; first | refine sMv rfl rfl ?_ | refine sAs rfl rfl ?_ | (show oA (.load _ _); refine st_y (y_load tabs rfl rfl (hc_w0 (hg0 i hin))) rfl ?_) | (show oA (.indexAddr _ _ _); refine st_y (y_ix1 tabs (j := i) rfl rfl rfl hs0 rfl hin) rfl ?_) | refine sLs rfl rfl rfl ?_) | refine xNt ?_ | (show oC; first | refine c_seq ?_ | refine c_region ?_ | refine c_skip (x_then ?_) | refine c_block ?_ | refine c_ift rfl aO ?_))
            refine c_all (Hp [] w [.blk b #[iV n, .slice a0 F.length c0, .slice a1 T.length c1] 26]) kr (fun _ c => Hp.drew c) ?_
            refine h_take 0 rfl kr kr kr (by exact y_move rfl) rfl (fun w c => by exact c.drop) ?_
            refine h_take 1 rfl kr kr kr (by exact y_field tabs rfl rfl rfl) rfl (fun w c => by exact c.drop) ?_
            refine h_take 2 rfl kr kr kr (by exact y_load tabs rfl rfl (hc_blk 0 rfl rfl)) rfl (fun w c => by exact c.drop) ?_
            refine h_take 3 rfl kr kr kr (by exact y_move rfl) rfl (fun w c => by exact c.drop) ?_
            refine h_take 4 rfl kr kr kr (by exact y_ix1 tabs (j := i) rfl rfl rfl hs1 rfl hin1) rfl (fun w c => by exact c.drop) ?_
            refine h_take 5 rfl kr kr kr (by exact y_load tabs rfl rfl (hc_w0 (hg1 i hin1))) rfl (fun w c => by exact c.drop) ?_
            refine h_take 6 rfl kr kr kr (by exact y_bld2 (bld_ar _ _) rfl rfl) rfl (fun w c => by exact c.drop) ?_
            refine h_take 7 rfl kr kr kr (by exact y_field tabs rfl rfl rfl) rfl (fun w c => by exact c.drop) ?_
            refine h_take 8 rfl kr kr kr (by exact y_load tabs rfl rfl (hc_blk 0 rfl rfl)) rfl (fun w c => by exact c.drop) ?_
            refine h_take 9 rfl kr kr kr (by exact y_move rfl) rfl (fun w c => by exact c.drop) ?_
            refine h_take 10 rfl kr kr kr (by exact y_ix1 tabs (j := i) rfl rfl rfl hs1 rfl hin1) rfl (fun w c => by exact c.drop) ?_
            refine h_take 11 rfl kr kr kr (by exact y_load tabs rfl rfl (hc_w0 (hg1 i hin1))) rfl (fun w c => by exact c.drop) ?_
            refine h_take 12 rfl kr kr kr (by exact y_move rfl) rfl (fun w c => by exact c.drop) ?_
            refine h_take 13 rfl kr kr kr (by exact y_bld2 (bld_ar _ _) rfl rfl) rfl (fun w c => by exact c.drop) ?_
            refine h_take 16 rfl kr kr kr (by exact y_move rfl) rfl (fun w c => by exact c.drop) ?_
            refine h_only 14 rfl kr ?_
            (refine m_build22 tabs rfl rfl rfl rfl rfl rfl (fun g hg => ?_))
            refine c_nil (x_one (h_keep (fun w c => by exact c.drop.drop) ?_))
            refine h_take 15 rfl kr kr kr (by exact y_len tabs rfl rfl) rfl (fun w c => by exact c.drop.drop) ?_
            refine h_end kr ?_
            repeat' (first | (show oC; refine c_block ?_) | (show AT _ _ _ _; refine x_then ?_))
            refine c_loopH (α := Nat × Option Addr × Nat) [1, 4, 20, 21, 22, 41, 42] (fun s => [(3, .slice s.2.1 (cpt (n, F, T) x (crow (n, F, T) x i m) i s.1).length s.2.2), (43, iV s.1)]) (fun s => s.1 ≤ 2) (fun s => [.own (iT (cpt (n, F, T) x (crow (n, F, T) x i m) i s.1)) (.slice s.2.1 (cpt (n, F, T) x (crow (n, F, T) x i m) i s.1).length s.2.2), .blk g #[iV (F.getD i 0), iV (T.getD i 0), iV (T.getD i 0), iV (F.getD i 0)] 66, .blk b #[iV n, .slice a0 F.length c0, .slice a1 T.length c1] 26]) (fun s => 2 - s.1) (0, a2, c2) rfl sB ?_ ?_ ?_
            · exact Nat.zero_le _
            · exact fun w' c' => c'.front (i := 1) rfl
            · rintro ⟨p, a3, c3⟩ hp
              simp only at hp ⊢
              obtain ⟨l, hl⟩ : ∃ l, l = cpt (n, F, T) x (crow (n, F, T) x i m) i p := ⟨_, rfl⟩
              have hpf : Pfx m l := by rw [hl]; exact (pfx_crow i).trans (pfx_cpt p)
              have hll : l.length ≤ 5 := by
                have := (cn_cpt hQ (cn_crow hQ (x := x) hCm i (by show i ≤ F.length; omega)) (x := x) (show i < F.length from hin) p).len hQ.1.2 hQ.1.1
                rw [← hl] at this
                have := hQ.1.2
                simp only at this
                omega
              have hkm : k < l.length := by have := hpf.1; omega
              have hlx : l.getD k 0 = x := by rw [hpf.2 k hkl, hx]
              have hp01 : p = 0 ∨ p = 1 ∨ p = 2 := by omega
              rw [← hl]
              refine AT.fact (own_sl 0 rfl) (fun hsl => ?_)
              obtain ⟨a4, c4, e4, hs4⟩ := hsl
              cases e4
              rcases hp01 with rfl | rfl | rfl
              · have en : cpt (n, F, T) x (crow (n, F, T) x i m) i 1 = add1 l x (F.getD i 0) (T.getD i 0) := by rw [hl]; rfl
                by_cases he : F.getD i 0 = x
                · have he' : F.getD i 0 = l.getD k 0 := by rw [hlx, he]
                  by_cases hm : T.getD i 0 ∈ l
                  · repeat' (first | (show oL; first | refine sMv rfl rfl ?_ | (show oA (.load _ _); refine st_y (y_load2 tabs rfl rfl (hc_blk 1 rfl rfl) (hc_blk 1 rfl rfl)) rfl ?_) | (show oA (.indexAddr _ _ _); refine st_y (y_ix0 tabs (j := 0) rfl rfl rfl rfl (by decide)) rfl ?_) | (show oA (.binOp _ _ _ _ _); first | refine sAd rfl rfl om rfl ?_ | refine sLs rfl rfl rfl ?_) | (show oA (.store _ _ _); refine m_storeb 0 tabs rfl rfl rfl rfl rfl rfl rfl ?_) | (show oA (.alloc _); refine m_alloc tabs rfl rfl (fun b8 hb8 => ?_))) | refine xNt ?_ | (show oC; first | refine c_seq ?_ | refine c_region ?_ | refine c_skip (x_then ?_) | refine c_skip (x_blk ?_) | refine c_block ?_ | refine c_draw kr kr (fun _ c => Hp.drew c) ?_ | refine c_true rfl ?_ | refine c_false rfl ?_) | (show QT _ _ _ _ _ _ (_ :: _); first | refine qMv rfl rfl ?_ | (show qA (.load _ _); first | refine qLd 0 tabs rfl rfl rfl rfl rfl ?_ | refine q_y (y_load tabs rfl rfl (hc_own 1 rfl (j := k) hkm)) rfl ?_) | (show qA (.indexAddr _ _ _); first | refine q_y (y_ixar ixar0 rfl rfl) rfl ?_ | refine q_y (y_ixar ixar1 rfl rfl) rfl ?_ | refine q_y (y_ix1 tabs (j := k) rfl rfl rfl hs4 rfl hkm) rfl ?_) | (show qA (.binOp _ _ _ _ _); refine q_y (y_eqlie rfl rfl he') rfl ?_) | (show qA (.unOp _ _ _); refine q_y (y_not rfl) rfl ?_) | (show qA (.call _); refine q_call (ent_of Tryd.func49 kr rfl) rfl rfl (fun w c => Contains_yes (xs := l) (x := T.getD i 0) (c.own_rd (i := 1) rfl) hm) (fun u H' h => h.1) ?_) | (show qA (.pick _ _ _); refine q_y (y_pick rfl rfl rfl) rfl ?_) | refine q_gy rfl rfl ?_) | (show QT _ _ _ _ _ _ []; refine q_nil (x_then ?_)) | (show AT _ _ _ _; refine x_then ?_))
                    exact x_nx (1, a3, c3) (by rw [en, add_in hm]; exact sB) (by simp only; omega) (fun w' c' => by simp only [en, add_in hm]; exact c'.sub (.cons _ (List.Sublist.refl _))) (by simp only; omega)
                  · repeat' (first | (show oL; first | refine sMv rfl rfl ?_ | refine sAs rfl rfl ?_ | (show oA (.load _ _); first | refine st_y (y_load2 tabs rfl rfl (hc_blk 1 rfl rfl) (hc_blk 1 rfl rfl)) rfl ?_ | refine sLd 0 tabs rfl rfl rfl rfl rfl ?_) | (show oA (.indexAddr _ _ _); first | refine st_y (y_ix0 tabs (j := 0) rfl rfl rfl rfl (by decide)) rfl ?_ | refine st_y (y_ixar ixar1 rfl rfl) rfl ?_) | (show oA (.binOp _ _ _ _ _); first | refine sAd rfl rfl om rfl ?_ | refine sLs rfl rfl rfl ?_) | (show oA (.call _); refine m_pushi 1 tabs rfl rfl rfl rfl rfl om (fun a9 c9 => ?_)) | (show oA (.store _ _ _); refine m_storeb 0 tabs rfl rfl rfl rfl rfl rfl rfl ?_) | (show oA (.alloc _); refine m_alloc tabs rfl rfl (fun b8 hb8 => ?_)) | (show oA (.buildSlice _ _ _); refine m_build1 tabs (us := [iV (T.getD i 0)]) rfl rfl rfl rfl (by decide) rfl (fun g5 hg5 => ?_))) | (show oN; first | refine c_nil (x_then ?_) | refine c_nil ?_) | (show oC; first | refine c_seq ?_ | refine c_region ?_ | refine c_skip (x_then ?_) | refine c_block ?_ | refine c_draw kr kr (fun _ c => Hp.drew c) ?_ | refine c_true rfl ?_) | (show QT _ _ _ _ _ _ (_ :: _); first | refine qMv rfl rfl ?_ | (show qA (.load _ _); first | refine qLd 0 tabs rfl rfl rfl rfl rfl ?_ | refine q_y (y_load tabs rfl rfl (hc_own 1 rfl (j := k) hkm)) rfl ?_) | (show qA (.indexAddr _ _ _); first | refine q_y (y_ixar ixar0 rfl rfl) rfl ?_ | refine q_y (y_ixar ixar1 rfl rfl) rfl ?_ | refine q_y (y_ix1 tabs (j := k) rfl rfl rfl hs4 rfl hkm) rfl ?_) | (show qA (.binOp _ _ _ _ _); refine q_y (y_eqlie rfl rfl he') rfl ?_) | (show qA (.unOp _ _ _); refine q_y (y_not rfl) rfl ?_) | (show qA (.call _); refine q_call (ent_of Tryd.func49 kr rfl) rfl rfl (fun w c => Contains_no (xs := l) (x := T.getD i 0) (c.own_rd (i := 1) rfl) hm) (fun u H' h => h.1) ?_) | (show qA (.pick _ _ _); refine q_y (y_pick rfl rfl rfl) rfl ?_) | refine q_gy rfl rfl ?_) | (show QT _ _ _ _ _ _ []; refine q_nil (x_then ?_)) | (show AT _ _ _ _; first | refine x_then ?_ | refine x_blk ?_))
                    have el : l.length + 1 = (cpt (n, F, T) x (crow (n, F, T) x i m) i 1).length := by rw [en, add_yes he hm, List.length_append, List.length_singleton]
                    rw [el]
                    exact x_nx (1, a9, c9) sB (by simp only; omega) (fun w' c' => by rw [en, add_yes he hm] at c' ⊢; exact c'.sub (.cons_cons _ (.cons _ (List.Sublist.refl _)))) (by simp only; omega)
                · have he' : ¬ F.getD i 0 = l.getD k 0 := by rw [hlx]; exact he
                  repeat' (first | (show oL; first | refine sMv rfl rfl ?_ | (show oA (.load _ _); refine st_y (y_load2 tabs rfl rfl (hc_blk 1 rfl rfl) (hc_blk 1 rfl rfl)) rfl ?_) | (show oA (.indexAddr _ _ _); refine st_y (y_ix0 tabs (j := 0) rfl rfl rfl rfl (by decide)) rfl ?_) | (show oA (.binOp _ _ _ _ _); first | refine sAd rfl rfl om rfl ?_ | refine sLs rfl rfl rfl ?_) | (show oA (.store _ _ _); refine m_storeb 0 tabs rfl rfl rfl rfl rfl rfl rfl ?_) | (show oA (.alloc _); refine m_alloc tabs rfl rfl (fun b8 hb8 => ?_))) | refine xNt ?_ | (show oC; first | refine c_seq ?_ | refine c_region ?_ | refine c_skip (x_then ?_) | refine c_skip (x_blk ?_) | refine c_block ?_ | refine c_draw kr kr (fun _ c => Hp.drew c) ?_ | refine c_true rfl ?_ | refine c_false rfl ?_) | (show QT _ _ _ _ _ _ (_ :: _); first | refine qMv rfl rfl ?_ | (show qA (.load _ _); first | refine qLd 0 tabs rfl rfl rfl rfl rfl ?_ | refine q_y (y_load tabs rfl rfl (hc_own 1 rfl (j := k) hkm)) rfl ?_) | (show qA (.indexAddr _ _ _); first | refine q_y (y_ixar ixar0 rfl rfl) rfl ?_ | refine q_y (y_ix1 tabs (j := k) rfl rfl rfl hs4 rfl hkm) rfl ?_) | (show qA (.binOp _ _ _ _ _); refine q_y (y_eqlin rfl rfl he') rfl ?_) | (show qA (.pick _ _ _); refine q_y (y_pick rfl rfl rfl) rfl ?_) | refine q_gn rfl rfl rfl ?_) | (show QT _ _ _ _ _ _ []; refine q_nil (x_then ?_)) | (show AT _ _ _ _; refine x_then ?_))
                  exact x_nx (1, a3, c3) (by rw [en, add_ne he]; exact sB) (by simp only; omega) (fun w' c' => by simp only [en, add_ne he]; exact c'.sub (.cons _ (List.Sublist.refl _))) (by simp only; omega)
              · have en : cpt (n, F, T) x (crow (n, F, T) x i m) i 2 = add1 l x (T.getD i 0) (F.getD i 0) := by rw [hl]; rfl
                by_cases he : T.getD i 0 = x
                · have he' : T.getD i 0 = l.getD k 0 := by rw [hlx, he]
                  by_cases hm : F.getD i 0 ∈ l
                  · repeat' (first | (show oL; first | refine sMv rfl rfl ?_ | (show oA (.load _ _); refine st_y (y_load2 tabs rfl rfl (hc_blk 1 rfl rfl) (hc_blk 1 rfl rfl)) rfl ?_) | (show oA (.indexAddr _ _ _); refine st_y (y_ix0 tabs (j := 1) rfl rfl rfl rfl (by decide)) rfl ?_) | (show oA (.binOp _ _ _ _ _); first | refine sAd rfl rfl om rfl ?_ | refine sLs rfl rfl rfl ?_) | (show oA (.store _ _ _); refine m_storeb 0 tabs rfl rfl rfl rfl rfl rfl rfl ?_) | (show oA (.alloc _); refine m_alloc tabs rfl rfl (fun b8 hb8 => ?_))) | refine xNt ?_ | (show oC; first | refine c_seq ?_ | refine c_region ?_ | refine c_skip (x_then ?_) | refine c_skip (x_blk ?_) | refine c_block ?_ | refine c_draw kr kr (fun _ c => Hp.drew c) ?_ | refine c_true rfl ?_ | refine c_false rfl ?_) | (show QT _ _ _ _ _ _ (_ :: _); first | refine qMv rfl rfl ?_ | (show qA (.load _ _); first | refine qLd 0 tabs rfl rfl rfl rfl rfl ?_ | refine q_y (y_load tabs rfl rfl (hc_own 1 rfl (j := k) hkm)) rfl ?_) | (show qA (.indexAddr _ _ _); first | refine q_y (y_ixar ixar0 rfl rfl) rfl ?_ | refine q_y (y_ixar ixar1 rfl rfl) rfl ?_ | refine q_y (y_ix1 tabs (j := k) rfl rfl rfl hs4 rfl hkm) rfl ?_) | (show qA (.binOp _ _ _ _ _); refine q_y (y_eqlie rfl rfl he') rfl ?_) | (show qA (.unOp _ _ _); refine q_y (y_not rfl) rfl ?_) | (show qA (.call _); refine q_call (ent_of Tryd.func49 kr rfl) rfl rfl (fun w c => Contains_yes (xs := l) (x := F.getD i 0) (c.own_rd (i := 1) rfl) hm) (fun u H' h => h.1) ?_) | (show qA (.pick _ _ _); refine q_y (y_pick rfl rfl rfl) rfl ?_) | refine q_gy rfl rfl ?_) | (show QT _ _ _ _ _ _ []; refine q_nil (x_then ?_)) | (show AT _ _ _ _; refine x_then ?_))
                    exact x_nx (2, a3, c3) (by rw [en, add_in hm]; exact sB) (by simp only; omega) (fun w' c' => by simp only [en, add_in hm]; exact c'.sub (.cons _ (List.Sublist.refl _))) (by simp only; omega)
                  · repeat' (first | (show oL; first | refine sMv rfl rfl ?_ | refine sAs rfl rfl ?_ | (show oA (.load _ _); first | refine st_y (y_load2 tabs rfl rfl (hc_blk 1 rfl rfl) (hc_blk 1 rfl rfl)) rfl ?_ | refine sLd 0 tabs rfl rfl rfl rfl rfl ?_) | (show oA (.indexAddr _ _ _); first | refine st_y (y_ix0 tabs (j := 1) rfl rfl rfl rfl (by decide)) rfl ?_ | refine st_y (y_ixar ixar1 rfl rfl) rfl ?_) | (show oA (.binOp _ _ _ _ _); first | refine sAd rfl rfl om rfl ?_ | refine sLs rfl rfl rfl ?_) | (show oA (.call _); refine m_pushi 1 tabs rfl rfl rfl rfl rfl om (fun a9 c9 => ?_)) | (show oA (.store _ _ _); refine m_storeb 0 tabs rfl rfl rfl rfl rfl rfl rfl ?_) | (show oA (.alloc _); refine m_alloc tabs rfl rfl (fun b8 hb8 => ?_)) | (show oA (.buildSlice _ _ _); refine m_build1 tabs (us := [iV (F.getD i 0)]) rfl rfl rfl rfl (by decide) rfl (fun g5 hg5 => ?_))) | (show oN; first | refine c_nil (x_then ?_) | refine c_nil ?_) | (show oC; first | refine c_seq ?_ | refine c_region ?_ | refine c_skip (x_then ?_) | refine c_block ?_ | refine c_draw kr kr (fun _ c => Hp.drew c) ?_ | refine c_true rfl ?_) | (show QT _ _ _ _ _ _ (_ :: _); first | refine qMv rfl rfl ?_ | (show qA (.load _ _); first | refine qLd 0 tabs rfl rfl rfl rfl rfl ?_ | refine q_y (y_load tabs rfl rfl (hc_own 1 rfl (j := k) hkm)) rfl ?_) | (show qA (.indexAddr _ _ _); first | refine q_y (y_ixar ixar0 rfl rfl) rfl ?_ | refine q_y (y_ixar ixar1 rfl rfl) rfl ?_ | refine q_y (y_ix1 tabs (j := k) rfl rfl rfl hs4 rfl hkm) rfl ?_) | (show qA (.binOp _ _ _ _ _); refine q_y (y_eqlie rfl rfl he') rfl ?_) | (show qA (.unOp _ _ _); refine q_y (y_not rfl) rfl ?_) | (show qA (.call _); refine q_call (ent_of Tryd.func49 kr rfl) rfl rfl (fun w c => Contains_no (xs := l) (x := F.getD i 0) (c.own_rd (i := 1) rfl) hm) (fun u H' h => h.1) ?_) | (show qA (.pick _ _ _); refine q_y (y_pick rfl rfl rfl) rfl ?_) | refine q_gy rfl rfl ?_) | (show QT _ _ _ _ _ _ []; refine q_nil (x_then ?_)) | (show AT _ _ _ _; first | refine x_then ?_ | refine x_blk ?_))
                    have el : l.length + 1 = (cpt (n, F, T) x (crow (n, F, T) x i m) i 2).length := by rw [en, add_yes he hm, List.length_append, List.length_singleton]
                    rw [el]
                    exact x_nx (2, a9, c9) sB (by simp only; omega) (fun w' c' => by rw [en, add_yes he hm] at c' ⊢; exact c'.sub (.cons_cons _ (.cons _ (List.Sublist.refl _)))) (by simp only; omega)
                · have he' : ¬ T.getD i 0 = l.getD k 0 := by rw [hlx]; exact he
                  repeat' (first | (show oL; first | refine sMv rfl rfl ?_ | (show oA (.load _ _); refine st_y (y_load2 tabs rfl rfl (hc_blk 1 rfl rfl) (hc_blk 1 rfl rfl)) rfl ?_) | (show oA (.indexAddr _ _ _); refine st_y (y_ix0 tabs (j := 1) rfl rfl rfl rfl (by decide)) rfl ?_) | (show oA (.binOp _ _ _ _ _); first | refine sAd rfl rfl om rfl ?_ | refine sLs rfl rfl rfl ?_) | (show oA (.store _ _ _); refine m_storeb 0 tabs rfl rfl rfl rfl rfl rfl rfl ?_) | (show oA (.alloc _); refine m_alloc tabs rfl rfl (fun b8 hb8 => ?_))) | refine xNt ?_ | (show oC; first | refine c_seq ?_ | refine c_region ?_ | refine c_skip (x_then ?_) | refine c_skip (x_blk ?_) | refine c_block ?_ | refine c_draw kr kr (fun _ c => Hp.drew c) ?_ | refine c_true rfl ?_ | refine c_false rfl ?_) | (show QT _ _ _ _ _ _ (_ :: _); first | refine qMv rfl rfl ?_ | (show qA (.load _ _); first | refine qLd 0 tabs rfl rfl rfl rfl rfl ?_ | refine q_y (y_load tabs rfl rfl (hc_own 1 rfl (j := k) hkm)) rfl ?_) | (show qA (.indexAddr _ _ _); first | refine q_y (y_ixar ixar0 rfl rfl) rfl ?_ | refine q_y (y_ix1 tabs (j := k) rfl rfl rfl hs4 rfl hkm) rfl ?_) | (show qA (.binOp _ _ _ _ _); refine q_y (y_eqlin rfl rfl he') rfl ?_) | (show qA (.pick _ _ _); refine q_y (y_pick rfl rfl rfl) rfl ?_) | refine q_gn rfl rfl rfl ?_) | (show QT _ _ _ _ _ _ []; refine q_nil (x_then ?_)) | (show AT _ _ _ _; refine x_then ?_))
                  exact x_nx (2, a3, c3) (by rw [en, add_ne he]; exact sB) (by simp only; omega) (fun w' c' => by simp only [en, add_ne he]; exact c'.sub (.cons _ (List.Sublist.refl _))) (by simp only; omega)
              · repeat' (first | (show oL; first | refine sMv rfl rfl ?_ | (show oA (.binOp _ _ _ _ _); first | refine sAd rfl rfl om rfl ?_ | refine sLs rfl rfl rfl ?_)) | refine xNt ?_ | (show oC; first | refine c_seq ?_ | refine c_region ?_ | refine c_exit ?_ | refine c_false rfl ?_) | (show AT _ _ _ _; first | refine x_then ?_ | refine x_then_exit ?_ | refine x_blk_exit rfl ?_ | refine x_blk ?_))
                exact x_nx (i + 1, a3, c3) (by rw [crow, ← hl]; exact sB) (by simp only; omega) (fun w' c' => by simp only [crow]; rw [← hl]; exact c'.sub (.cons_cons _ (.cons _ (List.Sublist.refl _)))) (by simp only; omega)
          · have : i = F.length := by omega
            subst this
            repeat' (first | (show oL; first | refine sMv rfl rfl ?_ | refine sAs rfl rfl ?_ | (show oA (.binOp _ _ _ _ _); first | refine sAd rfl rfl om rfl ?_ | refine sLs rfl rfl rfl ?_)) | refine xNt ?_ | (show oC; first | refine c_seq ?_ | refine c_region ?_ | refine c_exit ?_ | refine c_iff rfl nN ?_) | (show AT _ _ _ _; first | refine x_then ?_ | refine x_then_exit ?_ | refine x_blk_exit rfl ?_ | refine x_blk ?_))
            have en : con (n, F, T) (k + 1) = crow (n, F, T) x F.length m := by rw [con_next (by rw [← hm]; exact hkl), ← hm, ← hx]
            exact x_nx (k + 1, a2, c2) (by rw [en]; exact sB) (by
              simp only [en]
              have := (pfx_crow (q := (n, F, T)) (x := x) (m := m) F.length).1
              omega) (fun w' c' => by simp only [en]; exact c') (by simp only; omega)
      · have hke : (con (n, F, T) k).length ≤ k := by omega
        have hck := con_end hQ hke om
        have hd : decide (ConP (n, F, T)) = decide (((con (n, F, T) k).length : Int) = n) := decide_eq_decide.2 ⟨fun h => by have := h.2; rw [hck] at this; exact this, fun h => ⟨hQ, by rw [hck]; exact h⟩⟩
        repeat' (first | (show oL; first | refine sMv rfl rfl ?_ | refine sAs rfl rfl ?_ | refine sFd tabs rfl rfl rfl rfl ?_ | refine sLd 1 tabs rfl rfl rfl rfl rfl ?_ | (show oA (.binOp _ _ _ _ _); first | refine sLs rfl rfl rfl ?_ | refine st_y (y_eql rfl rfl) rfl ?_) | refine sLn tabs rfl rfl rfl ?_) | refine xNt ?_ | (show oC; first | refine c_seq ?_ | refine c_region ?_ | refine c_ret ?_ | refine c_exit ?_ | refine c_iff rfl nN ?_) | (show AT _ _ _ _; first | refine x_then ?_ | refine x_then_exit ?_ | refine x_blk_exit rfl ?_))
        rw [hd]
        exact x_ret1 Tryd.results32 (res_tmp rfl) (fun w' c' => ⟨_, _, rfl, ⟨rfl, rfl⟩, c'.sub (List.nil_sublist _)⟩)
  · have hd : decide (ConP q) = false := decide_eq_false (fun h => hQ h.1)
    rw [hd]
    refine fn_enter Tryd.func32 rfl Tryd.ntmps32 rfl ?_
    repeat' (first | (show oL; first | refine sAs rfl rfl ?_ | refine sLb 0 tabs rfl rfl rfl rfl rfl ?_ | (show oA (.unOp _ _ _); refine st_y (y_not rfl) rfl ?_) | (show oA (.call _); (refine m_call (ent_of Tryd.func13 kr rfl) rfl rfl (fun w c => impl_IsQuiver_ok (q := q) (c.rd h0) (c.rd h1)) ?_; rw [decide_eq_false hQ]; rintro v H' ⟨rfl, rfl⟩)) | (show oA (.box _ _); refine m_box rfl rfl (fun b hb => ?_))) | refine xNt ?_ | (show oC; first | refine c_seq ?_ | refine c_region ?_ | refine c_ret ?_ | refine c_true rfl ?_) | (show AT _ _ _ _; refine x_then_ret ?_))
    exact x_ret1 Tryd.results32 (res_tmp rfl) (fun w' c' => ⟨_, _, rfl, ⟨rfl, rfl⟩, c'.sub (List.nil_sublist _)⟩)
end Go.Proofs.YtdnhmnnccfoliaaDoor
