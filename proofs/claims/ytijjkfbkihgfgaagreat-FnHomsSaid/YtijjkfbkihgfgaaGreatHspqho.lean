import Derived.Test.YtijjkfbkihgfgaaGreatEqsqho
import Derived.Test.YtijjkfbkihgfgaaGreatHdsqho
import Derived.Test.YtijjkfbkihgfgaaGreatMxfqho
import Derived.Test.YtijjkfbkihgfgaaGreatNumqho
namespace Go.Proofs.YtijjkfbkihgfgaaGreat
open Go.Lg Go.Proofs Go.RowKit
theorem y_bld12 {P : Program} {n : Nat} {C : World → Prop} {s : List (Nat × Value)} {t ty : Nat} {x0 x1 : Operand} {v0 v1 v : Value} (hb : ∀ w, (Instr.build t #[(1, v0), (2, v1)]).run P w = .ok v w) (h0 : ev s x0 = some v0) (h1 : ev s x1 = some v1) : Y P n C s (.build t #[(1, x0), (2, x1)]) ty v := fun a w f c d pos af g => by
  simp [execOp, f.ev h0, f.ev h1, hb]
attribute [local irreducible] Code.wp wpList bodyPost Exit.then Exit.inBlock Hp Again Calls Y AT ResV QT Qn QI wpAny wpAnyQ
set_option maxRecDepth 20000
set_option maxHeartbeats 4000000

theorem bld_mat12 (k : Int) (a : Option Addr) (m c : Nat) (w : World) : (Instr.build 47 #[(1, iV k), (2, .slice a m c)]).run Tryz.prog w = .ok (.agg #[iV 0, iV k, .slice a m c]) w := by kernel_rfl
theorem eq_at {a b : Rp} {i : Nat} (hF : FitP a b) (hi : i < a.q.2.1.length) : ∃ (s t x y z v : Nat) (A B : Mat), a.q.2.1.getD i 0 = s ∧ a.q.2.2.getD i 0 = t ∧ s < a.d.length ∧ t < a.d.length ∧ s < b.d.length ∧ t < b.d.length ∧ i < a.m.length ∧ i < b.m.length ∧ i < a.q.2.2.length ∧
    a.m[i]? = some A ∧ b.m[i]? = some B ∧ a.m.getD i mat0 = A ∧ b.m.getD i mat0 = B ∧ a.d.getD s 0 = z ∧ a.d.getD t 0 = v ∧ b.d.getD s 0 = y ∧ b.d.getD t 0 = x ∧ (x ≤ 4 ∧ y ≤ 4 ∧ z ≤ 4 ∧ v ≤ 4) ∧ CellsP a.p B x y ∧ CellsP a.p A v z ∧
    dN b.d (a.q.2.2.getD i 0) = x ∧ dN b.d (a.q.2.1.getD i 0) = y ∧ dN a.d (a.q.2.1.getD i 0) = z ∧ dN a.d (a.q.2.2.getD i 0) = v := by
  have hdl0 := hF.dl
  obtain ⟨hA, hB, hp, hq⟩ := hF
  have hQ := hA.2.1.1
  have hTl := hQ.2.2.1
  have hs := inP_get hQ.2.2.2.1 (i := i) hi
  have ht := inP_get hQ.2.2.2.2 (i := i) om
  have hdl := hA.2.1.2.1
  have hml := hA.2.2.1
  have hml' := hB.2.2.1
  rw [← hq] at hml'
  obtain ⟨s, es⟩ : ∃ s : Nat, a.q.2.1.getD i 0 = s := ⟨(a.q.2.1.getD i 0).toNat, by omega⟩
  obtain ⟨t, et⟩ : ∃ t : Nat, a.q.2.2.getD i 0 = t := ⟨(a.q.2.2.getD i 0).toNat, by omega⟩
  rw [es] at hs
  rw [et] at ht
  obtain ⟨A, hAi⟩ : ∃ m, a.m[i]? = some m := ⟨_, List.getElem?_eq_getElem om⟩
  obtain ⟨B, hBi⟩ : ∃ m, b.m[i]? = some m := ⟨_, List.getElem?_eq_getElem om⟩
  have gA : a.m.getD i mat0 = A := by rw [List.getD, hAi]; rfl
  have gB : b.m.getD i mat0 = B := by rw [List.getD, hBi]; rfl
  obtain ⟨a1, a2, a3⟩ := hA.2.2.2 i om
  obtain ⟨b1, b2, b3⟩ := hB.2.2.2 i om
  rw [← hq] at b2 b3
  rw [gA, es, Int.toNat_natCast] at a2
  rw [gA, et, Int.toNat_natCast] at a3
  rw [gB, es, Int.toNat_natCast] at b2
  rw [gB, et, Int.toNat_natCast] at b3
  rw [gA] at a1
  rw [gB, ← hp] at b1
  have d1 := hB.dg t
  have d2 := hB.dg s
  have d3 := hA.dg s
  have d4 := hA.dg t
  refine ⟨s, t, (b.d.getD t 0).toNat, (b.d.getD s 0).toNat, (a.d.getD s 0).toNat, (a.d.getD t 0).toNat, A, B, es, et, by omega, by omega, by omega, by omega, by omega, by omega, by omega, hAi, hBi, gA, gB, by omega, by omega, by omega, by omega, by omega, cellsP_of b1 om om, cellsP_of a1 om om, ?_, ?_, ?_, ?_⟩
  · simp only [dN, et, Int.toNat_natCast]
  · simp only [dN, es, Int.toNat_natCast]
  · simp only [dN, es, Int.toNat_natCast]
  · simp only [dN, et, Int.toNat_natCast]
theorem mat_cell {w : World} {p : Int} {m : Mat} {R C i j : Nat} {a : Option Addr} {c : Nat} (hr : Rd w (iT m.2.2) (.slice a m.2.2.length c)) (hc : CellsP p m R C) (hi : i < R) (hj : j < C) : i * C + j < m.2.2.length ∧ w.cell? ⟨ab a, ao a + (i * C + j), none⟩ = some (.int .i64 (matF m i j)) ∧ 0 ≤ matF m i j ∧ matF m i j < p := by
  obtain ⟨h1, h2, h3, h4⟩ := hc
  obtain ⟨_, _, e, _, _, _, hg⟩ := hr.ints
  cases e
  have hl : m.2.2.length = R * C := by rw [h3, mk_length]
  have hlt := cell_lt hi hj
  have hin := h4 i j hi hj
  refine ⟨by omega, ?_, hin.1, by omega⟩
  rw [hg _ om, matF, h2, Int.toNat_natCast]
theorem l11Equations_ok {w : World} {a b : Rp} {e e' : Nat} {u0 u1 u2 u3 v0 v1 v2 v3 : Value} (h0 : Rd w (iT a.q.2.1) u0) (h1 : Rd w (iT a.q.2.2) u1) (h2 : Rd w (iT a.d) u2) (h3 : Rd w (matsT e a.m) u3) (k2 : Rd w (iT b.d) v2) (k3 : Rd w (matsT e' b.m) v3) (hF : FitP a b) :
    Does Tryz.prog 202 [.agg #[iV a.p, iV a.q.1, u0, u1, u2, u3], .agg #[iV b.p, iV b.q.1, v0, v1, v2, v3]] w (GivesK (idxN a b a.q.2.1.length).length (offN a.d b.d a.d.length) (eqsF a b)) := by
  have hp := fieldP_pos hF.1.1
  have hn := off_le hF
  have hI := idx_le hF
  have hml := hF.1.2.2.1
  have hql := hF.1.2.1.1.2.1
  have h20 := h2
  have k20 := k2
  obtain ⟨a0, c0, rfl, hs0, q1, q2, hg0⟩ := h0.ints
  obtain ⟨a1, c1, rfl, hs1, q3, q4, hg1⟩ := h1.ints
  obtain ⟨a2, c2, rfl, hs2, q5, q6, hg2⟩ := h2.ints
  obtain ⟨d2, f2, rfl, hk2, q7, q8, hh2⟩ := k2.ints
  obtain ⟨a3, c3, rfl, hs3, q9, q10, hg3⟩ := rd_mats h3
  obtain ⟨d3, f3, rfl, hk3, q11, q12, hh3⟩ := rd_mats k3
  obtain ⟨n, en⟩ : ∃ n, n = offN a.d b.d a.d.length := ⟨_, rfl⟩
  rw [← en] at hn ⊢
  refine fn_enter Tryz.func202 rfl Tryz.ntmps202 rfl ?_
  repeat' (first | (show oL; first | refine sMv rfl rfl ?_ | refine sAs rfl rfl ?_ | (show oA (.load _ _); first | refine sLb 1 tabs rfl rfl rfl rfl rfl ?_ | refine sLb 2 tabs rfl rfl rfl rfl rfl ?_) | (show oA (.call _); (refine m_call (ent_of Tryz.func212 kr rfl) rfl rfl (fun w c => l11Size_ok (a := a) (b := b) (c.rd h20) (c.rd k20) hF) ?_; rintro v H' ⟨rfl, rfl⟩; rw [← en])) | (show oA (.store _ _ _); refine m_storeb 0 tabs rfl rfl rfl rfl rfl rfl rfl ?_) | (show oA (.box _ _); refine m_box rfl rfl (fun b4 hb4 => ?_)) | (show oA (.alloc _); refine m_alloc tabs rfl rfl (fun b5 hb5 => ?_)) | (show oA (.buildSlice _ _ _); refine m_build0 tabs rfl rfl (fun g hg => ?_)) | (show oA (.build _ _); refine st_y (y_bld12 (bld_mat12 _ _ _ _) rfl rfl) rfl ?_)) | refine xNt ?_ | (show oC; first | refine c_seq ?_ | refine c_region ?_ | refine c_block ?_))
  rename_i b3 hb3 br hbr
  refine c_loopH (α := Nat × Option Addr × Nat) [2, 3, 4, 5, 6] (fun s => [(7, .int .i64 s.1)]) (fun s => s.1 ≤ a.m.length) (fun s => [.own (iT (eqC a b n (idxN a b s.1))) (.slice s.2.1 (eqC a b n (idxN a b s.1)).length s.2.2), .blk b5 #[iV (idxN a b s.1).length, iV n, .slice s.2.1 (eqC a b n (idxN a b s.1)).length s.2.2] 47, .blk br #[iV 0, iV 0, .slice none 0 0] 47, .blk b4 #[iV b.p, iV b.q.1, v0, v1, .slice d2 b.d.length f2, .slice d3 b.m.length f3] 60, .blk b3 #[iV a.p, iV a.q.1, .slice a0 a.q.2.1.length c0, .slice a1 a.q.2.2.length c1, .slice a2 a.d.length c2, .slice a3 a.m.length c3] 60]) (fun s => a.m.length - s.1) (0, some ⟨g, 0, none⟩, 0) rfl sB ?_ ?_ ?_
  · exact Nat.zero_le _
  · exact fun w' c' => c'.swap
  · rintro ⟨i, al, cl⟩ hi
    simp only at hi ⊢
    by_cases hin : i < a.m.length
    · obtain ⟨s, t, x, y, z, v, A, B, es, et, hsl, htl, hsl', htl', _, hib, hiT, hAi, hBi, gAe, gBe, ez, ev', ey, ex, ⟨hx, hy, hz, hv⟩, hcB, hcA, ex', ey', ez', ev''⟩ := eq_at (i := i) hF om
      have hin1 : i < a.q.2.1.length := by omega
      have gF := hg0 i hin1
      rw [es] at gF
      have gT := hg1 i hiT
      rw [et] at gT
      have gas := hg2 s hsl
      rw [ez] at gas
      have gat := hg2 t htl
      rw [ev'] at gat
      have gbs := hh2 s hsl'
      rw [ey] at gbs
      have gbt := hh2 t htl'
      rw [ex] at gbt
      obtain ⟨aA, cA, A5, A6, A7, A8⟩ := hg3 i A hAi
      obtain ⟨aB, cB, B5, B6, B7, B8⟩ := hh3 i B hBi
      have hIi := idxN_le hF i
      rw [← idxR_zero]
      repeat' (first | (show oL; first | refine sMv rfl rfl ?_ | refine sAs rfl rfl ?_ | refine sFd tabs rfl rfl rfl rfl ?_ | (show oA (.load _ _); first | refine sLd 4 tabs rfl rfl rfl rfl rfl ?_ | refine st_y (y_load tabs rfl rfl (hc_w0 gF)) rfl ?_ | refine st_y (y_load tabs rfl rfl (hc_w0 gT)) rfl ?_) | (show oA (.indexAddr _ _ _); first | refine st_y (y_ix1 tabs (j := i) rfl rfl rfl hs0 rfl hin1) rfl ?_ | refine st_y (y_ix1 tabs (j := i) rfl rfl rfl hs1 rfl hiT) rfl ?_) | refine sLs rfl rfl rfl ?_ | refine sLn tabs rfl rfl rfl ?_) | refine xNt ?_ | (show oC; first | refine c_seq ?_ | refine c_region ?_ | refine c_skip (x_then ?_) | refine c_block ?_ | refine c_ift rfl aO ?_))
      refine c_loopH (α := Nat × Option Addr × Nat) [2, 3, 4, 5, 6, 7, 8, 9] (fun u => [(10, .int .i64 u.1)]) (fun u => u.1 ≤ x) (fun u => [.own (iT (eqC a b n (idxR a b i u.1))) (.slice u.2.1 (eqC a b n (idxR a b i u.1)).length u.2.2), .blk b5 #[iV (idxR a b i u.1).length, iV n, .slice u.2.1 (eqC a b n (idxR a b i u.1)).length u.2.2] 47, .blk br #[iV 0, iV 0, .slice none 0 0] 47, .blk b4 #[iV b.p, iV b.q.1, v0, v1, .slice d2 b.d.length f2, .slice d3 b.m.length f3] 60, .blk b3 #[iV a.p, iV a.q.1, .slice a0 a.q.2.1.length c0, .slice a1 a.q.2.2.length c1, .slice a2 a.d.length c2, .slice a3 a.m.length c3] 60]) (fun u => x - u.1) (0, al, cl) rfl sB ?_ ?_ ?_
      · exact Nat.zero_le _
      · exact fun w' c' => c'
      · rintro ⟨r, al, cl⟩ hr
        simp only at hr ⊢
        by_cases hrx : r < x
        · rw [← idxK_zero]
          repeat' (first | (show oL; first | refine sMv rfl rfl ?_ | refine sAs rfl rfl ?_ | refine sFd tabs rfl rfl rfl rfl ?_ | (show oA (.load _ _); first | refine sLd 3 tabs rfl rfl rfl rfl rfl ?_ | refine st_y (y_load tabs rfl rfl (hc_w0 gbt)) rfl ?_) | (show oA (.indexAddr _ _ _); refine st_y (y_ix1 tabs (j := t) rfl rfl rfl hk2 rfl htl') rfl ?_) | refine sLs rfl rfl rfl ?_) | refine xNt ?_ | (show oC; first | refine c_seq ?_ | refine c_region ?_ | refine c_skip (x_then ?_) | refine c_block ?_ | refine c_ift rfl aO ?_))
          refine c_loopH (α := Nat × Option Addr × Nat) [2, 3, 4, 5, 6, 7, 8, 9, 10] (fun u => [(11, .int .i64 u.1)]) (fun u => u.1 ≤ z) (fun u => [.own (iT (eqC a b n (idxK a b i r u.1))) (.slice u.2.1 (eqC a b n (idxK a b i r u.1)).length u.2.2), .blk b5 #[iV (idxK a b i r u.1).length, iV n, .slice u.2.1 (eqC a b n (idxK a b i r u.1)).length u.2.2] 47, .blk br #[iV 0, iV 0, .slice none 0 0] 47, .blk b4 #[iV b.p, iV b.q.1, v0, v1, .slice d2 b.d.length f2, .slice d3 b.m.length f3] 60, .blk b3 #[iV a.p, iV a.q.1, .slice a0 a.q.2.1.length c0, .slice a1 a.q.2.2.length c1, .slice a2 a.d.length c2, .slice a3 a.m.length c3] 60]) (fun u => z - u.1) (0, al, cl) rfl sB ?_ ?_ ?_
          · exact Nat.zero_le _
          · exact fun w' c' => c'
          · rintro ⟨k, al, cl⟩ hk
            simp only at hk ⊢
            by_cases hkz : k < z
            · repeat' (first | (show oL; first | refine sMv rfl rfl ?_ | refine sAs rfl rfl ?_ | refine sFd tabs rfl rfl rfl rfl ?_ | (show oA (.load _ _); first | refine sLd 4 tabs rfl rfl rfl rfl rfl ?_ | refine st_y (y_load tabs rfl rfl (hc_w0 gas)) rfl ?_) | (show oA (.indexAddr _ _ _); refine st_y (y_ix1 tabs (j := s) rfl rfl rfl hs2 rfl hsl) rfl ?_) | refine sLs rfl rfl rfl ?_ | (show oA (.makeSlice _ _ _); refine m_maken tabs (m := n) rfl rfl rfl rfl om rfl (fun gg hgg => ?_))) | refine xNt ?_ | (show oC; first | refine c_seq ?_ | refine c_region ?_ | refine c_skip (x_then ?_) | refine c_block ?_ | refine c_ift rfl aO ?_))
              have hKl := idxK_length (a := a) (b := b) (i := i) (r := r) (k := k)
              have hrz : r * dN a.d (a.q.2.1.getD i 0) ≤ 16 := Nat.mul_le_mul (show r ≤ 4 by omega) (show _ ≤ 4 by omega)
              have hKl2 : (idxK a b i r k).length ≤ 128 := by omega
              have hEl : (eqC a b n (idxK a b i r k)).length ≤ 128 * 32 := by rw [eqC_length]; exact Nat.mul_le_mul hKl2 hn
              have hry : r * y ≤ 16 := Nat.mul_le_mul (show r ≤ 4 by omega) (show y ≤ 4 by omega)
              have hrv : r * v ≤ 16 := Nat.mul_le_mul (show r ≤ 4 by omega) (show v ≤ 4 by omega)
              obtain ⟨_, _, eB, hsB, _, _, _⟩ := B8.ints
              cases eB
              obtain ⟨_, _, eA, hsA, _, _, _⟩ := A8.ints
              cases eA
              refine c_loopH (α := Nat) [2, 3, 4, 5, 6, 7, 8, 9, 10, 11, 12] (fun j => [(13, .int .i64 j)]) (fun j => j ≤ y) (fun j => [.own (iT (mkv n (row1 a b i r k j))) (.slice (some ⟨gg, 0, none⟩) n n), .own (iT (eqC a b n (idxK a b i r k))) (.slice al (eqC a b n (idxK a b i r k)).length cl), .blk b5 #[iV (idxK a b i r k).length, iV n, .slice al (eqC a b n (idxK a b i r k)).length cl] 47, .blk br #[iV 0, iV 0, .slice none 0 0] 47, .blk b4 #[iV b.p, iV b.q.1, v0, v1, .slice d2 b.d.length f2, .slice d3 b.m.length f3] 60, .blk b3 #[iV a.p, iV a.q.1, .slice a0 a.q.2.1.length c0, .slice a1 a.q.2.2.length c1, .slice a2 a.d.length c2, .slice a3 a.m.length c3] 60]) (fun j => y - j) 0 rfl sB ?_ ?_ ?_
              · exact Nat.zero_le _
              · intro w' c'
                have e0 : List.replicate n (0 : Int) = mkv n (row1 a b i r k 0) := by
                  rw [mkv_zero]
                  exact mkv_ext (fun q _ => by rw [row1, sum1, sumN, Int.zero_emod])
                rw [e0] at c'
                exact c'
              · rintro j hj
                by_cases hjy : j < y
                · have hjz : j * z ≤ 16 := Nat.mul_le_mul (show j ≤ 4 by omega) (show z ≤ 4 by omega)
                  have e1 : at1 a b i k j = offN a.d b.d s + j * z + k := by rw [at1, ez', es, Int.toNat_natCast]; omega
                  have hat : offN a.d b.d s + j * z + k < n := by
                    have h := off_lt (da := a.d) (db := b.d) (n := a.d.length) hsl (j := j) (k := k) om om
                    rw [ez, Int.toNat_natCast, ← en] at h
                    omega
                  obtain ⟨hB1, hB2, hB3, hB4⟩ := mat_cell B8 hcB (i := r) (j := j) hrx hjy
                  have hgd : (mkv n (row1 a b i r k j)).getD (offN a.d b.d s + j * z + k) 0 = row1 a b i r k j (offN a.d b.d s + j * z + k) := mkv_get hat
                  have hr1 : 0 ≤ (mkv n (row1 a b i r k j)).getD (offN a.d b.d s + j * z + k) 0 ∧ (mkv n (row1 a b i r k j)).getD (offN a.d b.d s + j * z + k) 0 < a.p := by
                    rw [hgd]
                    exact ⟨Int.emod_nonneg _ om, Int.emod_lt_of_pos _ om⟩
                  repeat' (first | (show oL; first | refine sMv rfl rfl ?_ | refine sFd tabs rfl rfl rfl rfl ?_ | (show oA (.load _ _); first | refine sLd 4 tabs rfl rfl rfl rfl rfl ?_ | refine st_y (y_load tabs rfl rfl (hc_w0 gbs)) rfl ?_) | (show oA (.indexAddr _ _ _); refine st_y (y_ix1 tabs (j := s) rfl rfl rfl hk2 rfl hsl') rfl ?_) | refine sLs rfl rfl rfl ?_) | refine xNt ?_ | (show oC; first | refine c_seq ?_ | refine c_region ?_ | refine c_skip (x_then ?_) | refine c_block ?_ | refine c_ift rfl aO ?_))
                  (first | (show oC; refine c_draw kr kr (fun _ c => Hp.drew c) ?_))
                  repeat' (first | (show QT _ _ _ _ _ _ (_ :: _); first | refine qMv rfl rfl ?_ | refine qAs rfl rfl ?_ | refine qFd tabs rfl rfl rfl rfl ?_ | (show qA (.load _ _); first | refine qLd 5 tabs rfl rfl rfl rfl rfl ?_ | refine qLb 4 tabs rfl rfl rfl rfl rfl ?_ | refine qLb 5 tabs rfl rfl rfl rfl rfl ?_ | refine q_y (y_load tabs rfl rfl (hc_w0 gas)) rfl ?_) | (show qA (.indexAddr _ _ _); refine q_y (y_ix1 tabs (j := s) rfl rfl rfl hs2 rfl hsl) rfl ?_) | (show qA (.binOp _ _ _ _ _); first | refine q_y (y_muln (a := j) (b := z) rfl rfl rfl rfl om) rfl ?_ | refine q_y (y_addn (b := j * z) rfl rfl rfl rfl om) rfl ?_ | refine q_y (y_addn (b := k) rfl rfl rfl rfl om) rfl ?_) | (show qA (.call _); refine q_call (ent_of Tryz.func270 kr rfl) rfl rfl (fun w c => l11At_ok (a := a) (b := b) (c.rd h20) (c.rd k20) hF om) (fun u H' h => h.1) ?_)) | (show QT _ _ _ _ _ _ []; refine q_nil (x_then ?_)))
                  (first | (show oC; refine c_tailR 27 kr kr kr kr kr kr (fun _ c => Hp.drew c) ?_))
                  repeat' (first | (show oL; first | refine sMv rfl rfl ?_ | refine sAs rfl rfl ?_ | (show oA (.indexAddr _ _ _); refine st_y (y_ix1 tabs (j := offN a.d b.d s + j * z + k) rfl rfl rfl .mk rfl hat) rfl ?_) | refine sAd rfl rfl om rfl ?_ | (show oA (.store _ _ _); refine m_storeo 0 tabs rfl rfl rfl rfl (by rw [mkv_length]; exact hat) ?_)) | (show oN; first | refine c_nil (x_then ?_) | refine c_nil ?_) | (show oC; refine c_region ?_) | (show QT _ _ _ _ _ _ (_ :: _); first | refine qMv rfl rfl ?_ | refine qFd tabs rfl rfl rfl rfl ?_ | (show qA (.load _ _); first | refine qLd 4 tabs rfl rfl rfl rfl rfl ?_ | refine qLd 5 tabs rfl rfl rfl rfl rfl ?_ | refine q_y (y_load tabs rfl rfl (hc_w0 gbs)) rfl ?_ | refine q_y (y_load tabs rfl rfl (hc_own 0 rfl (by rw [mkv_length]; exact hat))) rfl ?_ | refine q_y (y_load tabs rfl rfl (hc_w0 B7)) rfl ?_ | refine q_y (y_load tabs rfl rfl (hc_w0 hB2)) rfl ?_) | (show qA (.indexAddr _ _ _); first | refine q_y (y_ix1 tabs (j := s) rfl rfl rfl hk2 rfl hsl') rfl ?_ | refine q_y (y_ix1 tabs (j := offN a.d b.d s + j * z + k) rfl rfl rfl .mk rfl hat) rfl ?_ | refine q_y (y_ixa tabs rfl rfl rfl hk3 om om) rfl ?_ | refine q_y (y_ix1 tabs (j := r * y + j) rfl rfl rfl hsB rfl hB1) rfl ?_) | (show qA (.binOp _ _ _ _ _); first | refine q_y (y_muln (a := r) (b := y) rfl rfl rfl rfl om) rfl ?_ | refine q_y (y_addn (b := j) rfl rfl rfl rfl om) rfl ?_ | refine qAd rfl rfl om rfl ?_) | (show qA (.call _); refine q_call (ent_of Tryz.func110 kr rfl) rfl rfl (fun w c => l2Mod_ok om om) (fun u H' h => h.1) ?_)) | (show QT _ _ _ _ _ _ []; refine q_nil ?_) | (show AT _ _ _ _; first | refine x_then ?_ | refine x_blk ?_))
                  refine x_nx (j + 1) sB om (fun w' c' => ?_) om
                  simp only [List.set_cons_zero] at c'
                  have h' := row1_next (a := a) (b := b) (i := i) (r := r) (k := k) (j := j) (n := n)
                  rw [gBe, e1] at h'
                  rw [hgd, h'] at c'
                  exact c'
                · have : j = y := by omega
                  subst this
                  have h0' := row2_zero (a := a) (b := b) (i := i) (r := r) (k := k) (n := n)
                  rw [ey'] at h0'
                  rw [h0']
                  repeat' (first | (show oL; first | refine sMv rfl rfl ?_ | refine sAs rfl rfl ?_ | refine sFd tabs rfl rfl rfl rfl ?_ | (show oA (.load _ _); first | refine sLd 4 tabs rfl rfl rfl rfl rfl ?_ | refine st_y (y_load tabs rfl rfl (hc_w0 gbs)) rfl ?_) | (show oA (.indexAddr _ _ _); refine st_y (y_ix1 tabs (j := s) rfl rfl rfl hk2 rfl hsl') rfl ?_) | refine sLs rfl rfl rfl ?_) | refine xNt ?_ | (show oC; first | refine c_seq ?_ | refine c_region ?_ | refine c_block ?_ | refine c_exit ?_ | refine c_iff rfl nN ?_) | (show AT _ _ _ _; first | refine x_then ?_ | refine x_then_exit ?_ | refine x_blk_exit rfl ?_))
                  refine c_loopH (α := Nat) [2, 3, 4, 5, 6, 7, 8, 9, 10, 11, 12] (fun j => [(15, .int .i64 j)]) (fun j => j ≤ v) (fun j => [.own (iT (mkv n (row2 a b i r k j))) (.slice (some ⟨gg, 0, none⟩) n n), .own (iT (eqC a b n (idxK a b i r k))) (.slice al (eqC a b n (idxK a b i r k)).length cl), .blk b5 #[iV (idxK a b i r k).length, iV n, .slice al (eqC a b n (idxK a b i r k)).length cl] 47, .blk br #[iV 0, iV 0, .slice none 0 0] 47, .blk b4 #[iV b.p, iV b.q.1, v0, v1, .slice d2 b.d.length f2, .slice d3 b.m.length f3] 60, .blk b3 #[iV a.p, iV a.q.1, .slice a0 a.q.2.1.length c0, .slice a1 a.q.2.2.length c1, .slice a2 a.d.length c2, .slice a3 a.m.length c3] 60]) (fun j => v - j) 0 rfl sB ?_ ?_ ?_
                  · exact Nat.zero_le _
                  · exact fun w' c' => c'
                  · rintro j hj
                    by_cases hjv : j < v
                    · have hjz : j * z ≤ 16 := Nat.mul_le_mul (show j ≤ 4 by omega) (show z ≤ 4 by omega)
                      have e1 : at2 a b i r j = offN a.d b.d t + r * v + j := by rw [at2, ev'', et, Int.toNat_natCast]; omega
                      have hat : offN a.d b.d t + r * v + j < n := by
                        have h := off_lt (da := a.d) (db := b.d) (n := a.d.length) htl (j := r) (k := j) om om
                        rw [ev', Int.toNat_natCast, ← en] at h
                        omega
                      obtain ⟨hA1, hA2, hA3, hA4⟩ := mat_cell A8 hcA (i := j) (j := k) hjv hkz
                      have hgd : (mkv n (row2 a b i r k j)).getD (offN a.d b.d t + r * v + j) 0 = row2 a b i r k j (offN a.d b.d t + r * v + j) := mkv_get hat
                      have hr1 : 0 ≤ (mkv n (row2 a b i r k j)).getD (offN a.d b.d t + r * v + j) 0 ∧ (mkv n (row2 a b i r k j)).getD (offN a.d b.d t + r * v + j) 0 < a.p := by
                        rw [hgd]
                        exact ⟨Int.emod_nonneg _ om, Int.emod_lt_of_pos _ om⟩
                      repeat' (first | (show oL; first | refine sMv rfl rfl ?_ | refine sFd tabs rfl rfl rfl rfl ?_ | (show oA (.load _ _); first | refine sLd 5 tabs rfl rfl rfl rfl rfl ?_ | refine st_y (y_load tabs rfl rfl (hc_w0 gat)) rfl ?_) | (show oA (.indexAddr _ _ _); refine st_y (y_ix1 tabs (j := t) rfl rfl rfl hs2 rfl htl) rfl ?_) | refine sLs rfl rfl rfl ?_) | refine xNt ?_ | (show oC; first | refine c_seq ?_ | refine c_region ?_ | refine c_skip (x_then ?_) | refine c_block ?_ | refine c_ift rfl aO ?_))
                      (first | (show oC; refine c_draw kr kr (fun _ c => Hp.drew c) ?_))
                      repeat' (first | (show QT _ _ _ _ _ _ (_ :: _); first | refine qMv rfl rfl ?_ | refine qAs rfl rfl ?_ | refine qFd tabs rfl rfl rfl rfl ?_ | (show qA (.load _ _); first | refine qLd 5 tabs rfl rfl rfl rfl rfl ?_ | refine qLb 4 tabs rfl rfl rfl rfl rfl ?_ | refine qLb 5 tabs rfl rfl rfl rfl rfl ?_ | refine q_y (y_load tabs rfl rfl (hc_w0 gat)) rfl ?_) | (show qA (.indexAddr _ _ _); refine q_y (y_ix1 tabs (j := t) rfl rfl rfl hs2 rfl htl) rfl ?_) | (show qA (.binOp _ _ _ _ _); first | refine q_y (y_muln (a := r) (b := v) rfl rfl rfl rfl om) rfl ?_ | refine q_y (y_addn (b := r * v) rfl rfl rfl rfl om) rfl ?_ | refine q_y (y_addn (b := j) rfl rfl rfl rfl om) rfl ?_) | (show qA (.call _); refine q_call (ent_of Tryz.func270 kr rfl) rfl rfl (fun w c => l11At_ok (a := a) (b := b) (c.rd h20) (c.rd k20) hF om) (fun u H' h => h.1) ?_)) | (show QT _ _ _ _ _ _ []; refine q_nil (x_then ?_)))
                      (first | (show oC; refine c_tailR 27 kr kr kr kr kr kr (fun _ c => Hp.drew c) ?_))
                      repeat' (first | (show oL; first | refine sMv rfl rfl ?_ | refine sAs rfl rfl ?_ | (show oA (.indexAddr _ _ _); refine st_y (y_ix1 tabs (j := offN a.d b.d t + r * v + j) rfl rfl rfl .mk rfl hat) rfl ?_) | refine sAd rfl rfl om rfl ?_ | (show oA (.store _ _ _); refine m_storeo 0 tabs rfl rfl rfl rfl (by rw [mkv_length]; exact hat) ?_)) | (show oN; first | refine c_nil (x_then ?_) | refine c_nil ?_) | (show oC; refine c_region ?_) | (show QT _ _ _ _ _ _ (_ :: _); first | refine qMv rfl rfl ?_ | refine qFd tabs rfl rfl rfl rfl ?_ | (show qA (.load _ _); first | refine qLd 5 tabs rfl rfl rfl rfl rfl ?_ | refine q_y (y_load tabs rfl rfl (hc_w0 gas)) rfl ?_ | refine q_y (y_load tabs rfl rfl (hc_own 0 rfl (by rw [mkv_length]; exact hat))) rfl ?_ | refine q_y (y_load tabs rfl rfl (hc_w0 A7)) rfl ?_ | refine q_y (y_load tabs rfl rfl (hc_w0 hA2)) rfl ?_) | (show qA (.indexAddr _ _ _); first | refine q_y (y_ix1 tabs (j := s) rfl rfl rfl hs2 rfl hsl) rfl ?_ | refine q_y (y_ix1 tabs (j := offN a.d b.d t + r * v + j) rfl rfl rfl .mk rfl hat) rfl ?_ | refine q_y (y_ixa tabs rfl rfl rfl hs3 om om) rfl ?_ | refine q_y (y_ix1 tabs (j := j * z + k) rfl rfl rfl hsA rfl hA1) rfl ?_) | (show qA (.binOp _ _ _ _ _); first | refine q_y (y_muln (a := j) (b := z) rfl rfl rfl rfl om) rfl ?_ | refine q_y (y_addn (b := k) rfl rfl rfl rfl om) rfl ?_ | refine q_y (y_sub rfl rfl om) rfl ?_) | (show qA (.call _); refine q_call (ent_of Tryz.func110 kr rfl) rfl rfl (fun w c => l2Mod_ok om om) (fun u H' h => h.1) ?_)) | (show QT _ _ _ _ _ _ []; refine q_nil ?_) | (show AT _ _ _ _; first | refine x_then ?_ | refine x_blk ?_))
                      refine x_nx (j + 1) sB om (fun w' c' => ?_) om
                      simp only [List.set_cons_zero] at c'
                      have h' := row2_next (a := a) (b := b) (i := i) (r := r) (k := k) (j := j) (n := n)
                      rw [gAe, e1] at h'
                      rw [hgd, h'] at c'
                      exact c'
                    · have : j = v := by omega
                      subst this
                      have hrow : mkv n (row2 a b i r k j) = mkv n (eqE a b i r k) := by rw [← ev'']; rfl
                      rw [hrow]
                      have e3 := eqC_next (a := a) (b := b) (n := n) (i := i) (r := r) (k := k)
                      have hl1 : ((idxK a b i r (k + 1)).length : Int) = (idxK a b i r k).length + 1 := by rw [idxK_next, List.length_append, List.length_singleton]; omega
                      repeat' (first | (show oL; first | refine sMv rfl rfl ?_ | refine sAs rfl rfl ?_ | refine sFd tabs rfl rfl rfl rfl ?_ | (show oA (.load _ _); first | refine sLd 5 tabs rfl rfl rfl rfl rfl ?_ | refine st_y (y_load tabs rfl rfl (hc_w0 gat)) rfl ?_ | refine sLd 2 tabs rfl rfl rfl rfl rfl ?_) | (show oA (.indexAddr _ _ _); refine st_y (y_ix1 tabs (j := t) rfl rfl rfl hs2 rfl htl) rfl ?_) | (show oA (.binOp _ _ _ _ _); first | refine sAd rfl rfl om rfl ?_ | refine sLs rfl rfl rfl ?_) | (show oA (.call _); refine m_appi 1 tabs (ys := mkv n (eqE a b i r k)) rfl rfl rfl (by rw [mkv_length]; exact rfl) rfl (by rw [mkv_length]; omega) (fun w' c' => rd_src (by rw [mkv_length]; exact c'.own_rd (i := 0) rfl)) (fun a6 c6 => ?_)) | (show oA (.store _ _ _); refine m_storef 2 tabs rfl rfl rfl rfl rfl rfl ?_)) | (show oN; first | refine c_nil (x_then ?_) | refine c_nil ?_) | (show oC; first | refine c_seq ?_ | refine c_region ?_ | refine c_exit ?_ | refine c_iff rfl nN ?_) | (show AT _ _ _ _; first | refine x_then ?_ | refine x_then_exit ?_ | refine x_blk_exit rfl ?_ | refine x_blk ?_))
                      refine x_nx (k + 1, a6, c6) sB (by simp only; omega) (fun w' c' => ?_) (by simp only; omega)
                      simp only [← e3, List.length_append, hl1]
                      exact c'.sub (.cons_cons _ (.cons _ (List.Sublist.refl _)))
            · have : k = z := by omega
              subst this
              repeat' (first | (show oL; first | refine sMv rfl rfl ?_ | refine sAs rfl rfl ?_ | refine sFd tabs rfl rfl rfl rfl ?_ | (show oA (.load _ _); first | refine sLd 4 tabs rfl rfl rfl rfl rfl ?_ | refine st_y (y_load tabs rfl rfl (hc_w0 gas)) rfl ?_) | (show oA (.indexAddr _ _ _); refine st_y (y_ix1 tabs (j := s) rfl rfl rfl hs2 rfl hsl) rfl ?_) | (show oA (.binOp _ _ _ _ _); first | refine sAd rfl rfl om rfl ?_ | refine sLs rfl rfl rfl ?_)) | refine xNt ?_ | (show oC; first | refine c_seq ?_ | refine c_region ?_ | refine c_exit ?_ | refine c_iff rfl nN ?_) | (show AT _ _ _ _; first | refine x_then ?_ | refine x_then_exit ?_ | refine x_blk_exit rfl ?_ | refine x_blk ?_))
              refine x_nx (r + 1, al, cl) sB (by simp only; omega) (fun w' c' => ?_) (by simp only; omega)
              have e2 := idxK_end (a := a) (b := b) (i := i) (r := r)
              rw [ez'] at e2
              rw [e2] at c'
              exact c'
        · have : r = x := by omega
          subst this
          repeat' (first | (show oL; first | refine sMv rfl rfl ?_ | refine sAs rfl rfl ?_ | refine sFd tabs rfl rfl rfl rfl ?_ | (show oA (.load _ _); first | refine sLd 3 tabs rfl rfl rfl rfl rfl ?_ | refine st_y (y_load tabs rfl rfl (hc_w0 gbt)) rfl ?_) | (show oA (.indexAddr _ _ _); refine st_y (y_ix1 tabs (j := t) rfl rfl rfl hk2 rfl htl') rfl ?_) | (show oA (.binOp _ _ _ _ _); first | refine sAd rfl rfl om rfl ?_ | refine sLs rfl rfl rfl ?_)) | refine xNt ?_ | (show oC; first | refine c_seq ?_ | refine c_region ?_ | refine c_exit ?_ | refine c_iff rfl nN ?_) | (show AT _ _ _ _; first | refine x_then ?_ | refine x_then_exit ?_ | refine x_blk_exit rfl ?_ | refine x_blk ?_))
          refine x_nx (i + 1, al, cl) sB (by simp only; omega) (fun w' c' => ?_) (by simp only; omega)
          have e2 := idxR_end (a := a) (b := b) (i := i)
          rw [ex'] at e2
          rw [e2] at c'
          exact c'
    · have : i = a.m.length := by omega
      subst this
      rw [hml, eqC_end]
      refine AT.fact (own_sl 0 rfl) (fun hsl => ?_)
      obtain ⟨a4, c4, e4, hs4⟩ := hsl
      cases e4
      repeat' (first | (show oL; first | refine sMv rfl rfl ?_ | refine sFd tabs rfl rfl rfl rfl ?_ | (show oA (.load _ _); first | refine sLd 4 tabs rfl rfl rfl rfl rfl ?_ | refine sLb 1 tabs rfl rfl rfl rfl rfl ?_) | refine sLs rfl rfl rfl ?_ | refine sLn tabs rfl rfl rfl ?_ | (show oA (.store _ _ _); refine m_storeb 2 tabs rfl rfl rfl rfl rfl rfl rfl ?_)) | refine xNt ?_ | (show oC; first | refine c_seq ?_ | refine c_region ?_ | refine c_ret ?_ | refine c_exit ?_ | refine c_iff rfl nN ?_) | (show AT _ _ _ _; first | refine x_then ?_ | refine x_then_exit ?_ | refine x_blk_exit rfl ?_))
      exact x_ret1 Tryz.results202 (res_cellb 2 tabs rfl rfl rfl rfl) (fun w' c' => ⟨_, _, rfl, ⟨al, cl, by simp, by rw [← mk_length (f := eqsF a b)]; exact hs4, by simp⟩, c'.sub (.cons_cons _ (List.nil_sublist _))⟩)
end Go.Proofs.YtijjkfbkihgfgaaGreat

namespace Go.Proofs.YtijjkfbkihgfgaaGreat
open Go.Lg Go.Proofs Go.RowKit
attribute [local irreducible] Code.wp wpList bodyPost Exit.then Exit.inBlock Hp Again Calls Y AT ResV QT Qn QI wpAny wpAnyQ
set_option maxRecDepth 20000
set_option maxHeartbeats 4000000

theorem impl_CountMorphisms_ok {w : World} {a b : Rp} {e e' : Nat} {u0 u1 u2 u3 v0 v1 v2 v3 : Value} (h0 : Rd w (iT a.q.2.1) u0) (h1 : Rd w (iT a.q.2.2) u1) (h2 : Rd w (iT a.d) u2) (h3 : Rd w (matsT e a.m) u3) (k0 : Rd w (iT b.q.2.1) v0) (k1 : Rd w (iT b.q.2.2) v1) (k2 : Rd w (iT b.d) v2) (k3 : Rd w (matsT e' b.m) v3) :
    Does Tryz.prog 89 [.agg #[iV a.p, iV a.q.1, u0, u1, u2, u3], .agg #[iV b.p, iV b.q.1, v0, v1, v2, v3]] w (fun r H => r = iV (coV a b) ∧ H = []) := by
  by_cases hF : FitP a b
  · rw [coV, if_pos hF]
    have hN := homN_le hF
    refine fn_enter Tryz.func89 rfl Tryz.ntmps89 rfl ?_
    repeat' (first | (show oL; first | refine sAs rfl rfl ?_ | (show oA (.load _ _); first | refine sLb 0 tabs rfl rfl rfl rfl rfl ?_ | refine sLb 1 tabs rfl rfl rfl rfl rfl ?_) | (show oA (.unOp _ _ _); refine st_y (y_notd rfl) rfl ?_) | (show oA (.call _); (refine m_call (ent_of Tryz.func164 kr rfl) rfl rfl (fun w c => fit_ok (a := a) (b := b) (c.rd h0) (c.rd h1) (c.rd h2) (c.rd h3) (c.rd k0) (c.rd k1) (c.rd k2) (c.rd k3)) ?_; rintro v H' ⟨rfl, rfl⟩)) | (show oA (.box _ _); refine m_box rfl rfl (fun b4 hb4 => ?_))) | refine xNt ?_ | (show oC; first | refine c_seq ?_ | refine c_region ?_ | refine c_skip (x_then ?_) | refine c_iff rfl nN ?_))
    all_goals first | exact absurd hF aS | skip
    rename_i b3 hb3
    refine c_all (Hp [] w [.blk b4 #[iV b.p, iV b.q.1, v0, v1, v2, v3] 60, .blk b3 #[iV a.p, iV a.q.1, u0, u1, u2, u3] 60]) kr (fun _ c => Hp.drew c) ?_
    refine h_take 0 rfl kr kr kr (by exact y_field tabs rfl rfl rfl) rfl (fun _ c => c) ?_
    refine h_take 1 rfl kr kr kr (by exact y_load tabs rfl rfl (hc_blk 1 rfl rfl)) rfl (fun _ c => c) ?_
    refine h_take 2 rfl kr kr kr (by exact y_loadb 1 tabs rfl rfl rfl rfl) rfl (fun _ c => c) ?_
    refine h_take 3 rfl kr kr kr (by exact y_loadb 0 tabs rfl rfl rfl rfl) rfl (fun _ c => c) ?_
    refine h_only 4 rfl kr ?_
    first | (refine m_call (ent_of Tryz.func180 kr rfl) rfl rfl (fun w c => homDim_ok (a := a) (b := b) (c.rd h0) (c.rd h1) (c.rd h2) (c.rd h3) (c.rd k2) (c.rd k3) hF) ?_; rintro v H' ⟨rfl, rfl⟩) | (refine m_call (ent_of Tryz.func204 kr rfl) rfl rfl (fun w c => countHoms_ok (n := homN a b) hF.1.1 om) ?_; rintro v H' ⟨⟨x, rfl, hx⟩, rfl⟩)
    refine c_nil (x_one (h_keep (fun _ c => c) ?_))
    refine h_only 5 rfl kr ?_
    first | (refine m_call (ent_of Tryz.func180 kr rfl) rfl rfl (fun w c => homDim_ok (a := a) (b := b) (c.rd h0) (c.rd h1) (c.rd h2) (c.rd h3) (c.rd k2) (c.rd k3) hF) ?_; rintro v H' ⟨rfl, rfl⟩) | (refine m_call (ent_of Tryz.func204 kr rfl) rfl rfl (fun w c => countHoms_ok (n := homN a b) hF.1.1 om) ?_; rintro v H' ⟨⟨x, rfl, hx⟩, rfl⟩)
    refine c_nil (x_one (h_keep (fun _ c => c) ?_))
    refine h_take 6 rfl kr kr kr (by exact y_assign rfl) rfl (fun _ c => c) ?_
    refine h_end kr ?_
    by_cases hc : powI a.p (homN a b) ≤ 100000
    · have hxv : x = powI a.p (homN a b) := by rcases hx with h | h; · exact h.2
                                               · omega
      rw [cntN, if_pos hc]
      repeat' (first | (show oL; first | refine sMv rfl rfl ?_ | refine sAs rfl rfl ?_ | (show oA (.binOp _ _ _ _ _); refine st_y (y_leq rfl rfl) rfl ?_)) | refine xNt ?_ | (show oC; first | refine c_seq ?_ | refine c_region ?_ | refine c_ret ?_ | refine c_ift rfl aO ?_) | (show AT _ _ _ _; first | refine x_then ?_ | refine x_then_ret ?_))
      all_goals first | (exfalso; omega) | skip
      exact x_ret1 Tryz.results89 (res_tmp rfl) (fun w' c' => ⟨_, _, rfl, ⟨by rw [hxv], rfl⟩, c'.sub (List.nil_sublist _)⟩)
    · have hxv : 100000 < x := by rcases hx with h | h; · omega
                                  · exact h.2
      rw [cntN, if_neg hc]
      repeat' (first | (show oL; first | refine sMv rfl rfl ?_ | refine sAs rfl rfl ?_ | (show oA (.binOp _ _ _ _ _); refine st_y (y_leq rfl rfl) rfl ?_)) | refine xNt ?_ | (show oC; first | refine c_seq ?_ | refine c_region ?_ | refine c_skip (x_then ?_) | refine c_ret ?_ | refine c_iff rfl nN ?_) | (show AT _ _ _ _; refine x_then ?_))
      all_goals first | (exfalso; omega) | skip
      exact x_ret1 Tryz.results89 (res_tmp rfl) (fun w' c' => ⟨_, _, rfl, ⟨rfl, rfl⟩, c'.sub (List.nil_sublist _)⟩)
  · rw [coV, if_neg hF]
    refine fn_enter Tryz.func89 rfl Tryz.ntmps89 rfl ?_
    repeat' (first | (show oL; first | refine sAs rfl rfl ?_ | (show oA (.load _ _); first | refine sLb 0 tabs rfl rfl rfl rfl rfl ?_ | refine sLb 1 tabs rfl rfl rfl rfl rfl ?_) | (show oA (.unOp _ _ _); refine st_y (y_notd rfl) rfl ?_) | (show oA (.call _); (refine m_call (ent_of Tryz.func164 kr rfl) rfl rfl (fun w c => fit_ok (a := a) (b := b) (c.rd h0) (c.rd h1) (c.rd h2) (c.rd h3) (c.rd k0) (c.rd k1) (c.rd k2) (c.rd k3)) ?_; rintro v H' ⟨rfl, rfl⟩)) | (show oA (.box _ _); refine m_box rfl rfl (fun b4 hb4 => ?_))) | refine xNt ?_ | (show oC; first | refine c_seq ?_ | refine c_region ?_ | refine c_ret ?_ | refine c_ift rfl aO ?_) | (show AT _ _ _ _; refine x_then_ret ?_))
    all_goals first | exact absurd aS hF | skip
    exact x_ret1 Tryz.results89 (res_tmp rfl) (fun w' c' => ⟨_, _, rfl, ⟨rfl, rfl⟩, c'.sub (List.nil_sublist _)⟩)
theorem spec_HomBasis_ok {w : World} {a b : Rp} {e e' : Nat} {u0 u1 u2 u3 v0 v1 v2 v3 : Value} (h0 : Rd w (iT a.q.2.1) u0) (h1 : Rd w (iT a.q.2.2) u1) (h2 : Rd w (iT a.d) u2) (h3 : Rd w (matsT e a.m) u3) (k0 : Rd w (iT b.q.2.1) v0) (k1 : Rd w (iT b.q.2.2) v1) (k2 : Rd w (iT b.d) v2) (k3 : Rd w (matsT e' b.m) v3) :
    Does Tryz.prog 87 [.agg #[iV a.p, iV a.q.1, u0, u1, u2, u3], .agg #[iV b.p, iV b.q.1, v0, v1, v2, v3]] w (GivesMssB (homB a b) (decide (FitP a b))) := by
  by_cases hF : FitP a b
  · rw [homB, if_pos hF, decide_eq_true hF]
    have hn := off_le hF
    have hI := idx_le hF
    have hdl := (RepP.dd hF.1).2
    have hKn := hkL_length (a := a) (b := b)
    have hN := homN_le hF
    have hKr := hkL_len (a := a) (b := b)
    refine fn_enter Tryz.func87 rfl Tryz.ntmps87 rfl ?_
    repeat' (first | (show oL; first | refine sAs rfl rfl ?_ | (show oA (.load _ _); first | refine sLb 1 tabs rfl rfl rfl rfl rfl ?_ | refine sLb 2 tabs rfl rfl rfl rfl rfl ?_) | (show oA (.unOp _ _ _); refine st_y (y_notd rfl) rfl ?_) | (show oA (.call _); (refine m_call (ent_of Tryz.func165 kr rfl) rfl rfl (fun w c => l9Fit_ok (a := a) (b := b) (c.rd h0) (c.rd h1) (c.rd h2) (c.rd h3) (c.rd k0) (c.rd k1) (c.rd k2) (c.rd k3)) ?_; rintro v H' ⟨rfl, rfl⟩)) | (show oA (.box _ _); refine m_box rfl rfl (fun b4 hb4 => ?_)) | (show oA (.buildSlice _ _ _); refine m_build0 tabs rfl rfl (fun g hg => ?_))) | refine xNt ?_ | (show oC; first | refine c_seq ?_ | refine c_region ?_ | refine c_skip (x_then ?_) | refine c_iff rfl nN ?_))
    all_goals first | exact absurd hF aS | skip
    rename_i b3 hb3
    refine c_all (Hp [] w [.blk b4 #[iV b.p, iV b.q.1, v0, v1, v2, v3] 60, .blk b3 #[iV a.p, iV a.q.1, u0, u1, u2, u3] 60]) kr (fun _ c => Hp.drew c) ?_
    refine h_take 0 rfl kr kr kr (by exact y_field tabs rfl rfl rfl) rfl (fun w c => by exact c.drop) ?_
    refine h_take 1 rfl kr kr kr (by exact y_load tabs rfl rfl (hc_blk 1 rfl rfl)) rfl (fun w c => by exact c.drop) ?_
    refine h_take 2 rfl kr kr kr (by exact y_loadb 1 tabs rfl rfl rfl rfl) rfl (fun w c => by exact c.drop) ?_
    refine h_take 3 rfl kr kr kr (by exact y_loadb 0 tabs rfl rfl rfl rfl) rfl (fun w c => by exact c.drop) ?_
    refine h_only 4 rfl kr ?_
    first | (refine m_call (ent_of Tryz.func202 kr rfl) rfl rfl (fun w c => l11Equations_ok (a := a) (b := b) (c.rd h0) (c.rd h1) (c.rd h2) (c.rd h3) (c.rd k2) (c.rd k3) hF) ?_; rintro v H' ⟨ai, ci, rfl, hsi, rfl⟩) | (refine m_call (ent_of Tryz.func109 kr rfl) rfl rfl (fun w c => l4Kernel_ok (R := (idxN a b a.q.2.1.length).length) (C := offN a.d b.d a.d.length) (c.own_rd (i := 0) rfl) hF.1.1 om om (eqs_in hF.1.1)) ?_; rintro v H' ⟨ak, ck, rfl, hsk, rfl⟩)
    refine c_nil (x_one (h_keep (fun w c => by exact c.drop.drop) ?_))
    refine h_only 5 rfl kr ?_
    first | (refine m_call (ent_of Tryz.func202 kr rfl) rfl rfl (fun w c => l11Equations_ok (a := a) (b := b) (c.rd h0) (c.rd h1) (c.rd h2) (c.rd h3) (c.rd k2) (c.rd k3) hF) ?_; rintro v H' ⟨ai, ci, rfl, hsi, rfl⟩) | (refine m_call (ent_of Tryz.func109 kr rfl) rfl rfl (fun w c => l4Kernel_ok (R := (idxN a b a.q.2.1.length).length) (C := offN a.d b.d a.d.length) (c.own_rd (i := 0) rfl) hF.1.1 om om (eqs_in hF.1.1)) ?_; rintro v H' ⟨ak, ck, rfl, hsk, rfl⟩)
    refine c_nil (x_one (h_keep sS ?_))
    refine h_take 6 rfl kr kr kr (by exact y_assign rfl) rfl sS ?_
    refine h_end kr ?_
    repeat' (first | (show oL; first | refine sAs rfl rfl ?_) | refine xNt ?_ | (show oC; first | refine c_seq ?_ | refine c_region ?_ | refine c_block ?_) | (show AT _ _ _ _; refine x_then ?_))
    have eK : kerL a.p (offN a.d b.d a.d.length) (redTo a.p (idxN a b a.q.2.1.length).length (eqsF a b) (offN a.d b.d a.d.length)).1 (redTo a.p (idxN a b a.q.2.1.length).length (eqsF a b) (offN a.d b.d a.d.length)).2 (freeN (redTo a.p (idxN a b a.q.2.1.length).length (eqsF a b) (offN a.d b.d a.d.length)).2 (offN a.d b.d a.d.length)) = hkL a b := rfl
    rw [eK] at hsk ⊢
    generalize hkL a b = K at *
    refine AT.opn 0 rfl (fun us hus => ?_)
    rw [rowT_map, List.length_map] at hus
    rw [rowT_map]
    refine c_loopH (α := Nat × Option Addr × Nat) [2, 3, 7] (fun s => [(6, .slice s.2.1 s.1 s.2.2), (8, .int .i64 s.1)]) (fun s => s.1 ≤ K.length) (fun s => [.own (mssT 58 47 ((K.take s.1).map (cutL a.d b.d))) (.slice s.2.1 s.1 s.2.2), .own (.s 43 1 (us.map T.c)) (.slice ak K.length ck), .ownL (K.map iT) us, .blk b4 #[iV b.p, iV b.q.1, v0, v1, v2, v3] 60, .blk b3 #[iV a.p, iV a.q.1, u0, u1, u2, u3] 60]) (fun s => K.length - s.1) (0, some ⟨g, 0, none⟩, 0) rfl sB ?_ ?_ ?_
    · exact Nat.zero_le _
    · exact fun w' c' => (c'.front (i := 3) rfl).sub sL
    · rintro ⟨i, al, cl⟩ hi
      simp only at hi ⊢
      by_cases hin : i < K.length
      · obtain ⟨ks, hks⟩ : ∃ ks, K[i]? = some ks := ⟨_, List.getElem?_eq_getElem hin⟩
        obtain ⟨uk, huk⟩ : ∃ uk, us[i]? = some uk := ⟨_, List.getElem?_eq_getElem om⟩
        have hkl := hKr ks (List.mem_of_getElem? hks)
        have hki' : (K.map iT)[i]? = some (iT ks) := by rw [List.getElem?_map, hks]; rfl
        have hln : ((K.take i).map (cutL a.d b.d)).length = i := by simp; omega
        repeat' (first | (show oL; first | refine sMv rfl rfl ?_ | refine sLs rfl rfl rfl ?_ | refine sLn tabs rfl rfl rfl ?_) | refine xNt ?_ | (show oC; first | refine c_seq ?_ | refine c_region ?_ | refine c_skip (x_then ?_) | refine c_block ?_ | refine c_ift rfl aO ?_))
        refine c_all (Hp [] w [.own (.s 43 1 (us.map T.c)) (.slice ak K.length ck), .ownL (K.map iT) us, .blk b4 #[iV b.p, iV b.q.1, v0, v1, v2, v3] 60, .blk b3 #[iV a.p, iV a.q.1, u0, u1, u2, u3] 60]) kr (fun _ c => Hp.drew c) ?_
        refine h_take 0 rfl kr kr kr (by exact y_move rfl) rfl (fun w c => by exact c.drop) ?_
        refine h_take 1 rfl kr kr kr (by exact y_loadb 3 tabs rfl rfl rfl rfl) rfl (fun w c => by exact c.drop) ?_
        refine h_take 2 rfl kr kr kr (by exact y_loadb 2 tabs rfl rfl rfl rfl) rfl (fun w c => by exact c.drop) ?_
        refine h_take 3 rfl kr kr kr (by exact y_move rfl) rfl (fun w c => by exact c.drop) ?_
        refine h_take 4 rfl kr kr kr (by exact y_move rfl) rfl (fun w c => by exact c.drop) ?_
        refine h_take 5 rfl kr kr kr (by exact y_ix1 tabs (j := i) rfl rfl rfl hsk rfl hin) rfl (fun w c => by exact c.drop) ?_
        refine h_take 6 rfl kr kr kr (by exact y_load tabs rfl rfl (hc_nm 0 rfl huk)) rfl (fun w c => by exact c.drop) ?_
        refine h_only 7 rfl kr ?_
        first | (refine m_build1 tabs (us := [.slice a5 (cutL a.d b.d ks).length c5]) rfl rfl rfl rfl (by decide) rfl (fun g2 hg2 => ?_)) | (refine m_call (ent_of Tryz.func203 kr rfl) rfl rfl (fun w c => l11Cells_ok (a := a) (b := b) (xs := ks) (c.rd h2) (c.rd k2) (Hp.ownL_rd 2 rfl hki' huk c) hF hkl) ?_; rintro v H' ⟨a5, c5, rfl, hs5, rfl⟩) | (refine m_push1 [] 0 0 tabs (m' := i) rfl rfl rfl rfl rfl rfl rfl (by rw [flatMap_length (msT_length _), hln]) (by rw [flatMap_length (msT_length _), hln]; omega) (by decide) rfl rfl (fun a3 c3 => ?_))
        refine c_nil (x_one (h_keep (fun w c => by exact c.drop.drop) ?_))
        refine h_only 8 rfl kr ?_
        first | (refine m_build1 tabs (us := [.slice a5 (cutL a.d b.d ks).length c5]) rfl rfl rfl rfl (by decide) rfl (fun g2 hg2 => ?_)) | (refine m_call (ent_of Tryz.func203 kr rfl) rfl rfl (fun w c => l11Cells_ok (a := a) (b := b) (xs := ks) (c.rd h2) (c.rd k2) (Hp.ownL_rd 2 rfl hki' huk c) hF hkl) ?_; rintro v H' ⟨a5, c5, rfl, hs5, rfl⟩) | (refine m_push1 [] 0 0 tabs (m' := i) rfl rfl rfl rfl rfl rfl rfl (by rw [flatMap_length (msT_length _), hln]) (by rw [flatMap_length (msT_length _), hln]; omega) (by decide) rfl rfl (fun a3 c3 => ?_))
        refine c_nil (x_one (h_keep sS ?_))
        refine h_only 9 rfl kr ?_
        first | (refine m_build1 tabs (us := [.slice a5 (cutL a.d b.d ks).length c5]) rfl rfl rfl rfl (by decide) rfl (fun g2 hg2 => ?_)) | (refine m_call (ent_of Tryz.func203 kr rfl) rfl rfl (fun w c => l11Cells_ok (a := a) (b := b) (xs := ks) (c.rd h2) (c.rd k2) (Hp.ownL_rd 2 rfl hki' huk c) hF hkl) ?_; rintro v H' ⟨a5, c5, rfl, hs5, rfl⟩) | (refine m_push1 [] 0 0 tabs (m' := i) rfl rfl rfl rfl rfl rfl rfl (by rw [flatMap_length (msT_length _), hln]) (by rw [flatMap_length (msT_length _), hln]; omega) (by decide) rfl rfl (fun a3 c3 => ?_))
        refine c_nil (x_one (h_keep (fun w c => by exact c.drop) ?_))
        refine h_take 10 rfl kr kr kr (by exact y_assign rfl) rfl (fun w c => by exact c.drop) ?_
        refine h_end kr ?_
        repeat' (first | (show oL; first | refine sMv rfl rfl ?_ | refine sAs rfl rfl ?_ | refine sAd rfl rfl om rfl ?_) | refine xNt ?_ | (show oC; refine c_region ?_) | (show AT _ _ _ _; first | refine x_then ?_ | refine x_blk ?_))
        refine x_nx (i + 1, a3, c3) sB (by simp only; omega) (fun w' c' => ?_) (by simp only; omega)
        rw [mss_next hks] at c'
        exact c'
      · have : i = K.length := by omega
        subst this
        rw [List.take_length]
        refine AT.fact (mss_sl 0 rfl) (fun hsl => ?_)
        rw [List.length_map] at hsl
        repeat' (first | (show oL; first | refine sMv rfl rfl ?_ | refine sAs rfl rfl ?_ | refine sLs rfl rfl rfl ?_ | refine sLn tabs rfl rfl rfl ?_) | refine xNt ?_ | (show oC; first | refine c_seq ?_ | refine c_region ?_ | refine c_ret ?_ | refine c_exit ?_ | refine c_iff rfl nN ?_) | (show AT _ _ _ _; first | refine x_then ?_ | refine x_then_exit ?_ | refine x_blk_exit rfl ?_))
        exact x_ret2 Tryz.results87 (res_tmp rfl) (res_tmp rfl) (fun w' c' => ⟨_, _, rfl, ⟨al, cl, by rw [List.length_map], by rw [List.length_map]; exact hsl, by rw [List.length_map]⟩, c'.sub sL⟩)
  · rw [homB, if_neg hF, decide_eq_false hF]
    refine fn_enter Tryz.func87 rfl Tryz.ntmps87 rfl ?_
    repeat' (first | (show oL; first | refine sMv rfl rfl ?_ | refine sAs rfl rfl ?_ | (show oA (.load _ _); first | refine sLb 1 tabs rfl rfl rfl rfl rfl ?_ | refine sLb 2 tabs rfl rfl rfl rfl rfl ?_) | (show oA (.unOp _ _ _); refine st_y (y_notd rfl) rfl ?_) | (show oA (.call _); (refine m_call (ent_of Tryz.func165 kr rfl) rfl rfl (fun w c => l9Fit_ok (a := a) (b := b) (c.rd h0) (c.rd h1) (c.rd h2) (c.rd h3) (c.rd k0) (c.rd k1) (c.rd k2) (c.rd k3)) ?_; rintro v H' ⟨rfl, rfl⟩)) | (show oA (.box _ _); refine m_box rfl rfl (fun b4 hb4 => ?_)) | (show oA (.buildSlice _ _ _); refine m_build0 tabs rfl rfl (fun g hg => ?_))) | refine xNt ?_ | (show oC; first | refine c_seq ?_ | refine c_region ?_ | refine c_ret ?_ | refine c_ift rfl aO ?_) | (show AT _ _ _ _; refine x_then_ret ?_))
    all_goals first | exact absurd aS hF | skip
    exact x_ret2 Tryz.results87 (res_tmp rfl) (res_tmp rfl) (fun w' c' => ⟨_, _, rfl, ⟨_, 0, rfl, .inl rfl, rfl⟩, c'.sub (.cons_cons _ (List.nil_sublist _))⟩)
theorem spec_HomDim_ok {w : World} {a b : Rp} {e e' : Nat} {u0 u1 u2 u3 v0 v1 v2 v3 : Value} (h0 : Rd w (iT a.q.2.1) u0) (h1 : Rd w (iT a.q.2.2) u1) (h2 : Rd w (iT a.d) u2) (h3 : Rd w (matsT e a.m) u3) (k0 : Rd w (iT b.q.2.1) v0) (k1 : Rd w (iT b.q.2.2) v1) (k2 : Rd w (iT b.d) v2) (k3 : Rd w (matsT e' b.m) v3) :
    Does Tryz.prog 205 [.agg #[iV a.p, iV a.q.1, u0, u1, u2, u3], .agg #[iV b.p, iV b.q.1, v0, v1, v2, v3]] w (fun r H => r = iV (hdV a b) ∧ H = []) := by
  by_cases hF : FitP a b
  · have hl : (homB a b).length = homN a b := by rw [homB, if_pos hF, List.length_map, hkL_length]
    rw [hdV, if_pos hF, ← hl]
    refine fn_enter Tryz.func205 rfl Tryz.ntmps205 rfl ?_
    repeat' (first | (show oL; first | refine sMv rfl rfl ?_ | refine sAs rfl rfl ?_ | (show oA (.load _ _); first | refine sLb 0 tabs rfl rfl rfl rfl rfl ?_ | refine sLb 1 tabs rfl rfl rfl rfl rfl ?_) | (show oA (.unOp _ _ _); refine st_y (y_notd rfl) rfl ?_) | (show oA (.call _); first | (refine m_call (ent_of Tryz.func87 kr rfl) rfl rfl (fun w c => spec_HomBasis_ok (a := a) (b := b) (c.rd h0) (c.rd h1) (c.rd h2) (c.rd h3) (c.rd k0) (c.rd k1) (c.rd k2) (c.rd k3)) ?_; rintro v H' ⟨am, cm, rfl, hs, rfl⟩) | refine sLn tabs rfl rfl rfl ?_) | (show oA (.extract _ _); refine st_y (y_ext rfl rfl) rfl ?_) | (show oA (.box _ _); refine m_box rfl rfl (fun b4 hb4 => ?_))) | refine xNt ?_ | (show oC; first | refine c_seq ?_ | refine c_region ?_ | refine c_skip (x_then ?_) | refine c_ret ?_ | refine c_iff rfl nN ?_))
    all_goals first | exact absurd hF (by simpa using aS) | skip
    exact x_ret1 Tryz.results205 (res_tmp rfl) (fun w' c' => ⟨_, _, rfl, ⟨rfl, rfl⟩, c'.sub (List.nil_sublist _)⟩)
  · rw [hdV, if_neg hF]
    refine fn_enter Tryz.func205 rfl Tryz.ntmps205 rfl ?_
    repeat' (first | (show oL; first | refine sMv rfl rfl ?_ | refine sAs rfl rfl ?_ | (show oA (.load _ _); first | refine sLb 0 tabs rfl rfl rfl rfl rfl ?_ | refine sLb 1 tabs rfl rfl rfl rfl rfl ?_) | (show oA (.unOp _ _ _); refine st_y (y_notd rfl) rfl ?_) | (show oA (.call _); (refine m_call (ent_of Tryz.func87 kr rfl) rfl rfl (fun w c => spec_HomBasis_ok (a := a) (b := b) (c.rd h0) (c.rd h1) (c.rd h2) (c.rd h3) (c.rd k0) (c.rd k1) (c.rd k2) (c.rd k3)) ?_; rintro v H' ⟨am, cm, rfl, hs, rfl⟩)) | (show oA (.extract _ _); refine st_y (y_ext rfl rfl) rfl ?_) | (show oA (.box _ _); refine m_box rfl rfl (fun b4 hb4 => ?_))) | refine xNt ?_ | (show oC; first | refine c_seq ?_ | refine c_region ?_ | refine c_ret ?_ | refine c_ift rfl aO ?_) | (show AT _ _ _ _; refine x_then_ret ?_))
    all_goals first | exact absurd (by first | assumption | simpa using aS) hF | skip
    exact x_ret1 Tryz.results205 (res_tmp rfl) (fun w' c' => ⟨_, _, rfl, ⟨rfl, rfl⟩, c'.sub (List.nil_sublist _)⟩)
theorem spec_CountMorphisms_ok {w : World} {a b : Rp} {e e' : Nat} {u0 u1 u2 u3 v0 v1 v2 v3 : Value} (h0 : Rd w (iT a.q.2.1) u0) (h1 : Rd w (iT a.q.2.2) u1) (h2 : Rd w (iT a.d) u2) (h3 : Rd w (matsT e a.m) u3) (k0 : Rd w (iT b.q.2.1) v0) (k1 : Rd w (iT b.q.2.2) v1) (k2 : Rd w (iT b.d) v2) (k3 : Rd w (matsT e' b.m) v3) :
    Does Tryz.prog 90 [.agg #[iV a.p, iV a.q.1, u0, u1, u2, u3], .agg #[iV b.p, iV b.q.1, v0, v1, v2, v3]] w (fun r H => r = iV (coV a b) ∧ H = []) := by
  by_cases hF : FitP a b
  · have hp := fieldP_pos hF.1.1
    have hN := homN_le hF
    have hv : hdV a b = homN a b := by rw [hdV, if_pos hF]
    rw [coV, if_pos hF]
    refine fn_enter Tryz.func90 rfl Tryz.ntmps90 rfl ?_
    repeat' (first | (show oL; first | refine sMv rfl rfl ?_ | refine sAs rfl rfl ?_ | (show oA (.load _ _); first | refine sLb 0 tabs rfl rfl rfl rfl rfl ?_ | refine sLb 1 tabs rfl rfl rfl rfl rfl ?_) | refine sLs rfl rfl rfl ?_ | (show oA (.call _); (refine m_call (ent_of Tryz.func205 kr rfl) rfl rfl (fun w c => spec_HomDim_ok (a := a) (b := b) (c.rd h0) (c.rd h1) (c.rd h2) (c.rd h3) (c.rd k0) (c.rd k1) (c.rd k2) (c.rd k3)) ?_; rintro v H' ⟨rfl, rfl⟩; rw [hv])) | (show oA (.box _ _); refine m_box rfl rfl (fun b4 hb4 => ?_))) | refine xNt ?_ | (show oC; first | refine c_seq ?_ | refine c_region ?_ | refine c_skip (x_then ?_) | refine c_block ?_ | refine c_false rfl ?_))
    all_goals first | (exfalso; omega) | skip
    rename_i b3 hb3
    refine c_loopH (α := Nat) [2, 5] (fun i => [(6, iV (powI a.p i)), (7, .int .i64 i)]) (fun i => i ≤ homN a b ∧ powI a.p i ≤ 100000) (fun i => [.blk b3 #[iV a.p, iV a.q.1, u0, u1, u2, u3] 60]) (fun i => homN a b - i) 0 rfl sB ?_ ?_ ?_
    · exact ⟨Nat.zero_le _, by rw [powI]; omega⟩
    · exact fun w' c' => c'.sub sL
    · rintro i ⟨hi, hb⟩
      have h1' := powI_pos hp.1 i
      by_cases hin : i < homN a b
      · have hm := powI_bd hF.1.1 hb
        have h2' := powI_pos hp.1 (i + 1)
        have hmo := powI_mono hp.1 (i := i + 1) (j := homN a b) hin
        have e : powI a.p (i + 1) = powI a.p i * a.p := rfl
        rw [e] at hm h2' hmo
        by_cases hc : powI a.p i * a.p ≤ 100000
        · repeat' (first | (show oL; first | refine sMv rfl rfl ?_ | refine sAs rfl rfl ?_ | refine sFd tabs rfl rfl rfl rfl ?_ | refine sLd 0 tabs rfl rfl rfl rfl rfl ?_ | (show oA (.binOp _ _ _ _ _); first | refine st_y (y_mul rfl rfl om) rfl ?_ | refine sAd rfl rfl om rfl ?_ | refine sLs rfl rfl rfl ?_ | refine st_y (y_gtr rfl rfl) rfl ?_)) | refine xNt ?_ | (show oC; first | refine c_seq ?_ | refine c_region ?_ | refine c_skip (x_then ?_) | refine c_skip (x_blk ?_) | refine c_block ?_ | refine c_ift rfl aO ?_ | refine c_iff rfl nN ?_) | (show AT _ _ _ _; refine x_then ?_))
          all_goals first | (exfalso; omega) | skip
          exact x_nx (i + 1) (by rw [e]; exact sB) ⟨by omega, by rw [e]; omega⟩ (fun w' c' => c') om
        · rw [cntN, if_neg om]
          repeat' (first | (show oL; first | refine sMv rfl rfl ?_ | refine sAs rfl rfl ?_ | refine sFd tabs rfl rfl rfl rfl ?_ | refine sLd 0 tabs rfl rfl rfl rfl rfl ?_ | (show oA (.binOp _ _ _ _ _); first | refine st_y (y_mul rfl rfl om) rfl ?_ | refine sLs rfl rfl rfl ?_ | refine st_y (y_gtr rfl rfl) rfl ?_)) | refine xNt ?_ | (show oC; first | refine c_seq ?_ | refine c_region ?_ | refine c_skip (x_then ?_) | refine c_block ?_ | refine c_ret ?_ | refine c_ift rfl aO ?_) | (show AT _ _ _ _; first | refine x_then_ret ?_ | refine x_blk_ret ?_))
          all_goals first | (exfalso; omega) | skip
          exact x_ret1 Tryz.results90 (res_tmp rfl) (fun w' c' => ⟨_, _, rfl, ⟨rfl, rfl⟩, c'.sub (List.nil_sublist _)⟩)
      · have : i = homN a b := by omega
        subst this
        rw [cntN, if_pos hb]
        repeat' (first | (show oL; first | refine sMv rfl rfl ?_ | refine sAs rfl rfl ?_ | refine sLs rfl rfl rfl ?_) | refine xNt ?_ | (show oC; first | refine c_seq ?_ | refine c_region ?_ | refine c_ret ?_ | refine c_exit ?_ | refine c_iff rfl nN ?_) | (show AT _ _ _ _; first | refine x_then ?_ | refine x_then_exit ?_ | refine x_blk_exit rfl ?_))
        exact x_ret1 Tryz.results90 (res_tmp rfl) (fun w' c' => ⟨_, _, rfl, ⟨rfl, rfl⟩, c'.sub (List.nil_sublist _)⟩)
  · have hv : hdV a b = -1 := by rw [hdV, if_neg hF]
    rw [coV, if_neg hF]
    refine fn_enter Tryz.func90 rfl Tryz.ntmps90 rfl ?_
    repeat' (first | (show oL; first | refine sMv rfl rfl ?_ | refine sAs rfl rfl ?_ | (show oA (.load _ _); first | refine sLb 0 tabs rfl rfl rfl rfl rfl ?_ | refine sLb 1 tabs rfl rfl rfl rfl rfl ?_) | refine sLs rfl rfl rfl ?_ | (show oA (.call _); (refine m_call (ent_of Tryz.func205 kr rfl) rfl rfl (fun w c => spec_HomDim_ok (a := a) (b := b) (c.rd h0) (c.rd h1) (c.rd h2) (c.rd h3) (c.rd k0) (c.rd k1) (c.rd k2) (c.rd k3)) ?_; rintro v H' ⟨rfl, rfl⟩; rw [hv])) | (show oA (.box _ _); refine m_box rfl rfl (fun b4 hb4 => ?_))) | refine xNt ?_ | (show oC; first | refine c_seq ?_ | refine c_region ?_ | refine c_ret ?_ | refine c_true rfl ?_) | (show AT _ _ _ _; refine x_then_ret ?_))
    all_goals first | (exfalso; omega) | skip
    all_goals exact x_ret1 Tryz.results90 (res_tmp rfl) (fun w' c' => ⟨_, _, rfl, ⟨rfl, rfl⟩, c'.sub (List.nil_sublist _)⟩)
end Go.Proofs.YtijjkfbkihgfgaaGreat
