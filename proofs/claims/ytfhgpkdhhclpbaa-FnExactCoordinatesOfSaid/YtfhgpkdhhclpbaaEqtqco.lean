import Derived.Test.YtfhgpkdhhclpbaaEqsqco
import Derived.Test.YtfhgpkdhhclpbaaMxfqco
namespace Go.Proofs.Ytfhgpkdhhclpbaa
open Go.Lg Go.Proofs Go.RowKit
theorem y_bld12 {P : Program} {n : Nat} {C : World → Prop} {s : List (Nat × Value)} {t ty : Nat} {x0 x1 : Operand} {v0 v1 v : Value} (hb : ∀ w, (Instr.build t #[(1, v0), (2, v1)]).run P w = .ok v w) (h0 : ev s x0 = some v0) (h1 : ev s x1 = some v1) : Y P n C s (.build t #[(1, x0), (2, x1)]) ty v := fun a w f c d pos af g => by
  simp [execOp, f.ev h0, f.ev h1, hb]
attribute [local irreducible] Code.wp wpList bodyPost Exit.then Exit.inBlock Hp Again Calls Y AT ResV QT Qn QI wpAny wpAnyQ
set_option maxRecDepth 20000
set_option maxHeartbeats 4000000

theorem bld_mat12 (k : Int) (a : Option Addr) (m c : Nat) (w : World) : (Instr.build 81 #[(1, iV k), (2, .slice a m c)]).run Try.prog w = .ok (.agg #[iV 0, iV k, .slice a m c]) w := by kernel_rfl
/-- what there is at an arrow of two representations that fit -/
theorem eq_at {a b : Rp} {i : Nat} (hF : FitP a b) (hi : i < a.q.2.1.length) : ∃ (s t x y z v : Nat) (A B : Mat), a.q.2.1.getD i 0 = s ∧ a.q.2.2.getD i 0 = t ∧ s < a.d.length ∧ t < a.d.length ∧ s < b.d.length ∧ t < b.d.length ∧ i < a.m.length ∧ i < b.m.length ∧ i < a.q.2.2.length ∧
    a.m[i]? = some A ∧ b.m[i]? = some B ∧ a.m.getD i mat0 = A ∧ b.m.getD i mat0 = B ∧ a.d.getD s 0 = z ∧ a.d.getD t 0 = v ∧ b.d.getD s 0 = y ∧ b.d.getD t 0 = x ∧ (x ≤ 4 ∧ y ≤ 4 ∧ z ≤ 4 ∧ v ≤ 4) ∧ CellsP a.p B x y ∧ CellsP a.p A v z ∧
    dN b.d (a.q.2.2.getD i 0) = x ∧ dN b.d (a.q.2.1.getD i 0) = y ∧ dN a.d (a.q.2.1.getD i 0) = z ∧ dN a.d (a.q.2.2.getD i 0) = v := by
  have hdl0 := hF.dl
  obtain ⟨hA, hB, hp, hq⟩ := hF
  have hQ := hA.2.1.1
  have hTl := hQ.2.2.1
  have hs := inP_get hQ.2.2.2.1 (i := i) hi
  have ht := inP_get hQ.2.2.2.2 (i := i) (by omega)
  have hdl := hA.2.1.2.1
  have hml := hA.2.2.1
  have hml' := hB.2.2.1
  rw [← hq] at hml'
  obtain ⟨s, es⟩ : ∃ s : Nat, a.q.2.1.getD i 0 = s := ⟨(a.q.2.1.getD i 0).toNat, by omega⟩
  obtain ⟨t, et⟩ : ∃ t : Nat, a.q.2.2.getD i 0 = t := ⟨(a.q.2.2.getD i 0).toNat, by omega⟩
  rw [es] at hs
  rw [et] at ht
  obtain ⟨A, hAi⟩ : ∃ m, a.m[i]? = some m := ⟨_, List.getElem?_eq_getElem (by omega)⟩
  obtain ⟨B, hBi⟩ : ∃ m, b.m[i]? = some m := ⟨_, List.getElem?_eq_getElem (by omega)⟩
  have gA : a.m.getD i mat0 = A := by rw [List.getD, hAi]; rfl
  have gB : b.m.getD i mat0 = B := by rw [List.getD, hBi]; rfl
  obtain ⟨a1, a2, a3⟩ := hA.2.2.2 i (by omega)
  obtain ⟨b1, b2, b3⟩ := hB.2.2.2 i (by omega)
  rw [← hq] at b2 b3
  rw [gA, es, Int.toNat_natCast] at a2
  rw [gA, et, Int.toNat_natCast] at a3
  rw [gB, es, Int.toNat_natCast] at b2
  rw [gB, et, Int.toNat_natCast] at b3
  rw [gA] at a1
  rw [gB, ← hp] at b1
  have d1 := hB.dg t
  have d2 := hB.dg s
  have d3 := hA.dg s
  have d4 := hA.dg t
  refine ⟨s, t, (b.d.getD t 0).toNat, (b.d.getD s 0).toNat, (a.d.getD s 0).toNat, (a.d.getD t 0).toNat, A, B, es, et, by omega, by omega, by omega, by omega, by omega, by omega, by omega, hAi, hBi, gA, gB, by omega, by omega, by omega, by omega, by omega, cellsP_of b1 (by omega) (by omega), cellsP_of a1 (by omega) (by omega), ?_, ?_, ?_, ?_⟩
  · simp only [dN, et, Int.toNat_natCast]
  · simp only [dN, es, Int.toNat_natCast]
  · simp only [dN, es, Int.toNat_natCast]
  · simp only [dN, et, Int.toNat_natCast]
theorem mat_cell {w : World} {p : Int} {m : Mat} {R C i j : Nat} {a : Option Addr} {c : Nat} (hr : Rd w (iT m.2.2) (.slice a m.2.2.length c)) (hc : CellsP p m R C) (hi : i < R) (hj : j < C) : i * C + j < m.2.2.length ∧ w.cell? ⟨ab a, ao a + (i * C + j), none⟩ = some (.int .i64 (matF m i j)) ∧ 0 ≤ matF m i j ∧ matF m i j < p := by
  obtain ⟨h1, h2, h3, h4⟩ := hc
  obtain ⟨_, _, e, _, _, _, hg⟩ := hr.ints
  cases e
  have hl : m.2.2.length = R * C := by rw [h3, mk_length]
  have hlt := cell_lt hi hj
  have hin := h4 i j hi hj
  refine ⟨by omega, ?_, hin.1, by omega⟩
  rw [hg _ (by omega), matF, h2, Int.toNat_natCast]
theorem l11Equations_ok {w : World} {a b : Rp} {e e' : Nat} {u0 u1 u2 u3 v0 v1 v2 v3 : Value} (h0 : Rd w (iT a.q.2.1) u0) (h1 : Rd w (iT a.q.2.2) u1) (h2 : Rd w (iT a.d) u2) (h3 : Rd w (matsT e a.m) u3) (k2 : Rd w (iT b.d) v2) (k3 : Rd w (matsT e' b.m) v3) (hF : FitP a b) :
    Does Try.prog 98 [.agg #[iV a.p, iV a.q.1, u0, u1, u2, u3], .agg #[iV b.p, iV b.q.1, v0, v1, v2, v3]] w (GivesK (idxN a b a.q.2.1.length).length (offN a.d b.d a.d.length) (eqsF a b)) := by
  have hp := fieldP_pos hF.1.1
  have hn := off_le hF
  have hI := idx_le hF
  have hml := hF.1.2.2.1
  have hql := hF.1.2.1.1.2.1
  have h20 := h2
  have k20 := k2
  obtain ⟨a0, c0, rfl, hs0, q1, q2, hg0⟩ := h0.ints
  obtain ⟨a1, c1, rfl, hs1, q3, q4, hg1⟩ := h1.ints
  obtain ⟨a2, c2, rfl, hs2, q5, q6, hg2⟩ := h2.ints
  obtain ⟨d2, f2, rfl, hk2, q7, q8, hh2⟩ := k2.ints
  obtain ⟨a3, c3, rfl, hs3, q9, q10, hg3⟩ := rd_mats h3
  obtain ⟨d3, f3, rfl, hk3, q11, q12, hh3⟩ := rd_mats k3
  obtain ⟨n, en⟩ : ∃ n, n = offN a.d b.d a.d.length := ⟨_, rfl⟩
  rw [← en] at hn ⊢
  refine fn_enter Try.func98 rfl Try.ntmps98 rfl ?_
  repeat' (first
    | (show AT _ _ _ (wpList _ _ _ (_ :: _)); first
       | (show AT _ _ _ (wpList _ _ _ (⟨_, Op.move _, _, _, _, _⟩ :: _)); refine st_y (y_move rfl) rfl ?_)
       | (show AT _ _ _ (wpList _ _ _ (⟨_, Op.assign _, _, _, _, _⟩ :: _)); refine st_y (y_assign rfl) rfl ?_)
       | (show AT _ _ _ (wpList _ _ _ (⟨_, Op.load _ _, _, _, _, _⟩ :: _)); first | refine st_y (y_loadb 1 tabs rfl rfl rfl rfl) rfl ?_ | refine st_y (y_loadb 2 tabs rfl rfl rfl rfl) rfl ?_)
       | (show AT _ _ _ (wpList _ _ _ (⟨_, Op.call _, _, _, _, _⟩ :: _)); (refine m_call (ent_of Try.func90 (by kernel_rfl) rfl) rfl rfl (fun w c => l11Size_ok (a := a) (b := b) (c.rd h20) (c.rd k20) hF) ?_; rintro v H' ⟨rfl, rfl⟩; rw [← en]))
       | (show AT _ _ _ (wpList _ _ _ (⟨_, Op.store _ _ _, _, _, _, _⟩ :: _)); refine m_storeb 0 tabs rfl rfl rfl rfl rfl rfl rfl ?_)
       | (show AT _ _ _ (wpList _ _ _ (⟨_, Op.box _ _, _, _, _, _⟩ :: _)); refine m_box rfl rfl (fun b4 hb4 => ?_))
       | (show AT _ _ _ (wpList _ _ _ (⟨_, Op.alloc _, _, _, _, _⟩ :: _)); refine m_alloc tabs rfl rfl (fun b5 hb5 => ?_))
       | (show AT _ _ _ (wpList _ _ _ (⟨_, Op.buildSlice _ _ _, _, _, _, _⟩ :: _)); refine m_build0 tabs rfl rfl (fun g hg => ?_))
       | (show AT _ _ _ (wpList _ _ _ (⟨_, Op.build _ _, _, _, _, _⟩ :: _)); refine st_y (y_bld12 (bld_mat12 _ _ _ _) rfl rfl) rfl ?_))
    | (show AT _ _ _ (wpList _ _ _ []); refine c_nil (x_then ?_))
    | (show AT _ _ _ (Code.wp _ _ _); first | refine c_seq ?_ | refine c_region ?_ | refine c_block ?_))
  rename_i b3 hb3 br hbr
  refine c_loopH (α := Nat × Option Addr × Nat) [2, 3, 4, 5, 6] (fun s => [(7, .int .i64 s.1)]) (fun s => s.1 ≤ a.m.length) (fun s => [.own (iT (eqC a b n (idxN a b s.1))) (.slice s.2.1 (eqC a b n (idxN a b s.1)).length s.2.2), .blk b5 #[iV (idxN a b s.1).length, iV n, .slice s.2.1 (eqC a b n (idxN a b s.1)).length s.2.2] 81, .blk br #[iV 0, iV 0, .slice none 0 0] 81, .blk b4 #[iV b.p, iV b.q.1, v0, v1, .slice d2 b.d.length f2, .slice d3 b.m.length f3] 35, .blk b3 #[iV a.p, iV a.q.1, .slice a0 a.q.2.1.length c0, .slice a1 a.q.2.2.length c1, .slice a2 a.d.length c2, .slice a3 a.m.length c3] 35]) (fun s => a.m.length - s.1) (0, some ⟨g, 0, none⟩, 0) rfl (by repeat' (first | exact Sub.nil | refine Sub.cons rfl ?_ | refine Sub.consi rfl (by omega) ?_)) ?_ ?_ ?_
  · exact Nat.zero_le _
  · exact fun w' c' => c'.swap
  · rintro ⟨i, al, cl⟩ hi
    simp only at hi ⊢
    by_cases hin : i < a.m.length
    · obtain ⟨s, t, x, y, z, v, A, B, es, et, hsl, htl, hsl', htl', _, hib, hiT, hAi, hBi, gAe, gBe, ez, ev', ey, ex, ⟨hx, hy, hz, hv⟩, hcB, hcA, ex', ey', ez', ev''⟩ := eq_at (i := i) hF (by omega)
      have hin1 : i < a.q.2.1.length := by omega
      have gF := hg0 i hin1
      rw [es] at gF
      have gT := hg1 i hiT
      rw [et] at gT
      have gas := hg2 s hsl
      rw [ez] at gas
      have gat := hg2 t htl
      rw [ev'] at gat
      have gbs := hh2 s hsl'
      rw [ey] at gbs
      have gbt := hh2 t htl'
      rw [ex] at gbt
      obtain ⟨aA, cA, A5, A6, A7, A8⟩ := hg3 i A hAi
      obtain ⟨aB, cB, B5, B6, B7, B8⟩ := hh3 i B hBi
      have hIi := idxN_le hF i
      rw [← idxR_zero]
      repeat' (first
        | (show AT _ _ _ (wpList _ _ _ (_ :: _)); first
           | (show AT _ _ _ (wpList _ _ _ (⟨_, Op.move _, _, _, _, _⟩ :: _)); refine st_y (y_move rfl) rfl ?_)
           | (show AT _ _ _ (wpList _ _ _ (⟨_, Op.assign _, _, _, _, _⟩ :: _)); refine st_y (y_assign rfl) rfl ?_)
           | (show AT _ _ _ (wpList _ _ _ (⟨_, Op.fieldAddr _ _ _, _, _, _, _⟩ :: _)); refine st_y (y_field tabs rfl rfl rfl) rfl ?_)
           | (show AT _ _ _ (wpList _ _ _ (⟨_, Op.load _ _, _, _, _, _⟩ :: _)); first | refine st_y (y_load tabs rfl rfl (hc_blk 4 rfl rfl)) rfl ?_ | refine st_y (y_load tabs rfl rfl (hc_w0 gF)) rfl ?_ | refine st_y (y_load tabs rfl rfl (hc_w0 gT)) rfl ?_)
           | (show AT _ _ _ (wpList _ _ _ (⟨_, Op.indexAddr _ _ _, _, _, _, _⟩ :: _)); first | refine st_y (y_ix1 tabs (j := i) rfl rfl rfl hs0 rfl hin1) rfl ?_ | refine st_y (y_ix1 tabs (j := i) rfl rfl rfl hs1 rfl hiT) rfl ?_)
           | (show AT _ _ _ (wpList _ _ _ (⟨_, Op.binOp _ _ _ _ _, _, _, _, _⟩ :: _)); refine st_y (y_lss rfl rfl) rfl ?_)
           | (show AT _ _ _ (wpList _ _ _ (⟨_, Op.call _, _, _, _, _⟩ :: _)); refine st_y (y_len tabs rfl rfl) rfl ?_))
        | (show AT _ _ _ (wpList _ _ _ []); refine c_nil (x_then ?_))
        | (show AT _ _ _ (Code.wp _ _ _); first | refine c_seq ?_ | refine c_region ?_ | refine c_skip (x_then ?_) | refine c_block ?_ | refine c_ift rfl (by first | assumption | omega) ?_))
      refine c_loopH (α := Nat × Option Addr × Nat) [2, 3, 4, 5, 6, 7, 8, 9] (fun u => [(10, .int .i64 u.1)]) (fun u => u.1 ≤ x) (fun u => [.own (iT (eqC a b n (idxR a b i u.1))) (.slice u.2.1 (eqC a b n (idxR a b i u.1)).length u.2.2), .blk b5 #[iV (idxR a b i u.1).length, iV n, .slice u.2.1 (eqC a b n (idxR a b i u.1)).length u.2.2] 81, .blk br #[iV 0, iV 0, .slice none 0 0] 81, .blk b4 #[iV b.p, iV b.q.1, v0, v1, .slice d2 b.d.length f2, .slice d3 b.m.length f3] 35, .blk b3 #[iV a.p, iV a.q.1, .slice a0 a.q.2.1.length c0, .slice a1 a.q.2.2.length c1, .slice a2 a.d.length c2, .slice a3 a.m.length c3] 35]) (fun u => x - u.1) (0, al, cl) rfl (by repeat' (first | exact Sub.nil | refine Sub.cons rfl ?_ | refine Sub.consi rfl (by omega) ?_)) ?_ ?_ ?_
      · exact Nat.zero_le _
      · exact fun w' c' => c'
      · rintro ⟨r, al, cl⟩ hr
        simp only at hr ⊢
        by_cases hrx : r < x
        · rw [← idxK_zero]
          repeat' (first
            | (show AT _ _ _ (wpList _ _ _ (_ :: _)); first
               | (show AT _ _ _ (wpList _ _ _ (⟨_, Op.move _, _, _, _, _⟩ :: _)); refine st_y (y_move rfl) rfl ?_)
               | (show AT _ _ _ (wpList _ _ _ (⟨_, Op.assign _, _, _, _, _⟩ :: _)); refine st_y (y_assign rfl) rfl ?_)
               | (show AT _ _ _ (wpList _ _ _ (⟨_, Op.fieldAddr _ _ _, _, _, _, _⟩ :: _)); refine st_y (y_field tabs rfl rfl rfl) rfl ?_)
               | (show AT _ _ _ (wpList _ _ _ (⟨_, Op.load _ _, _, _, _, _⟩ :: _)); first | refine st_y (y_load tabs rfl rfl (hc_blk 3 rfl rfl)) rfl ?_ | refine st_y (y_load tabs rfl rfl (hc_w0 gbt)) rfl ?_)
               | (show AT _ _ _ (wpList _ _ _ (⟨_, Op.indexAddr _ _ _, _, _, _, _⟩ :: _)); refine st_y (y_ix1 tabs (j := t) rfl rfl rfl hk2 rfl htl') rfl ?_)
               | (show AT _ _ _ (wpList _ _ _ (⟨_, Op.binOp _ _ _ _ _, _, _, _, _⟩ :: _)); refine st_y (y_lss rfl rfl) rfl ?_))
            | (show AT _ _ _ (wpList _ _ _ []); refine c_nil (x_then ?_))
            | (show AT _ _ _ (Code.wp _ _ _); first | refine c_seq ?_ | refine c_region ?_ | refine c_skip (x_then ?_) | refine c_block ?_ | refine c_ift rfl (by first | assumption | omega) ?_))
          refine c_loopH (α := Nat × Option Addr × Nat) [2, 3, 4, 5, 6, 7, 8, 9, 10] (fun u => [(11, .int .i64 u.1)]) (fun u => u.1 ≤ z) (fun u => [.own (iT (eqC a b n (idxK a b i r u.1))) (.slice u.2.1 (eqC a b n (idxK a b i r u.1)).length u.2.2), .blk b5 #[iV (idxK a b i r u.1).length, iV n, .slice u.2.1 (eqC a b n (idxK a b i r u.1)).length u.2.2] 81, .blk br #[iV 0, iV 0, .slice none 0 0] 81, .blk b4 #[iV b.p, iV b.q.1, v0, v1, .slice d2 b.d.length f2, .slice d3 b.m.length f3] 35, .blk b3 #[iV a.p, iV a.q.1, .slice a0 a.q.2.1.length c0, .slice a1 a.q.2.2.length c1, .slice a2 a.d.length c2, .slice a3 a.m.length c3] 35]) (fun u => z - u.1) (0, al, cl) rfl (by repeat' (first | exact Sub.nil | refine Sub.cons rfl ?_ | refine Sub.consi rfl (by omega) ?_)) ?_ ?_ ?_
          · exact Nat.zero_le _
          · exact fun w' c' => c'
          · rintro ⟨k, al, cl⟩ hk
            simp only at hk ⊢
            by_cases hkz : k < z
            · repeat' (first
                | (show AT _ _ _ (wpList _ _ _ (_ :: _)); first
                   | (show AT _ _ _ (wpList _ _ _ (⟨_, Op.move _, _, _, _, _⟩ :: _)); refine st_y (y_move rfl) rfl ?_)
                   | (show AT _ _ _ (wpList _ _ _ (⟨_, Op.assign _, _, _, _, _⟩ :: _)); refine st_y (y_assign rfl) rfl ?_)
                   | (show AT _ _ _ (wpList _ _ _ (⟨_, Op.fieldAddr _ _ _, _, _, _, _⟩ :: _)); refine st_y (y_field tabs rfl rfl rfl) rfl ?_)
                   | (show AT _ _ _ (wpList _ _ _ (⟨_, Op.load _ _, _, _, _, _⟩ :: _)); first | refine st_y (y_load tabs rfl rfl (hc_blk 4 rfl rfl)) rfl ?_ | refine st_y (y_load tabs rfl rfl (hc_w0 gas)) rfl ?_)
                   | (show AT _ _ _ (wpList _ _ _ (⟨_, Op.indexAddr _ _ _, _, _, _, _⟩ :: _)); refine st_y (y_ix1 tabs (j := s) rfl rfl rfl hs2 rfl hsl) rfl ?_)
                   | (show AT _ _ _ (wpList _ _ _ (⟨_, Op.binOp _ _ _ _ _, _, _, _, _⟩ :: _)); refine st_y (y_lss rfl rfl) rfl ?_)
                   | (show AT _ _ _ (wpList _ _ _ (⟨_, Op.makeSlice _ _ _, _, _, _, _⟩ :: _)); refine m_maken tabs (m := n) rfl rfl rfl rfl (by omega) rfl (fun gg hgg => ?_)))
                | (show AT _ _ _ (wpList _ _ _ []); refine c_nil (x_then ?_))
                | (show AT _ _ _ (Code.wp _ _ _); first | refine c_seq ?_ | refine c_region ?_ | refine c_skip (x_then ?_) | refine c_block ?_ | refine c_ift rfl (by first | assumption | omega) ?_))
              have hKl := idxK_length (a := a) (b := b) (i := i) (r := r) (k := k)
              have hrz : r * dN a.d (a.q.2.1.getD i 0) ≤ 16 := Nat.mul_le_mul (show r ≤ 4 by omega) (show _ ≤ 4 by omega)
              have hKl2 : (idxK a b i r k).length ≤ 128 := by omega
              have hEl : (eqC a b n (idxK a b i r k)).length ≤ 128 * 32 := by rw [eqC_length]; exact Nat.mul_le_mul hKl2 hn
              have hry : r * y ≤ 16 := Nat.mul_le_mul (show r ≤ 4 by omega) (show y ≤ 4 by omega)
              have hrv : r * v ≤ 16 := Nat.mul_le_mul (show r ≤ 4 by omega) (show v ≤ 4 by omega)
              obtain ⟨_, _, eB, hsB, _, _, _⟩ := B8.ints
              cases eB
              obtain ⟨_, _, eA, hsA, _, _, _⟩ := A8.ints
              cases eA
              refine c_loopH (α := Nat) [2, 3, 4, 5, 6, 7, 8, 9, 10, 11, 12] (fun j => [(13, .int .i64 j)]) (fun j => j ≤ y) (fun j => [.own (iT (mkv n (row1 a b i r k j))) (.slice (some ⟨gg, 0, none⟩) n n), .own (iT (eqC a b n (idxK a b i r k))) (.slice al (eqC a b n (idxK a b i r k)).length cl), .blk b5 #[iV (idxK a b i r k).length, iV n, .slice al (eqC a b n (idxK a b i r k)).length cl] 81, .blk br #[iV 0, iV 0, .slice none 0 0] 81, .blk b4 #[iV b.p, iV b.q.1, v0, v1, .slice d2 b.d.length f2, .slice d3 b.m.length f3] 35, .blk b3 #[iV a.p, iV a.q.1, .slice a0 a.q.2.1.length c0, .slice a1 a.q.2.2.length c1, .slice a2 a.d.length c2, .slice a3 a.m.length c3] 35]) (fun j => y - j) 0 rfl (by repeat' (first | exact Sub.nil | refine Sub.cons rfl ?_ | refine Sub.consi rfl (by omega) ?_)) ?_ ?_ ?_
              · exact Nat.zero_le _
              · intro w' c'
                have e0 : List.replicate n (0 : Int) = mkv n (row1 a b i r k 0) := by
                  rw [mkv_zero]
                  exact mkv_ext (fun q _ => by rw [row1, sum1, sumN, Int.zero_emod])
                rw [e0] at c'
                exact c'
              · rintro j hj
                by_cases hjy : j < y
                · have hjz : j * z ≤ 16 := Nat.mul_le_mul (show j ≤ 4 by omega) (show z ≤ 4 by omega)
                  have e1 : at1 a b i k j = offN a.d b.d s + j * z + k := by rw [at1, ez', es, Int.toNat_natCast]; omega
                  have hat : offN a.d b.d s + j * z + k < n := by
                    have h := off_lt (da := a.d) (db := b.d) (n := a.d.length) hsl (j := j) (k := k) (by omega) (by omega)
                    rw [ez, Int.toNat_natCast, ← en] at h
                    omega
                  obtain ⟨hB1, hB2, hB3, hB4⟩ := mat_cell B8 hcB (i := r) (j := j) hrx hjy
                  have hgd : (mkv n (row1 a b i r k j)).getD (offN a.d b.d s + j * z + k) 0 = row1 a b i r k j (offN a.d b.d s + j * z + k) := mkv_get hat
                  have hr1 : 0 ≤ (mkv n (row1 a b i r k j)).getD (offN a.d b.d s + j * z + k) 0 ∧ (mkv n (row1 a b i r k j)).getD (offN a.d b.d s + j * z + k) 0 < a.p := by
                    rw [hgd]
                    exact ⟨Int.emod_nonneg _ (by omega), Int.emod_lt_of_pos _ (by omega)⟩
                  repeat' (first
                    | (show AT _ _ _ (wpList _ _ _ (_ :: _)); first
                       | (show AT _ _ _ (wpList _ _ _ (⟨_, Op.move _, _, _, _, _⟩ :: _)); refine st_y (y_move rfl) rfl ?_)
                       | (show AT _ _ _ (wpList _ _ _ (⟨_, Op.fieldAddr _ _ _, _, _, _, _⟩ :: _)); refine st_y (y_field tabs rfl rfl rfl) rfl ?_)
                       | (show AT _ _ _ (wpList _ _ _ (⟨_, Op.load _ _, _, _, _, _⟩ :: _)); first | refine st_y (y_load tabs rfl rfl (hc_blk 4 rfl rfl)) rfl ?_ | refine st_y (y_load tabs rfl rfl (hc_w0 gbs)) rfl ?_)
                       | (show AT _ _ _ (wpList _ _ _ (⟨_, Op.indexAddr _ _ _, _, _, _, _⟩ :: _)); refine st_y (y_ix1 tabs (j := s) rfl rfl rfl hk2 rfl hsl') rfl ?_)
                       | (show AT _ _ _ (wpList _ _ _ (⟨_, Op.binOp _ _ _ _ _, _, _, _, _⟩ :: _)); refine st_y (y_lss rfl rfl) rfl ?_))
                    | (show AT _ _ _ (wpList _ _ _ []); refine c_nil (x_then ?_))
                    | (show AT _ _ _ (Code.wp _ _ _); first | refine c_seq ?_ | refine c_region ?_ | refine c_skip (x_then ?_) | refine c_block ?_ | refine c_ift rfl (by first | assumption | omega) ?_))
                  (first
                    | (show AT _ _ _ (Code.wp _ _ _); refine c_draw (by kernel_rfl) (by kernel_rfl) (fun _ c => Hp.drew c) ?_))
                  repeat' (first
                    | (show QT _ _ _ _ _ _ (_ :: _); first
                       | (show QT _ _ _ _ _ _ (⟨_, Op.move _, _, _, _, _⟩ :: _); refine q_y (y_move rfl) rfl ?_)
                       | (show QT _ _ _ _ _ _ (⟨_, Op.assign _, _, _, _, _⟩ :: _); refine q_y (y_assign rfl) rfl ?_)
                       | (show QT _ _ _ _ _ _ (⟨_, Op.fieldAddr _ _ _, _, _, _, _⟩ :: _); refine q_y (y_field tabs rfl rfl rfl) rfl ?_)
                       | (show QT _ _ _ _ _ _ (⟨_, Op.load _ _, _, _, _, _⟩ :: _); first | refine q_y (y_load tabs rfl rfl (hc_blk 5 rfl rfl)) rfl ?_ | refine q_y (y_loadb 4 tabs rfl rfl rfl rfl) rfl ?_ | refine q_y (y_loadb 5 tabs rfl rfl rfl rfl) rfl ?_ | refine q_y (y_load tabs rfl rfl (hc_w0 gas)) rfl ?_)
                       | (show QT _ _ _ _ _ _ (⟨_, Op.indexAddr _ _ _, _, _, _, _⟩ :: _); refine q_y (y_ix1 tabs (j := s) rfl rfl rfl hs2 rfl hsl) rfl ?_)
                       | (show QT _ _ _ _ _ _ (⟨_, Op.binOp _ _ _ _ _, _, _, _, _⟩ :: _); first | refine q_y (y_muln (a := j) (b := z) rfl rfl rfl rfl (by omega)) rfl ?_ | refine q_y (y_addn (b := j * z) rfl rfl rfl rfl (by omega)) rfl ?_ | refine q_y (y_addn (b := k) rfl rfl rfl rfl (by omega)) rfl ?_)
                       | (show QT _ _ _ _ _ _ (⟨_, Op.call _, _, _, _, _⟩ :: _); refine q_call (ent_of Try.func151 (by kernel_rfl) rfl) rfl rfl (fun w c => l11At_ok (a := a) (b := b) (c.rd h20) (c.rd k20) hF (by omega)) (fun u H' h => h.1) ?_))
                    | (show QT _ _ _ _ _ _ []; refine q_nil (x_then ?_)))
                  (first
                    | (show AT _ _ _ (Code.wp _ _ _); refine c_tailR 27 (by kernel_rfl) (by kernel_rfl) (by kernel_rfl) (by kernel_rfl) (by kernel_rfl) (by kernel_rfl) (fun _ c => Hp.drew c) ?_))
                  repeat' (first
                    | (show AT _ _ _ (wpList _ _ _ (_ :: _)); first
                       | (show AT _ _ _ (wpList _ _ _ (⟨_, Op.move _, _, _, _, _⟩ :: _)); refine st_y (y_move rfl) rfl ?_)
                       | (show AT _ _ _ (wpList _ _ _ (⟨_, Op.assign _, _, _, _, _⟩ :: _)); refine st_y (y_assign rfl) rfl ?_)
                       | (show AT _ _ _ (wpList _ _ _ (⟨_, Op.indexAddr _ _ _, _, _, _, _⟩ :: _)); refine st_y (y_ix1 tabs (j := offN a.d b.d s + j * z + k) rfl rfl rfl .mk rfl hat) rfl ?_)
                       | (show AT _ _ _ (wpList _ _ _ (⟨_, Op.binOp _ _ _ _ _, _, _, _, _⟩ :: _)); refine st_y (y_add rfl rfl (by omega)) rfl ?_)
                       | (show AT _ _ _ (wpList _ _ _ (⟨_, Op.store _ _ _, _, _, _, _⟩ :: _)); refine m_storeo 0 tabs rfl rfl rfl rfl (by rw [mkv_length]; exact hat) ?_))
                    | (show AT _ _ _ (wpList _ _ _ []); first | refine c_nil (x_then ?_) | refine c_nil ?_)
                    | (show AT _ _ _ (Code.wp _ _ _); refine c_region ?_)
                    | (show QT _ _ _ _ _ _ (_ :: _); first
                       | (show QT _ _ _ _ _ _ (⟨_, Op.move _, _, _, _, _⟩ :: _); refine q_y (y_move rfl) rfl ?_)
                       | (show QT _ _ _ _ _ _ (⟨_, Op.fieldAddr _ _ _, _, _, _, _⟩ :: _); refine q_y (y_field tabs rfl rfl rfl) rfl ?_)
                       | (show QT _ _ _ _ _ _ (⟨_, Op.load _ _, _, _, _, _⟩ :: _); first | refine q_y (y_load tabs rfl rfl (hc_blk 4 rfl rfl)) rfl ?_ | refine q_y (y_load tabs rfl rfl (hc_blk 5 rfl rfl)) rfl ?_ | refine q_y (y_load tabs rfl rfl (hc_w0 gbs)) rfl ?_ | refine q_y (y_load tabs rfl rfl (hc_own 0 rfl (by rw [mkv_length]; exact hat))) rfl ?_ | refine q_y (y_load tabs rfl rfl (hc_w0 B7)) rfl ?_ | refine q_y (y_load tabs rfl rfl (hc_w0 hB2)) rfl ?_)
                       | (show QT _ _ _ _ _ _ (⟨_, Op.indexAddr _ _ _, _, _, _, _⟩ :: _); first | refine q_y (y_ix1 tabs (j := s) rfl rfl rfl hk2 rfl hsl') rfl ?_ | refine q_y (y_ix1 tabs (j := offN a.d b.d s + j * z + k) rfl rfl rfl .mk rfl hat) rfl ?_ | refine q_y (y_ixa tabs rfl rfl rfl hk3 (by omega) (by omega)) rfl ?_ | refine q_y (y_ix1 tabs (j := r * y + j) rfl rfl rfl hsB rfl hB1) rfl ?_)
                       | (show QT _ _ _ _ _ _ (⟨_, Op.binOp _ _ _ _ _, _, _, _, _⟩ :: _); first | refine q_y (y_muln (a := r) (b := y) rfl rfl rfl rfl (by omega)) rfl ?_ | refine q_y (y_addn (b := j) rfl rfl rfl rfl (by omega)) rfl ?_ | refine q_y (y_add rfl rfl (by omega)) rfl ?_)
                       | (show QT _ _ _ _ _ _ (⟨_, Op.call _, _, _, _, _⟩ :: _); refine q_call (ent_of Try.func101 (by kernel_rfl) rfl) rfl rfl (fun w c => l2Mod_ok (by omega) (by omega)) (fun u H' h => h.1) ?_))
                    | (show QT _ _ _ _ _ _ []; refine q_nil ?_)
                    | (show AT _ _ _ _; first | refine x_then ?_ | refine x_blk ?_))
                  refine x_nx (j + 1) (by repeat' (first | exact Sub.nil | refine Sub.cons rfl ?_ | refine Sub.consi rfl (by omega) ?_)) (by omega) (fun w' c' => ?_) (by omega)
                  simp only [List.set_cons_zero] at c'
                  have h' := row1_next (a := a) (b := b) (i := i) (r := r) (k := k) (j := j) (n := n)
                  rw [gBe, e1] at h'
                  rw [hgd, h'] at c'
                  exact c'
                · have : j = y := by omega
                  subst this
                  have h0' := row2_zero (a := a) (b := b) (i := i) (r := r) (k := k) (n := n)
                  rw [ey'] at h0'
                  rw [h0']
                  repeat' (first
                    | (show AT _ _ _ (wpList _ _ _ (_ :: _)); first
                       | (show AT _ _ _ (wpList _ _ _ (⟨_, Op.move _, _, _, _, _⟩ :: _)); refine st_y (y_move rfl) rfl ?_)
                       | (show AT _ _ _ (wpList _ _ _ (⟨_, Op.assign _, _, _, _, _⟩ :: _)); refine st_y (y_assign rfl) rfl ?_)
                       | (show AT _ _ _ (wpList _ _ _ (⟨_, Op.fieldAddr _ _ _, _, _, _, _⟩ :: _)); refine st_y (y_field tabs rfl rfl rfl) rfl ?_)
                       | (show AT _ _ _ (wpList _ _ _ (⟨_, Op.load _ _, _, _, _, _⟩ :: _)); first | refine st_y (y_load tabs rfl rfl (hc_blk 4 rfl rfl)) rfl ?_ | refine st_y (y_load tabs rfl rfl (hc_w0 gbs)) rfl ?_)
                       | (show AT _ _ _ (wpList _ _ _ (⟨_, Op.indexAddr _ _ _, _, _, _, _⟩ :: _)); refine st_y (y_ix1 tabs (j := s) rfl rfl rfl hk2 rfl hsl') rfl ?_)
                       | (show AT _ _ _ (wpList _ _ _ (⟨_, Op.binOp _ _ _ _ _, _, _, _, _⟩ :: _)); refine st_y (y_lss rfl rfl) rfl ?_))
                    | (show AT _ _ _ (wpList _ _ _ []); refine c_nil (x_then ?_))
                    | (show AT _ _ _ (Code.wp _ _ _); first | refine c_seq ?_ | refine c_region ?_ | refine c_block ?_ | refine c_exit ?_ | refine c_iff rfl (by first | assumption | exact not_not_intro (by assumption) | omega) ?_)
                    | (show AT _ _ _ _; first | refine x_then ?_ | refine x_then_exit ?_ | refine x_blk_exit rfl ?_))
                  refine c_loopH (α := Nat) [2, 3, 4, 5, 6, 7, 8, 9, 10, 11, 12] (fun j => [(15, .int .i64 j)]) (fun j => j ≤ v) (fun j => [.own (iT (mkv n (row2 a b i r k j))) (.slice (some ⟨gg, 0, none⟩) n n), .own (iT (eqC a b n (idxK a b i r k))) (.slice al (eqC a b n (idxK a b i r k)).length cl), .blk b5 #[iV (idxK a b i r k).length, iV n, .slice al (eqC a b n (idxK a b i r k)).length cl] 81, .blk br #[iV 0, iV 0, .slice none 0 0] 81, .blk b4 #[iV b.p, iV b.q.1, v0, v1, .slice d2 b.d.length f2, .slice d3 b.m.length f3] 35, .blk b3 #[iV a.p, iV a.q.1, .slice a0 a.q.2.1.length c0, .slice a1 a.q.2.2.length c1, .slice a2 a.d.length c2, .slice a3 a.m.length c3] 35]) (fun j => v - j) 0 rfl (by repeat' (first | exact Sub.nil | refine Sub.cons rfl ?_ | refine Sub.consi rfl (by omega) ?_)) ?_ ?_ ?_
                  · exact Nat.zero_le _
                  · exact fun w' c' => c'
                  · rintro j hj
                    by_cases hjv : j < v
                    · have hjz : j * z ≤ 16 := Nat.mul_le_mul (show j ≤ 4 by omega) (show z ≤ 4 by omega)
                      have e1 : at2 a b i r j = offN a.d b.d t + r * v + j := by rw [at2, ev'', et, Int.toNat_natCast]; omega
                      have hat : offN a.d b.d t + r * v + j < n := by
                        have h := off_lt (da := a.d) (db := b.d) (n := a.d.length) htl (j := r) (k := j) (by omega) (by omega)
                        rw [ev', Int.toNat_natCast, ← en] at h
                        omega
                      obtain ⟨hA1, hA2, hA3, hA4⟩ := mat_cell A8 hcA (i := j) (j := k) hjv hkz
                      have hgd : (mkv n (row2 a b i r k j)).getD (offN a.d b.d t + r * v + j) 0 = row2 a b i r k j (offN a.d b.d t + r * v + j) := mkv_get hat
                      have hr1 : 0 ≤ (mkv n (row2 a b i r k j)).getD (offN a.d b.d t + r * v + j) 0 ∧ (mkv n (row2 a b i r k j)).getD (offN a.d b.d t + r * v + j) 0 < a.p := by
                        rw [hgd]
                        exact ⟨Int.emod_nonneg _ (by omega), Int.emod_lt_of_pos _ (by omega)⟩
                      repeat' (first
                        | (show AT _ _ _ (wpList _ _ _ (_ :: _)); first
                           | (show AT _ _ _ (wpList _ _ _ (⟨_, Op.move _, _, _, _, _⟩ :: _)); refine st_y (y_move rfl) rfl ?_)
                           | (show AT _ _ _ (wpList _ _ _ (⟨_, Op.fieldAddr _ _ _, _, _, _, _⟩ :: _)); refine st_y (y_field tabs rfl rfl rfl) rfl ?_)
                           | (show AT _ _ _ (wpList _ _ _ (⟨_, Op.load _ _, _, _, _, _⟩ :: _)); first | refine st_y (y_load tabs rfl rfl (hc_blk 5 rfl rfl)) rfl ?_ | refine st_y (y_load tabs rfl rfl (hc_w0 gat)) rfl ?_)
                           | (show AT _ _ _ (wpList _ _ _ (⟨_, Op.indexAddr _ _ _, _, _, _, _⟩ :: _)); refine st_y (y_ix1 tabs (j := t) rfl rfl rfl hs2 rfl htl) rfl ?_)
                           | (show AT _ _ _ (wpList _ _ _ (⟨_, Op.binOp _ _ _ _ _, _, _, _, _⟩ :: _)); refine st_y (y_lss rfl rfl) rfl ?_))
                        | (show AT _ _ _ (wpList _ _ _ []); refine c_nil (x_then ?_))
                        | (show AT _ _ _ (Code.wp _ _ _); first | refine c_seq ?_ | refine c_region ?_ | refine c_skip (x_then ?_) | refine c_block ?_ | refine c_ift rfl (by first | assumption | omega) ?_))
                      (first
                        | (show AT _ _ _ (Code.wp _ _ _); refine c_draw (by kernel_rfl) (by kernel_rfl) (fun _ c => Hp.drew c) ?_))
                      repeat' (first
                        | (show QT _ _ _ _ _ _ (_ :: _); first
                           | (show QT _ _ _ _ _ _ (⟨_, Op.move _, _, _, _, _⟩ :: _); refine q_y (y_move rfl) rfl ?_)
                           | (show QT _ _ _ _ _ _ (⟨_, Op.assign _, _, _, _, _⟩ :: _); refine q_y (y_assign rfl) rfl ?_)
                           | (show QT _ _ _ _ _ _ (⟨_, Op.fieldAddr _ _ _, _, _, _, _⟩ :: _); refine q_y (y_field tabs rfl rfl rfl) rfl ?_)
                           | (show QT _ _ _ _ _ _ (⟨_, Op.load _ _, _, _, _, _⟩ :: _); first | refine q_y (y_load tabs rfl rfl (hc_blk 5 rfl rfl)) rfl ?_ | refine q_y (y_loadb 4 tabs rfl rfl rfl rfl) rfl ?_ | refine q_y (y_loadb 5 tabs rfl rfl rfl rfl) rfl ?_ | refine q_y (y_load tabs rfl rfl (hc_w0 gat)) rfl ?_)
                           | (show QT _ _ _ _ _ _ (⟨_, Op.indexAddr _ _ _, _, _, _, _⟩ :: _); refine q_y (y_ix1 tabs (j := t) rfl rfl rfl hs2 rfl htl) rfl ?_)
                           | (show QT _ _ _ _ _ _ (⟨_, Op.binOp _ _ _ _ _, _, _, _, _⟩ :: _); first | refine q_y (y_muln (a := r) (b := v) rfl rfl rfl rfl (by omega)) rfl ?_ | refine q_y (y_addn (b := r * v) rfl rfl rfl rfl (by omega)) rfl ?_ | refine q_y (y_addn (b := j) rfl rfl rfl rfl (by omega)) rfl ?_)
                           | (show QT _ _ _ _ _ _ (⟨_, Op.call _, _, _, _, _⟩ :: _); refine q_call (ent_of Try.func151 (by kernel_rfl) rfl) rfl rfl (fun w c => l11At_ok (a := a) (b := b) (c.rd h20) (c.rd k20) hF (by omega)) (fun u H' h => h.1) ?_))
                        | (show QT _ _ _ _ _ _ []; refine q_nil (x_then ?_)))
                      (first
                        | (show AT _ _ _ (Code.wp _ _ _); refine c_tailR 27 (by kernel_rfl) (by kernel_rfl) (by kernel_rfl) (by kernel_rfl) (by kernel_rfl) (by kernel_rfl) (fun _ c => Hp.drew c) ?_))
                      repeat' (first
                        | (show AT _ _ _ (wpList _ _ _ (_ :: _)); first
                           | (show AT _ _ _ (wpList _ _ _ (⟨_, Op.move _, _, _, _, _⟩ :: _)); refine st_y (y_move rfl) rfl ?_)
                           | (show AT _ _ _ (wpList _ _ _ (⟨_, Op.assign _, _, _, _, _⟩ :: _)); refine st_y (y_assign rfl) rfl ?_)
                           | (show AT _ _ _ (wpList _ _ _ (⟨_, Op.indexAddr _ _ _, _, _, _, _⟩ :: _)); refine st_y (y_ix1 tabs (j := offN a.d b.d t + r * v + j) rfl rfl rfl .mk rfl hat) rfl ?_)
                           | (show AT _ _ _ (wpList _ _ _ (⟨_, Op.binOp _ _ _ _ _, _, _, _, _⟩ :: _)); refine st_y (y_add rfl rfl (by omega)) rfl ?_)
                           | (show AT _ _ _ (wpList _ _ _ (⟨_, Op.store _ _ _, _, _, _, _⟩ :: _)); refine m_storeo 0 tabs rfl rfl rfl rfl (by rw [mkv_length]; exact hat) ?_))
                        | (show AT _ _ _ (wpList _ _ _ []); first | refine c_nil (x_then ?_) | refine c_nil ?_)
                        | (show AT _ _ _ (Code.wp _ _ _); refine c_region ?_)
                        | (show QT _ _ _ _ _ _ (_ :: _); first
                           | (show QT _ _ _ _ _ _ (⟨_, Op.move _, _, _, _, _⟩ :: _); refine q_y (y_move rfl) rfl ?_)
                           | (show QT _ _ _ _ _ _ (⟨_, Op.fieldAddr _ _ _, _, _, _, _⟩ :: _); refine q_y (y_field tabs rfl rfl rfl) rfl ?_)
                           | (show QT _ _ _ _ _ _ (⟨_, Op.load _ _, _, _, _, _⟩ :: _); first | refine q_y (y_load tabs rfl rfl (hc_blk 5 rfl rfl)) rfl ?_ | refine q_y (y_load tabs rfl rfl (hc_w0 gas)) rfl ?_ | refine q_y (y_load tabs rfl rfl (hc_own 0 rfl (by rw [mkv_length]; exact hat))) rfl ?_ | refine q_y (y_load tabs rfl rfl (hc_w0 A7)) rfl ?_ | refine q_y (y_load tabs rfl rfl (hc_w0 hA2)) rfl ?_)
                           | (show QT _ _ _ _ _ _ (⟨_, Op.indexAddr _ _ _, _, _, _, _⟩ :: _); first | refine q_y (y_ix1 tabs (j := s) rfl rfl rfl hs2 rfl hsl) rfl ?_ | refine q_y (y_ix1 tabs (j := offN a.d b.d t + r * v + j) rfl rfl rfl .mk rfl hat) rfl ?_ | refine q_y (y_ixa tabs rfl rfl rfl hs3 (by omega) (by omega)) rfl ?_ | refine q_y (y_ix1 tabs (j := j * z + k) rfl rfl rfl hsA rfl hA1) rfl ?_)
                           | (show QT _ _ _ _ _ _ (⟨_, Op.binOp _ _ _ _ _, _, _, _, _⟩ :: _); first | refine q_y (y_muln (a := j) (b := z) rfl rfl rfl rfl (by omega)) rfl ?_ | refine q_y (y_addn (b := k) rfl rfl rfl rfl (by omega)) rfl ?_ | refine q_y (y_sub rfl rfl (by omega)) rfl ?_)
                           | (show QT _ _ _ _ _ _ (⟨_, Op.call _, _, _, _, _⟩ :: _); refine q_call (ent_of Try.func101 (by kernel_rfl) rfl) rfl rfl (fun w c => l2Mod_ok (by omega) (by omega)) (fun u H' h => h.1) ?_))
                        | (show QT _ _ _ _ _ _ []; refine q_nil ?_)
                        | (show AT _ _ _ _; first | refine x_then ?_ | refine x_blk ?_))
                      refine x_nx (j + 1) (by repeat' (first | exact Sub.nil | refine Sub.cons rfl ?_ | refine Sub.consi rfl (by omega) ?_)) (by omega) (fun w' c' => ?_) (by omega)
                      simp only [List.set_cons_zero] at c'
                      have h' := row2_next (a := a) (b := b) (i := i) (r := r) (k := k) (j := j) (n := n)
                      rw [gAe, e1] at h'
                      rw [hgd, h'] at c'
                      exact c'
                    · have : j = v := by omega
                      subst this
                      have hrow : mkv n (row2 a b i r k j) = mkv n (eqE a b i r k) := by rw [← ev'']; rfl
                      rw [hrow]
                      have e3 := eqC_next (a := a) (b := b) (n := n) (i := i) (r := r) (k := k)
                      have hl1 : ((idxK a b i r (k + 1)).length : Int) = (idxK a b i r k).length + 1 := by rw [idxK_next, List.length_append, List.length_singleton]; omega
                      repeat' (first
                        | (show AT _ _ _ (wpList _ _ _ (_ :: _)); first
                           | (show AT _ _ _ (wpList _ _ _ (⟨_, Op.move _, _, _, _, _⟩ :: _)); refine st_y (y_move rfl) rfl ?_)
                           | (show AT _ _ _ (wpList _ _ _ (⟨_, Op.assign _, _, _, _, _⟩ :: _)); refine st_y (y_assign rfl) rfl ?_)
                           | (show AT _ _ _ (wpList _ _ _ (⟨_, Op.fieldAddr _ _ _, _, _, _, _⟩ :: _)); refine st_y (y_field tabs rfl rfl rfl) rfl ?_)
                           | (show AT _ _ _ (wpList _ _ _ (⟨_, Op.load _ _, _, _, _, _⟩ :: _)); first | refine st_y (y_load tabs rfl rfl (hc_blk 5 rfl rfl)) rfl ?_ | refine st_y (y_load tabs rfl rfl (hc_w0 gat)) rfl ?_ | refine st_y (y_load tabs rfl rfl (hc_blk 2 rfl rfl)) rfl ?_)
                           | (show AT _ _ _ (wpList _ _ _ (⟨_, Op.indexAddr _ _ _, _, _, _, _⟩ :: _)); refine st_y (y_ix1 tabs (j := t) rfl rfl rfl hs2 rfl htl) rfl ?_)
                           | (show AT _ _ _ (wpList _ _ _ (⟨_, Op.binOp _ _ _ _ _, _, _, _, _⟩ :: _)); first | refine st_y (y_add rfl rfl (by omega)) rfl ?_ | refine st_y (y_lss rfl rfl) rfl ?_)
                           | (show AT _ _ _ (wpList _ _ _ (⟨_, Op.call _, _, _, _, _⟩ :: _)); refine m_appi 1 tabs (ys := mkv n (eqE a b i r k)) rfl rfl rfl (by rw [mkv_length]; exact rfl) rfl (by rw [mkv_length]; omega) (fun w' c' => rd_src (by rw [mkv_length]; exact c'.own_rd (i := 0) rfl)) (fun a6 c6 => ?_))
                           | (show AT _ _ _ (wpList _ _ _ (⟨_, Op.store _ _ _, _, _, _, _⟩ :: _)); refine m_storef 2 tabs rfl rfl rfl rfl rfl rfl ?_))
                        | (show AT _ _ _ (wpList _ _ _ []); first | refine c_nil (x_then ?_) | refine c_nil ?_)
                        | (show AT _ _ _ (Code.wp _ _ _); first | refine c_seq ?_ | refine c_region ?_ | refine c_exit ?_ | refine c_iff rfl (by first | assumption | exact not_not_intro (by assumption) | omega) ?_)
                        | (show AT _ _ _ _; first | refine x_then ?_ | refine x_then_exit ?_ | refine x_blk_exit rfl ?_ | refine x_blk ?_))
                      refine x_nx (k + 1, a6, c6) (by repeat' (first | exact Sub.nil | refine Sub.cons rfl ?_ | refine Sub.consi rfl (by omega) ?_)) (by simp only; omega) (fun w' c' => ?_) (by simp only; omega)
                      simp only [← e3, List.length_append, hl1]
                      exact c'.sub (.cons_cons _ (.cons _ (List.Sublist.refl _)))
            · have : k = z := by omega
              subst this
              repeat' (first
                | (show AT _ _ _ (wpList _ _ _ (_ :: _)); first
                   | (show AT _ _ _ (wpList _ _ _ (⟨_, Op.move _, _, _, _, _⟩ :: _)); refine st_y (y_move rfl) rfl ?_)
                   | (show AT _ _ _ (wpList _ _ _ (⟨_, Op.assign _, _, _, _, _⟩ :: _)); refine st_y (y_assign rfl) rfl ?_)
                   | (show AT _ _ _ (wpList _ _ _ (⟨_, Op.fieldAddr _ _ _, _, _, _, _⟩ :: _)); refine st_y (y_field tabs rfl rfl rfl) rfl ?_)
                   | (show AT _ _ _ (wpList _ _ _ (⟨_, Op.load _ _, _, _, _, _⟩ :: _)); first | refine st_y (y_load tabs rfl rfl (hc_blk 4 rfl rfl)) rfl ?_ | refine st_y (y_load tabs rfl rfl (hc_w0 gas)) rfl ?_)
                   | (show AT _ _ _ (wpList _ _ _ (⟨_, Op.indexAddr _ _ _, _, _, _, _⟩ :: _)); refine st_y (y_ix1 tabs (j := s) rfl rfl rfl hs2 rfl hsl) rfl ?_)
                   | (show AT _ _ _ (wpList _ _ _ (⟨_, Op.binOp _ _ _ _ _, _, _, _, _⟩ :: _)); first | refine st_y (y_add rfl rfl (by omega)) rfl ?_ | refine st_y (y_lss rfl rfl) rfl ?_))
                | (show AT _ _ _ (wpList _ _ _ []); refine c_nil (x_then ?_))
                | (show AT _ _ _ (Code.wp _ _ _); first | refine c_seq ?_ | refine c_region ?_ | refine c_exit ?_ | refine c_iff rfl (by first | assumption | exact not_not_intro (by assumption) | omega) ?_)
                | (show AT _ _ _ _; first | refine x_then ?_ | refine x_then_exit ?_ | refine x_blk_exit rfl ?_ | refine x_blk ?_))
              refine x_nx (r + 1, al, cl) (by repeat' (first | exact Sub.nil | refine Sub.cons rfl ?_ | refine Sub.consi rfl (by omega) ?_)) (by simp only; omega) (fun w' c' => ?_) (by simp only; omega)
              have e2 := idxK_end (a := a) (b := b) (i := i) (r := r)
              rw [ez'] at e2
              rw [e2] at c'
              exact c'
        · have : r = x := by omega
          subst this
          repeat' (first
            | (show AT _ _ _ (wpList _ _ _ (_ :: _)); first
               | (show AT _ _ _ (wpList _ _ _ (⟨_, Op.move _, _, _, _, _⟩ :: _)); refine st_y (y_move rfl) rfl ?_)
               | (show AT _ _ _ (wpList _ _ _ (⟨_, Op.assign _, _, _, _, _⟩ :: _)); refine st_y (y_assign rfl) rfl ?_)
               | (show AT _ _ _ (wpList _ _ _ (⟨_, Op.fieldAddr _ _ _, _, _, _, _⟩ :: _)); refine st_y (y_field tabs rfl rfl rfl) rfl ?_)
               | (show AT _ _ _ (wpList _ _ _ (⟨_, Op.load _ _, _, _, _, _⟩ :: _)); first | refine st_y (y_load tabs rfl rfl (hc_blk 3 rfl rfl)) rfl ?_ | refine st_y (y_load tabs rfl rfl (hc_w0 gbt)) rfl ?_)
               | (show AT _ _ _ (wpList _ _ _ (⟨_, Op.indexAddr _ _ _, _, _, _, _⟩ :: _)); refine st_y (y_ix1 tabs (j := t) rfl rfl rfl hk2 rfl htl') rfl ?_)
               | (show AT _ _ _ (wpList _ _ _ (⟨_, Op.binOp _ _ _ _ _, _, _, _, _⟩ :: _)); first | refine st_y (y_add rfl rfl (by omega)) rfl ?_ | refine st_y (y_lss rfl rfl) rfl ?_))
            | (show AT _ _ _ (wpList _ _ _ []); refine c_nil (x_then ?_))
            | (show AT _ _ _ (Code.wp _ _ _); first | refine c_seq ?_ | refine c_region ?_ | refine c_exit ?_ | refine c_iff rfl (by first | assumption | exact not_not_intro (by assumption) | omega) ?_)
            | (show AT _ _ _ _; first | refine x_then ?_ | refine x_then_exit ?_ | refine x_blk_exit rfl ?_ | refine x_blk ?_))
          refine x_nx (i + 1, al, cl) (by repeat' (first | exact Sub.nil | refine Sub.cons rfl ?_ | refine Sub.consi rfl (by omega) ?_)) (by simp only; omega) (fun w' c' => ?_) (by simp only; omega)
          have e2 := idxR_end (a := a) (b := b) (i := i)
          rw [ex'] at e2
          rw [e2] at c'
          exact c'
    · have : i = a.m.length := by omega
      subst this
      rw [hml, eqC_end]
      refine AT.fact (own_sl 0 rfl) (fun hsl => ?_)
      obtain ⟨a4, c4, e4, hs4⟩ := hsl
      cases e4
      repeat' (first
        | (show AT _ _ _ (wpList _ _ _ (_ :: _)); first
           | (show AT _ _ _ (wpList _ _ _ (⟨_, Op.move _, _, _, _, _⟩ :: _)); refine st_y (y_move rfl) rfl ?_)
           | (show AT _ _ _ (wpList _ _ _ (⟨_, Op.fieldAddr _ _ _, _, _, _, _⟩ :: _)); refine st_y (y_field tabs rfl rfl rfl) rfl ?_)
           | (show AT _ _ _ (wpList _ _ _ (⟨_, Op.load _ _, _, _, _, _⟩ :: _)); first | refine st_y (y_load tabs rfl rfl (hc_blk 4 rfl rfl)) rfl ?_ | refine st_y (y_loadb 1 tabs rfl rfl rfl rfl) rfl ?_)
           | (show AT _ _ _ (wpList _ _ _ (⟨_, Op.binOp _ _ _ _ _, _, _, _, _⟩ :: _)); refine st_y (y_lss rfl rfl) rfl ?_)
           | (show AT _ _ _ (wpList _ _ _ (⟨_, Op.call _, _, _, _, _⟩ :: _)); refine st_y (y_len tabs rfl rfl) rfl ?_)
           | (show AT _ _ _ (wpList _ _ _ (⟨_, Op.store _ _ _, _, _, _, _⟩ :: _)); refine m_storeb 2 tabs rfl rfl rfl rfl rfl rfl rfl ?_))
        | (show AT _ _ _ (wpList _ _ _ []); refine c_nil (x_then ?_))
        | (show AT _ _ _ (Code.wp _ _ _); first | refine c_seq ?_ | refine c_region ?_ | refine c_ret ?_ | refine c_exit ?_ | refine c_iff rfl (by first | assumption | exact not_not_intro (by assumption) | omega) ?_)
        | (show AT _ _ _ _; first | refine x_then ?_ | refine x_then_exit ?_ | refine x_blk_exit rfl ?_))
      exact x_ret1 Try.results98 (res_cellb 2 tabs rfl rfl rfl rfl) (fun w' c' => ⟨_, _, rfl, ⟨al, cl, by simp, by rw [← mk_length (f := eqsF a b)]; exact hs4, by simp⟩, c'.sub (.cons_cons _ (List.nil_sublist _))⟩)
end Go.Proofs.Ytfhgpkdhhclpbaa
