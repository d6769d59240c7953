import Derived.Test.YtfhgpkdhhclpbaaCmbqcb
import Derived.Test.YtfhgpkdhhclpbaaCobqcb
namespace Go.Proofs.Ytfhgpkdhhclpbaa
open Go.Lg Go.Proofs Go.RowKit
attribute [local irreducible] Code.wp wpList bodyPost Exit.then Exit.inBlock Hp Again Calls Y AT ResV QT Qn QI wpAny wpAnyQ
set_option maxRecDepth 20000
set_option maxHeartbeats 4000000

/-! ### combinations of morphisms, by the program -/
theorem combined_ok {w : World} {a b : Rp} {l : List (List Mat)} {ks : List Int} {e e' : Nat} {u0 u1 u2 u3 v0 v1 v2 v3 ul uk : Value} (h2 : Rd w (iT a.d) u2) (k2 : Rd w (iT b.d) v2) (hl : Rd w (mssT e e' l) ul) (hk : Rd w (iT ks) uk) (hF : FitP a b) (hkl : ks.length = l.length) (hks : InP 0 (a.p - 1) ks)
    (hx : ∀ (i : Nat) (ms : List Mat), l[i]? = some ms → AreP a b ms) :
    Does Try.prog 105 [.agg #[iV a.p, iV a.q.1, u0, u1, u2, u3], .agg #[iV b.p, iV b.q.1, v0, v1, v2, v3], ul, uk] w (GivesMs (cutL a.d b.d (mkv (offN a.d b.d a.d.length) (cmS a.p ks l l.length)))) := by
  have hp := fieldP_pos hF.1.1
  have hn := off_le hF
  obtain ⟨al, cl, rfl, hsl, hcl, hdl, hgl⟩ := rd_mss hl
  obtain ⟨ak, ck, rfl, hsk, hck, hdk, hgk⟩ := hk.ints
  unfold maxLen at hdl
  obtain ⟨n, en⟩ : ∃ n, n = offN a.d b.d a.d.length := ⟨_, rfl⟩
  rw [← en] at hn ⊢
  have e0 : znMs a.d b.d a.d.length = cutL a.d b.d (mkv n (cmS a.p ks l 0)) := zn_cut en
  refine fn_enter Try.func105 rfl Try.ntmps105 rfl ?_
  repeat' (first
    | (show AT _ _ _ (wpList _ _ _ (_ :: _)); first
       | (show AT _ _ _ (wpList _ _ _ (⟨_, Op.move _, _, _, _, _⟩ :: _)); refine st_y (y_move rfl) rfl ?_)
       | (show AT _ _ _ (wpList _ _ _ (⟨_, Op.assign _, _, _, _, _⟩ :: _)); refine st_y (y_assign rfl) rfl ?_)
       | (show AT _ _ _ (wpList _ _ _ (⟨_, Op.load _ _, _, _, _, _⟩ :: _)); first | refine st_y (y_loadb 0 tabs rfl rfl rfl rfl) rfl ?_ | refine st_y (y_loadb 1 tabs rfl rfl rfl rfl) rfl ?_)
       | (show AT _ _ _ (wpList _ _ _ (⟨_, Op.call _, _, _, _, _⟩ :: _)); first | (refine m_call (ent_of Try.func136 (by kernel_rfl) rfl) rfl rfl (fun w c => zeros_ok (a := a) (b := b) (c.rd h2) (c.rd k2) hF) ?_; rintro v H' ⟨az, cz, rfl, hsa, rfl⟩; rw [e0]) | refine st_y (y_len tabs rfl rfl) rfl ?_)
       | (show AT _ _ _ (wpList _ _ _ (⟨_, Op.box _ _, _, _, _, _⟩ :: _)); refine m_box rfl rfl (fun b4 hb4 => ?_)))
    | (show AT _ _ _ (wpList _ _ _ []); refine c_nil (x_then ?_))
    | (show AT _ _ _ (Code.wp _ _ _); first | refine c_seq ?_ | refine c_region ?_ | refine c_block ?_))
  rename_i b3 hb3
  have hz : SA az a.d.length := by rw [e0, cutL, tabM_length] at hsa; exact hsa
  rw [show (cutL a.d b.d (mkv n (cmS a.p ks l 0))).length = a.d.length from tabM_length]
  refine c_loopH (α := Nat) [3, 4, 9, 17, 18] (fun i => [(19, .int .i64 i)]) (fun i => i ≤ l.length) (fun i => [.own (matsT 81 (cutL a.d b.d (mkv n (cmS a.p ks l i)))) (.slice az a.d.length cz), .blk b4 #[iV b.p, iV b.q.1, v0, v1, v2, v3] 35, .blk b3 #[iV a.p, iV a.q.1, u0, u1, u2, u3] 35]) (fun i => l.length - i) 0 rfl (by repeat' (first | exact Sub.nil | refine Sub.cons rfl ?_ | refine Sub.consi rfl (by omega) ?_)) ?_ ?_ ?_
  · exact Nat.zero_le _
  · exact fun w' c' => c'
  · rintro i hi
    by_cases hin : i < l.length
    · obtain ⟨ms, hms⟩ : ∃ ms, l[i]? = some ms := ⟨_, List.getElem?_eq_getElem hin⟩
      obtain ⟨a5, c5, g1, g2⟩ := hgl i ms hms
      have hA := hx i ms hms
      have hml := hA.2.1
      rw [cmT_zero (da := a.d) (db := b.d)]
      repeat' (first
        | (show AT _ _ _ (wpList _ _ _ (_ :: _)); first
           | (show AT _ _ _ (wpList _ _ _ (⟨_, Op.move _, _, _, _, _⟩ :: _)); refine st_y (y_move rfl) rfl ?_)
           | (show AT _ _ _ (wpList _ _ _ (⟨_, Op.assign _, _, _, _, _⟩ :: _)); refine st_y (y_assign rfl) rfl ?_)
           | (show AT _ _ _ (wpList _ _ _ (⟨_, Op.load _ _, _, _, _, _⟩ :: _)); refine st_y (y_load tabs rfl rfl (hc_w0 g1)) rfl ?_)
           | (show AT _ _ _ (wpList _ _ _ (⟨_, Op.indexAddr _ _ _, _, _, _, _⟩ :: _)); refine st_y (y_ix1 tabs (j := i) rfl rfl rfl hsl rfl hin) rfl ?_)
           | (show AT _ _ _ (wpList _ _ _ (⟨_, Op.binOp _ _ _ _ _, _, _, _, _⟩ :: _)); refine st_y (y_lss rfl rfl) rfl ?_)
           | (show AT _ _ _ (wpList _ _ _ (⟨_, Op.call _, _, _, _, _⟩ :: _)); refine st_y (y_len tabs rfl rfl) rfl ?_))
        | (show AT _ _ _ (wpList _ _ _ []); refine c_nil (x_then ?_))
        | (show AT _ _ _ (Code.wp _ _ _); first | refine c_seq ?_ | refine c_region ?_ | refine c_skip (x_then ?_) | refine c_block ?_ | refine c_ift rfl (by first | assumption | omega) ?_))
      refine c_loopH (α := Nat) [3, 4, 9, 10, 17, 18, 19, 24, 25] (fun v => [(26, .int .i64 v)]) (fun v => v ≤ ms.length) (fun v => [.own (matsT 81 (cutL a.d b.d (mkv n (cmT a.p ks l a.d b.d i v)))) (.slice az a.d.length cz), .blk b4 #[iV b.p, iV b.q.1, v0, v1, v2, v3] 35, .blk b3 #[iV a.p, iV a.q.1, u0, u1, u2, u3] 35]) (fun v => ms.length - v) 0 rfl (by repeat' (first | exact Sub.nil | refine Sub.cons rfl ?_ | refine Sub.consi rfl (by omega) ?_)) ?_ ?_ ?_
      · exact Nat.zero_le _
      · exact fun w' c' => c'
      · rintro v hv
        by_cases hvn : v < ms.length
        · obtain ⟨a6, c6, e6, hs6, q1, q2, hg6⟩ := rd_mats g2
          cases e6
          unfold maxLen at q2
          obtain ⟨m, hm⟩ : ∃ m, ms[v]? = some m := ⟨_, List.getElem?_eq_getElem hvn⟩
          obtain ⟨a7, c7, f1, f2, f3, f4⟩ := hg6 v m hm
          have hvd : v < a.d.length := by omega
          have hD : (cutL a.d b.d (mkv n (cmT a.p ks l a.d b.d i v)))[v]? = some (cutM a.d b.d (mkv n (cmT a.p ks l a.d b.d i v)) v) := tabM_get hvd
          obtain ⟨f5, f6⟩ := cmT_cell (p := a.p) (ks := ks) (l := l) (i := i) en hvd
          have hil : l.getD i [] = ms := by rw [List.getD, hms]; rfl
          obtain ⟨p1, p2, p3⟩ := hA.2.2 v hvn
          have gm : ms.getD v mat0 = m := by rw [List.getD, hm]; rfl
          rw [gm] at p1 p2 p3
          have d1 := hF.1.dg v
          have d2 := hF.2.1.dg v
          have hml2 : m.2.2.length = szV a.d b.d v := by
            obtain ⟨_, _, c3, _⟩ := cellsP_of (R := (b.d.getD v 0).toNat) (C := (a.d.getD v 0).toNat) p1 (by omega) (by omega)
            rw [c3, mk_length, szV, Nat.mul_comm]
          have hsz : szV a.d b.d v ≤ 4 * 4 := Nat.mul_le_mul (by omega) (by omega)
          have hil' := f6 m.2.2 (fun q hq => by rw [hil, flat_get hA hm (by omega)])
          have hki := inP_get hks (i := i) (by omega)
          rw [hml2] at f3 f4
          have hs7 : SA a7 (szV a.d b.d v) := by obtain ⟨x7, y7, e7, h7, _⟩ := f4.ints; injection e7 with e1 e2 e3; rw [e1, e2]; exact h7
          repeat' (first
            | (show AT _ _ _ (wpList _ _ _ (_ :: _)); first
               | (show AT _ _ _ (wpList _ _ _ (⟨_, Op.move _, _, _, _, _⟩ :: _)); refine st_y (y_move rfl) rfl ?_)
               | (show AT _ _ _ (wpList _ _ _ (⟨_, Op.assign _, _, _, _, _⟩ :: _)); refine st_y (y_assign rfl) rfl ?_)
               | (show AT _ _ _ (wpList _ _ _ (⟨_, Op.load _ _, _, _, _, _⟩ :: _)); refine st_y (y_load3 tabs rfl rfl (hc_w0 f1) (hc_w0 f2) (hc_w0 f3)) rfl ?_)
               | (show AT _ _ _ (wpList _ _ _ (⟨_, Op.indexAddr _ _ _, _, _, _, _⟩ :: _)); refine st_y (y_ixa tabs rfl rfl rfl hs6 (by omega) (by omega)) rfl ?_)
               | (show AT _ _ _ (wpList _ _ _ (⟨_, Op.binOp _ _ _ _ _, _, _, _, _⟩ :: _)); refine st_y (y_lss rfl rfl) rfl ?_)
               | (show AT _ _ _ (wpList _ _ _ (⟨_, Op.store _ _ _, _, _, _, _⟩ :: _)); refine m_storeb 0 tabs rfl rfl rfl rfl rfl rfl rfl ?_)
               | (show AT _ _ _ (wpList _ _ _ (⟨_, Op.alloc _, _, _, _, _⟩ :: _)); refine m_alloc tabs rfl rfl (fun b5 hb5 => ?_)))
            | (show AT _ _ _ (wpList _ _ _ []); refine c_nil (x_then ?_))
            | (show AT _ _ _ (Code.wp _ _ _); first | refine c_seq ?_ | refine c_region ?_ | refine c_skip (x_then ?_) | refine c_block ?_ | refine c_ift rfl (by first | assumption | omega) ?_))
          refine AT.opn 1 rfl (fun us hus => ?_)
          refine AT.cls (fun w' c' => c'.swap) ?_
          rw [flat_split hD]
          refine at_mid (fun v1 uv v2 evs hv1 => ?_)
          refine AT.fact (own_sl 0 rfl) (fun hsl0 => ?_)
          obtain ⟨ac, cc, rfl, hsc⟩ := hsl0
          rw [f5, mkv_length] at hsc
          have hu : us[v * 3 + 2]? = some (.slice ac (szV a.d b.d v) cc) := by
            rw [evs, List.getElem?_append_right (by rw [hv1, flat_pre hvd]; omega), hv1, flat_pre hvd, Nat.sub_self, f5, mkv_length]
            rfl
          rw [f5, mkv_length] at evs
          rw [f5, mkv_length]
          repeat' (first
            | (show AT _ _ _ (Code.wp _ _ _); refine c_tailR 13 (by kernel_rfl) (by kernel_rfl) (by kernel_rfl) (by kernel_rfl) (by kernel_rfl) (by kernel_rfl) (fun _ c => Hp.drew c) ?_)
            | (show QT _ _ _ _ _ _ (_ :: _); first
               | (show QT _ _ _ _ _ _ (⟨_, Op.move _, _, _, _, _⟩ :: _); refine q_y (y_move rfl) rfl ?_)
               | (show QT _ _ _ _ _ _ (⟨_, Op.fieldAddr _ _ _, _, _, _, _⟩ :: _); refine q_y (y_field tabs rfl rfl rfl) rfl ?_)
               | (show QT _ _ _ _ _ _ (⟨_, Op.load _ _, _, _, _, _⟩ :: _); first | refine q_y (y_load tabs rfl rfl (hc_blk 6 rfl rfl)) rfl ?_ | refine q_y (y_load tabs rfl rfl (hc_nmk 3 (by decide) rfl hu)) rfl ?_ | refine q_y (y_load tabs rfl rfl (hc_w0 (hgk i (by omega)))) rfl ?_ | refine q_y (y_load tabs rfl rfl (hc_blk 4 rfl rfl)) rfl ?_)
               | (show QT _ _ _ _ _ _ (⟨_, Op.indexAddr _ _ _, _, _, _, _⟩ :: _); first | refine q_y (y_ixa tabs rfl rfl rfl hz (by omega) (by omega)) rfl ?_ | refine q_y (y_ix1 tabs (j := i) rfl rfl rfl hsk rfl (by omega)) rfl ?_))
            | (show QT _ _ _ _ _ _ []; refine q_nil ?_)
            | (show AT _ _ _ (Qk _ _ _); refine x_one ?_))
          refine m_callL 0 (ent_of Try.func130 (by kernel_rfl) rfl) rfl rfl rfl (fun w M' hl => addMultiple_ok (o := 0) (n := szV a.d b.d v) (xs := mkv (szV a.d b.d v) (fun q => cmS a.p ks l i (offN a.d b.d v + q))) (ys := m.2.2) hF.1.1 (by omega) hl (fun h => by have := hsc.get h; exact this) (by rw [mkv_length]; omega) (by omega) (fun j hj => by rw [Nat.zero_add, mkv_get hj]; exact cmS_rng hF.1.1) (fun j hj => by have := inP_get p1.2.2.2.2.2 (i := j) (by omega); omega) hs7 (fun w' xs' c' hxl hxo j hj => by have h := (RdOut.rd (hl.old f4) c').ints; obtain ⟨_, _, e, _, _, _, hh⟩ := h; injection e with e1 e2 e3; subst e1; exact hh j (by omega))) ?_
          rintro v H' ⟨rfl, rfl⟩
          repeat' (first
            | (show AT _ _ _ (wpList _ _ _ (_ :: _)); first
               | (show AT _ _ _ (wpList _ _ _ (⟨_, Op.move _, _, _, _, _⟩ :: _)); refine st_y (y_move rfl) rfl ?_)
               | (show AT _ _ _ (wpList _ _ _ (⟨_, Op.binOp _ _ _ _ _, _, _, _, _⟩ :: _)); refine st_y (y_add rfl rfl (by omega)) rfl ?_))
            | (show AT _ _ _ (wpList _ _ _ []); first | refine c_nil (x_then ?_) | refine c_nil ?_)
            | (show AT _ _ _ (Code.wp _ _ _); refine c_region ?_)
            | (show AT _ _ _ _; first | refine x_then ?_ | refine x_blk ?_))
          refine x_nx (v + 1) (by repeat' (first | exact Sub.nil | refine Sub.cons rfl ?_ | refine Sub.consi rfl (by omega) ?_)) (by omega) (fun w' c' => ?_) (by omega)
          have c2 := own_back c'
          rw [← evs, flat_set hD, hil'] at c2
          have c3 := Hp.cls c2.swap
          exact c3.sub (by repeat' first | exact List.Sublist.refl _ | exact List.nil_sublist _ | apply List.Sublist.cons_cons | apply List.Sublist.cons)
        · have : v = ms.length := by omega
          subst this
          have e9 : mkv n (cmT a.p ks l a.d b.d i ms.length) = mkv n (cmS a.p ks l (i + 1)) := by rw [en, ← hml]; exact cmT_end
          rw [e9]
          repeat' (first
            | (show AT _ _ _ (wpList _ _ _ (_ :: _)); first
               | (show AT _ _ _ (wpList _ _ _ (⟨_, Op.move _, _, _, _, _⟩ :: _)); refine st_y (y_move rfl) rfl ?_)
               | (show AT _ _ _ (wpList _ _ _ (⟨_, Op.binOp _ _ _ _ _, _, _, _, _⟩ :: _)); first | refine st_y (y_add rfl rfl (by omega)) rfl ?_ | refine st_y (y_lss rfl rfl) rfl ?_))
            | (show AT _ _ _ (wpList _ _ _ []); refine c_nil (x_then ?_))
            | (show AT _ _ _ (Code.wp _ _ _); first | refine c_seq ?_ | refine c_region ?_ | refine c_exit ?_ | refine c_iff rfl (by first | assumption | exact not_not_intro (by assumption) | omega) ?_)
            | (show AT _ _ _ _; first | refine x_then ?_ | refine x_then_exit ?_ | refine x_blk_exit rfl ?_ | refine x_blk ?_))
          exact x_nx (i + 1) (by repeat' (first | exact Sub.nil | refine Sub.cons rfl ?_ | refine Sub.consi rfl (by omega) ?_)) (by omega) (fun w' c' => c') (by omega)
    · have : i = l.length := by omega
      subst this
      refine AT.fact (mats_sl 0 rfl) (fun hs0 => ?_)
      repeat' (first
        | (show AT _ _ _ (wpList _ _ _ (_ :: _)); first
           | (show AT _ _ _ (wpList _ _ _ (⟨_, Op.move _, _, _, _, _⟩ :: _)); refine st_y (y_move rfl) rfl ?_)
           | (show AT _ _ _ (wpList _ _ _ (⟨_, Op.assign _, _, _, _, _⟩ :: _)); refine st_y (y_assign rfl) rfl ?_)
           | (show AT _ _ _ (wpList _ _ _ (⟨_, Op.binOp _ _ _ _ _, _, _, _, _⟩ :: _)); refine st_y (y_lss rfl rfl) rfl ?_))
        | (show AT _ _ _ (wpList _ _ _ []); refine c_nil (x_then ?_))
        | (show AT _ _ _ (Code.wp _ _ _); first | refine c_seq ?_ | refine c_region ?_ | refine c_ret ?_ | refine c_exit ?_ | refine c_iff rfl (by first | assumption | exact not_not_intro (by assumption) | omega) ?_)
        | (show AT _ _ _ _; first | refine x_then ?_ | refine x_then_exit ?_ | refine x_blk_exit rfl ?_))
      exact x_ret1 Try.results105 (res_tmp rfl) (fun w' c' => ⟨_, _, rfl, ⟨az, cz, by rw [cutL, tabM_length], hs0, by rw [cutL, tabM_length]⟩, c'.sub (.cons_cons _ (List.nil_sublist _))⟩)
end Go.Proofs.Ytfhgpkdhhclpbaa
