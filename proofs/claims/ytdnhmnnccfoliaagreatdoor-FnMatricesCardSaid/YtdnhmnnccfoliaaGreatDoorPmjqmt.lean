import Derived.Lib.Split
import Derived.Lib.SplitLaws
import Derived.Lib.AtoiAll
import Derived.Lib.ItoaNum
import Derived.Test.YtdnhmnnccfoliaaGreatDoorPmpqmt
import Derived.Test.YtdnhmnnccfoliaaGreatDoorPmsqmt
import Derived.Test.YtdnhmnnccfoliaaGreatDoorShpqmt
namespace Go.Proofs.YtdnhmnnccfoliaaGreatDoor
open Go.Lg Go.Proofs Go.RowKit

theorem idx_hit {d : UInt8} : ∀ {w : List UInt8} (r : List UInt8), (∀ x ∈ w, x ≠ d) → Lib.index (w ++ d :: r) [d] = w.length
  | [], r, _ => by simp [Lib.index, List.isPrefixOf]
  | y :: w, r, h => by
    have ih := idx_hit (w := w) r (fun x hx => h x (by simp [hx]))
    have hy : (d == y) = false := by
      have := h y (by simp)
      simpa using fun e => this e.symm
    rw [List.cons_append, Lib.index]
    simp only [List.isPrefixOf, hy, Bool.false_and, Bool.false_eq_true, if_false]
    rw [ih]
    have : ¬ (((w.length : Int) == -1) = true) := fun e => by have := beq_iff_eq.1 e; omega
    rw [if_neg this, List.length_cons]
    omega
theorem cut_word {d : UInt8} {w r : List UInt8} (h : ∀ x ∈ w, x ≠ d) : Lib.cut (w ++ d :: r) [d] = (w, r, true) := by
  unfold Lib.cut
  rw [idx_hit r h, if_pos om, Int.toNat_natCast]
  rw [List.take_left, show w.length + [d].length = w.length + 1 from rfl, ← List.drop_drop, List.drop_left]
  rfl
theorem cut_fmtM {p : Int} {m : Mat} (h : MatP p m) : Lib.cut (fmtM p m) [58] = ([dg m.1, 120, dg m.2.1], bodyN m.2.1.toNat m.2.2 m.2.2.length, true) ∧ Lib.cut [dg m.1, 120, dg m.2.1] [120] = ([dg m.1], [dg m.2.1], true) := by
  have r1 := h.1
  have r2 := h.2.1
  have h1 := (dg_ne (x := m.1) r1.1 om).2.1
  have h2 := (dg_ne (x := m.2.1) r2.1 om).2.1
  have h3 := (dg_ne2 (x := m.1) r1.1 om).2
  constructor
  · rw [fmtM_eq h]
    exact cut_word (d := 58) (w := [dg m.1, 120, dg m.2.1]) (fun x hx => by
      simp only [List.mem_cons, List.not_mem_nil, or_false] at hx
      rcases hx with rfl | rfl | rfl
      · exact h1
      · decide
      · exact h2)
  · exact cut_word (d := 120) (w := [dg m.1]) (r := [dg m.2.1]) (fun x hx => by
      rw [List.mem_singleton.1 hx]; exact h3)
theorem atoi_dg {x : Int} (h0 : 0 ≤ x) (h9 : x ≤ 9) : Lib.atoiAll [dg x] = .ok x ∧ Lib.itoa x = [dg x] := by
  obtain ⟨k, rfl⟩ : ∃ k : Nat, x = k := ⟨x.toNat, by omega⟩
  have hk : k < 10 := by omega
  refine ⟨?_, by rw [Lib.itoa, if_neg om, Int.toNat_natCast, Lib.decDigits, dif_pos om, dg, Int.toNat_natCast]⟩
  match k, hk with
  | 0, _ => exact (by decide)
  | 1, _ => exact (by decide)
  | 2, _ => exact (by decide)
  | 3, _ => exact (by decide)
  | 4, _ => exact (by decide)
  | 5, _ => exact (by decide)
  | 6, _ => exact (by decide)
  | 7, _ => exact (by decide)
  | 8, _ => exact (by decide)
  | 9, _ => exact (by decide)
end Go.Proofs.YtdnhmnnccfoliaaGreatDoor

namespace Go.Lg
open Go.RowKit
section
variable {P : Program} {n : Nat} {C : World → Prop} {s : List (Nat × Value)} {x y : Operand} {t t' ty : Nat}
theorem run_equalIn_nn (w : World) (d : Nat) {t : TypeId} {ms : Array (String × TypeId)} (h : P.underlying t = some (.interface ms)) : (Op.equalIn (d + 1) t .nilIface .nilIface).run P w = .ok true w := by
  simp [Op.equalIn, underlying, h]
theorem run_equal_nn (w : World) {t : TypeId} {ms : Array (String × TypeId)} (h : P.underlying t = some (.interface ms)) : (Op.equal t .nilIface .nilIface).run P w = .ok true w := run_equalIn_nn w 9999 h
theorem run_equalIn_in (w : World) (d : Nat) {t u : TypeId} {v : Value} {ms : Array (String × TypeId)} (h : P.underlying t = some (.interface ms)) : (Op.equalIn (d + 1) t (.iface u v) .nilIface).run P w = .ok false w := by
  simp [Op.equalIn, underlying, h]
theorem run_equal_in (w : World) {t u : TypeId} {v : Value} {ms : Array (String × TypeId)} (h : P.underlying t = some (.interface ms)) : (Op.equal t (.iface u v) .nilIface).run P w = .ok false w := run_equalIn_in w 9999 h
theorem y_neqnn {ms : Array (String × TypeId)} (h : P.underlying t = some (.interface ms)) (hx : ev s x = some .nilIface) : Y P n C s (.binOp .neq t x (.const .nilIface) t') ty (.bool false) := fun a w f c d pos af g => by
  have hy : ev s (.const .nilIface) = some .nilIface := rfl
  simp [execOp, f.ev hx, f.ev hy, eqGuard, binOp, run_equal_nn w h]
theorem y_neqin {u : Nat} {v : Value} {ms : Array (String × TypeId)} (h : P.underlying t = some (.interface ms)) (hx : ev s x = some (.iface u v)) : Y P n C s (.binOp .neq t x (.const .nilIface) t') ty (.bool true) := fun a w f c d pos af g => by
  have hy : ev s (.const .nilIface) = some .nilIface := rfl
  simp [execOp, f.ev hx, f.ev hy, eqGuard, binOp, run_equal_in w h]
end
end Go.Lg
namespace Go.Proofs.YtdnhmnnccfoliaaGreatDoor
open Go.Lg Go.Proofs Go.RowKit
attribute [local irreducible] Code.wp wpList bodyPost Exit.then Exit.inBlock Hp Again Calls Y AT ResV QT Qn QI wpAny wpAnyQ
set_option maxRecDepth 20000
set_option maxHeartbeats 4000000

theorem FormatIntG_ok {w : World} {n : Int} (hG : Glb w) (h0 : -9223372036854775808 ≤ n) (h1 : n ≤ 9223372036854775807) : Does Tryz.prog 93 [iV n] w (fun r H => r = sV (Lib.itoa n) ∧ H = []) := by
  refine fn_enter Tryz.func93 rfl Tryz.ntmps93 rfl ?_
  repeat' (first | (show oL; first | refine sMv rfl rfl ?_ | refine sAs rfl rfl ?_ | (show oA (.call _); (refine m_call (ent_of Tryz.func155 kr rfl) rfl rfl (fun w c => itoaG_ok (hG.mono c) h0 h1) ?_; rintro v H' ⟨rfl, rfl⟩))) | refine xNt ?_ | (show oC; first | refine c_seq ?_ | refine c_region ?_ | refine c_ret ?_))
  exact x_ret1 Tryz.results93 (res_tmp rfl) (fun w' c' => ⟨_, _, rfl, ⟨rfl, rfl⟩, c'⟩)
theorem ParseInt_ok {w : World} {s : List UInt8} (hG : Glb w) (hs : s.length ≤ 2000000) : Does Tryz.prog 96 [sV s] w (fun r H => (∃ (v : Int) (b : Bool), r = .tuple #[iV v, .bool b] ∧ ∀ x : Int, 0 ≤ x → x ≤ 9 → s = [dg x] → v = x) ∧ H = []) := by
  by_cases ho : ∃ v, Lib.atoiAll s = .ok v
  · obtain ⟨v0, hv0⟩ := ho
    obtain ⟨vb0, vb1⟩ := Lib.atoiAll_bounds hv0
    refine fn_enter Tryz.func96 rfl Tryz.ntmps96 rfl ?_
    repeat' (first | (show oL; first | refine sMv rfl rfl ?_ | refine sAs rfl rfl ?_ | (show oA (.binOp _ _ _ _ _); first | refine st_y (y_neqnn Tryz.underlying155 rfl) rfl ?_ | refine st_y (y_neqs rfl rfl) rfl ?_) | (show oA (.unOp _ _ _); refine st_y (y_notd rfl) rfl ?_) | (show oA (.call _); first | (refine m_call (ent_of Tryz.func160 kr rfl) rfl rfl (fun w c => atoi_ok (hG.mono c) hs) ?_; rintro v H' ⟨v1, e1, rfl, (⟨hv1, rfl⟩ | ⟨hne, _⟩), rfl⟩) | (refine m_call (ent_of Tryz.func93 kr rfl) rfl rfl (fun w c => FormatIntG_ok (hG.mono c) (by have := hv1.symm.trans hv0; injection this; omega) (by have := hv1.symm.trans hv0; injection this; omega)) ?_; rintro v H' ⟨rfl, rfl⟩) | (refine m_call (ent_of Tryz.func106 kr rfl) rfl rfl (fun w c => within_ok _ _ _) ?_; rintro v H' ⟨rfl, rfl⟩)) | (show oA (.extract _ _); refine st_y (y_ext rfl rfl) rfl ?_) | (show oA (.pick _ _ _); first | refine st_y (y_pickt rfl aO rfl) rfl ?_ | refine st_y (y_pickf rfl aO rfl) rfl ?_ | refine st_y (y_pick rfl rfl rfl) rfl ?_) | refine st_gy rfl rfl ?_ | refine st_gfy rfl rfl aO ?_ | refine st_gfn rfl rfl aO rfl ?_ | refine st_gd rfl rfl (fun h => ?_) (fun h => ?_)) | refine xNt ?_ | (show oC; first | refine c_seq ?_ | refine c_region ?_ | refine c_skip (x_then ?_) | refine c_ret ?_ | refine c_true rfl ?_ | refine c_ifnd rfl (fun h => ?_) (fun h => ?_)) | (show AT _ _ _ _; refine x_then_ret ?_))
    all_goals first
      | exact absurd hv0 (hne v0)
      | exact x_ret2 Tryz.results96 (res_tmp rfl) (res_tmp rfl) (fun w' c' => ⟨_, _, rfl, ⟨⟨_, _, rfl, fun x g0 g9 hx => by
          obtain ⟨e1, e2⟩ := atoi_dg g0 g9
          rw [hx] at hv1
          have hh := e1.symm.trans hv1
          injection hh with hh
          first
            | exact hh.symm
            | (exfalso; omega)
            | exact absurd (show Lib.itoa v1 = s by rw [← hh, hx]; exact e2) aS⟩, rfl⟩, c'⟩)
  · refine fn_enter Tryz.func96 rfl Tryz.ntmps96 rfl ?_
    repeat' (first | (show oL; first | refine sMv rfl rfl ?_ | refine sAs rfl rfl ?_ | (show oA (.binOp _ _ _ _ _); refine st_y (y_neqin Tryz.underlying155 rfl) rfl ?_) | (show oA (.call _); (refine m_call (ent_of Tryz.func160 kr rfl) rfl rfl (fun w c => atoi_ok (hG.mono c) hs) ?_; rintro v H' ⟨v1, e1, rfl, (⟨hv1, rfl⟩ | ⟨hne, tp, ad, rfl⟩), rfl⟩)) | (show oA (.extract _ _); refine st_y (y_ext rfl rfl) rfl ?_) | (show oA (.pick _ _ _); refine st_y (y_pick rfl rfl rfl) rfl ?_) | refine st_gn rfl rfl rfl ?_) | refine xNt ?_ | (show oC; first | refine c_seq ?_ | refine c_region ?_ | refine c_ret ?_ | refine c_true rfl ?_) | (show AT _ _ _ _; refine x_then_ret ?_))
    · exact absurd ⟨_, hv1⟩ ho
    · exact x_ret2 Tryz.results96 (res_tmp rfl) (res_tmp rfl) (fun w' c' => ⟨_, _, rfl, ⟨⟨_, _, rfl, fun x g0 g9 hx => absurd ⟨x, by rw [hx]; exact (atoi_dg g0 g9).1⟩ ho⟩, rfl⟩, c'⟩)
end Go.Proofs.YtdnhmnnccfoliaaGreatDoor

namespace Go.Proofs.YtdnhmnnccfoliaaGreatDoor
open Go.Lg Go.Proofs Go.RowKit
attribute [local irreducible] Code.wp wpList bodyPost Exit.then Exit.inBlock Hp Again Calls Y AT ResV QT Qn QI wpAny wpAnyQ
set_option maxRecDepth 20000
set_option maxHeartbeats 4000000

theorem ptcut_len (s d : List UInt8) : (Lib.cut s d).1.length ≤ s.length ∧ (Lib.cut s d).2.1.length ≤ s.length := by
  unfold Lib.cut
  split
  · exact ⟨by simp only [List.length_take]; omega, by simp only [List.length_drop]; omega⟩
  · exact ⟨Nat.le_refl _, Nat.zero_le _⟩
def bodyS (s : List UInt8) : List UInt8 := (Lib.cut s [58]).2.1
theorem parM_cuts {p : Int} {s : List UInt8} (h : parM p s) : (bodyS s).length ≤ 72 ∧ ∀ v1 v2 : Int, (∀ x : Int, 0 ≤ x → x ≤ 9 → (Lib.cut (Lib.cut s [58]).1 [120]).1 = [dg x] → v1 = x) → (∀ x : Int, 0 ≤ x → x ≤ 9 → (Lib.cut (Lib.cut s [58]).1 [120]).2.1 = [dg x] → v2 = x) → (v1, v2, cellsS (bodyS s)) = candM s := by
  obtain ⟨hM, he⟩ := h
  obtain ⟨c1, c2⟩ := cut_fmtM hM
  rw [he] at c1
  have hb : bodyS s = bodyN (candM s).2.1.toNat (candM s).2.2 (candM s).2.2.length := by rw [bodyS, c1]
  refine ⟨by rw [hb]; exact body_le hM, fun v1 v2 k1 k2 => ?_⟩
  rw [c1] at k1 k2
  simp only [c2] at k1 k2
  have r1 := hM.1
  have r2 := hM.2.1
  have e1 := k1 (candM s).1 r1.1 om rfl
  have e2 := k2 (candM s).2.1 r2.1 om rfl
  have e3 := cells_body (C := (candM s).2.1.toNat) (matP_rng hM) (candM s).2.2.length (Nat.le_refl _)
  rw [List.take_length] at e3
  rw [e1, e2, hb, e3]
theorem impl_ParseMatrix_ok {w : World} {p : Int} {s : List UInt8} (hG : Glb w) (hl : s.length ≤ 2000000) : Does Tryz.prog 18 [iV p, sV s] w (GivesMB (parML p s) (decide (parM p s))) := by
  have hct := parM_cuts (p := p) (s := s)
  have hbd := parM_bd (p := p) (s := s)
  obtain ⟨l1, l2⟩ := ptcut_len s [58]
  obtain ⟨l3, l4⟩ := ptcut_len (Lib.cut s [58]).1 [120]
  have tok0 : True := trivial
  have tk0 : True := trivial
  have tk1 : True := trivial
  refine fn_enter Tryz.func18 rfl Tryz.ntmps18 rfl ?_
  repeat' (first | (show oL; first | refine sMv rfl rfl ?_ | refine sAs rfl rfl ?_ | refine sFd tabs rfl rfl rfl rfl ?_ | (show oA (.binOp _ _ _ _ _); refine st_y (y_gtr rfl rfl) rfl ?_) | (show oA (.call _); first | refine st_y (y_lens Tryz.underlying9 rfl) rfl ?_ | (have _t := tk0; refine m_call (ent_of Tryz.func95 kr rfl) rfl rfl (fun w c => cut_ok (s := s) (d := [58]) (hG.mono c) hl) ?_; clear _t tk0; rintro v H' ⟨rfl, rfl⟩) | (refine m_call (ent_of Tryz.func95 kr rfl) rfl rfl (fun w c => cut_ok (s := (Lib.cut s [58]).1) (d := [120]) (hG.mono c) om) ?_; rintro v H' ⟨rfl, rfl⟩) | (have _t := tk1; refine m_call (ent_of Tryz.func96 kr rfl) rfl rfl (fun w c => ParseInt_ok (s := (Lib.cut (Lib.cut s [58]).1 [120]).1) (hG.mono c) om) ?_; clear _t tk1; rintro v H' ⟨⟨v1, bb1, rfl, k1⟩, rfl⟩) | (refine m_call (ent_of Tryz.func96 kr rfl) rfl rfl (fun w c => ParseInt_ok (s := (Lib.cut (Lib.cut s [58]).1 [120]).2.1) (hG.mono c) om) ?_; rintro v H' ⟨⟨v2, bb2, rfl, k2⟩, rfl⟩)) | (show oA (.extract _ _); refine st_y (y_ext rfl rfl) rfl ?_) | (show oA (.store _ _ _); first | refine m_storef 0 tabs rfl rfl rfl rfl rfl rfl ?_ | refine m_storeb 1 tabs rfl rfl rfl rfl rfl rfl rfl ?_) | (show oA (.alloc _); first | (have _t := tok0; refine m_alloc tabs rfl rfl (fun b4 hb4 => ?_); clear _t tok0) | refine m_alloc tabs rfl rfl (fun b12 hb12 => ?_)) | (show oA (.build _ _); refine st_y (y_bld0 bld_mat0) rfl ?_)) | refine xNt ?_ | (show oC; first | refine c_seq ?_ | refine c_region ?_ | refine c_skip (x_then ?_) | refine c_block ?_ | refine c_ret ?_ | refine c_if rfl (fun h => ?_) (fun h => ?_)) | (show AT _ _ _ _; refine x_then_ret ?_))
  · have hn : ¬ parM p s := fun hP => by
      have h1 := (hct hP).1
      rw [bodyS] at h1
      omega
    exact x_ret2 Tryz.results18 (res_cellb 1 tabs rfl rfl rfl rfl) (res_tmp rfl) (fun w' c' => ⟨_, _, rfl, parM_no hn rfl rfl, Hp.nilp _ _ (c'.sub (List.nil_sublist _))⟩)
  · skip
    refine c_loopH (α := Nat × Option Addr × Nat) [0, 1, 4, 7, 12, 43] (fun x => [(44, iV x.1)]) (fun x => x.1 ≤ (bodyS s).length) (fun x => [.blk b12 #[iV v1, iV v2, .slice x.2.1 (cellsS ((bodyS s).take x.1)).length x.2.2] 41, .own (iT (cellsS ((bodyS s).take x.1))) (.slice x.2.1 (cellsS ((bodyS s).take x.1)).length x.2.2), .blk b4 #[iV 0, iV 0, .slice none 0 0] 41]) (fun x => (bodyS s).length - x.1) (0, none, 0) rfl sB ?_ ?_ ?_
    · exact Nat.zero_le _
    · exact fun w' c' => (Hp.nilp _ _ c').swap
    · rintro ⟨k, ak, ck⟩ hk
      simp only at hk ⊢
      have hB72 : (bodyS s).length ≤ 72 := by rw [bodyS]; omega
      have hcl : (cellsS ((bodyS s).take k)).length ≤ 72 := Nat.le_trans (cells_le _) (by rw [List.length_take]; omega)
      by_cases hin : k < (bodyS s).length
      · have hnx := cells_next (B := bodyS s) (k := k) hin
        have hb := ((bodyS s).getD k 0).toNat_lt
        have hin' : k < (Lib.cut s [58]).2.1.length := hin
        by_cases hx : (bodyS s).getD k 0 = 47
        · have hx2 : (((Lib.cut s [58]).2.1.getD k 0).toNat : Int) = 47 := by show (((bodyS s).getD k 0).toNat : Int) = 47; rw [hx]; rfl
          rw [if_pos hx] at hnx
          repeat' (first | (show oL; first | refine sMv rfl rfl ?_ | refine sAs rfl rfl ?_ | (show oA (.binOp _ _ _ _ _); first | refine st_y (y_neqk rfl rfl) rfl ?_ | refine sAd rfl rfl om rfl ?_ | refine sLs rfl rfl rfl ?_) | (show oA (.index _ _ _); refine st_y (y_indexc (j := k) Tryz.underlying9 rfl rfl om om) rfl ?_)) | refine xNt ?_ | (show oC; first | refine c_seq ?_ | refine c_region ?_ | refine c_skip (x_then ?_) | refine c_skip (x_blk ?_) | refine c_block ?_ | refine c_ift rfl aO ?_ | refine c_iff rfl nN ?_) | (show AT _ _ _ _; refine x_then ?_))
          exact x_nx (k + 1, ak, ck) sB (by simp only; omega) (fun w' c' => by simp only [hnx]; exact c') (by simp only; omega)
        · have hx2 : (((Lib.cut s [58]).2.1.getD k 0).toNat : Int) ≠ 47 := fun e => hx (UInt8.toNat_inj.1 (show ((bodyS s).getD k 0).toNat = 47 by (have e' : (((bodyS s).getD k 0).toNat : Int) = 47 := e); omega))
          rw [if_neg hx] at hnx
          repeat' (first | (show oL; first | refine sMv rfl rfl ?_ | refine sAs rfl rfl ?_ | (show oA (.binOp _ _ _ _ _); first | refine st_y (y_neqk rfl rfl) rfl ?_ | refine sLs rfl rfl rfl ?_) | (show oA (.index _ _ _); refine st_y (y_indexc (j := k) Tryz.underlying9 rfl rfl om om) rfl ?_)) | refine xNt ?_ | (show oC; first | refine c_seq ?_ | refine c_region ?_ | refine c_skip (x_then ?_) | refine c_block ?_ | refine c_ift rfl aO ?_))
          refine c_mixR (Hp [] w [.blk b12 #[iV v1, iV v2, .slice ak (cellsS ((bodyS s).take k)).length ck] 41]) 9 kr kr kr kr kr (fun _ c => Hp.drew c) ?_
          refine h_take 0 rfl kr kr kr (by exact y_field tabs rfl rfl rfl) rfl sS ?_
          refine h_take 1 rfl kr kr kr (by exact y_load tabs rfl rfl (hc_blk 0 rfl rfl)) rfl sS ?_
          refine h_take 2 rfl kr kr kr (by exact y_move rfl) rfl sS ?_
          refine h_take 3 rfl kr kr kr (by exact y_move rfl) rfl sS ?_
          refine h_take 4 rfl kr kr kr (by exact y_indexc (j := k) Tryz.underlying9 rfl rfl om om) rfl sS ?_
          refine h_take 5 rfl kr kr kr (by exact y_convk (t := 5) (t' := 3) (k := .u8) (k' := .i64) kr kr kr rfl (byte_i64 _)) rfl sS ?_
          refine h_take 6 rfl kr kr kr (by exact y_sub rfl rfl (by have := ((Lib.cut s [58]).2.1.getD k 0).toNat_lt; omega)) rfl sS ?_
          refine h_only 7 rfl kr ?_
          first | (refine m_build1 tabs (us := [iV (((bodyS s).getD k 0).toNat - 48)]) rfl rfl rfl rfl (by decide) rfl (fun g7 hg7 => ?_)) | (refine m_pushi 1 tabs rfl rfl rfl rfl rfl om (fun a8 c8 => ?_))
          refine c_nil (x_one (h_keep sS ?_))
          refine h_only 8 rfl kr ?_
          first | (refine m_build1 tabs (us := [iV (((bodyS s).getD k 0).toNat - 48)]) rfl rfl rfl rfl (by decide) rfl (fun g7 hg7 => ?_)) | (refine m_pushi 1 tabs rfl rfl rfl rfl rfl om (fun a8 c8 => ?_))
          refine c_nil (x_one (h_keep sS ?_))
          refine h_end kr ?_
          repeat' (first | (show oL; first | refine sMv rfl rfl ?_ | refine sFd tabs rfl rfl rfl rfl ?_ | refine sAd rfl rfl om rfl ?_ | (show oA (.store _ _ _); refine m_storef 1 tabs rfl rfl rfl rfl rfl rfl ?_)) | (show oN; first | refine c_nil (x_then ?_) | refine c_nil ?_) | (show oC; refine c_region ?_) | (show AT _ _ _ _; first | refine x_then ?_ | refine x_blk ?_))
          exact x_nx (k + 1, a8, c8) sB (by simp only; omega) (fun w' c' => by simp only [hnx, List.length_append, List.length_singleton]; exact c'.swap) (by simp only; omega)
      · have eB : (bodyS s).take k = bodyS s := List.take_of_length_le om
        have hke : (k : Int) = ((Lib.cut s [58]).2.1.length : Nat) := by (have : k = (bodyS s).length := by omega); rw [this]; rfl
        rw [eB]
        refine AT.fact (own_sl 1 rfl) (fun hsl => ?_)
        obtain ⟨_, _, e1, hsl⟩ := hsl
        cases e1
        by_cases hs0 : s = []
        · have hn : ¬ parM p s := fun hP => by have h1 := (hbd hP).1; rw [hs0] at h1; simp at h1
          repeat' (first | (show oL; first | refine sMv rfl rfl ?_ | refine sAs rfl rfl ?_ | (show oA (.binOp _ _ _ _ _); first | refine st_y (y_eqls rfl rfl) rfl ?_ | refine sLs rfl rfl rfl ?_) | (show oA (.pick _ _ _); refine st_y (y_pickt rfl aO rfl) rfl ?_) | (show oA (.store _ _ _); refine m_storeb 2 tabs rfl rfl rfl rfl rfl rfl rfl ?_) | (show oA (.build _ _); refine st_y (y_bld0 bld_mat0) rfl ?_) | refine st_gfn rfl rfl aO rfl ?_) | refine xNt ?_ | (show oC; first | refine c_seq ?_ | refine c_region ?_ | refine c_ret ?_ | refine c_exit ?_ | refine c_true rfl ?_ | refine c_iff rfl nN ?_) | (show AT _ _ _ _; first | refine x_then ?_ | refine x_then_ret ?_ | refine x_then_exit ?_ | refine x_blk_exit rfl ?_))
          all_goals first | exact absurd hs0 aS | exact x_ret2 Tryz.results18 (res_cellb 2 tabs rfl rfl rfl rfl) (res_tmp rfl) (fun w' c' => ⟨_, _, rfl, parM_no hn rfl rfl, Hp.nilp _ _ (c'.sub (List.nil_sublist _))⟩)
        · by_cases he : fmtM p (v1, v2, cellsS (bodyS s)) = s
          · have hM : MatP p (v1, v2, cellsS (bodyS s)) := Decidable.by_contra (fun hm => by
              rw [fmtM, if_neg hm] at he
              exact hs0 he.symm)
            have hc : candM s = (v1, v2, cellsS (bodyS s)) := by
              have := cand_fmtM hM
              rw [he] at this
              exact this
            have hP : parM p s := parM_iff.2 ⟨_, hM, he⟩
            have he' := not_not_intro he
            repeat' (first | (show oL; first | refine sMv rfl rfl ?_ | refine sAs rfl rfl ?_ | refine sLb 0 tabs rfl rfl rfl rfl rfl ?_ | (show oA (.binOp _ _ _ _ _); first | refine st_y (y_eqls rfl rfl) rfl ?_ | refine st_y (y_neqs rfl rfl) rfl ?_ | refine sLs rfl rfl rfl ?_) | (show oA (.call _); (refine m_call (ent_of Tryz.func17 kr rfl) rfl rfl (fun w c => impl_FormatMatrix_ok (m := (v1, v2, cellsS (bodyS s))) (c.own_rd (i := 1) rfl)) ?_; rintro v H' ⟨rfl, rfl⟩)) | (show oA (.pick _ _ _); refine st_y (y_pickf rfl aO rfl) rfl ?_) | (show oA (.store _ _ _); refine m_storeb 2 tabs rfl rfl rfl rfl rfl rfl rfl ?_) | refine st_gfy rfl rfl aO ?_) | refine xNt ?_ | (show oC; first | refine c_seq ?_ | refine c_region ?_ | refine c_skip (x_then ?_) | refine c_ret ?_ | refine c_exit ?_ | refine c_iff rfl nN ?_) | (show AT _ _ _ _; first | refine x_then ?_ | refine x_then_exit ?_ | refine x_blk_exit rfl ?_))
            rw [parML, if_pos hP, decide_eq_true hP, hc]
            exact x_ret2 Tryz.results18 (res_cellb 2 tabs rfl rfl rfl rfl) (res_tmp rfl) (fun w' c' => ⟨_, _, rfl, ⟨ak, ck, rfl, hsl, rfl⟩, c'.sub (.cons _ (.cons_cons _ (List.nil_sublist _)))⟩)
          · have hn : ¬ parM p s := fun hP => he (by rw [(hct hP).2 v1 v2 k1 k2]; exact hP.2)
            repeat' (first | (show oL; first | refine sMv rfl rfl ?_ | refine sAs rfl rfl ?_ | refine sLb 0 tabs rfl rfl rfl rfl rfl ?_ | (show oA (.binOp _ _ _ _ _); first | refine st_y (y_eqls rfl rfl) rfl ?_ | refine st_y (y_neqs rfl rfl) rfl ?_ | refine sLs rfl rfl rfl ?_) | (show oA (.call _); (refine m_call (ent_of Tryz.func17 kr rfl) rfl rfl (fun w c => impl_FormatMatrix_ok (m := (v1, v2, cellsS (bodyS s))) (c.own_rd (i := 1) rfl)) ?_; rintro v H' ⟨rfl, rfl⟩)) | (show oA (.pick _ _ _); refine st_y (y_pickf rfl aO rfl) rfl ?_) | (show oA (.store _ _ _); refine m_storeb 2 tabs rfl rfl rfl rfl rfl rfl rfl ?_) | (show oA (.build _ _); refine st_y (y_bld0 bld_mat0) rfl ?_) | refine st_gfy rfl rfl aO ?_) | refine xNt ?_ | (show oC; first | refine c_seq ?_ | refine c_region ?_ | refine c_ret ?_ | refine c_exit ?_ | refine c_ift rfl aO ?_ | refine c_iff rfl nN ?_) | (show AT _ _ _ _; first | refine x_then ?_ | refine x_then_ret ?_ | refine x_then_exit ?_ | refine x_blk_exit rfl ?_))
            all_goals exact x_ret2 Tryz.results18 (res_cellb 2 tabs rfl rfl rfl rfl) (res_tmp rfl) (fun w' c' => ⟨_, _, rfl, parM_no hn rfl rfl, Hp.nilp _ _ (c'.sub (List.nil_sublist _))⟩)
end Go.Proofs.YtdnhmnnccfoliaaGreatDoor
