import Derived.Lib.Split
import Derived.Lib.SplitLaws
import Derived.Lib.AtoiAll
import Derived.Lib.ItoaNum
import Derived.Test.YtdnhmnnccfoliaaGreatDoorPmpqrp
import Derived.Test.YtdnhmnnccfoliaaGreatDoorPmsqrp
import Derived.Test.YtdnhmnnccfoliaaGreatDoorPrsqrp
import Derived.Test.YtdnhmnnccfoliaaGreatDoorShpqrp
namespace Go.Proofs.YtdnhmnnccfoliaaGreatDoor
open Go.Lg Go.Proofs Go.RowKit

theorem idx_hit {d : UInt8} : ∀ {w : List UInt8} (r : List UInt8), (∀ x ∈ w, x ≠ d) → Lib.index (w ++ d :: r) [d] = w.length
  | [], r, _ => by simp [Lib.index, List.isPrefixOf]
  | y :: w, r, h => by
    have ih := idx_hit (w := w) r (fun x hx => h x (by simp [hx]))
    have hy : (d == y) = false := by
      have := h y (by simp)
      simpa using fun e => this e.symm
    rw [List.cons_append, Lib.index]
    simp only [List.isPrefixOf, hy, Bool.false_and, Bool.false_eq_true, if_false]
    rw [ih]
    have : ¬ (((w.length : Int) == -1) = true) := fun e => by have := beq_iff_eq.1 e; omega
    rw [if_neg this, List.length_cons]
    omega
theorem idx_miss {d : UInt8} : ∀ {w : List UInt8}, (∀ x ∈ w, x ≠ d) → Lib.index w [d] = -1
  | [], _ => rfl
  | y :: w, h => by
    have ih := idx_miss (w := w) (fun x hx => h x (by simp [hx]))
    have hy : (d == y) = false := by
      have := h y (by simp)
      simpa using fun e => this e.symm
    rw [Lib.index]
    simp only [List.isPrefixOf, hy, Bool.false_and, Bool.false_eq_true, if_false]
    rw [ih]; rfl
theorem cut_word {d : UInt8} {w r : List UInt8} (h : ∀ x ∈ w, x ≠ d) : Lib.cut (w ++ d :: r) [d] = (w, r, true) := by
  unfold Lib.cut
  rw [idx_hit r h, if_pos om, Int.toNat_natCast]
  rw [List.take_left, show w.length + [d].length = w.length + 1 from rfl, ← List.drop_drop, List.drop_left]
  rfl
theorem split_words {d : UInt8} : ∀ (ws : List (List UInt8)) {w : List UInt8}, (∀ x ∈ w, x ≠ d) → (∀ v ∈ ws, ∀ x ∈ v, x ≠ d) → Lib.split (w ++ ws.flatMap (fun v => d :: v)) [d] = w :: ws
  | [], w, h, _ => by
    rw [List.flatMap_nil, List.append_nil, Lib.split, Lib.count_miss (idx_miss h)]
    rfl
  | v :: ws, w, h, hs => by
    have ih := split_words ws (w := v) (hs v (by simp)) (fun u hu => hs u (by simp [hu]))
    have e : w ++ (v :: ws).flatMap (fun v => d :: v) = w ++ d :: (v ++ ws.flatMap (fun v => d :: v)) := by rw [List.flatMap_cons]; rfl
    have hi := idx_hit (v ++ ws.flatMap (fun v => d :: v)) h
    have hd : (w ++ d :: (v ++ ws.flatMap (fun v => d :: v))).drop (w.length + [d].length) = v ++ ws.flatMap (fun v => d :: v) := by
      rw [show w.length + [d].length = w.length + 1 from rfl, ← List.drop_drop, List.drop_left]; rfl
    rw [e, Lib.split, Lib.count_hit (by simp) hi, hd, Nat.add_comm, Lib.splitK, hi]
    have : ¬ (((w.length : Int) == -1) = true) := fun e => by have := beq_iff_eq.1 e; omega
    rw [if_neg this, Int.toNat_natCast, hd, Nat.add_zero, List.take_left]
    exact congrArg (w :: ·) ih
theorem cut_fmtM {p : Int} {m : Mat} (h : MatP p m) : Lib.cut (fmtM p m) [58] = ([dg m.1, 120, dg m.2.1], bodyN m.2.1.toNat m.2.2 m.2.2.length, true) ∧ Lib.cut [dg m.1, 120, dg m.2.1] [120] = ([dg m.1], [dg m.2.1], true) := by
  have r1 := h.1
  have r2 := h.2.1
  have h1 := (dg_ne (x := m.1) r1.1 om).2.1
  have h2 := (dg_ne (x := m.2.1) r2.1 om).2.1
  have h3 := (dg_ne2 (x := m.1) r1.1 om).2
  constructor
  · rw [fmtM_eq h]
    exact cut_word (d := 58) (w := [dg m.1, 120, dg m.2.1]) (fun x hx => by
      simp only [List.mem_cons, List.not_mem_nil, or_false] at hx
      rcases hx with rfl | rfl | rfl
      · exact h1
      · decide
      · exact h2)
  · exact cut_word (d := 120) (w := [dg m.1]) (r := [dg m.2.1]) (fun x hx => by
      rw [List.mem_singleton.1 hx]; exact h3)
theorem split_fmtR {r : Rp} (h : RepP r) : Lib.split (fmtR r) [32] = digL r.d :: r.m.map (fmtM r.p) := by
  rw [fmtR, if_pos h]
  have e : r.m.flatMap (fun m => 32 :: fmtM r.p m) = (r.m.map (fmtM r.p)).flatMap (fun v => 32 :: v) := by rw [List.flatMap_map]
  rw [e]
  refine split_words _ (digL_ne (fun x hx => ?_)) (fun v hv => ?_)
  · have := h.2.1.2.2.1 x hx
    omega
  · obtain ⟨m, hm, rfl⟩ := List.mem_map.1 hv
    obtain ⟨i, hi, e2⟩ := List.getElem_of_mem hm
    have := (h.2.2.2 i hi).1
    rw [List.getD, List.getElem?_eq_getElem hi, e2] at this
    exact fmtM_ne this
theorem atoi_dg {x : Int} (h0 : 0 ≤ x) (h9 : x ≤ 9) : Lib.atoiAll [dg x] = .ok x ∧ Lib.itoa x = [dg x] := by
  obtain ⟨k, rfl⟩ : ∃ k : Nat, x = k := ⟨x.toNat, by omega⟩
  have hk : k < 10 := by omega
  refine ⟨?_, by rw [Lib.itoa, if_neg om, Int.toNat_natCast, Lib.decDigits, dif_pos om, dg, Int.toNat_natCast]⟩
  match k, hk with
  | 0, _ => exact (by decide)
  | 1, _ => exact (by decide)
  | 2, _ => exact (by decide)
  | 3, _ => exact (by decide)
  | 4, _ => exact (by decide)
  | 5, _ => exact (by decide)
  | 6, _ => exact (by decide)
  | 7, _ => exact (by decide)
  | 8, _ => exact (by decide)
  | 9, _ => exact (by decide)
end Go.Proofs.YtdnhmnnccfoliaaGreatDoor

namespace Go.Lg
open Go.RowKit
section
variable {P : Program} {n : Nat} {C : World → Prop} {s : List (Nat × Value)} {x y : Operand} {t t' ty : Nat}
theorem run_equalIn_nn (w : World) (d : Nat) {t : TypeId} {ms : Array (String × TypeId)} (h : P.underlying t = some (.interface ms)) : (Op.equalIn (d + 1) t .nilIface .nilIface).run P w = .ok true w := by
  simp [Op.equalIn, underlying, h]
theorem run_equal_nn (w : World) {t : TypeId} {ms : Array (String × TypeId)} (h : P.underlying t = some (.interface ms)) : (Op.equal t .nilIface .nilIface).run P w = .ok true w := run_equalIn_nn w 9999 h
theorem run_equalIn_in (w : World) (d : Nat) {t u : TypeId} {v : Value} {ms : Array (String × TypeId)} (h : P.underlying t = some (.interface ms)) : (Op.equalIn (d + 1) t (.iface u v) .nilIface).run P w = .ok false w := by
  simp [Op.equalIn, underlying, h]
theorem run_equal_in (w : World) {t u : TypeId} {v : Value} {ms : Array (String × TypeId)} (h : P.underlying t = some (.interface ms)) : (Op.equal t (.iface u v) .nilIface).run P w = .ok false w := run_equalIn_in w 9999 h
theorem y_neqnn {ms : Array (String × TypeId)} (h : P.underlying t = some (.interface ms)) (hx : ev s x = some .nilIface) : Y P n C s (.binOp .neq t x (.const .nilIface) t') ty (.bool false) := fun a w f c d pos af g => by
  have hy : ev s (.const .nilIface) = some .nilIface := rfl
  simp [execOp, f.ev hx, f.ev hy, eqGuard, binOp, run_equal_nn w h]
theorem y_neqin {u : Nat} {v : Value} {ms : Array (String × TypeId)} (h : P.underlying t = some (.interface ms)) (hx : ev s x = some (.iface u v)) : Y P n C s (.binOp .neq t x (.const .nilIface) t') ty (.bool true) := fun a w f c d pos af g => by
  have hy : ev s (.const .nilIface) = some .nilIface := rfl
  simp [execOp, f.ev hx, f.ev hy, eqGuard, binOp, run_equal_in w h]
end
end Go.Lg
namespace Go.Proofs.YtdnhmnnccfoliaaGreatDoor
open Go.Lg Go.Proofs Go.RowKit
attribute [local irreducible] Code.wp wpList bodyPost Exit.then Exit.inBlock Hp Again Calls Y AT ResV QT Qn QI wpAny wpAnyQ
set_option maxRecDepth 20000
set_option maxHeartbeats 4000000

theorem FormatIntG_ok {w : World} {n : Int} (hG : Glb w) (h0 : -9223372036854775808 ≤ n) (h1 : n ≤ 9223372036854775807) : Does Tryz.prog 93 [iV n] w (fun r H => r = sV (Lib.itoa n) ∧ H = []) := by
  refine fn_enter Tryz.func93 rfl Tryz.ntmps93 rfl ?_
  repeat' (first | (show oL; first | refine sMv rfl rfl ?_ | refine sAs rfl rfl ?_ | (show oA (.call _); (refine m_call (ent_of Tryz.func155 kr rfl) rfl rfl (fun w c => itoaG_ok (hG.mono c) h0 h1) ?_; rintro v H' ⟨rfl, rfl⟩))) | refine xNt ?_ | (show oC; first | refine c_seq ?_ | refine c_region ?_ | refine c_ret ?_))
  exact x_ret1 Tryz.results93 (res_tmp rfl) (fun w' c' => ⟨_, _, rfl, ⟨rfl, rfl⟩, c'⟩)
theorem ParseInt_ok {w : World} {s : List UInt8} (hG : Glb w) (hs : s.length ≤ 2000000) : Does Tryz.prog 96 [sV s] w (fun r H => (∃ (v : Int) (b : Bool), r = .tuple #[iV v, .bool b] ∧ ∀ x : Int, 0 ≤ x → x ≤ 9 → s = [dg x] → v = x) ∧ H = []) := by
  by_cases ho : ∃ v, Lib.atoiAll s = .ok v
  · obtain ⟨v0, hv0⟩ := ho
    obtain ⟨vb0, vb1⟩ := Lib.atoiAll_bounds hv0
    refine fn_enter Tryz.func96 rfl Tryz.ntmps96 rfl ?_
    repeat' (first | (show oL; first | refine sMv rfl rfl ?_ | refine sAs rfl rfl ?_ | (show oA (.binOp _ _ _ _ _); first | refine st_y (y_neqnn Tryz.underlying155 rfl) rfl ?_ | refine st_y (y_neqs rfl rfl) rfl ?_) | (show oA (.unOp _ _ _); refine st_y (y_notd rfl) rfl ?_) | (show oA (.call _); first | (refine m_call (ent_of Tryz.func160 kr rfl) rfl rfl (fun w c => atoi_ok (hG.mono c) hs) ?_; rintro v H' ⟨v1, e1, rfl, (⟨hv1, rfl⟩ | ⟨hne, _⟩), rfl⟩) | (refine m_call (ent_of Tryz.func93 kr rfl) rfl rfl (fun w c => FormatIntG_ok (hG.mono c) (by have := hv1.symm.trans hv0; injection this; omega) (by have := hv1.symm.trans hv0; injection this; omega)) ?_; rintro v H' ⟨rfl, rfl⟩) | (refine m_call (ent_of Tryz.func106 kr rfl) rfl rfl (fun w c => within_ok _ _ _) ?_; rintro v H' ⟨rfl, rfl⟩)) | (show oA (.extract _ _); refine st_y (y_ext rfl rfl) rfl ?_) | (show oA (.pick _ _ _); first | refine st_y (y_pickt rfl aO rfl) rfl ?_ | refine st_y (y_pickf rfl aO rfl) rfl ?_ | refine st_y (y_pick rfl rfl rfl) rfl ?_) | refine st_gy rfl rfl ?_ | refine st_gfy rfl rfl aO ?_ | refine st_gfn rfl rfl aO rfl ?_ | refine st_gd rfl rfl (fun h => ?_) (fun h => ?_)) | refine xNt ?_ | (show oC; first | refine c_seq ?_ | refine c_region ?_ | refine c_skip (x_then ?_) | refine c_ret ?_ | refine c_true rfl ?_ | refine c_ifnd rfl (fun h => ?_) (fun h => ?_)) | (show AT _ _ _ _; refine x_then_ret ?_))
    all_goals first
      | exact absurd hv0 (hne v0)
      | exact x_ret2 Tryz.results96 (res_tmp rfl) (res_tmp rfl) (fun w' c' => ⟨_, _, rfl, ⟨⟨_, _, rfl, fun x g0 g9 hx => by
          obtain ⟨e1, e2⟩ := atoi_dg g0 g9
          rw [hx] at hv1
          have hh := e1.symm.trans hv1
          injection hh with hh
          first
            | exact hh.symm
            | (exfalso; omega)
            | exact absurd (show Lib.itoa v1 = s by rw [← hh, hx]; exact e2) aS⟩, rfl⟩, c'⟩)
  · refine fn_enter Tryz.func96 rfl Tryz.ntmps96 rfl ?_
    repeat' (first | (show oL; first | refine sMv rfl rfl ?_ | refine sAs rfl rfl ?_ | (show oA (.binOp _ _ _ _ _); refine st_y (y_neqin Tryz.underlying155 rfl) rfl ?_) | (show oA (.call _); (refine m_call (ent_of Tryz.func160 kr rfl) rfl rfl (fun w c => atoi_ok (hG.mono c) hs) ?_; rintro v H' ⟨v1, e1, rfl, (⟨hv1, rfl⟩ | ⟨hne, tp, ad, rfl⟩), rfl⟩)) | (show oA (.extract _ _); refine st_y (y_ext rfl rfl) rfl ?_) | (show oA (.pick _ _ _); refine st_y (y_pick rfl rfl rfl) rfl ?_) | refine st_gn rfl rfl rfl ?_) | refine xNt ?_ | (show oC; first | refine c_seq ?_ | refine c_region ?_ | refine c_ret ?_ | refine c_true rfl ?_) | (show AT _ _ _ _; refine x_then_ret ?_))
    · exact absurd ⟨_, hv1⟩ ho
    · exact x_ret2 Tryz.results96 (res_tmp rfl) (res_tmp rfl) (fun w' c' => ⟨_, _, rfl, ⟨⟨_, _, rfl, fun x g0 g9 hx => absurd ⟨x, by rw [hx]; exact (atoi_dg g0 g9).1⟩ ho⟩, rfl⟩, c'⟩)
end Go.Proofs.YtdnhmnnccfoliaaGreatDoor

namespace Go.Proofs.YtdnhmnnccfoliaaGreatDoor
open Go.Lg Go.Proofs Go.RowKit
attribute [local irreducible] Code.wp wpList bodyPost Exit.then Exit.inBlock Hp Again Calls Y AT ResV QT Qn QI wpAny wpAnyQ
set_option maxRecDepth 20000
set_option maxHeartbeats 4000000

theorem ptcut_len (s d : List UInt8) : (Lib.cut s d).1.length ≤ s.length ∧ (Lib.cut s d).2.1.length ≤ s.length := by
  unfold Lib.cut
  split
  · exact ⟨by simp only [List.length_take]; omega, by simp only [List.length_drop]; omega⟩
  · exact ⟨Nat.le_refl _, Nat.zero_le _⟩
def bodyS (s : List UInt8) : List UInt8 := (Lib.cut s [58]).2.1
theorem parM_cuts {p : Int} {s : List UInt8} (h : parM p s) : (bodyS s).length ≤ 72 ∧ ∀ v1 v2 : Int, (∀ x : Int, 0 ≤ x → x ≤ 9 → (Lib.cut (Lib.cut s [58]).1 [120]).1 = [dg x] → v1 = x) → (∀ x : Int, 0 ≤ x → x ≤ 9 → (Lib.cut (Lib.cut s [58]).1 [120]).2.1 = [dg x] → v2 = x) → (v1, v2, cellsS (bodyS s)) = candM s := by
  obtain ⟨hM, he⟩ := h
  obtain ⟨c1, c2⟩ := cut_fmtM hM
  rw [he] at c1
  have hb : bodyS s = bodyN (candM s).2.1.toNat (candM s).2.2 (candM s).2.2.length := by rw [bodyS, c1]
  refine ⟨by rw [hb]; exact body_le hM, fun v1 v2 k1 k2 => ?_⟩
  rw [c1] at k1 k2
  simp only [c2] at k1 k2
  have r1 := hM.1
  have r2 := hM.2.1
  have e1 := k1 (candM s).1 r1.1 om rfl
  have e2 := k2 (candM s).2.1 r2.1 om rfl
  have e3 := cells_body (C := (candM s).2.1.toNat) (matP_rng hM) (candM s).2.2.length (Nat.le_refl _)
  rw [List.take_length] at e3
  rw [e1, e2, hb, e3]
theorem impl_ParseMatrix_ok {w : World} {p : Int} {s : List UInt8} (hG : Glb w) (hl : s.length ≤ 2000000) : Does Tryz.prog 18 [iV p, sV s] w (GivesMB (parML p s) (decide (parM p s))) := by
  have hct := parM_cuts (p := p) (s := s)
  have hbd := parM_bd (p := p) (s := s)
  obtain ⟨l1, l2⟩ := ptcut_len s [58]
  obtain ⟨l3, l4⟩ := ptcut_len (Lib.cut s [58]).1 [120]
  have tok0 : True := trivial
  have tk0 : True := trivial
  have tk1 : True := trivial
  refine fn_enter Tryz.func18 rfl Tryz.ntmps18 rfl ?_
  repeat' (first | (show oL; first | refine sMv rfl rfl ?_ | refine sAs rfl rfl ?_ | refine sFd tabs rfl rfl rfl rfl ?_ | (show oA (.binOp _ _ _ _ _); refine st_y (y_gtr rfl rfl) rfl ?_) | (show oA (.call _); first | refine st_y (y_lens Tryz.underlying9 rfl) rfl ?_ | (have _t := tk0; refine m_call (ent_of Tryz.func95 kr rfl) rfl rfl (fun w c => cut_ok (s := s) (d := [58]) (hG.mono c) hl) ?_; clear _t tk0; rintro v H' ⟨rfl, rfl⟩) | (refine m_call (ent_of Tryz.func95 kr rfl) rfl rfl (fun w c => cut_ok (s := (Lib.cut s [58]).1) (d := [120]) (hG.mono c) om) ?_; rintro v H' ⟨rfl, rfl⟩) | (have _t := tk1; refine m_call (ent_of Tryz.func96 kr rfl) rfl rfl (fun w c => ParseInt_ok (s := (Lib.cut (Lib.cut s [58]).1 [120]).1) (hG.mono c) om) ?_; clear _t tk1; rintro v H' ⟨⟨v1, bb1, rfl, k1⟩, rfl⟩) | (refine m_call (ent_of Tryz.func96 kr rfl) rfl rfl (fun w c => ParseInt_ok (s := (Lib.cut (Lib.cut s [58]).1 [120]).2.1) (hG.mono c) om) ?_; rintro v H' ⟨⟨v2, bb2, rfl, k2⟩, rfl⟩)) | (show oA (.extract _ _); refine st_y (y_ext rfl rfl) rfl ?_) | (show oA (.store _ _ _); first | refine m_storef 0 tabs rfl rfl rfl rfl rfl rfl ?_ | refine m_storeb 1 tabs rfl rfl rfl rfl rfl rfl rfl ?_) | (show oA (.alloc _); first | (have _t := tok0; refine m_alloc tabs rfl rfl (fun b4 hb4 => ?_); clear _t tok0) | refine m_alloc tabs rfl rfl (fun b12 hb12 => ?_)) | (show oA (.build _ _); refine st_y (y_bld0 bld_mat0) rfl ?_)) | refine xNt ?_ | (show oC; first | refine c_seq ?_ | refine c_region ?_ | refine c_skip (x_then ?_) | refine c_block ?_ | refine c_ret ?_ | refine c_if rfl (fun h => ?_) (fun h => ?_)) | (show AT _ _ _ _; refine x_then_ret ?_))
  · have hn : ¬ parM p s := fun hP => by
      have h1 := (hct hP).1
      rw [bodyS] at h1
      omega
    exact x_ret2 Tryz.results18 (res_cellb 1 tabs rfl rfl rfl rfl) (res_tmp rfl) (fun w' c' => ⟨_, _, rfl, parM_no hn rfl rfl, Hp.nilp _ _ (c'.sub (List.nil_sublist _))⟩)
  · skip
    refine c_loopH (α := Nat × Option Addr × Nat) [0, 1, 4, 7, 12, 43] (fun x => [(44, iV x.1)]) (fun x => x.1 ≤ (bodyS s).length) (fun x => [.blk b12 #[iV v1, iV v2, .slice x.2.1 (cellsS ((bodyS s).take x.1)).length x.2.2] 41, .own (iT (cellsS ((bodyS s).take x.1))) (.slice x.2.1 (cellsS ((bodyS s).take x.1)).length x.2.2), .blk b4 #[iV 0, iV 0, .slice none 0 0] 41]) (fun x => (bodyS s).length - x.1) (0, none, 0) rfl sB ?_ ?_ ?_
    · exact Nat.zero_le _
    · exact fun w' c' => (Hp.nilp _ _ c').swap
    · rintro ⟨k, ak, ck⟩ hk
      simp only at hk ⊢
      have hB72 : (bodyS s).length ≤ 72 := by rw [bodyS]; omega
      have hcl : (cellsS ((bodyS s).take k)).length ≤ 72 := Nat.le_trans (cells_le _) (by rw [List.length_take]; omega)
      by_cases hin : k < (bodyS s).length
      · have hnx := cells_next (B := bodyS s) (k := k) hin
        have hb := ((bodyS s).getD k 0).toNat_lt
        have hin' : k < (Lib.cut s [58]).2.1.length := hin
        by_cases hx : (bodyS s).getD k 0 = 47
        · have hx2 : (((Lib.cut s [58]).2.1.getD k 0).toNat : Int) = 47 := by show (((bodyS s).getD k 0).toNat : Int) = 47; rw [hx]; rfl
          rw [if_pos hx] at hnx
          repeat' (first | (show oL; first | refine sMv rfl rfl ?_ | refine sAs rfl rfl ?_ | (show oA (.binOp _ _ _ _ _); first | refine st_y (y_neqk rfl rfl) rfl ?_ | refine sAd rfl rfl om rfl ?_ | refine sLs rfl rfl rfl ?_) | (show oA (.index _ _ _); refine st_y (y_indexc (j := k) Tryz.underlying9 rfl rfl om om) rfl ?_)) | refine xNt ?_ | (show oC; first | refine c_seq ?_ | refine c_region ?_ | refine c_skip (x_then ?_) | refine c_skip (x_blk ?_) | refine c_block ?_ | refine c_ift rfl aO ?_ | refine c_iff rfl nN ?_) | (show AT _ _ _ _; refine x_then ?_))
          exact x_nx (k + 1, ak, ck) sB (by simp only; omega) (fun w' c' => by simp only [hnx]; exact c') (by simp only; omega)
        · have hx2 : (((Lib.cut s [58]).2.1.getD k 0).toNat : Int) ≠ 47 := fun e => hx (UInt8.toNat_inj.1 (show ((bodyS s).getD k 0).toNat = 47 by (have e' : (((bodyS s).getD k 0).toNat : Int) = 47 := e); omega))
          rw [if_neg hx] at hnx
          repeat' (first | (show oL; first | refine sMv rfl rfl ?_ | refine sAs rfl rfl ?_ | (show oA (.binOp _ _ _ _ _); first | refine st_y (y_neqk rfl rfl) rfl ?_ | refine sLs rfl rfl rfl ?_) | (show oA (.index _ _ _); refine st_y (y_indexc (j := k) Tryz.underlying9 rfl rfl om om) rfl ?_)) | refine xNt ?_ | (show oC; first | refine c_seq ?_ | refine c_region ?_ | refine c_skip (x_then ?_) | refine c_block ?_ | refine c_ift rfl aO ?_))
          refine c_mixR (Hp [] w [.blk b12 #[iV v1, iV v2, .slice ak (cellsS ((bodyS s).take k)).length ck] 41]) 9 kr kr kr kr kr (fun _ c => Hp.drew c) ?_
          refine h_take 0 rfl kr kr kr (by exact y_field tabs rfl rfl rfl) rfl sS ?_
          refine h_take 1 rfl kr kr kr (by exact y_load tabs rfl rfl (hc_blk 0 rfl rfl)) rfl sS ?_
          refine h_take 2 rfl kr kr kr (by exact y_move rfl) rfl sS ?_
          refine h_take 3 rfl kr kr kr (by exact y_move rfl) rfl sS ?_
          refine h_take 4 rfl kr kr kr (by exact y_indexc (j := k) Tryz.underlying9 rfl rfl om om) rfl sS ?_
          refine h_take 5 rfl kr kr kr (by exact y_convk (t := 5) (t' := 3) (k := .u8) (k' := .i64) kr kr kr rfl (byte_i64 _)) rfl sS ?_
          refine h_take 6 rfl kr kr kr (by exact y_sub rfl rfl (by have := ((Lib.cut s [58]).2.1.getD k 0).toNat_lt; omega)) rfl sS ?_
          refine h_only 7 rfl kr ?_
          first | (refine m_build1 tabs (us := [iV (((bodyS s).getD k 0).toNat - 48)]) rfl rfl rfl rfl (by decide) rfl (fun g7 hg7 => ?_)) | (refine m_pushi 1 tabs rfl rfl rfl rfl rfl om (fun a8 c8 => ?_))
          refine c_nil (x_one (h_keep sS ?_))
          refine h_only 8 rfl kr ?_
          first | (refine m_build1 tabs (us := [iV (((bodyS s).getD k 0).toNat - 48)]) rfl rfl rfl rfl (by decide) rfl (fun g7 hg7 => ?_)) | (refine m_pushi 1 tabs rfl rfl rfl rfl rfl om (fun a8 c8 => ?_))
          refine c_nil (x_one (h_keep sS ?_))
          refine h_end kr ?_
          repeat' (first | (show oL; first | refine sMv rfl rfl ?_ | refine sFd tabs rfl rfl rfl rfl ?_ | refine sAd rfl rfl om rfl ?_ | (show oA (.store _ _ _); refine m_storef 1 tabs rfl rfl rfl rfl rfl rfl ?_)) | (show oN; first | refine c_nil (x_then ?_) | refine c_nil ?_) | (show oC; refine c_region ?_) | (show AT _ _ _ _; first | refine x_then ?_ | refine x_blk ?_))
          exact x_nx (k + 1, a8, c8) sB (by simp only; omega) (fun w' c' => by simp only [hnx, List.length_append, List.length_singleton]; exact c'.swap) (by simp only; omega)
      · have eB : (bodyS s).take k = bodyS s := List.take_of_length_le om
        have hke : (k : Int) = ((Lib.cut s [58]).2.1.length : Nat) := by (have : k = (bodyS s).length := by omega); rw [this]; rfl
        rw [eB]
        refine AT.fact (own_sl 1 rfl) (fun hsl => ?_)
        obtain ⟨_, _, e1, hsl⟩ := hsl
        cases e1
        by_cases hs0 : s = []
        · have hn : ¬ parM p s := fun hP => by have h1 := (hbd hP).1; rw [hs0] at h1; simp at h1
          repeat' (first | (show oL; first | refine sMv rfl rfl ?_ | refine sAs rfl rfl ?_ | (show oA (.binOp _ _ _ _ _); first | refine st_y (y_eqls rfl rfl) rfl ?_ | refine sLs rfl rfl rfl ?_) | (show oA (.pick _ _ _); refine st_y (y_pickt rfl aO rfl) rfl ?_) | (show oA (.store _ _ _); refine m_storeb 2 tabs rfl rfl rfl rfl rfl rfl rfl ?_) | (show oA (.build _ _); refine st_y (y_bld0 bld_mat0) rfl ?_) | refine st_gfn rfl rfl aO rfl ?_) | refine xNt ?_ | (show oC; first | refine c_seq ?_ | refine c_region ?_ | refine c_ret ?_ | refine c_exit ?_ | refine c_true rfl ?_ | refine c_iff rfl nN ?_) | (show AT _ _ _ _; first | refine x_then ?_ | refine x_then_ret ?_ | refine x_then_exit ?_ | refine x_blk_exit rfl ?_))
          all_goals first | exact absurd hs0 aS | exact x_ret2 Tryz.results18 (res_cellb 2 tabs rfl rfl rfl rfl) (res_tmp rfl) (fun w' c' => ⟨_, _, rfl, parM_no hn rfl rfl, Hp.nilp _ _ (c'.sub (List.nil_sublist _))⟩)
        · by_cases he : fmtM p (v1, v2, cellsS (bodyS s)) = s
          · have hM : MatP p (v1, v2, cellsS (bodyS s)) := Decidable.by_contra (fun hm => by
              rw [fmtM, if_neg hm] at he
              exact hs0 he.symm)
            have hc : candM s = (v1, v2, cellsS (bodyS s)) := by
              have := cand_fmtM hM
              rw [he] at this
              exact this
            have hP : parM p s := parM_iff.2 ⟨_, hM, he⟩
            have he' := not_not_intro he
            repeat' (first | (show oL; first | refine sMv rfl rfl ?_ | refine sAs rfl rfl ?_ | refine sLb 0 tabs rfl rfl rfl rfl rfl ?_ | (show oA (.binOp _ _ _ _ _); first | refine st_y (y_eqls rfl rfl) rfl ?_ | refine st_y (y_neqs rfl rfl) rfl ?_ | refine sLs rfl rfl rfl ?_) | (show oA (.call _); (refine m_call (ent_of Tryz.func17 kr rfl) rfl rfl (fun w c => impl_FormatMatrix_ok (m := (v1, v2, cellsS (bodyS s))) (c.own_rd (i := 1) rfl)) ?_; rintro v H' ⟨rfl, rfl⟩)) | (show oA (.pick _ _ _); refine st_y (y_pickf rfl aO rfl) rfl ?_) | (show oA (.store _ _ _); refine m_storeb 2 tabs rfl rfl rfl rfl rfl rfl rfl ?_) | refine st_gfy rfl rfl aO ?_) | refine xNt ?_ | (show oC; first | refine c_seq ?_ | refine c_region ?_ | refine c_skip (x_then ?_) | refine c_ret ?_ | refine c_exit ?_ | refine c_iff rfl nN ?_) | (show AT _ _ _ _; first | refine x_then ?_ | refine x_then_exit ?_ | refine x_blk_exit rfl ?_))
            rw [parML, if_pos hP, decide_eq_true hP, hc]
            exact x_ret2 Tryz.results18 (res_cellb 2 tabs rfl rfl rfl rfl) (res_tmp rfl) (fun w' c' => ⟨_, _, rfl, ⟨ak, ck, rfl, hsl, rfl⟩, c'.sub (.cons _ (.cons_cons _ (List.nil_sublist _)))⟩)
          · have hn : ¬ parM p s := fun hP => he (by rw [(hct hP).2 v1 v2 k1 k2]; exact hP.2)
            repeat' (first | (show oL; first | refine sMv rfl rfl ?_ | refine sAs rfl rfl ?_ | refine sLb 0 tabs rfl rfl rfl rfl rfl ?_ | (show oA (.binOp _ _ _ _ _); first | refine st_y (y_eqls rfl rfl) rfl ?_ | refine st_y (y_neqs rfl rfl) rfl ?_ | refine sLs rfl rfl rfl ?_) | (show oA (.call _); (refine m_call (ent_of Tryz.func17 kr rfl) rfl rfl (fun w c => impl_FormatMatrix_ok (m := (v1, v2, cellsS (bodyS s))) (c.own_rd (i := 1) rfl)) ?_; rintro v H' ⟨rfl, rfl⟩)) | (show oA (.pick _ _ _); refine st_y (y_pickf rfl aO rfl) rfl ?_) | (show oA (.store _ _ _); refine m_storeb 2 tabs rfl rfl rfl rfl rfl rfl rfl ?_) | (show oA (.build _ _); refine st_y (y_bld0 bld_mat0) rfl ?_) | refine st_gfy rfl rfl aO ?_) | refine xNt ?_ | (show oC; first | refine c_seq ?_ | refine c_region ?_ | refine c_ret ?_ | refine c_exit ?_ | refine c_ift rfl aO ?_ | refine c_iff rfl nN ?_) | (show AT _ _ _ _; first | refine x_then ?_ | refine x_then_ret ?_ | refine x_then_exit ?_ | refine x_blk_exit rfl ?_))
            all_goals exact x_ret2 Tryz.results18 (res_cellb 2 tabs rfl rfl rfl rfl) (res_tmp rfl) (fun w' c' => ⟨_, _, rfl, parM_no hn rfl rfl, Hp.nilp _ _ (c'.sub (List.nil_sublist _))⟩)
end Go.Proofs.YtdnhmnnccfoliaaGreatDoor

namespace Go.Proofs.YtdnhmnnccfoliaaGreatDoor
open Go.Lg Go.Proofs Go.RowKit Go.Shelf

theorem splitB_list (s d : List UInt8) (k : Nat) : (Lib.splitB ⟨d.toArray⟩ 0 k ⟨s.toArray⟩).map Value.string = (Lib.splitK d 0 k s).map sV := by
  have h := Lib.splitB_data ⟨d.toArray⟩ 0 k ⟨s.toArray⟩
  rw [ba_of, ba_of] at h
  rw [← h, List.map_map]
  exact List.map_congr_left (fun b _ => by
    show Value.string b = sV b.data.toList
    rw [sV, Array.toArray_toList])
theorem split_ok {w : World} {s : List UInt8} {d : UInt8} (hG : Glb w) (hs : s.length ≤ 2000000) : Does Tryz.prog 80 [sV s, sV [d]] w (fun r H => ∃ a c, r = .slice a (Lib.split s [d]).length c ∧ H = [.own (strT (Lib.split s [d])) (.slice a (Lib.split s [d]).length c)]) := by
  obtain ⟨m, hm⟩ := hG.m
  have h1 : 1 ≤ (ByteArray.mk [d].toArray).size := Nat.le_refl _
  have h := Any.strings_Split splitLys kr ⟨s.toArray⟩ ⟨[d].toArray⟩ m w (by show s.toArray.size < _; rw [List.size_toArray]; omega) hm h1
  have hcb := Lib.countB_le (ByteArray.mk [d].toArray) h1 s.length ⟨s.toArray⟩ (by show s.toArray.size ≤ _; rw [List.size_toArray]; exact Nat.le_refl _)
  have hcb2 : Lib.countB ⟨s.toArray⟩ (ByteArray.mk [d].toArray) ≤ 2000000 := Nat.le_trans hcb (by show s.toArray.size ≤ _; rw [List.size_toArray]; exact hs)
  have hlen := Lib.splitB_all (ByteArray.mk [d].toArray) h1 0 _ ⟨s.toArray⟩ rfl
  have ec : Lib.countB ⟨s.toArray⟩ (ByteArray.mk [d].toArray) = Lib.count s [d] := by
    have := ba_of s
    have := ba_of [d]
    simp [Lib.countB]
  have el : (Lib.split s [d]).length = Lib.countB ⟨s.toArray⟩ (ByteArray.mk [d].toArray) + 1 := by
    rw [← hlen, ← List.length_map (f := Value.string), splitB_list, List.length_map, ec]; rfl
  have es : (Lib.splitB ⟨[d].toArray⟩ 0 (Lib.countB ⟨s.toArray⟩ ⟨[d].toArray⟩) ⟨s.toArray⟩).map Value.string = (Lib.split s [d]).map sV := by rw [splitB_list, ec]; rfl
  rw [es] at h
  exact h.mono (by
    rintro e w' ⟨rfl, rfl⟩
    rw [← el]
    refine ⟨_, _, rfl, ⟨_, _, rfl, rfl⟩, ?_⟩
    refine ((Hp.nil (w0 := w)).alloc _ _).say (H1 := [.own (strT (Lib.split s [d])) (.slice (some ⟨w.heap.size, 0, none⟩) (Lib.split s [d]).length (Lib.split s [d]).length)]) (fun f hf => ?_)
    obtain ⟨h1, rfl⟩ := hf
    refine ⟨[w.heap.size], List.Perm.refl _, [w.heap.size], [], rfl, ?_, rfl⟩
    simp only [HE.sat, Own, strT]
    refine .inr ⟨w.heap.size, (Lib.split s [d]).length, (Lib.split s [d]).length, _, [], rfl, h1, by simp, Nat.le_refl _, by unfold maxLen; omega, by simp, ?_, rfl⟩
    rw [List.toList_toArray, Nat.mul_one, List.take_of_length_le (by simp)]
    exact OwnL.consts _)
end Go.Proofs.YtdnhmnnccfoliaaGreatDoor

namespace Go.Proofs.YtdnhmnnccfoliaaGreatDoor
open Go.Lg Go.Proofs Go.RowKit
attribute [local irreducible] Code.wp wpList bodyPost Exit.then Exit.inBlock Hp Again Calls Y AT ResV QT Qn QI wpAny wpAnyQ
set_option maxRecDepth 20000
set_option maxHeartbeats 4000000

theorem splitK_len {d : List UInt8} : ∀ (k : Nat) (s : List UInt8), ∀ v ∈ Lib.splitK d 0 k s, v.length ≤ s.length
  | 0, s, v, hv => by rw [Lib.splitK, List.mem_singleton] at hv; rw [hv]; exact Nat.le_refl _
  | k + 1, s, v, hv => by
    rw [Lib.splitK] at hv
    split at hv
    · rw [List.mem_singleton] at hv; rw [hv]; exact Nat.le_refl _
    · rcases List.mem_cons.1 hv with h | h
      · rw [h, List.length_take]; omega
      · have := splitK_len k _ v h
        rw [List.length_drop] at this
        omega
theorem split_len {s : List UInt8} {d : List UInt8} (j : Nat) : ((Lib.split s d).getD j []).length ≤ s.length := by
  rcases Nat.lt_or_ge j (Lib.split s d).length with hj | hj
  · refine splitK_len (d := d) (Lib.count s d) s _ ?_
    rw [List.getD, List.getElem?_eq_getElem hj]; exact List.getElem_mem _
  · rw [List.getD, List.getElem?_eq_none hj]; simp
def candI (p : Int) (q : Qv) (s : List UInt8) : Rp := ⟨p, q, numsS ((Lib.split s [32]).getD 0 []), ((Lib.split s [32]).drop 1).map (parML p)⟩
theorem candI_fmt {r : Rp} (h : RepP r) : candI r.p r.q (fmtR r) = r := by
  have h1 := cand_fmtR h
  rw [candR, cut_fmtR h] at h1
  rw [candI, split_fmtR h]
  exact h1
theorem parR_I {p : Int} {q : Qv} {s : List UInt8} (h : parR p q s) : candI p q s = candR p q s ∧ QuivP q ∧ s ≠ [] ∧ (Lib.split s [32]).length = 1 + q.2.1.length ∧ ((Lib.split s [32]).getD 0 []).length ≤ 5 := by
  obtain ⟨h1, h2⟩ := h
  have e1 := candI_fmt h1
  have e2 := split_fmtR h1
  rw [h2] at e1 e2
  have hd : (candR p q s).d.length ≤ 5 := by have := h1.2.1.2.1; have := h1.2.1.1.1; omega
  have hd1 : 1 ≤ (candR p q s).d.length := by have := h1.2.1.2.1; have := h1.2.1.1.1; omega
  refine ⟨e1, h1.2.1.1, fun e => ?_, ?_, ?_⟩
  · have h3 : (fmtR (candR p q s)).length = 0 := by rw [h2, e]; rfl
    rw [fmtR, if_pos h1, List.length_append, digL, List.length_map] at h3
    omega
  · rw [e2, List.length_cons, List.length_map, h1.2.2.1]
    show q.2.1.length + 1 = _
    omega
  · rw [e2]
    show (digL (candR p q s).d).length ≤ 5
    rw [digL, List.length_map]; exact hd
theorem subA1 {a : Option Addr} {n cap : Nat} (hs : SA a (n + 1)) (hn : 0 < n) (hc : n + 1 ≤ cap) : subA a 1 1 cap = some ⟨ab a, ao a + 1, none⟩ := by
  unfold subA
  rw [if_neg om, hs.get om]
  simp [Addr.add_lit, ab, ao]
theorem str_cap (i : Nat) {M : List Nat} {w0 : World} {H : List HE} {l : List (List UInt8)} {a : Option Addr} {m c : Nat} (hi : H[i]? = some (.own (strT l) (.slice a m c))) : ∀ w, Hp M w0 H w → l.length ≤ c := fun w cw => by
  obtain ⟨a', m', cap, h1, h2, h3, h4, h5, h6⟩ := Rd.open (by decide) (cw.own_rd hi)
  cases h1
  rw [List.length_map, List.length_map, Nat.mul_one] at h5
  omega
theorem bld_rpq (p r : Int) (a0 a1 : Option Addr) (m0 c0 m1 c1 : Nat) (w : World) : (Instr.build 29 #[(0, iV p), (1, .agg #[iV r, .slice a0 m0 c0, .slice a1 m1 c1])]).run Tryz.prog w = .ok (.agg #[iV p, iV r, .slice a0 m0 c0, .slice a1 m1 c1, .slice none 0 0, .slice none 0 0]) w := by kernel_rfl
theorem impl_ParseRep_ok {w : World} {p : Int} {q : Qv} {s : List UInt8} {u0 u1 : Value} (hG : Glb w) (hl : s.length ≤ 2000000) (h0 : Rd w (iT q.2.1) u0) (h1 : Rd w (iT q.2.2) u1) : Does Tryz.prog 9 [iV p, .agg #[iV q.1, u0, u1], sV s] w (GivesRB (parRL p q s) (decide (parR p q s))) := by
  have hpr := parR_I (p := p) (q := q) (s := s)
  obtain ⟨v0, v0', rfl, _, _, _, _⟩ := h0.ints
  obtain ⟨v1, v1', rfl, _, _, _, _⟩ := h1.ints
  have hg : ∀ j, j < (Lib.split s [32]).length → ((Lib.split s [32]).map sV)[j]? = some (sV ((Lib.split s [32]).getD j [])) := fun j hj => by
    rw [List.getElem?_map, List.getD, List.getElem?_eq_getElem hj]; rfl
  have hsl0 := fun j => split_len (s := s) (d := [32]) j
  have tok0 : True := trivial
  by_cases hq : s ≠ [] ∧ QuivP q ∧ (Lib.split s [32]).length = 1 + q.2.1.length
  · obtain ⟨q1, q2, q3⟩ := hq
    have q3' : (((Lib.split s [32]).length : Nat) : Int) = 1 + ((q.2.1.length : Nat) : Int) := by omega
    have hpos : 0 < (Lib.split s [32]).length := by omega
    have hF6 := q2.2.1
    have hsz : szQ q ≤ 1048576 := by have := q2.2.1; have := q2.2.2.1; unfold szQ; omega
    refine fn_enter Tryz.func9 rfl Tryz.ntmps9 rfl ?_
    repeat' (first | (show oL; first | refine sMv rfl rfl ?_ | refine sAs rfl rfl ?_ | (show oA (.call _); (refine m_call (ent_of Tryz.func80 kr rfl) rfl rfl (fun w c => split_ok (s := s) (d := 32) (hG.mono c) hl) ?_; rintro v H' ⟨a, c, rfl, rfl⟩)) | (show oA (.box _ _); refine m_box rfl rfl (fun b4 hb4 => ?_)) | (show oA (.alloc _); (have _t := tok0; refine m_alloc tabs rfl rfl (fun b6 hb6 => ?_); clear _t tok0))) | refine xNt ?_ | (show oC; first | refine c_seq ?_ | refine c_region ?_))
    refine AT.fact (str_sl 0 rfl) (fun hsl => ?_)
    have hs := hsl.1
    refine AT.fact (str_cap 0 rfl) (fun hcap => ?_)
    repeat' (first | (show oL; first | refine sMv rfl rfl ?_ | refine sAs rfl rfl ?_ | refine sFd tabs rfl rfl rfl rfl ?_ | (show oA (.load _ _); first | refine sLb 2 tabs rfl rfl rfl rfl rfl ?_ | refine sLd 2 tabs rfl rfl rfl rfl rfl ?_ | refine st_y (y_load tabs rfl rfl (hc_nm 3 rfl (hg 0 hpos))) rfl ?_) | (show oA (.indexAddr _ _ _); refine st_y (y_ix1 tabs (j := 0) rfl rfl rfl hs rfl hpos) rfl ?_) | (show oA (.binOp _ _ _ _ _); first | refine st_y (y_eqls rfl rfl) rfl ?_ | refine sAd rfl rfl om rfl ?_ | refine st_y (y_gtr rfl rfl) rfl ?_ | refine st_y (y_neq rfl rfl) rfl ?_) | (show oA (.unOp _ _ _); refine st_y (y_not rfl) rfl ?_) | (show oA (.call _); first | refine st_y (y_lens Tryz.underlying9 rfl) rfl ?_ | (refine m_call (ent_of Tryz.func81 kr rfl) rfl rfl (fun w c => impl_IsQuiver_ok (q := q) (c.rd h0) (c.rd h1)) ?_; rw [decide_eq_true q2]; rintro v H' ⟨rfl, rfl⟩) | (refine m_call (ent_of Tryz.func82 kr rfl) rfl rfl (fun w c => qclone_ok (q := q) (c.rd h0) (c.rd h1) hsz) ?_; rintro v H' ⟨x0, x0', x1, x1', rfl, sx0, sx1, rfl⟩) | refine sLn tabs rfl rfl rfl ?_) | (show oA (.pick _ _ _); first | refine st_y (y_pickf rfl aO rfl) rfl ?_ | refine st_y (y_pick rfl rfl rfl) rfl ?_) | (show oA (.store _ _ _); first | refine m_storeb 0 tabs rfl rfl rfl rfl rfl rfl rfl ?_ | refine m_storeb 4 tabs rfl rfl rfl rfl rfl rfl rfl ?_) | (show oA (.alloc _); refine m_alloc tabs rfl rfl (fun b9 hb9 => ?_)) | (show oA (.build _ _); first | refine st_y (y_bld2 (bld_rpq _ _ _ _ _ _ _ _) rfl rfl) rfl ?_ | refine st_y (y_bld0 bld_rp0) rfl ?_) | refine st_gy rfl rfl ?_ | refine st_gfy rfl rfl aO ?_) | refine xNt ?_ | (show oC; first | refine c_seq ?_ | refine c_region ?_ | refine c_skip (x_then ?_) | refine c_block ?_ | refine c_ret ?_ | refine c_iff rfl nN ?_ | refine c_if rfl (fun h => ?_) (fun h => ?_)) | (show AT _ _ _ _; refine x_then_ret ?_))
    · have hn : ¬ parR p q s := fun hP => by have h5 := (hpr hP).2.2.2.2; omega
      exact x_ret2 Tryz.results9 (res_cellb 4 tabs rfl rfl rfl rfl) (res_tmp rfl) (fun w' c' => ⟨_, _, rfl, parR_no hn rfl rfl, Hp.nilp _ _ (Hp.nilp _ _ (Hp.nilp _ _ (Hp.nilp _ _ (c'.sub (List.nil_sublist _)))))⟩)
    · have hw5 : ((Lib.split s [32]).getD 0 []).length ≤ 5 := by omega
      refine AT.cls (C' := Hp [] w [.blk b9 #[iV p, iV q.1, .slice x0 q.2.1.length x0', .slice x1 q.2.2.length x1', .slice none 0 0, .slice none 0 0] 29, .own (matsT 41 []) (.slice none 0 0), .own (iT (numsS (((Lib.split s [32]).getD 0 []).take 0))) (.slice none 0 0), .own (iT q.2.2) (.slice x1 q.2.2.length x1'), .own (iT q.2.1) (.slice x0 q.2.1.length x0'), .own (strT (Lib.split s [32])) (.slice a (Lib.split s [32]).length c), .blk b6 #[iV 0, iV 0, .slice none 0 0, .slice none 0 0, .slice none 0 0, .slice none 0 0] 29, .blk b4 #[iV q.1, .slice v0 q.2.1.length v0', .slice v1 q.2.2.length v1'] 26]) (fun w' c' => (Hp.nilp _ _ (Hp.nilp _ _ c')).sel [2, 0, 1, 3, 4, 5, 6, 7] rfl) ?_
      refine c_loopH (α := Nat × Option Addr × Nat) [0, 2, 6, 8, 9, 47] (fun x => [(48, iV x.1)]) (fun x => x.1 ≤ ((Lib.split s [32]).getD 0 []).length) (fun x => [.blk b9 #[iV p, iV q.1, .slice x0 q.2.1.length x0', .slice x1 q.2.2.length x1', .slice x.2.1 x.1 x.2.2, .slice none 0 0] 29, .own (matsT 41 []) (.slice none 0 0), .own (iT (numsS (((Lib.split s [32]).getD 0 []).take x.1))) (.slice x.2.1 x.1 x.2.2), .own (iT q.2.2) (.slice x1 q.2.2.length x1'), .own (iT q.2.1) (.slice x0 q.2.1.length x0'), .own (strT (Lib.split s [32])) (.slice a (Lib.split s [32]).length c), .blk b6 #[iV 0, iV 0, .slice none 0 0, .slice none 0 0, .slice none 0 0, .slice none 0 0] 29, .blk b4 #[iV q.1, .slice v0 q.2.1.length v0', .slice v1 q.2.2.length v1'] 26]) (fun x => ((Lib.split s [32]).getD 0 []).length - x.1) (0, none, 0) rfl sB ?_ ?_ ?_
      · exact Nat.zero_le _
      · exact fun w' c' => c'
      · rintro ⟨i, ad, cd⟩ hi
        simp only at hi ⊢
        by_cases hin : i < ((Lib.split s [32]).getD 0 []).length
        · have hb := (((Lib.split s [32]).getD 0 []).getD i 0).toNat_lt
          have hnl : (numsS (((Lib.split s [32]).getD 0 []).take i)).length = i := by rw [numsS, List.length_map, List.length_take]; omega
          repeat' (first | (show oL; first | refine sMv rfl rfl ?_ | refine sAs rfl rfl ?_ | refine sLs rfl rfl rfl ?_) | refine xNt ?_ | (show oC; first | refine c_seq ?_ | refine c_region ?_ | refine c_skip (x_then ?_) | refine c_block ?_ | refine c_ift rfl aO ?_))
          refine c_mixR (Hp [] w [.blk b9 #[iV p, iV q.1, .slice x0 q.2.1.length x0', .slice x1 q.2.2.length x1', .slice ad i cd, .slice none 0 0] 29, .own (strT (Lib.split s [32])) (.slice a (Lib.split s [32]).length c)]) 11 kr kr kr kr kr (fun _ c => Hp.drew c) ?_
          refine h_take 0 rfl kr kr kr (by exact y_field tabs rfl rfl rfl) rfl sS ?_
          refine h_take 1 rfl kr kr kr (by exact y_load tabs rfl rfl (hc_blk 0 rfl rfl)) rfl sS ?_
          refine h_take 2 rfl kr kr kr (by exact y_move rfl) rfl sS ?_
          refine h_take 3 rfl kr kr kr (by exact y_ix1 tabs (j := 0) rfl rfl rfl hs rfl hpos) rfl sS ?_
          refine h_take 4 rfl kr kr kr (by exact y_load tabs rfl rfl (hc_nm 1 rfl (hg 0 hpos))) rfl sS ?_
          refine h_take 5 rfl kr kr kr (by exact y_move rfl) rfl sS ?_
          refine h_take 6 rfl kr kr kr (by exact y_indexc (j := i) Tryz.underlying9 rfl rfl om om) rfl sS ?_
          refine h_take 7 rfl kr kr kr (by exact y_convk (t := 5) (t' := 3) (k := .u8) (k' := .i64) kr kr kr rfl (byte_i64 _)) rfl sS ?_
          refine h_take 8 rfl kr kr kr (by exact y_sub rfl rfl om) rfl sS ?_
          refine h_only 9 rfl kr ?_
          first | (refine m_build1 tabs (us := [iV ((((Lib.split s [32]).getD 0 []).getD i 0).toNat - 48)]) rfl rfl rfl rfl (by decide) rfl (fun g7 hg7 => ?_)) | (refine m_pushn 2 tabs (m := i) rfl rfl rfl rfl rfl hnl om (fun a8 c8 => ?_))
          refine c_nil (x_one (h_keep sS ?_))
          refine h_only 10 rfl kr ?_
          first | (refine m_build1 tabs (us := [iV ((((Lib.split s [32]).getD 0 []).getD i 0).toNat - 48)]) rfl rfl rfl rfl (by decide) rfl (fun g7 hg7 => ?_)) | (refine m_pushn 2 tabs (m := i) rfl rfl rfl rfl rfl hnl om (fun a8 c8 => ?_))
          refine c_nil (x_one (h_keep sS ?_))
          refine h_end kr ?_
          repeat' (first | (show oL; first | refine sMv rfl rfl ?_ | refine sFd tabs rfl rfl rfl rfl ?_ | refine sAd rfl rfl om rfl ?_ | (show oA (.store _ _ _); refine m_storef 1 tabs rfl rfl rfl rfl rfl rfl ?_)) | (show oN; first | refine c_nil (x_then ?_) | refine c_nil ?_) | (show oC; refine c_region ?_) | (show AT _ _ _ _; first | refine x_then ?_ | refine x_blk ?_))
          exact x_nx (i + 1, a8, c8) sB (by simp only; omega) (fun w' c' => by simp only [nums_next hin]; exact c'.sel [1, 2, 0, 3, 4, 5, 6, 7] rfl) (by simp only; omega)
        · have eW : ((Lib.split s [32]).getD 0 []).take i = ((Lib.split s [32]).getD 0 []) := List.take_of_length_le om
          have ei : i = (numsS ((Lib.split s [32]).getD 0 [])).length := by rw [numsS, List.length_map]; omega
          rw [eW, ei]
          repeat' (first | (show oL; first | refine sMv rfl rfl ?_ | refine sLs rfl rfl rfl ?_ | refine sLn tabs rfl rfl rfl ?_ | (show oA (.slice _ _ _ _ _); refine st_y (y_slo tabs (lo := 1) rfl rfl rfl rfl om) rfl ?_)) | refine xNt ?_ | (show oC; first | refine c_seq ?_ | refine c_region ?_ | refine c_block ?_ | refine c_exit ?_ | refine c_iff rfl nN ?_) | (show AT _ _ _ _; first | refine x_then ?_ | refine x_then_exit ?_ | refine x_blk_exit rfl ?_))
          refine c_loopH (α := Nat × Option Addr × Nat) [0, 2, 6, 9, 65, 66] (fun x => [(67, iV x.1)]) (fun x => x.1 + 1 ≤ (Lib.split s [32]).length) (fun x => [.blk b9 #[iV p, iV q.1, .slice x0 q.2.1.length x0', .slice x1 q.2.2.length x1', .slice ad (numsS ((Lib.split s [32]).getD 0 [])).length cd, .slice x.2.1 x.1 x.2.2] 29, .own (matsT 41 ((((Lib.split s [32]).drop 1).take x.1).map (parML p))) (.slice x.2.1 x.1 x.2.2), .own (iT (numsS ((Lib.split s [32]).getD 0 []))) (.slice ad (numsS ((Lib.split s [32]).getD 0 [])).length cd), .own (iT q.2.2) (.slice x1 q.2.2.length x1'), .own (iT q.2.1) (.slice x0 q.2.1.length x0'), .own (strT (Lib.split s [32])) (.slice a (Lib.split s [32]).length c), .blk b6 #[iV 0, iV 0, .slice none 0 0, .slice none 0 0, .slice none 0 0, .slice none 0 0] 29, .blk b4 #[iV q.1, .slice v0 q.2.1.length v0', .slice v1 q.2.2.length v1'] 26]) (fun x => (Lib.split s [32]).length - x.1) (0, none, 0) rfl sB ?_ ?_ ?_
          · simp only; omega
          · exact fun w' c' => c'
          · rintro ⟨k, am, cm⟩ hk
            simp only at hk ⊢
            have hml : ((((Lib.split s [32]).drop 1).take k).map (parML p)).length = k := by rw [List.length_map, List.length_take, List.length_drop]; omega
            by_cases hin : k + 1 < (Lib.split s [32]).length
            · obtain ⟨N, hN⟩ : ∃ N, (Lib.split s [32]).length = N + 1 := ⟨(Lib.split s [32]).length - 1, by omega⟩
              have hsu := subA1 (cap := c) (hN ▸ hs) om om
              have hcl : (parML p ((Lib.split s [32]).getD (k + 1) [])).2.2.length ≤ 64 := by
                rw [parML]
                split
                · rename_i h; exact h.1.2.2.2.2.1
                · exact Nat.zero_le _
              have e : ((((Lib.split s [32]).drop 1).take (k + 1)).map (parML p)) = ((((Lib.split s [32]).drop 1).take k).map (parML p)) ++ [(parML p ((Lib.split s [32]).getD (k + 1) []))] := by
                rw [List.take_add_one, List.map_append]
                congr 1
                rw [List.getElem?_drop, Nat.add_comm 1 k, List.getD, List.getElem?_eq_getElem hin]; rfl
              rw [hsu]
              repeat' (first | (show oL; first | refine sMv rfl rfl ?_ | refine sAs rfl rfl ?_ | refine sFd tabs rfl rfl rfl rfl ?_ | (show oA (.load _ _); first | refine st_y (y_load tabs rfl rfl (fun w c => by have := hc_nm 5 rfl (hg (k + 1) hin) w c; rw [show ao a + (k + 1) = ao a + 1 + k by omega] at this; exact this)) rfl ?_ | refine sLd 2 tabs rfl rfl rfl rfl rfl ?_ | refine sLb 0 tabs rfl rfl rfl rfl rfl ?_) | (show oA (.indexAddr _ _ _); refine st_y (y_ix1 tabs (j := k) rfl rfl rfl .mk rfl om) rfl ?_) | (show oA (.binOp _ _ _ _ _); first | refine sAd rfl rfl om rfl ?_ | refine sLs rfl rfl rfl ?_) | (show oA (.call _); first | (refine m_call (ent_of Tryz.func18 kr rfl) rfl rfl (fun w c => impl_ParseMatrix_ok (p := p) (s := ((Lib.split s [32]).getD (k + 1) [])) (hG.mono c) (by have := hsl0 (k + 1); omega)) ?_; rintro v H' ⟨a9, c9, rfl, hs9, rfl⟩) | refine m_push1 [iV (parML p ((Lib.split s [32]).getD (k + 1) [])).1, iV (parML p ((Lib.split s [32]).getD (k + 1) [])).2.1] 2 1 tabs (m' := k) rfl rfl rfl rfl rfl rfl rfl (by rw [flatMap_length matT_length, hml]) (by rw [flatMap_length matT_length, hml]; omega) (by decide) rfl rfl (fun a8 c8 => ?_)) | (show oA (.extract _ _); refine st_y (y_ext rfl rfl) rfl ?_) | (show oA (.store _ _ _); first | refine m_storeb 0 tabs rfl rfl rfl rfl rfl rfl rfl ?_ | refine m_storef 2 tabs rfl rfl rfl rfl rfl rfl ?_) | (show oA (.alloc _); refine m_alloc tabs rfl rfl (fun b12 hb12 => ?_)) | (show oA (.buildSlice _ _ _); refine m_build1 tabs (us := [iV (parML p ((Lib.split s [32]).getD (k + 1) [])).1, iV (parML p ((Lib.split s [32]).getD (k + 1) [])).2.1, .slice a9 (parML p ((Lib.split s [32]).getD (k + 1) [])).2.2.length c9]) rfl rfl rfl rfl (by decide) rfl (fun g5 hg5 => ?_))) | (show oN; first | refine c_nil (x_then ?_) | refine c_nil ?_) | (show oC; first | refine c_seq ?_ | refine c_region ?_ | refine c_skip (x_then ?_) | refine c_block ?_ | refine c_ift rfl aO ?_) | (show AT _ _ _ _; first | refine x_then ?_ | refine x_blk ?_))
              rw [← hsu]
              exact x_nx (k + 1, a8, c8) sB (by simp only; omega) (fun w' c' => by
                simp only [e]
                have e2 : ((((Lib.split s [32]).drop 1).take k).map (parML p)).flatMap matT ++ (List.map T.c [iV (parML p ((Lib.split s [32]).getD (k + 1) [])).1, iV (parML p ((Lib.split s [32]).getD (k + 1) [])).2.1] ++ [iT (parML p ((Lib.split s [32]).getD (k + 1) [])).2.2]) = (((((Lib.split s [32]).drop 1).take k).map (parML p)) ++ [(parML p ((Lib.split s [32]).getD (k + 1) []))]).flatMap matT := by
                  rw [List.flatMap_append]; rfl
                rw [e2] at c'
                exact c'.sel [2, 0, 3, 4, 5, 6, 7, 8] rfl) (by simp only; omega)
            · have eM : ((Lib.split s [32]).drop 1).take k = (Lib.split s [32]).drop 1 := List.take_of_length_le (by rw [List.length_drop]; omega)
              have ek : k = (((Lib.split s [32]).drop 1).map (parML p)).length := by rw [List.length_map, List.length_drop]; omega
              have hk1 : ¬ ((k : Int) < (((Lib.split s [32]).length - 1 : Nat) : Int)) := by omega
              rw [eM, ek]
              rw [ek] at hk1
              refine AT.fact (own_sl 2 rfl) (fun hsd => ?_)
              obtain ⟨_, _, e1, hsd⟩ := hsd
              cases e1
              refine AT.fact (mats_sl 1 rfl) (fun hsm => ?_)
              by_cases he : fmtR (candI p q s) = s
              · have he' := not_not_intro he
                have hR : RepP (candI p q s) := Decidable.by_contra (fun hm => by
                  rw [fmtR, if_neg hm] at he
                  exact q1 he.symm)
                have hP : parR p q s := parR_iff.2 ⟨_, hR, rfl, rfl, he⟩
                have hc := (hpr hP).1
                repeat' (first | (show oL; first | refine sMv rfl rfl ?_ | refine sAs rfl rfl ?_ | refine sLb 0 tabs rfl rfl rfl rfl rfl ?_ | (show oA (.binOp _ _ _ _ _); first | refine st_y (y_neqs rfl rfl) rfl ?_ | refine sLs rfl rfl rfl ?_) | (show oA (.call _); (refine m_call (ent_of Tryz.func49 kr rfl) rfl rfl (fun w c => impl_FormatRep_ok (r := candI p q s) (c.own_rd (i := 4) rfl) (c.own_rd (i := 3) rfl) (c.own_rd (i := 2) rfl) (c.own_rd (i := 1) rfl)) ?_; rintro v H' ⟨rfl, rfl⟩)) | (show oA (.store _ _ _); refine m_storeb 6 tabs rfl rfl rfl rfl rfl rfl rfl ?_)) | refine xNt ?_ | (show oC; first | refine c_seq ?_ | refine c_region ?_ | refine c_skip (x_then ?_) | refine c_ret ?_ | refine c_exit ?_ | refine c_iff rfl nN ?_) | (show AT _ _ _ _; first | refine x_then ?_ | refine x_then_exit ?_ | refine x_blk_exit rfl ?_))
                rw [parRL, if_pos hP, decide_eq_true hP, ← hc]
                exact x_ret2 Tryz.results9 (res_cellb 6 tabs rfl rfl rfl rfl) (res_tmp rfl) (fun w' c' => ⟨_, _, rfl, ⟨x0, x0', x1, x1', ad, cd, am, cm, rfl, sx0, sx1, hsd, hsm, rfl⟩, c'.sel [1, 2, 3, 4] rfl⟩)
              · have hn : ¬ parR p q s := fun hP => he (by rw [(hpr hP).1]; exact hP.2)
                repeat' (first | (show oL; first | refine sMv rfl rfl ?_ | refine sAs rfl rfl ?_ | refine sLb 0 tabs rfl rfl rfl rfl rfl ?_ | (show oA (.binOp _ _ _ _ _); first | refine st_y (y_neqs rfl rfl) rfl ?_ | refine sLs rfl rfl rfl ?_) | (show oA (.call _); (refine m_call (ent_of Tryz.func49 kr rfl) rfl rfl (fun w c => impl_FormatRep_ok (r := candI p q s) (c.own_rd (i := 4) rfl) (c.own_rd (i := 3) rfl) (c.own_rd (i := 2) rfl) (c.own_rd (i := 1) rfl)) ?_; rintro v H' ⟨rfl, rfl⟩)) | (show oA (.store _ _ _); refine m_storeb 6 tabs rfl rfl rfl rfl rfl rfl rfl ?_) | (show oA (.build _ _); refine st_y (y_bld0 bld_rp0) rfl ?_)) | refine xNt ?_ | (show oC; first | refine c_seq ?_ | refine c_region ?_ | refine c_ret ?_ | refine c_exit ?_ | refine c_ift rfl aO ?_ | refine c_iff rfl nN ?_) | (show AT _ _ _ _; first | refine x_then ?_ | refine x_then_ret ?_ | refine x_then_exit ?_ | refine x_blk_exit rfl ?_))
                exact x_ret2 Tryz.results9 (res_cellb 6 tabs rfl rfl rfl rfl) (res_tmp rfl) (fun w' c' => ⟨_, _, rfl, parR_no hn rfl rfl, Hp.nilp _ _ (Hp.nilp _ _ (Hp.nilp _ _ (Hp.nilp _ _ (c'.sub (List.nil_sublist _)))))⟩)
  · have hn : ¬ parR p q s := fun h => hq ⟨(hpr h).2.2.1, (hpr h).2.1, (hpr h).2.2.2.1⟩
    refine fn_enter Tryz.func9 rfl Tryz.ntmps9 rfl ?_
    repeat' (first | (show oL; first | refine sMv rfl rfl ?_ | refine sAs rfl rfl ?_ | refine sFd tabs rfl rfl rfl rfl ?_ | (show oA (.load _ _); first | refine sLb 2 tabs rfl rfl rfl rfl rfl ?_ | refine sLd 2 tabs rfl rfl rfl rfl rfl ?_) | (show oA (.binOp _ _ _ _ _); first | refine st_y (y_add rfl rfl (by have := (Decidable.not_not.1 (show ¬¬QuivP q by assumption)).2.1; omega)) rfl ?_ | refine st_y (y_eqls rfl rfl) rfl ?_ | refine st_y (y_neq rfl rfl) rfl ?_) | (show oA (.unOp _ _ _); refine st_y (y_notd rfl) rfl ?_) | (show oA (.call _); first | (refine m_call (ent_of Tryz.func80 kr rfl) rfl rfl (fun w c => split_ok (s := s) (d := 32) (hG.mono c) hl) ?_; rintro v H' ⟨a, c, rfl, rfl⟩) | (refine m_call (ent_of Tryz.func81 kr rfl) rfl rfl (fun w c => impl_IsQuiver_ok (q := q) (c.rd h0) (c.rd h1)) ?_; rintro v H' ⟨rfl, rfl⟩) | refine sLn tabs rfl rfl rfl ?_) | (show oA (.pick _ _ _); first | refine st_y (y_pickt rfl aO rfl) rfl ?_ | refine st_y (y_pickf rfl aO rfl) rfl ?_ | refine st_y (y_pick rfl rfl rfl) rfl ?_) | (show oA (.store _ _ _); refine m_storeb 1 tabs rfl rfl rfl rfl rfl rfl rfl ?_) | (show oA (.box _ _); refine m_box rfl rfl (fun b4 hb4 => ?_)) | (show oA (.alloc _); refine m_alloc tabs rfl rfl (fun b6 hb6 => ?_)) | (show oA (.build _ _); refine st_y (y_bld0 bld_rp0) rfl ?_) | refine st_gn rfl rfl rfl ?_ | refine st_gfy rfl rfl aO ?_ | refine st_gfn rfl rfl aO rfl ?_ | refine st_gd rfl rfl (fun h => ?_) (fun h => ?_)) | refine xNt ?_ | (show oC; first | refine c_seq ?_ | refine c_region ?_ | refine c_skip (x_then ?_) | refine c_ret ?_ | refine c_true rfl ?_ | refine c_ifnd rfl (fun h => ?_) (fun h => ?_)) | (show AT _ _ _ _; refine x_then_ret ?_))
    all_goals first | (exact absurd ⟨by first | assumption | exact Decidable.not_not.1 aS, by first | assumption | exact Decidable.not_not.1 aS, by omega⟩ hq) | exact x_ret2 Tryz.results9 (res_cellb 1 tabs rfl rfl rfl rfl) (res_tmp rfl) (fun w' c' => ⟨_, _, rfl, parR_no hn rfl rfl, Hp.nilp _ _ (Hp.nilp _ _ (Hp.nilp _ _ (Hp.nilp _ _ (c'.sub (List.nil_sublist _)))))⟩)
end Go.Proofs.YtdnhmnnccfoliaaGreatDoor
