import Derived.Lib.Split
import Derived.Lib.SplitLaws
import Derived.Lib.AtoiAll
import Derived.Lib.ItoaNum
import Derived.Test.YtdnhmnnccfoliaaGreatDoorPmpqpr
import Derived.Test.YtdnhmnnccfoliaaGreatDoorPmsqpr
import Derived.Test.YtdnhmnnccfoliaaGreatDoorShpqpr
namespace Go.Proofs.YtdnhmnnccfoliaaGreatDoor
open Go.Lg Go.Proofs Go.RowKit

theorem idx_hit {d : UInt8} : ∀ {w : List UInt8} (r : List UInt8), (∀ x ∈ w, x ≠ d) → Lib.index (w ++ d :: r) [d] = w.length
  | [], r, _ => by simp [Lib.index, List.isPrefixOf]
  | y :: w, r, h => by
    have ih := idx_hit (w := w) r (fun x hx => h x (by simp [hx]))
    have hy : (d == y) = false := by
      have := h y (by simp)
      simpa using fun e => this e.symm
    rw [List.cons_append, Lib.index]
    simp only [List.isPrefixOf, hy, Bool.false_and, Bool.false_eq_true, if_false]
    rw [ih]
    have : ¬ (((w.length : Int) == -1) = true) := fun e => by have := beq_iff_eq.1 e; omega
    rw [if_neg this, List.length_cons]
    omega
theorem idx_miss {d : UInt8} : ∀ {w : List UInt8}, (∀ x ∈ w, x ≠ d) → Lib.index w [d] = -1
  | [], _ => rfl
  | y :: w, h => by
    have ih := idx_miss (w := w) (fun x hx => h x (by simp [hx]))
    have hy : (d == y) = false := by
      have := h y (by simp)
      simpa using fun e => this e.symm
    rw [Lib.index]
    simp only [List.isPrefixOf, hy, Bool.false_and, Bool.false_eq_true, if_false]
    rw [ih]; rfl
theorem cut_word {d : UInt8} {w r : List UInt8} (h : ∀ x ∈ w, x ≠ d) : Lib.cut (w ++ d :: r) [d] = (w, r, true) := by
  unfold Lib.cut
  rw [idx_hit r h, if_pos om, Int.toNat_natCast]
  rw [List.take_left, show w.length + [d].length = w.length + 1 from rfl, ← List.drop_drop, List.drop_left]
  rfl
theorem split_words {d : UInt8} : ∀ (ws : List (List UInt8)) {w : List UInt8}, (∀ x ∈ w, x ≠ d) → (∀ v ∈ ws, ∀ x ∈ v, x ≠ d) → Lib.split (w ++ ws.flatMap (fun v => d :: v)) [d] = w :: ws
  | [], w, h, _ => by
    rw [List.flatMap_nil, List.append_nil, Lib.split, Lib.count_miss (idx_miss h)]
    rfl
  | v :: ws, w, h, hs => by
    have ih := split_words ws (w := v) (hs v (by simp)) (fun u hu => hs u (by simp [hu]))
    have e : w ++ (v :: ws).flatMap (fun v => d :: v) = w ++ d :: (v ++ ws.flatMap (fun v => d :: v)) := by rw [List.flatMap_cons]; rfl
    have hi := idx_hit (v ++ ws.flatMap (fun v => d :: v)) h
    have hd : (w ++ d :: (v ++ ws.flatMap (fun v => d :: v))).drop (w.length + [d].length) = v ++ ws.flatMap (fun v => d :: v) := by
      rw [show w.length + [d].length = w.length + 1 from rfl, ← List.drop_drop, List.drop_left]; rfl
    rw [e, Lib.split, Lib.count_hit (by simp) hi, hd, Nat.add_comm, Lib.splitK, hi]
    have : ¬ (((w.length : Int) == -1) = true) := fun e => by have := beq_iff_eq.1 e; omega
    rw [if_neg this, Int.toNat_natCast, hd, Nat.add_zero, List.take_left]
    exact congrArg (w :: ·) ih
theorem cut_fmtM {p : Int} {m : Mat} (h : MatP p m) : Lib.cut (fmtM p m) [58] = ([dg m.1, 120, dg m.2.1], bodyN m.2.1.toNat m.2.2 m.2.2.length, true) ∧ Lib.cut [dg m.1, 120, dg m.2.1] [120] = ([dg m.1], [dg m.2.1], true) := by
  have r1 := h.1
  have r2 := h.2.1
  have h1 := (dg_ne (x := m.1) r1.1 om).2.1
  have h2 := (dg_ne (x := m.2.1) r2.1 om).2.1
  have h3 := (dg_ne2 (x := m.1) r1.1 om).2
  constructor
  · rw [fmtM_eq h]
    exact cut_word (d := 58) (w := [dg m.1, 120, dg m.2.1]) (fun x hx => by
      simp only [List.mem_cons, List.not_mem_nil, or_false] at hx
      rcases hx with rfl | rfl | rfl
      · exact h1
      · decide
      · exact h2)
  · exact cut_word (d := 120) (w := [dg m.1]) (r := [dg m.2.1]) (fun x hx => by
      rw [List.mem_singleton.1 hx]; exact h3)
theorem split_fmtR {r : Rp} (h : RepP r) : Lib.split (fmtR r) [32] = digL r.d :: r.m.map (fmtM r.p) := by
  rw [fmtR, if_pos h]
  have e : r.m.flatMap (fun m => 32 :: fmtM r.p m) = (r.m.map (fmtM r.p)).flatMap (fun v => 32 :: v) := by rw [List.flatMap_map]
  rw [e]
  refine split_words _ (digL_ne (fun x hx => ?_)) (fun v hv => ?_)
  · have := h.2.1.2.2.1 x hx
    omega
  · obtain ⟨m, hm, rfl⟩ := List.mem_map.1 hv
    obtain ⟨i, hi, e2⟩ := List.getElem_of_mem hm
    have := (h.2.2.2 i hi).1
    rw [List.getD, List.getElem?_eq_getElem hi, e2] at this
    exact fmtM_ne this
theorem atoi_dg {x : Int} (h0 : 0 ≤ x) (h9 : x ≤ 9) : Lib.atoiAll [dg x] = .ok x ∧ Lib.itoa x = [dg x] := by
  obtain ⟨k, rfl⟩ : ∃ k : Nat, x = k := ⟨x.toNat, by omega⟩
  have hk : k < 10 := by omega
  refine ⟨?_, by rw [Lib.itoa, if_neg om, Int.toNat_natCast, Lib.decDigits, dif_pos om, dg, Int.toNat_natCast]⟩
  match k, hk with
  | 0, _ => exact (by decide)
  | 1, _ => exact (by decide)
  | 2, _ => exact (by decide)
  | 3, _ => exact (by decide)
  | 4, _ => exact (by decide)
  | 5, _ => exact (by decide)
  | 6, _ => exact (by decide)
  | 7, _ => exact (by decide)
  | 8, _ => exact (by decide)
  | 9, _ => exact (by decide)
end Go.Proofs.YtdnhmnnccfoliaaGreatDoor

namespace Go.Lg
open Go.RowKit
section
variable {P : Program} {n : Nat} {C : World → Prop} {s : List (Nat × Value)} {x y : Operand} {t t' ty : Nat}
theorem run_equalIn_nn (w : World) (d : Nat) {t : TypeId} {ms : Array (String × TypeId)} (h : P.underlying t = some (.interface ms)) : (Op.equalIn (d + 1) t .nilIface .nilIface).run P w = .ok true w := by
  simp [Op.equalIn, underlying, h]
theorem run_equal_nn (w : World) {t : TypeId} {ms : Array (String × TypeId)} (h : P.underlying t = some (.interface ms)) : (Op.equal t .nilIface .nilIface).run P w = .ok true w := run_equalIn_nn w 9999 h
theorem run_equalIn_in (w : World) (d : Nat) {t u : TypeId} {v : Value} {ms : Array (String × TypeId)} (h : P.underlying t = some (.interface ms)) : (Op.equalIn (d + 1) t (.iface u v) .nilIface).run P w = .ok false w := by
  simp [Op.equalIn, underlying, h]
theorem run_equal_in (w : World) {t u : TypeId} {v : Value} {ms : Array (String × TypeId)} (h : P.underlying t = some (.interface ms)) : (Op.equal t (.iface u v) .nilIface).run P w = .ok false w := run_equalIn_in w 9999 h
theorem y_neqnn {ms : Array (String × TypeId)} (h : P.underlying t = some (.interface ms)) (hx : ev s x = some .nilIface) : Y P n C s (.binOp .neq t x (.const .nilIface) t') ty (.bool false) := fun a w f c d pos af g => by
  have hy : ev s (.const .nilIface) = some .nilIface := rfl
  simp [execOp, f.ev hx, f.ev hy, eqGuard, binOp, run_equal_nn w h]
theorem y_neqin {u : Nat} {v : Value} {ms : Array (String × TypeId)} (h : P.underlying t = some (.interface ms)) (hx : ev s x = some (.iface u v)) : Y P n C s (.binOp .neq t x (.const .nilIface) t') ty (.bool true) := fun a w f c d pos af g => by
  have hy : ev s (.const .nilIface) = some .nilIface := rfl
  simp [execOp, f.ev hx, f.ev hy, eqGuard, binOp, run_equal_in w h]
end
end Go.Lg
namespace Go.Proofs.YtdnhmnnccfoliaaGreatDoor
open Go.Lg Go.Proofs Go.RowKit
attribute [local irreducible] Code.wp wpList bodyPost Exit.then Exit.inBlock Hp Again Calls Y AT ResV QT Qn QI wpAny wpAnyQ
set_option maxRecDepth 20000
set_option maxHeartbeats 4000000

theorem FormatIntG_ok {w : World} {n : Int} (hG : Glb w) (h0 : -9223372036854775808 ≤ n) (h1 : n ≤ 9223372036854775807) : Does Tryz.prog 93 [iV n] w (fun r H => r = sV (Lib.itoa n) ∧ H = []) := by
  refine fn_enter Tryz.func93 rfl Tryz.ntmps93 rfl ?_
  repeat' (first | (show oL; first | refine sMv rfl rfl ?_ | refine sAs rfl rfl ?_ | (show oA (.call _); (refine m_call (ent_of Tryz.func155 kr rfl) rfl rfl (fun w c => itoaG_ok (hG.mono c) h0 h1) ?_; rintro v H' ⟨rfl, rfl⟩))) | refine xNt ?_ | (show oC; first | refine c_seq ?_ | refine c_region ?_ | refine c_ret ?_))
  exact x_ret1 Tryz.results93 (res_tmp rfl) (fun w' c' => ⟨_, _, rfl, ⟨rfl, rfl⟩, c'⟩)
theorem ParseInt_ok {w : World} {s : List UInt8} (hG : Glb w) (hs : s.length ≤ 2000000) : Does Tryz.prog 96 [sV s] w (fun r H => (∃ (v : Int) (b : Bool), r = .tuple #[iV v, .bool b] ∧ ∀ x : Int, 0 ≤ x → x ≤ 9 → s = [dg x] → v = x) ∧ H = []) := by
  by_cases ho : ∃ v, Lib.atoiAll s = .ok v
  · obtain ⟨v0, hv0⟩ := ho
    obtain ⟨vb0, vb1⟩ := Lib.atoiAll_bounds hv0
    refine fn_enter Tryz.func96 rfl Tryz.ntmps96 rfl ?_
    repeat' (first | (show oL; first | refine sMv rfl rfl ?_ | refine sAs rfl rfl ?_ | (show oA (.binOp _ _ _ _ _); first | refine st_y (y_neqnn Tryz.underlying155 rfl) rfl ?_ | refine st_y (y_neqs rfl rfl) rfl ?_) | (show oA (.unOp _ _ _); refine st_y (y_notd rfl) rfl ?_) | (show oA (.call _); first | (refine m_call (ent_of Tryz.func160 kr rfl) rfl rfl (fun w c => atoi_ok (hG.mono c) hs) ?_; rintro v H' ⟨v1, e1, rfl, (⟨hv1, rfl⟩ | ⟨hne, _⟩), rfl⟩) | (refine m_call (ent_of Tryz.func93 kr rfl) rfl rfl (fun w c => FormatIntG_ok (hG.mono c) (by have := hv1.symm.trans hv0; injection this; omega) (by have := hv1.symm.trans hv0; injection this; omega)) ?_; rintro v H' ⟨rfl, rfl⟩) | (refine m_call (ent_of Tryz.func106 kr rfl) rfl rfl (fun w c => within_ok _ _ _) ?_; rintro v H' ⟨rfl, rfl⟩)) | (show oA (.extract _ _); refine st_y (y_ext rfl rfl) rfl ?_) | (show oA (.pick _ _ _); first | refine st_y (y_pickt rfl aO rfl) rfl ?_ | refine st_y (y_pickf rfl aO rfl) rfl ?_ | refine st_y (y_pick rfl rfl rfl) rfl ?_) | refine st_gy rfl rfl ?_ | refine st_gfy rfl rfl aO ?_ | refine st_gfn rfl rfl aO rfl ?_ | refine st_gd rfl rfl (fun h => ?_) (fun h => ?_)) | refine xNt ?_ | (show oC; first | refine c_seq ?_ | refine c_region ?_ | refine c_skip (x_then ?_) | refine c_ret ?_ | refine c_true rfl ?_ | refine c_ifnd rfl (fun h => ?_) (fun h => ?_)) | (show AT _ _ _ _; refine x_then_ret ?_))
    all_goals first
      | exact absurd hv0 (hne v0)
      | exact x_ret2 Tryz.results96 (res_tmp rfl) (res_tmp rfl) (fun w' c' => ⟨_, _, rfl, ⟨⟨_, _, rfl, fun x g0 g9 hx => by
          obtain ⟨e1, e2⟩ := atoi_dg g0 g9
          rw [hx] at hv1
          have hh := e1.symm.trans hv1
          injection hh with hh
          first
            | exact hh.symm
            | (exfalso; omega)
            | exact absurd (show Lib.itoa v1 = s by rw [← hh, hx]; exact e2) aS⟩, rfl⟩, c'⟩)
  · refine fn_enter Tryz.func96 rfl Tryz.ntmps96 rfl ?_
    repeat' (first | (show oL; first | refine sMv rfl rfl ?_ | refine sAs rfl rfl ?_ | (show oA (.binOp _ _ _ _ _); refine st_y (y_neqin Tryz.underlying155 rfl) rfl ?_) | (show oA (.call _); (refine m_call (ent_of Tryz.func160 kr rfl) rfl rfl (fun w c => atoi_ok (hG.mono c) hs) ?_; rintro v H' ⟨v1, e1, rfl, (⟨hv1, rfl⟩ | ⟨hne, tp, ad, rfl⟩), rfl⟩)) | (show oA (.extract _ _); refine st_y (y_ext rfl rfl) rfl ?_) | (show oA (.pick _ _ _); refine st_y (y_pick rfl rfl rfl) rfl ?_) | refine st_gn rfl rfl rfl ?_) | refine xNt ?_ | (show oC; first | refine c_seq ?_ | refine c_region ?_ | refine c_ret ?_ | refine c_true rfl ?_) | (show AT _ _ _ _; refine x_then_ret ?_))
    · exact absurd ⟨_, hv1⟩ ho
    · exact x_ret2 Tryz.results96 (res_tmp rfl) (res_tmp rfl) (fun w' c' => ⟨_, _, rfl, ⟨⟨_, _, rfl, fun x g0 g9 hx => absurd ⟨x, by rw [hx]; exact (atoi_dg g0 g9).1⟩ ho⟩, rfl⟩, c'⟩)
end Go.Proofs.YtdnhmnnccfoliaaGreatDoor
