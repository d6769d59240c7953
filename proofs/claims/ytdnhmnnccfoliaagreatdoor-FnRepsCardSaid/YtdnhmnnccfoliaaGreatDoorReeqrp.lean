import Derived.Test.YtdnhmnnccfoliaaGreatDoorAloqrp
import Derived.Test.YtdnhmnnccfoliaaGreatDoorAppqrp
import Derived.Test.YtdnhmnnccfoliaaGreatDoorDrwqrp
namespace Go.Proofs.YtdnhmnnccfoliaaGreatDoor
open Go.Lg Go.Proofs Go.RowKit
attribute [local irreducible] Code.wp wpList bodyPost Exit.then Exit.inBlock Hp Again Calls Y AT ResV QT Qn QI wpAny wpAnyQ
set_option maxRecDepth 20000
set_option maxHeartbeats 4000000

theorem spec_EndOf_ok {w : World} {q : Qv} {x : Pa} {u0 u1 ux : Value} (h0 : Rd w (iT q.2.1) u0) (h1 : Rd w (iT q.2.2) u1) (hx : Rd w (iT x.2) ux) (hP : PathP q x) : Does Tryz.prog 65 [.agg #[iV q.1, u0, u1], .agg #[iV x.1, ux]] w (fun r H => r = iV (atP q x x.2.length) ∧ H = []) := by
  obtain ⟨a1, c1, rfl, hs1, _, _, hg1⟩ := h1.ints
  obtain ⟨ax, cx, rfl, hsx, _, _, hgx⟩ := hx.ints
  have hl := hP.2.2.1
  rcases Nat.eq_zero_or_pos x.2.length with hz | hz
  · have hz' : ((x.2.length : Nat) : Int) = 0 := by omega
    refine fn_enter Tryz.func65 rfl Tryz.ntmps65 rfl ?_
    repeat' (first | (show oL; first | refine sAs rfl rfl ?_ | refine sFd tabs rfl rfl rfl rfl ?_ | (show oA (.load _ _); first | refine sLd 0 tabs rfl rfl rfl rfl rfl ?_ | refine sLb 0 tabs rfl rfl rfl rfl rfl ?_ | refine sLb 1 tabs rfl rfl rfl rfl rfl ?_) | (show oA (.binOp _ _ _ _ _); refine st_y (y_eql rfl rfl) rfl ?_) | (show oA (.unOp _ _ _); refine st_y (y_not rfl) rfl ?_) | (show oA (.call _); first | (refine m_call (ent_of Tryz.func144 kr rfl) rfl rfl (fun w c => spec_IsPath_ok (q := q) (x := x) (c.rd h0) (c.rd h1) (c.rd hx)) ?_; rw [decide_eq_true hP]; rintro v H' ⟨rfl, rfl⟩) | refine sLn tabs rfl rfl rfl ?_) | (show oA (.box _ _); refine m_box rfl rfl (fun b hb => ?_))) | refine xNt ?_ | (show oC; first | refine c_seq ?_ | refine c_region ?_ | refine c_skip (x_then ?_) | refine c_ret ?_ | refine c_false rfl ?_ | refine c_ift rfl aO ?_) | (show AT _ _ _ _; refine x_then_ret ?_))
    all_goals first | omega | exact x_ret1 Tryz.results65 (res_tmp rfl) (fun w' c' => ⟨_, _, rfl, ⟨by rw [hz]; rfl, rfl⟩, c'.sub (List.nil_sublist _)⟩)
  · obtain ⟨k, hk⟩ : ∃ k, x.2.length = k + 1 := ⟨x.2.length - 1, by omega⟩
    obtain ⟨⟨s1, s2⟩, _⟩ := hP.2.2.2 k om
    have hFT := hP.1.2.2.1
    obtain ⟨t, ht⟩ : ∃ t : Nat, x.2.getD k 0 = t := ⟨(x.2.getD k 0).toNat, by omega⟩
    have htl : t < q.2.2.length := by omega
    have hgk := hgx k om
    rw [ht] at hgk
    have e : atP q x x.2.length = q.2.2.getD t 0 := by rw [hk, atP, ht]; rfl
    rw [e]
    refine fn_enter Tryz.func65 rfl Tryz.ntmps65 rfl ?_
    repeat' (first | (show oL; first | refine sAs rfl rfl ?_ | refine sFd tabs rfl rfl rfl rfl ?_ | (show oA (.load _ _); first | refine sLd 0 tabs rfl rfl rfl rfl rfl ?_ | refine sLb 0 tabs rfl rfl rfl rfl rfl ?_ | refine sLb 1 tabs rfl rfl rfl rfl rfl ?_) | (show oA (.binOp _ _ _ _ _); refine st_y (y_eql rfl rfl) rfl ?_) | (show oA (.unOp _ _ _); refine st_y (y_not rfl) rfl ?_) | (show oA (.call _); first | (refine m_call (ent_of Tryz.func144 kr rfl) rfl rfl (fun w c => spec_IsPath_ok (q := q) (x := x) (c.rd h0) (c.rd h1) (c.rd hx)) ?_; rw [decide_eq_true hP]; rintro v H' ⟨rfl, rfl⟩) | refine sLn tabs rfl rfl rfl ?_) | (show oA (.box _ _); refine m_box rfl rfl (fun b hb => ?_))) | refine xNt ?_ | (show oC; first | refine c_seq ?_ | refine c_region ?_ | refine c_skip (x_then ?_) | refine c_false rfl ?_ | refine c_iff rfl nN ?_))
    all_goals first | omega | skip
    repeat' (first | (show oC; first | refine c_ret ?_ | refine c_draw kr kr (fun _ c => Hp.drew c) ?_) | (show QT _ _ _ _ _ _ (_ :: _); first | refine qAs rfl rfl ?_ | refine qFd tabs rfl rfl rfl rfl ?_ | (show qA (.load _ _); first | refine q_y (y_load tabs rfl rfl (hc_w0 hgk)) rfl ?_ | refine q_y (y_load tabs rfl rfl (hc_w0 (hg1 t htl))) rfl ?_ | refine qLd 0 tabs rfl rfl rfl rfl rfl ?_ | refine qLd 1 tabs rfl rfl rfl rfl rfl ?_) | (show qA (.indexAddr _ _ _); first | refine q_y (y_ix1 tabs (j := k) rfl rfl rfl hsx om om) rfl ?_ | refine q_y (y_ix1 tabs (j := t) rfl rfl rfl hs1 rfl htl) rfl ?_) | (show qA (.binOp _ _ _ _ _); refine q_y (y_sub rfl rfl om) rfl ?_) | refine qLn tabs rfl rfl rfl ?_) | (show QT _ _ _ _ _ _ []; refine q_nil (x_then ?_)))
    exact x_ret1 Tryz.results65 (res_tmp rfl) (fun w' c' => ⟨_, _, rfl, ⟨rfl, rfl⟩, c'.sub (List.nil_sublist _)⟩)
theorem laws_at_ok {w : World} {u : Value} (hc : CodeF w [] u) : Does Tryz.prog 64 [u, iV 1] w (fun r H => ∃ k : Nat, r = iV k ∧ H = []) := by
  obtain ⟨n, a, c, xs, rfl, hs, hcap, hn, hby, hg⟩ := hc.open
  refine fn_enter Tryz.func64 rfl Tryz.ntmps64 rfl ?_
  repeat' (first | (show oL; first | refine sMv rfl rfl ?_ | refine sAs rfl rfl ?_ | (show oA (.load _ _); refine st_y (y_load tabs rfl rfl (fun w' c' => hg 1 om w' c'.agree)) rfl ?_) | (show oA (.indexAddr _ _ _); refine st_y (y_ix1 tabs (j := 1) rfl rfl rfl hs rfl om) rfl ?_) | (show oA (.binOp _ _ _ _ _); first | refine st_y (y_mul rfl rfl om) rfl ?_ | refine sAd rfl rfl om rfl ?_ | refine st_y (y_rem rfl rfl (by decide)) rfl ?_ | refine sLs rfl rfl rfl ?_) | refine sLn tabs rfl rfl rfl ?_ | (show oA (.convert _ _ _); refine st_y (y_convk (t := 5) (t' := 3) (k := .u8) (k' := .i64) (q := xs.getD 1 0) kr kr kr rfl (i64_byte (hby 1 om))) rfl ?_)) | refine xNt ?_ | (show oC; first | refine c_seq ?_ | refine c_region ?_ | refine c_skip (x_then ?_) | refine c_ret ?_ | refine c_if rfl (fun h => ?_) (fun h => ?_)) | (show AT _ _ _ _; refine x_then_ret ?_))
  · exact x_ret1 Tryz.results64 (res_tmp rfl) (fun w' c' => ⟨_, _, rfl, ⟨(xs.getD 1 0).toNat, by rw [Int.toNat_of_nonneg (hby 1 om).1], rfl⟩, c'⟩)
  · exact x_ret1 Tryz.results64 (res_tmp rfl) (fun w' c' => ⟨_, _, rfl, ⟨((1 * 37 + (n : Int) * 11).tmod 256).toNat, by rw [Int.toNat_of_nonneg (Int.tmod_nonneg _ om)], rfl⟩, c'⟩)
end Go.Proofs.YtdnhmnnccfoliaaGreatDoor
