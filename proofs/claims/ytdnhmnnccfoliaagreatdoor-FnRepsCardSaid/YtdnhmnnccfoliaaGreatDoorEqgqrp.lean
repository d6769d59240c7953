import Derived.Test.YtdnhmnnccfoliaaGreatDoorAlgqrp
import Derived.Test.YtdnhmnnccfoliaaGreatDoorEqmqrp
import Derived.Test.YtdnhmnnccfoliaaGreatDoorFitqrp
import Derived.Test.YtdnhmnnccfoliaaGreatDoorLwsqrp
import Derived.Test.YtdnhmnnccfoliaaGreatDoorOrsqrp
namespace Go.Lg
open Go.RowKit
section
variable {P : Program} {n : Nat} {S C : World → Prop} {s : List (Nat × Value)} {K : Act → World → Prop} {ops : Array Oper} {fuel : Nat} {listed : Array Bool}
theorem h_taken (i : Nat) {op : Op} {d ty j dj : Nat} {pos : String} {af : Array Edge} {b : Bool} (hi : ops[i]? = some ⟨some d, op, ty, pos, af, some (j, b)⟩)
    (hs : Region.noSelect ops = true) (hf : Region.free .any ops listed i = true) (hr : (Region.ready .any ops listed).contains i = true)
    (hj : (ops[j]?).bind (·.dst) = some dj) (hb : lk s dj = some (.bool (!b))) (hd : Nat.blt d n = true) (hS : ∀ w, C w → S w)
    (h : AT n C ((d, undef) :: s) (wpAnyH P .any ops (Qn K) S fuel (listed.setIfInBounds i true))) : AT n C s (wpAnyH P .any ops (Qn K) S (fuel + 1) listed) := fun a w f c =>
  wpAnyH_take hi hs hf hr (fun _ _ _ h => h.elim) (.inr ⟨by simp [Region.wanted, yielded, hj, f.has _ _ hb], rfl⟩) (hS w c) (h _ w (f.put (by simpa [Nat.blt_eq] using hd) undef) c)
end
end Go.Lg
namespace Go.Proofs.YtdnhmnnccfoliaaGreatDoor
open Go.Lg Go.Proofs Go.RowKit
attribute [local irreducible] Code.wp wpList bodyPost Exit.then Exit.inBlock Hp Again Calls Y AT ResV QT Qn QI wpAny wpAnyQ
set_option maxRecDepth 20000
set_option maxHeartbeats 4000000

theorem y_neqi_eq {P : Program} {n : Nat} {C : World → Prop} {s : List (Nat × Value)} {x y : Operand} {p q : Int} {t t' ty : Nat} (hx : ev s x = some (.int .i64 p)) (hy : ev s y = some (.int .i64 q)) (h : p = q) : Y P n C s (.binOp .neq t x y t') ty (.bool false) := by
  subst h
  have := y_neq (P := P) (n := n) (C := C) (t := t) (t' := t') (ty := ty) hx hy
  simpa using this
theorem eqr_same {w : World} {r : Rp} {e e' : Nat} {u0 u1 u2 u3 v0 v1 v2 v3 : Value} (h0 : Rd w (iT r.q.2.1) u0) (h1 : Rd w (iT r.q.2.2) u1) (h2 : Rd w (iT r.d) u2) (h3 : Rd w (matsT e r.m) u3) (k0 : Rd w (iT r.q.2.1) v0) (k1 : Rd w (iT r.q.2.2) v1) (k2 : Rd w (iT r.d) v2) (k3 : Rd w (matsT e' r.m) v3) :
    Does Tryz.prog 54 [.agg #[iV r.p, iV r.q.1, u0, u1, u2, u3], .agg #[iV r.p, iV r.q.1, v0, v1, v2, v3]] w (fun r H => r = .bool true ∧ H = []) := by
  obtain ⟨a3, c3, rfl, hs3, _, hm3, hg3⟩ := rd_mats h3
  obtain ⟨b3, d3, rfl, ks3, _, _, kg3⟩ := rd_mats k3
  unfold maxLen at hm3
  have tok0 : True := trivial
  refine fn_enter Tryz.func54 rfl Tryz.ntmps54 rfl ?_
  repeat' (first | (show oL; first | refine sMv rfl rfl ?_ | refine sAs rfl rfl ?_ | refine sFd tabs rfl rfl rfl rfl ?_ | (show oA (.load _ _); first | refine sLd 1 tabs rfl rfl rfl rfl rfl ?_ | refine sLd 0 tabs rfl rfl rfl rfl rfl ?_ | refine st_y (y_load3 tabs rfl rfl (hc_blk 1 rfl rfl) (hc_blk 1 rfl rfl) (hc_blk 1 rfl rfl)) rfl ?_ | refine st_y (y_load3 tabs rfl rfl (hc_blk 0 rfl rfl) (hc_blk 0 rfl rfl) (hc_blk 0 rfl rfl)) rfl ?_) | (show oA (.binOp _ _ _ _ _); refine st_y (y_neqi_eq rfl rfl rfl) rfl ?_) | (show oA (.unOp _ _ _); refine st_y (y_not rfl) rfl ?_) | (show oA (.call _); first | (refine m_call (ent_of Tryz.func132 kr rfl) rfl rfl (fun w c => spec_EqualQuivers_ok (q := r.q) (q' := r.q) (c.rd h0) (c.rd h1) (c.rd k0) (c.rd k1)) ?_; rw [decide_eq_true rfl]; rintro v H' ⟨rfl, rfl⟩) | (refine m_call (ent_of Tryz.func133 kr rfl) rfl rfl (fun w c => l6Same_ok w _ _ r.d r.d (c.rd h2) (c.rd k2)) ?_; rw [decide_eq_true rfl]; rintro v H' ⟨rfl, rfl⟩) | refine sLn tabs rfl rfl rfl ?_) | (show oA (.pick _ _ _); refine st_y (y_pick rfl rfl rfl) rfl ?_) | (show oA (.box _ _); first | (have _t := tok0; refine m_box rfl rfl (fun ba hba => ?_); clear _t tok0) | refine m_box rfl rfl (fun bb hbb => ?_)) | refine st_gy rfl rfl ?_) | refine xNt ?_ | (show oC; first | refine c_seq ?_ | refine c_region ?_ | refine c_skip (x_then ?_) | refine c_block ?_ | refine c_false rfl ?_))
  refine c_loopH (α := Nat) [2, 3] (fun i => [(5, iV i)]) (fun i => i ≤ r.m.length) (fun i => [.blk bb #[iV r.p, iV r.q.1, v0, v1, v2, .slice b3 r.m.length d3] 29, .blk ba #[iV r.p, iV r.q.1, u0, u1, u2, .slice a3 r.m.length c3] 29]) (fun i => r.m.length - i) 0 rfl sB ?_ ?_ ?_
  · exact Nat.zero_le _
  · exact fun w' c' => c'
  · intro i hi
    by_cases hin : i < r.m.length
    · obtain ⟨m, hm⟩ : ∃ m, r.m[i]? = some m := ⟨_, List.getElem?_eq_getElem hin⟩
      obtain ⟨a1, c1, p0, p1, p2, p3⟩ := hg3 i m hm
      obtain ⟨a2, c2, q0, q1, q2, q3⟩ := kg3 i m hm
      repeat' (first | (show oL; first | refine sMv rfl rfl ?_ | refine sAs rfl rfl ?_ | refine sFd tabs rfl rfl rfl rfl ?_ | refine sLd 1 tabs rfl rfl rfl rfl rfl ?_ | (show oA (.binOp _ _ _ _ _); first | refine sAd rfl rfl om rfl ?_ | refine sLs rfl rfl rfl ?_) | refine sLn tabs rfl rfl rfl ?_) | refine xNt ?_ | (show oC; first | refine c_seq ?_ | refine c_region ?_ | refine c_skip (x_then ?_) | refine c_skip (x_blk ?_) | refine c_block ?_ | refine c_draw kr kr (fun _ c => Hp.drew c) ?_ | refine c_false rfl ?_ | refine c_ift rfl aO ?_) | (show QT _ _ _ _ _ _ (_ :: _); first | refine qMv rfl rfl ?_ | refine qFd tabs rfl rfl rfl rfl ?_ | (show qA (.load _ _); first | refine qLd 1 tabs rfl rfl rfl rfl rfl ?_ | refine qLd 0 tabs rfl rfl rfl rfl rfl ?_ | refine q_y (y_load3 tabs rfl rfl (hc_w0 p0) (hc_w0 p1) (hc_w0 p2)) rfl ?_ | refine q_y (y_load3 tabs rfl rfl (hc_w0 q0) (hc_w0 q1) (hc_w0 q2)) rfl ?_) | (show qA (.indexAddr _ _ _); refine q_y (y_ixa tabs rfl rfl rfl mK om om) rfl ?_) | (show qA (.unOp _ _ _); refine q_y (y_not rfl) rfl ?_) | (show qA (.call _); refine q_call (ent_of Tryz.func23 kr rfl) rfl rfl (fun w c => spec_EqM_same (m := m) (c.rd p3) (c.rd q3)) (fun u H' h => h.1) ?_)) | (show QT _ _ _ _ _ _ []; refine q_nil (x_then ?_)) | (show AT _ _ _ _; refine x_then ?_))
      exact x_nx (i + 1) sB om (fun w' c' => c') om
    · have : i = r.m.length := by omega
      subst this
      repeat' (first | (show oL; first | refine sMv rfl rfl ?_ | refine sAs rfl rfl ?_ | refine sFd tabs rfl rfl rfl rfl ?_ | refine sLd 1 tabs rfl rfl rfl rfl rfl ?_ | refine sLs rfl rfl rfl ?_ | refine sLn tabs rfl rfl rfl ?_) | refine xNt ?_ | (show oC; first | refine c_seq ?_ | refine c_region ?_ | refine c_ret ?_ | refine c_exit ?_ | refine c_iff rfl nN ?_) | (show AT _ _ _ _; first | refine x_then ?_ | refine x_then_exit ?_ | refine x_blk_exit rfl ?_))
      exact x_ret1 Tryz.results54 (res_tmp rfl) (fun w' c' => ⟨_, _, rfl, ⟨rfl, rfl⟩, c'.sub (List.nil_sublist _)⟩)
end Go.Proofs.YtdnhmnnccfoliaaGreatDoor

namespace Go.Proofs.YtdnhmnnccfoliaaGreatDoor
open Go.Lg Go.Proofs Go.RowKit
attribute [local irreducible] Code.wp wpList bodyPost Exit.then Exit.inBlock Hp Again Calls Y AT ResV QT
set_option maxRecDepth 20000
set_option maxHeartbeats 4000000

theorem EqualFuncM_ok (w : World) (e e' : Nat) (ms ms' : List Mat) (v u : Value) (hr : Rd w (matsT e ms) v) (hr' : Rd w (matsT e' ms') u) :
    Does Tryz.prog 151 [v, u, .func (.func 47) #[] #[]] w (fun r H => r = .bool (decide (ms = ms')) ∧ H = []) := by
  obtain ⟨a, c, rfl, hs, hc1, hc2, hget⟩ := rd_mats hr
  obtain ⟨a', c', rfl, hs', hc1', hc2', hget'⟩ := rd_mats hr'
  unfold maxLen at hc2 hc2'
  refine fn_enter Tryz.func151 rfl Tryz.ntmps151 rfl ?_
  repeat' (first | (show oL; first | refine sMv rfl rfl ?_ | refine sAs rfl rfl ?_ | (show oA (.binOp _ _ _ _ _); refine st_y (y_neq rfl rfl) rfl ?_) | refine sLn tabs rfl rfl rfl ?_) | refine xNt ?_ | (show oC; first | refine c_seq ?_ | refine c_region ?_ | refine c_skip (x_then ?_) | refine c_block ?_ | refine c_ret ?_ | refine c_ifnd rfl (fun h => ?_) (fun h => ?_)) | (show AT _ _ _ _; refine x_then_ret ?_))
  · refine x_ret1 Tryz.results151 (res_tmp rfl) (fun w' c' => ⟨_, _, rfl, ⟨?_, rfl⟩, c'⟩)
    have : ¬ ms = ms' := fun e => h (by rw [e])
    simp [this]
  · have hl : ms.length = ms'.length := by omega
    refine c_loop (fun i : Nat => [(0, .slice a ms.length c), (1, .slice a' ms'.length c'), (2, .func (.func 47) #[] #[]), (15, .slice a ms.length c), (16, iV ms.length), (17, .int .i64 i)])
      (fun i w' => (i ≤ ms.length ∧ ms.take i = ms'.take i) ∧ Hp [] w [] w') (fun i => ms.length - i) 0 ?_ ?_ ?_
    · exact sB
    · intro w' c'
      exact ⟨⟨by omega, rfl⟩, c'⟩
    · intro i
      refine AT.pr (fun ⟨hi, he⟩ => ?_)
      repeat' (first | (show oL; first | refine sMv rfl rfl ?_ | refine sAs rfl rfl ?_ | (show oA (.indexAddr _ _ _); refine st_y (y_ixa tabs rfl rfl rfl mK om om) rfl ?_) | refine sLs rfl rfl rfl ?_) | refine xNt ?_ | (show oC; first | refine c_seq ?_ | refine c_region ?_ | refine c_skip (x_then ?_) | refine c_block ?_ | refine c_ret ?_ | refine c_exit ?_ | refine c_if rfl (fun h => ?_) (fun h => ?_)) | (show AT _ _ _ _; first | refine x_then ?_ | refine x_then_exit ?_ | refine x_blk_exit rfl ?_))
      · obtain ⟨m, hm⟩ : ∃ m, ms[i]? = some m := ⟨_, List.getElem?_eq_getElem (show i < ms.length by omega)⟩
        obtain ⟨m', hm'⟩ : ∃ m, ms'[i]? = some m := ⟨_, List.getElem?_eq_getElem (show i < ms'.length by omega)⟩
        obtain ⟨a2, c2, g1, g2, g3, g4⟩ := hget i m hm
        obtain ⟨a3, c3, k1, k2, k3, k4⟩ := hget' i m' hm'
        repeat' (first | (show oL; first | refine sMv rfl rfl ?_ | refine sAs rfl rfl ?_ | (show oA (.load _ _); first | refine st_y (y_load3 tabs rfl rfl (hc_w0 g1) (hc_w0 g2) (hc_w0 g3)) rfl ?_ | refine st_y (y_load3 tabs rfl rfl (hc_w0 k1) (hc_w0 k2) (hc_w0 k3)) rfl ?_ | refine sLb 0 tabs rfl rfl rfl rfl rfl ?_ | refine sLb 1 tabs rfl rfl rfl rfl rfl ?_) | (show oA (.indexAddr _ _ _); refine st_y (y_ixa tabs rfl rfl rfl hs' om om) rfl ?_) | refine sAd rfl rfl om rfl ?_ | (show oA (.unOp _ _ _); refine st_y (y_notd rfl) rfl ?_) | (show oA (.call _); (refine m_callv rfl (ent_of Tryz.func47 kr rfl) rfl rfl (fun w c => impl_EqualMatrices_ok w m m' _ _ (c.rd g4) (c.rd k4)) ?_; rintro v H' ⟨rfl, rfl⟩)) | (show oA (.store _ _ _); refine m_storeb 0 tabs rfl rfl rfl rfl rfl rfl rfl ?_) | (show oA (.alloc _); refine m_alloc tabs rfl rfl (fun b hb => ?_))) | refine xNt ?_ | (show oC; first | refine c_seq ?_ | refine c_region ?_ | refine c_skip (x_blk ?_) | refine c_ret ?_ | refine c_ifnd rfl (fun h => ?_) (fun h => ?_)) | (show AT _ _ _ _; first | refine x_then ?_ | refine x_then_ret ?_ | refine x_blk_ret ?_))
        · refine x_ret1 Tryz.results151 (res_tmp rfl) (fun w' c' => ⟨_, _, rfl, ⟨?_, rfl⟩, c'.sub (List.nil_sublist _)⟩)
          have : ¬ ms = ms' := fun e => h (by rw [e, hm'] at hm; exact (Option.some.inj hm).symm)
          simp [this]
        · refine x_next (i + 1) sB (fun w' c' => ⟨⟨by omega, ?_⟩, c'.sub (List.nil_sublist _)⟩) om
          rw [List.take_add_one, List.take_add_one, he, hm, hm', h]
      · refine x_ret1 Tryz.results151 (res_tmp rfl) (fun w' c' => ⟨_, _, rfl, ⟨?_, rfl⟩, c'⟩)
        rw [take_end om, take_end om] at he
        simp [he]

end Go.Proofs.YtdnhmnnccfoliaaGreatDoor

namespace Go.Proofs.YtdnhmnnccfoliaaGreatDoor
open Go.Lg Go.Proofs Go.RowKit
attribute [local irreducible] Code.wp wpList bodyPost Exit.then Exit.inBlock Hp Again Calls Y AT ResV QT Qn QI wpAny wpAnyQ
set_option maxRecDepth 20000
set_option maxHeartbeats 4000000

theorem impl_EqualReps_ok {w : World} {a b : Rp} {e e' : Nat} {u0 u1 u2 u3 v0 v1 v2 v3 : Value} (h0 : Rd w (iT a.q.2.1) u0) (h1 : Rd w (iT a.q.2.2) u1) (h2 : Rd w (iT a.d) u2) (h3 : Rd w (matsT e a.m) u3) (k0 : Rd w (iT b.q.2.1) v0) (k1 : Rd w (iT b.q.2.2) v1) (k2 : Rd w (iT b.d) v2) (k3 : Rd w (matsT e' b.m) v3) :
    Does Tryz.prog 73 [.agg #[iV a.p, iV a.q.1, u0, u1, u2, u3], .agg #[iV b.p, iV b.q.1, v0, v1, v2, v3]] w (fun r H => r = .bool (decide (a = b)) ∧ H = []) := by
  have eAB : a = b ↔ a.p = b.p ∧ a.q = b.q ∧ a.d = b.d ∧ a.m = b.m := by
    cases a; cases b; simp
  refine fn_enter Tryz.func73 rfl Tryz.ntmps73 rfl ?_
  repeat' (first | (show oL; first | refine sMv rfl rfl ?_ | refine sAs rfl rfl ?_ | refine sFd tabs rfl rfl rfl rfl ?_ | (show oA (.load _ _); first | refine st_y (y_load3 tabs rfl rfl (hc_blk 1 rfl rfl) (hc_blk 1 rfl rfl) (hc_blk 1 rfl rfl)) rfl ?_ | refine st_y (y_load3 tabs rfl rfl (hc_blk 0 rfl rfl) (hc_blk 0 rfl rfl) (hc_blk 0 rfl rfl)) rfl ?_ | refine sLd 0 tabs rfl rfl rfl rfl rfl ?_ | refine sLd 1 tabs rfl rfl rfl rfl rfl ?_) | (show oA (.binOp _ _ _ _ _); refine st_y (y_eql rfl rfl) rfl ?_) | (show oA (.call _); first | (refine m_call (ent_of Tryz.func150 kr rfl) rfl rfl (fun w c => impl_EqualQuivers_ok (q := a.q) (q' := b.q) (c.rd h0) (c.rd h1) (c.rd k0) (c.rd k1)) ?_; rintro v H' ⟨rfl, rfl⟩) | (refine m_call (ent_of Tryz.func129 kr rfl) rfl rfl (fun w c => Equal_ok w _ _ a.d b.d (c.rd h2) (c.rd k2)) ?_; rintro v H' ⟨rfl, rfl⟩) | (refine m_call (ent_of Tryz.func151 kr rfl) rfl rfl (fun w c => EqualFuncM_ok w _ _ a.m b.m _ _ (c.rd h3) (c.rd k3)) ?_; rintro v H' ⟨rfl, rfl⟩)) | (show oA (.pick _ _ _); first | refine st_y (y_pickt rfl aS rfl) rfl ?_ | refine st_y (y_pickf rfl aS rfl) rfl ?_ | refine st_y (y_pick rfl rfl rfl) rfl ?_) | (show oA (.box _ _); refine m_box rfl rfl (fun bb hbb => ?_)) | refine st_gn rfl rfl rfl ?_ | refine st_gdy rfl rfl aS ?_ | refine st_gdn rfl rfl aS rfl ?_ | refine st_gd rfl rfl (fun h => ?_) (fun h => ?_)) | refine xNt ?_ | (show oC; first | refine c_seq ?_ | refine c_region ?_ | refine c_ret ?_))
  all_goals refine x_ret1 Tryz.results73 (res_tmp rfl) (fun w c => ⟨_, _, rfl, ⟨?_, rfl⟩, c.sub (List.nil_sublist _)⟩)
  all_goals simp only [eAB]
  all_goals simp_all
theorem spec_EqualReps_ok {w : World} {a b : Rp} {e e' : Nat} {u0 u1 u2 u3 v0 v1 v2 v3 : Value} (h0 : Rd w (iT a.q.2.1) u0) (h1 : Rd w (iT a.q.2.2) u1) (h2 : Rd w (iT a.d) u2) (h3 : Rd w (matsT e a.m) u3) (k0 : Rd w (iT b.q.2.1) v0) (k1 : Rd w (iT b.q.2.2) v1) (k2 : Rd w (iT b.d) v2) (k3 : Rd w (matsT e' b.m) v3) :
    Does Tryz.prog 54 [.agg #[iV a.p, iV a.q.1, u0, u1, u2, u3], .agg #[iV b.p, iV b.q.1, v0, v1, v2, v3]] w (fun r H => r = .bool (decide (a = b)) ∧ H = []) := by
  have eAB : a = b ↔ a.p = b.p ∧ a.q = b.q ∧ a.d = b.d ∧ a.m = b.m := by
    cases a; cases b; simp
  obtain ⟨a3, c3, rfl, hs3, _, hm3, hg3⟩ := rd_mats h3
  obtain ⟨b3, d3, rfl, ks3, _, km3, kg3⟩ := rd_mats k3
  unfold maxLen at hm3 km3
  by_cases hA : a.p = b.p ∧ a.q = b.q ∧ a.d = b.d ∧ a.m.length = b.m.length
  · obtain ⟨hp, hq, hd, hl⟩ := hA
    have tok0 : True := trivial
    refine fn_enter Tryz.func54 rfl Tryz.ntmps54 rfl ?_
    repeat' (first | (show oL; first | refine sMv rfl rfl ?_ | refine sAs rfl rfl ?_ | refine sFd tabs rfl rfl rfl rfl ?_ | (show oA (.load _ _); first | refine sLd 1 tabs rfl rfl rfl rfl rfl ?_ | refine sLd 0 tabs rfl rfl rfl rfl rfl ?_ | refine st_y (y_load3 tabs rfl rfl (hc_blk 1 rfl rfl) (hc_blk 1 rfl rfl) (hc_blk 1 rfl rfl)) rfl ?_ | refine st_y (y_load3 tabs rfl rfl (hc_blk 0 rfl rfl) (hc_blk 0 rfl rfl) (hc_blk 0 rfl rfl)) rfl ?_) | (show oA (.binOp _ _ _ _ _); first | refine st_y (y_neqi_eq rfl rfl hp) rfl ?_ | refine st_y (y_neqi_eq rfl rfl om) rfl ?_) | (show oA (.unOp _ _ _); refine st_y (y_not rfl) rfl ?_) | (show oA (.call _); first | (refine m_call (ent_of Tryz.func132 kr rfl) rfl rfl (fun w c => spec_EqualQuivers_ok (q := a.q) (q' := b.q) (c.rd h0) (c.rd h1) (c.rd k0) (c.rd k1)) ?_; rw [decide_eq_true hq]; rintro v H' ⟨rfl, rfl⟩) | (refine m_call (ent_of Tryz.func133 kr rfl) rfl rfl (fun w c => l6Same_ok w _ _ a.d b.d (c.rd h2) (c.rd k2)) ?_; rw [decide_eq_true hd]; rintro v H' ⟨rfl, rfl⟩) | refine sLn tabs rfl rfl rfl ?_) | (show oA (.pick _ _ _); refine st_y (y_pick rfl rfl rfl) rfl ?_) | (show oA (.box _ _); first | (have _t := tok0; refine m_box rfl rfl (fun ba hba => ?_); clear _t tok0) | refine m_box rfl rfl (fun bb hbb => ?_)) | refine st_gy rfl rfl ?_) | refine xNt ?_ | (show oC; first | refine c_seq ?_ | refine c_region ?_ | refine c_skip (x_then ?_) | refine c_block ?_ | refine c_false rfl ?_))
    refine c_loopH (α := Nat) [2, 3] (fun i => [(5, iV i)]) (fun i => i ≤ a.m.length ∧ a.m.take i = b.m.take i) (fun i => [.blk bb #[iV b.p, iV b.q.1, v0, v1, v2, .slice b3 b.m.length d3] 29, .blk ba #[iV a.p, iV a.q.1, u0, u1, u2, .slice a3 a.m.length c3] 29]) (fun i => a.m.length - i) 0 rfl sB ?_ ?_ ?_
    · exact ⟨Nat.zero_le _, rfl⟩
    · exact fun w' c' => c'
    · rintro i ⟨hi, he⟩
      by_cases hin : i < a.m.length
      · obtain ⟨m, hm⟩ : ∃ m, a.m[i]? = some m := ⟨_, List.getElem?_eq_getElem hin⟩
        obtain ⟨m', hm'⟩ : ∃ m, b.m[i]? = some m := ⟨_, List.getElem?_eq_getElem (show i < b.m.length by omega)⟩
        obtain ⟨a1, c1, p0, p1, p2, p3⟩ := hg3 i m hm
        obtain ⟨a2, c2, q0, q1, q2, q3⟩ := kg3 i m' hm'
        by_cases hmm : m = m'
        · repeat' (first | (show oL; first | refine sMv rfl rfl ?_ | refine sAs rfl rfl ?_ | refine sFd tabs rfl rfl rfl rfl ?_ | refine sLd 1 tabs rfl rfl rfl rfl rfl ?_ | (show oA (.binOp _ _ _ _ _); first | refine sAd rfl rfl om rfl ?_ | refine sLs rfl rfl rfl ?_) | refine sLn tabs rfl rfl rfl ?_) | refine xNt ?_ | (show oC; first | refine c_seq ?_ | refine c_region ?_ | refine c_skip (x_then ?_) | refine c_skip (x_blk ?_) | refine c_block ?_ | refine c_draw kr kr (fun _ c => Hp.drew c) ?_ | refine c_false rfl ?_ | refine c_ift rfl aO ?_) | (show QT _ _ _ _ _ _ (_ :: _); first | refine qMv rfl rfl ?_ | refine qFd tabs rfl rfl rfl rfl ?_ | (show qA (.load _ _); first | refine qLd 1 tabs rfl rfl rfl rfl rfl ?_ | refine qLd 0 tabs rfl rfl rfl rfl rfl ?_ | refine q_y (y_load3 tabs rfl rfl (hc_w0 p0) (hc_w0 p1) (hc_w0 p2)) rfl ?_ | refine q_y (y_load3 tabs rfl rfl (hc_w0 q0) (hc_w0 q1) (hc_w0 q2)) rfl ?_) | (show qA (.indexAddr _ _ _); refine q_y (y_ixa tabs rfl rfl rfl mK om om) rfl ?_) | (show qA (.unOp _ _ _); refine q_y (y_not rfl) rfl ?_) | (show qA (.call _); refine q_call (ent_of Tryz.func23 kr rfl) rfl rfl (fun w c => spec_EqualMatrices_ok w m m' _ _ (c.rd p3) (c.rd q3)) (fun u H' h => by rw [decide_eq_true hmm] at h; exact h.1) ?_)) | (show QT _ _ _ _ _ _ []; refine q_nil (x_then ?_)) | (show AT _ _ _ _; refine x_then ?_))
          exact x_nx (i + 1) sB ⟨by omega, by rw [List.take_add_one, List.take_add_one, he, hm, hm', hmm]⟩ (fun w' c' => c') om
        · repeat' (first | (show oL; first | refine sMv rfl rfl ?_ | refine sAs rfl rfl ?_ | refine sFd tabs rfl rfl rfl rfl ?_ | refine sLd 1 tabs rfl rfl rfl rfl rfl ?_ | refine sLs rfl rfl rfl ?_ | refine sLn tabs rfl rfl rfl ?_) | refine xNt ?_ | (show oC; first | refine c_seq ?_ | refine c_region ?_ | refine c_skip (x_then ?_) | refine c_block ?_ | refine c_ret ?_ | refine c_draw kr kr (fun _ c => Hp.drew c) ?_ | refine c_true rfl ?_ | refine c_ift rfl aO ?_) | (show QT _ _ _ _ _ _ (_ :: _); first | refine qMv rfl rfl ?_ | refine qFd tabs rfl rfl rfl rfl ?_ | (show qA (.load _ _); first | refine qLd 1 tabs rfl rfl rfl rfl rfl ?_ | refine qLd 0 tabs rfl rfl rfl rfl rfl ?_ | refine q_y (y_load3 tabs rfl rfl (hc_w0 p0) (hc_w0 p1) (hc_w0 p2)) rfl ?_ | refine q_y (y_load3 tabs rfl rfl (hc_w0 q0) (hc_w0 q1) (hc_w0 q2)) rfl ?_) | (show qA (.indexAddr _ _ _); refine q_y (y_ixa tabs rfl rfl rfl mK om om) rfl ?_) | (show qA (.unOp _ _ _); refine q_y (y_not rfl) rfl ?_) | (show qA (.call _); refine q_call (ent_of Tryz.func23 kr rfl) rfl rfl (fun w c => spec_EqualMatrices_ok w m m' _ _ (c.rd p3) (c.rd q3)) (fun u H' h => by rw [decide_eq_false hmm] at h; exact h.1) ?_)) | (show QT _ _ _ _ _ _ []; refine q_nil (x_then ?_)) | (show AT _ _ _ _; first | refine x_then_ret ?_ | refine x_blk_ret ?_))
          exact x_ret1 Tryz.results54 (res_tmp rfl) (fun w' c' => ⟨_, _, rfl, ⟨by
            rw [decide_eq_false (fun k => hmm ?_)]
            have := (eAB.1 k).2.2.2
            rw [this, hm'] at hm
            exact (Option.some.inj hm).symm, rfl⟩, c'.sub (List.nil_sublist _)⟩)
      · have : i = a.m.length := by omega
        subst this
        repeat' (first | (show oL; first | refine sMv rfl rfl ?_ | refine sAs rfl rfl ?_ | refine sFd tabs rfl rfl rfl rfl ?_ | refine sLd 1 tabs rfl rfl rfl rfl rfl ?_ | refine sLs rfl rfl rfl ?_ | refine sLn tabs rfl rfl rfl ?_) | refine xNt ?_ | (show oC; first | refine c_seq ?_ | refine c_region ?_ | refine c_ret ?_ | refine c_exit ?_ | refine c_iff rfl nN ?_) | (show AT _ _ _ _; first | refine x_then ?_ | refine x_then_exit ?_ | refine x_blk_exit rfl ?_))
        exact x_ret1 Tryz.results54 (res_tmp rfl) (fun w' c' => ⟨_, _, rfl, ⟨by
          rw [decide_eq_true (eAB.2 ⟨hp, hq, hd, ?_⟩)]
          rw [List.take_length, hl, List.take_length] at he
          exact he, rfl⟩, c'.sub (List.nil_sublist _)⟩)
  · have hne : ¬ a = b := fun k => hA (by have := eAB.1 k; exact ⟨this.1, this.2.1, this.2.2.1, by rw [this.2.2.2]⟩)
    rw [decide_eq_false hne]
    refine fn_enter Tryz.func54 rfl Tryz.ntmps54 rfl ?_
    repeat' (first | (show oL; first | refine sMv rfl rfl ?_ | refine sAs rfl rfl ?_ | refine sFd tabs rfl rfl rfl rfl ?_ | (show oA (.load _ _); first | refine st_y (y_load3 tabs rfl rfl (hc_blk 1 rfl rfl) (hc_blk 1 rfl rfl) (hc_blk 1 rfl rfl)) rfl ?_ | refine st_y (y_load3 tabs rfl rfl (hc_blk 0 rfl rfl) (hc_blk 0 rfl rfl) (hc_blk 0 rfl rfl)) rfl ?_ | refine sLd 0 tabs rfl rfl rfl rfl rfl ?_ | refine sLd 1 tabs rfl rfl rfl rfl rfl ?_) | (show oA (.binOp _ _ _ _ _); refine st_y (y_neq rfl rfl) rfl ?_) | (show oA (.unOp _ _ _); refine st_y (y_notd rfl) rfl ?_) | (show oA (.call _); first | (refine m_call (ent_of Tryz.func132 kr rfl) rfl rfl (fun w c => spec_EqualQuivers_ok (q := a.q) (q' := b.q) (c.rd h0) (c.rd h1) (c.rd k0) (c.rd k1)) ?_; rintro v H' ⟨rfl, rfl⟩) | (refine m_call (ent_of Tryz.func133 kr rfl) rfl rfl (fun w c => l6Same_ok w _ _ a.d b.d (c.rd h2) (c.rd k2)) ?_; rintro v H' ⟨rfl, rfl⟩) | refine sLn tabs rfl rfl rfl ?_) | (show oA (.pick _ _ _); first | refine st_y (y_pickt rfl aS rfl) rfl ?_ | refine st_y (y_pickf rfl aS rfl) rfl ?_ | refine st_y (y_pick rfl rfl rfl) rfl ?_) | (show oA (.box _ _); refine m_box rfl rfl (fun bb hbb => ?_)) | refine st_gn rfl rfl rfl ?_ | refine st_gfy rfl rfl aS ?_ | refine st_gfn rfl rfl aS rfl ?_ | refine st_gd rfl rfl (fun h => ?_) (fun h => ?_)) | refine xNt ?_ | (show oC; first | refine c_seq ?_ | refine c_region ?_ | refine c_skip (x_then ?_) | refine c_block ?_ | refine c_ret ?_ | refine c_true rfl ?_ | refine c_ifnd rfl (fun h => ?_) (fun h => ?_)) | (show AT _ _ _ _; refine x_then_ret ?_))
    all_goals first
      | exact x_ret1 Tryz.results54 (res_tmp rfl) (fun w c => ⟨_, _, rfl, ⟨rfl, rfl⟩, c.sub (List.nil_sublist _)⟩)
      | exact absurd ⟨by first | assumption | exact Decidable.not_not.1 aS, by first | assumption | exact Decidable.not_not.1 aS, by first | assumption | exact Decidable.not_not.1 aS, by omega⟩ hA
end Go.Proofs.YtdnhmnnccfoliaaGreatDoor
