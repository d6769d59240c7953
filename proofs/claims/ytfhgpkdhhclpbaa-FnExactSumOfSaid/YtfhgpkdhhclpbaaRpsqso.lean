import Derived.Test.YtfhgpkdhhclpbaaMrkqso
import Derived.Test.YtfhgpkdhhclpbaaRowqso
import Derived.Test.YtfhgpkdhhclpbaaRplqso
namespace Go.Proofs.Ytfhgpkdhhclpbaa
open Go.Lg Go.Proofs Go.RowKit
attribute [local irreducible] Code.wp wpList bodyPost Exit.then Exit.inBlock Hp Again Calls Y AT ResV QT Qn QI wpAny wpAnyQ
set_option maxRecDepth 20000
set_option maxHeartbeats 4000000

/-! ### lists of representations -/
def rpT (r : Rp) : List T := [.c (iV r.p), .c (iV r.q.1), iT r.q.2.1, iT r.q.2.2, iT r.d, matsT 81 r.m]
abbrev rpsT (e : Nat) (l : List Rp) : T := .s e 6 (l.flatMap rpT)
theorem rpT_length (r : Rp) : (rpT r).length = 6 := rfl
def rp0 : Rp := ⟨0, (0, [], []), [], []⟩
theorem rp0_own (w : World) : OwnL w (rpT rp0) [iV 0, iV 0, .slice none 0 0, .slice none 0 0, .slice none 0 0, .slice none 0 0] [] := by
  simp only [rpT, OwnL]
  exact ⟨_, _, [], [], rfl, rfl, ⟨rfl, rfl⟩, _, _, [], [], rfl, rfl, ⟨rfl, rfl⟩, _, _, [], [], rfl, rfl, .inl ⟨rfl, rfl, rfl⟩, _, _, [], [], rfl, rfl, .inl ⟨rfl, rfl, rfl⟩, _, _, [], [], rfl, rfl, .inl ⟨rfl, rfl, rfl⟩, _, _, [], [], rfl, rfl, .inl ⟨rfl, rfl, rfl⟩, rfl, rfl⟩
theorem rd_rps {w : World} {v : Value} {e : Nat} {l : List Rp} (h : Rd w (rpsT e l) v) : ∃ a cap, v = .slice a l.length cap ∧ SA a l.length ∧ l.length ≤ cap ∧ cap ≤ maxLen ∧
    ∀ i r, l[i]? = some r → ∃ a0 c0 a1 c1 a2 c2 a3 c3, w.cell? ⟨ab a, ao a + i * 6, none⟩ = some (iV r.p) ∧ w.cell? ⟨ab a, ao a + i * 6 + 1, none⟩ = some (iV r.q.1) ∧ w.cell? ⟨ab a, ao a + i * 6 + 2, none⟩ = some (.slice a0 r.q.2.1.length c0) ∧ w.cell? ⟨ab a, ao a + i * 6 + 3, none⟩ = some (.slice a1 r.q.2.2.length c1) ∧ w.cell? ⟨ab a, ao a + i * 6 + 4, none⟩ = some (.slice a2 r.d.length c2) ∧ w.cell? ⟨ab a, ao a + i * 6 + 5, none⟩ = some (.slice a3 r.m.length c3) ∧
      Rd w (iT r.q.2.1) (.slice a0 r.q.2.1.length c0) ∧ Rd w (iT r.q.2.2) (.slice a1 r.q.2.2.length c1) ∧ Rd w (iT r.d) (.slice a2 r.d.length c2) ∧ Rd w (matsT 81 r.m) (.slice a3 r.m.length c3) := by
  obtain ⟨a, cap, h1, h2, h3, h4, h5⟩ := rd_list rpT_length (by decide) h
  refine ⟨a, cap, h1, h2, h3, h4, fun i r hx => ?_⟩
  obtain ⟨u0, c0, r0⟩ := h5 i r hx 0 _ (by decide) rfl
  obtain ⟨u1, c1, r1⟩ := h5 i r hx 1 _ (by decide) rfl
  obtain ⟨u2, c2, r2⟩ := h5 i r hx 2 _ (by decide) rfl
  obtain ⟨u3, c3, r3⟩ := h5 i r hx 3 _ (by decide) rfl
  obtain ⟨u4, c4, r4⟩ := h5 i r hx 4 _ (by decide) rfl
  obtain ⟨u5, c5, r5⟩ := h5 i r hx 5 _ (by decide) rfl
  obtain ⟨b2, k2, e2, _⟩ := r2.ints
  obtain ⟨b3, k3, e3, _⟩ := r3.ints
  obtain ⟨b4, k4, e4, _⟩ := r4.ints
  obtain ⟨b5, k5, e5, _⟩ := rd_mats r5
  subst e2; subst e3; subst e4; subst e5
  simp only [Rd] at r0 r1
  subst r0; subst r1
  exact ⟨b2, k2, b3, k3, b4, k4, b5, k5, c0, c1, c2, c3, c4, c5, r2, r3, r4, r5⟩
theorem Hp.rpl {M : List Nat} {w0 w : World} {H : List HE} {r : Rp} {vm vd vT vF : Value} (c : Hp M w0 (.own (matsT 81 r.m) vm :: .own (iT r.d) vd :: .own (iT r.q.2.2) vT :: .own (iT r.q.2.1) vF :: H) w) :
    Hp M w0 (.ownL (rpT r) [iV r.p, iV r.q.1, vF, vT, vd, vm] :: H) w := by
  have c1 := (c.single.front (i := 1) rfl).single.cat
  have c2 := (c1.front (i := 1) rfl).single.cat
  have c3 := (c2.front (i := 1) rfl).single.cat
  exact (c3.ahead (iV r.q.1)).ahead (iV r.p)
theorem eqReps_at (w : World) (r r' : Rp) (u0 v0 : Value) {e e' : Nat} {u1 u2 u3 v1 v2 v3 : Value} (h0 : Rd w (iT r.q.2.1) u0) (h1 : Rd w (iT r.q.2.2) u1) (h2 : Rd w (iT r.d) u2) (h3 : Rd w (matsT e r.m) u3) (k0 : Rd w (iT r'.q.2.1) v0) (k1 : Rd w (iT r'.q.2.2) v1) (k2 : Rd w (iT r'.d) v2) (k3 : Rd w (matsT e' r'.m) v3) :
    Does Try.prog 21 [.agg #[iV r.p, iV r.q.1, u0, u1, u2, u3], .agg #[iV r'.p, iV r'.q.1, v0, v1, v2, v3]] w (fun v H => v = .bool (decide (r = r')) ∧ H = []) := eqRep_ok w r r' e e' u0 u1 u2 u3 v0 v1 v2 v3 h0 h1 h2 h3 k0 k1 k2 k3

theorem eqRps_ok (w : World) (e e' : Nat) (ms ms' : List (Rp)) (v u : Value) (hr : Rd w (rpsT e ms) v) (hr' : Rd w (rpsT e' ms') u) :
    Does Try.prog 55 [v, u] w (fun r H => r = .bool (decide (ms = ms')) ∧ H = []) := by
  obtain ⟨a, c, rfl, hs, hc1, hc2, hget⟩ := rd_rps hr
  obtain ⟨a', c', rfl, hs', hc1', hc2', hget'⟩ := rd_rps hr'
  unfold maxLen at hc2 hc2'
  refine fn_enter Try.func55 rfl Try.ntmps55 rfl ?_
  repeat' (first
    | (show AT _ _ _ (wpList _ _ _ (_ :: _)); first
       | (show AT _ _ _ (wpList _ _ _ (⟨_, Op.move _, _, _, _, _⟩ :: _)); refine st_y (y_move rfl) rfl ?_)
       | (show AT _ _ _ (wpList _ _ _ (⟨_, Op.assign _, _, _, _, _⟩ :: _)); refine st_y (y_assign rfl) rfl ?_)
       | (show AT _ _ _ (wpList _ _ _ (⟨_, Op.binOp _ _ _ _ _, _, _, _, _⟩ :: _)); refine st_y (y_neq rfl rfl) rfl ?_)
       | (show AT _ _ _ (wpList _ _ _ (⟨_, Op.call _, _, _, _, _⟩ :: _)); refine st_y (y_len tabs rfl rfl) rfl ?_))
    | (show AT _ _ _ (wpList _ _ _ []); refine c_nil (x_then ?_))
    | (show AT _ _ _ (Code.wp _ _ _); first | refine c_seq ?_ | refine c_region ?_ | refine c_skip (x_then ?_) | refine c_block ?_ | refine c_ret ?_ | refine c_ifnd rfl (fun h => ?_) (fun h => ?_))
    | (show AT _ _ _ _; refine x_then_ret ?_))
  · refine x_ret1 Try.results55 (res_tmp rfl) (fun w' c' => ⟨_, _, rfl, ⟨?_, rfl⟩, c'⟩)
    have : ¬ ms = ms' := fun e => h (by rw [e])
    simp [this]
  · have hl : ms.length = ms'.length := by omega
    refine c_loop (fun i : Nat => [(0, .slice a ms.length c), (1, .slice a' ms'.length c'), (5, .int .i64 i)])
      (fun i w' => (i ≤ ms.length ∧ ms.take i = ms'.take i) ∧ Hp [] w [] w') (fun i => ms.length - i) 0 ?_ ?_ ?_
    · exact (by repeat' (first | exact Sub.nil | refine Sub.cons rfl ?_ | refine Sub.consi rfl (by omega) ?_))
    · intro w' c'
      exact ⟨⟨by omega, rfl⟩, c'⟩
    · intro i
      refine AT.pr (fun ⟨hi, he⟩ => ?_)
      repeat' (first
        | (show AT _ _ _ (wpList _ _ _ (_ :: _)); first
           | (show AT _ _ _ (wpList _ _ _ (⟨_, Op.move _, _, _, _, _⟩ :: _)); refine st_y (y_move rfl) rfl ?_)
           | (show AT _ _ _ (wpList _ _ _ (⟨_, Op.assign _, _, _, _, _⟩ :: _)); refine st_y (y_assign rfl) rfl ?_)
           | (show AT _ _ _ (wpList _ _ _ (⟨_, Op.binOp _ _ _ _ _, _, _, _, _⟩ :: _)); refine st_y (y_lss rfl rfl) rfl ?_)
           | (show AT _ _ _ (wpList _ _ _ (⟨_, Op.call _, _, _, _, _⟩ :: _)); refine st_y (y_len tabs rfl rfl) rfl ?_))
        | (show AT _ _ _ (wpList _ _ _ []); refine c_nil (x_then ?_))
        | (show AT _ _ _ (Code.wp _ _ _); first | refine c_seq ?_ | refine c_region ?_ | refine c_skip (x_then ?_) | refine c_block ?_ | refine c_ret ?_ | refine c_exit ?_ | refine c_draw (by kernel_rfl) (by kernel_rfl) (fun _ c => Hp.drew c) ?_ | refine c_if rfl (fun h => ?_) (fun h => ?_))
        | (show QT _ _ _ _ _ _ (_ :: _); first
           | (show QT _ _ _ _ _ _ (⟨_, Op.move _, _, _, _, _⟩ :: _); refine q_y (y_move rfl) rfl ?_)
           | (show QT _ _ _ _ _ _ (⟨_, Op.indexAddr _ _ _, _, _, _, _⟩ :: _); refine q_y (y_ixa tabs rfl rfl rfl (by first | assumption | exact .mk) (by omega) (by omega)) rfl ?_))
        | (show AT _ _ _ _; first | refine x_then ?_ | refine x_then_exit ?_ | refine x_blk_exit rfl ?_))
      · obtain ⟨m, hm⟩ : ∃ m, ms[i]? = some m := ⟨_, List.getElem?_eq_getElem (show i < ms.length by omega)⟩
        obtain ⟨m', hm'⟩ : ∃ m, ms'[i]? = some m := ⟨_, List.getElem?_eq_getElem (show i < ms'.length by omega)⟩
        obtain ⟨g1, g2, g3, g4, g5, g6, g7, g8, g9, g10, g11, g12, g13, g14, g15, g16, g17, g18⟩ := hget i m hm
        obtain ⟨k1, k2, k3, k4, k5, k6, k7, k8, k9, k10, k11, k12, k13, k14, k15, k16, k17, k18⟩ := hget' i m' hm'
        repeat' (first
          | (show AT _ _ _ (wpList _ _ _ (_ :: _)); first
             | (show AT _ _ _ (wpList _ _ _ (⟨_, Op.move _, _, _, _, _⟩ :: _)); refine st_y (y_move rfl) rfl ?_)
             | (show AT _ _ _ (wpList _ _ _ (⟨_, Op.assign _, _, _, _, _⟩ :: _)); refine st_y (y_assign rfl) rfl ?_)
             | (show AT _ _ _ (wpList _ _ _ (⟨_, Op.binOp _ _ _ _ _, _, _, _, _⟩ :: _)); refine st_y (y_add rfl rfl (by omega)) rfl ?_))
          | (show AT _ _ _ (wpList _ _ _ []); refine c_nil (x_then ?_))
          | (show AT _ _ _ (Code.wp _ _ _); first | refine c_seq ?_ | refine c_region ?_ | refine c_skip (x_blk ?_) | refine c_ret ?_ | refine c_ifnd rfl (fun h => ?_) (fun h => ?_))
          | (show QT _ _ _ _ _ _ (_ :: _); first
             | (show QT _ _ _ _ _ _ (⟨_, Op.move _, _, _, _, _⟩ :: _); refine q_y (y_move rfl) rfl ?_)
             | (show QT _ _ _ _ _ _ (⟨_, Op.load _ _, _, _, _, _⟩ :: _); first | refine q_y (y_load6 tabs rfl rfl (hc_w0 g9) (hc_w0 g10) (hc_w0 g11) (hc_w0 g12) (hc_w0 g13) (hc_w0 g14)) rfl ?_ | refine q_y (y_load6 tabs rfl rfl (hc_w0 k9) (hc_w0 k10) (hc_w0 k11) (hc_w0 k12) (hc_w0 k13) (hc_w0 k14)) rfl ?_)
             | (show QT _ _ _ _ _ _ (⟨_, Op.indexAddr _ _ _, _, _, _, _⟩ :: _); refine q_y (y_ixa tabs rfl rfl rfl (by first | assumption | exact .mk) (by omega) (by omega)) rfl ?_)
             | (show QT _ _ _ _ _ _ (⟨_, Op.unOp _ _ _, _, _, _, _⟩ :: _); refine q_y (y_notd rfl) rfl ?_)
             | (show QT _ _ _ _ _ _ (⟨_, Op.call _, _, _, _, _⟩ :: _); refine q_call (ent_of Try.func21 (by kernel_rfl) rfl) rfl rfl (fun w c => eqReps_at w m m' _ _ (c.rd g15) (c.rd g16) (c.rd g17) (c.rd g18) (c.rd k15) (c.rd k16) (c.rd k17) (c.rd k18)) (fun u H' h => h.1) ?_))
          | (show QT _ _ _ _ _ _ []; refine q_nil (x_then ?_))
          | (show AT _ _ _ _; first | refine x_then ?_ | refine x_then_ret ?_ | refine x_blk_ret ?_))
        · refine x_ret1 Try.results55 (res_tmp rfl) (fun w' c' => ⟨_, _, rfl, ⟨?_, rfl⟩, c'⟩)
          have : ¬ ms = ms' := fun e => h (by rw [e, hm'] at hm; exact (Option.some.inj hm).symm)
          simp [this]
        · refine x_next (i + 1) (by repeat' (first | exact Sub.nil | refine Sub.cons rfl ?_ | refine Sub.consi rfl (by omega) ?_)) (fun w' c' => ⟨⟨by omega, ?_⟩, c'⟩) (by omega)
          rw [List.take_add_one, List.take_add_one, he, hm, hm', h]
      · refine x_ret1 Try.results55 (res_tmp rfl) (fun w' c' => ⟨_, _, rfl, ⟨?_, rfl⟩, c'⟩)
        rw [take_end (by omega), take_end (by omega)] at he
        simp [he]

theorem eqRps_same {w : World} {e e' : Nat} {ms : List (Rp)} {v u : Value} (hr : Rd w (rpsT e ms) v) (hr' : Rd w (rpsT e' ms) u) :
    Does Try.prog 55 [v, u] w (fun r H => r = .bool true ∧ H = []) := by
  have := eqRps_ok w e e' ms ms v u hr hr'
  simpa using this

theorem szRps_ok {w : World} {e : Nat} {ms : List (Rp)} {u : Value} {left : Int} (hu : Rd w (rpsT e ms) u) (h0 : 0 ≤ left) (h1 : left ≤ 1048576) :
    Does Try.prog 51 [u, iV left] w (fun v H => v = iV (if left < szL (szR) ms then -1 else left - szL (szR) ms) ∧ H = []) := by
  obtain ⟨a, c', rfl, hs, hc1, hc2, hget⟩ := rd_rps hu
  unfold maxLen at hc2
  have hsz : ms.length ≤ szL (szR) ms := by unfold szL; omega
  refine fn_enter Try.func51 rfl Try.ntmps51 rfl ?_
  repeat' (first
    | (show AT _ _ _ (wpList _ _ _ (_ :: _)); first
       | (show AT _ _ _ (wpList _ _ _ (⟨_, Op.move _, _, _, _, _⟩ :: _)); refine st_y (y_move rfl) rfl ?_)
       | (show AT _ _ _ (wpList _ _ _ (⟨_, Op.assign _, _, _, _, _⟩ :: _)); refine st_y (y_assign rfl) rfl ?_)
       | (show AT _ _ _ (wpList _ _ _ (⟨_, Op.binOp _ _ _ _ _, _, _, _, _⟩ :: _)); first | refine st_y (y_sub rfl rfl (by omega)) rfl ?_ | refine st_y (y_lss rfl rfl) rfl ?_)
       | (show AT _ _ _ (wpList _ _ _ (⟨_, Op.call _, _, _, _, _⟩ :: _)); refine st_y (y_len tabs rfl rfl) rfl ?_))
    | (show AT _ _ _ (wpList _ _ _ []); refine c_nil (x_then ?_))
    | (show AT _ _ _ (Code.wp _ _ _); first | refine c_seq ?_ | refine c_region ?_ | refine c_skip (x_then ?_) | refine c_block ?_ | refine c_ret ?_ | refine c_if rfl (fun h => ?_) (fun h => ?_))
    | (show AT _ _ _ _; refine x_then_ret ?_))
  · refine x_ret1 Try.results51 (res_tmp rfl) (fun w c => ⟨_, _, rfl, ⟨?_, rfl⟩, c⟩)
    rw [if_pos (by omega)]
  · have hpart : ∀ i, i ≤ ms.length → ms.length + ((ms.map (szR)).take i).sum ≤ szL (szR) ms := fun i _ => by
      have := sum_take_le (ms.map (szR)) i
      unfold szL; omega
    refine c_loop (fun i : Nat => [(0, .slice a ms.length c'), (1, iV (left - ms.length - ((ms.map (szR)).take i).sum)), (5, .int .i64 i)])
      (fun i w' => (i ≤ ms.length ∧ (0 : Int) ≤ left - ms.length - ((ms.map (szR)).take i).sum) ∧ Hp [] w [] w') (fun i => ms.length - i) 0 ?_ ?_ ?_
    · exact Sub.cons rfl (Sub.consi rfl (by simp) (Sub.cons rfl Sub.nil))
    · intro w' c
      exact ⟨⟨by omega, by simp; omega⟩, c⟩
    · intro i
      refine AT.pr (fun ⟨hi, hpos⟩ => ?_)
      repeat' (first
        | (show AT _ _ _ (wpList _ _ _ (_ :: _)); first
           | (show AT _ _ _ (wpList _ _ _ (⟨_, Op.move _, _, _, _, _⟩ :: _)); refine st_y (y_move rfl) rfl ?_)
           | (show AT _ _ _ (wpList _ _ _ (⟨_, Op.assign _, _, _, _, _⟩ :: _)); refine st_y (y_assign rfl) rfl ?_)
           | (show AT _ _ _ (wpList _ _ _ (⟨_, Op.indexAddr _ _ _, _, _, _, _⟩ :: _)); refine st_y (y_ixa tabs rfl rfl rfl (by first | assumption | exact .mk) (by omega) (by omega)) rfl ?_)
           | (show AT _ _ _ (wpList _ _ _ (⟨_, Op.binOp _ _ _ _ _, _, _, _, _⟩ :: _)); refine st_y (y_lss rfl rfl) rfl ?_)
           | (show AT _ _ _ (wpList _ _ _ (⟨_, Op.call _, _, _, _, _⟩ :: _)); refine st_y (y_len tabs rfl rfl) rfl ?_))
        | (show AT _ _ _ (wpList _ _ _ []); refine c_nil (x_then ?_))
        | (show AT _ _ _ (Code.wp _ _ _); first | refine c_seq ?_ | refine c_region ?_ | refine c_skip (x_then ?_) | refine c_block ?_ | refine c_ret ?_ | refine c_exit ?_ | refine c_if rfl (fun h => ?_) (fun h => ?_))
        | (show AT _ _ _ _; first | refine x_then ?_ | refine x_then_exit ?_ | refine x_blk_exit rfl ?_))
      · obtain ⟨m, hm⟩ : ∃ m, ms[i]? = some m := ⟨_, List.getElem?_eq_getElem (show i < ms.length by omega)⟩
        have hi' : i < ms.length := by omega
        obtain ⟨g1, g2, g3, g4, g5, g6, g7, g8, g9, g10, g11, g12, g13, g14, g15, g16, g17, g18⟩ := hget i m hm
        have hlen : (ms.map (szR)).getD i 0 = (szR) m := by simp [List.getD, hm]
        have hnext := sum_take_next (ms.map (szR)) i (by simpa using hi')
        have hp := hpart (i + 1) (by omega)
        rw [hlen] at hnext
        try simp only at hnext
        repeat' (first
          | (show AT _ _ _ (wpList _ _ _ (_ :: _)); first
             | (show AT _ _ _ (wpList _ _ _ (⟨_, Op.move _, _, _, _, _⟩ :: _)); refine st_y (y_move rfl) rfl ?_)
             | (show AT _ _ _ (wpList _ _ _ (⟨_, Op.assign _, _, _, _, _⟩ :: _)); refine st_y (y_assign rfl) rfl ?_)
             | (show AT _ _ _ (wpList _ _ _ (⟨_, Op.load _ _, _, _, _, _⟩ :: _)); refine st_y (y_load6 tabs rfl rfl (hc_w0 g9) (hc_w0 g10) (hc_w0 g11) (hc_w0 g12) (hc_w0 g13) (hc_w0 g14)) rfl ?_)
             | (show AT _ _ _ (wpList _ _ _ (⟨_, Op.binOp _ _ _ _ _, _, _, _, _⟩ :: _)); first | refine st_y (y_add rfl rfl (by omega)) rfl ?_ | refine st_y (y_lss rfl rfl) rfl ?_)
             | (show AT _ _ _ (wpList _ _ _ (⟨_, Op.call _, _, _, _, _⟩ :: _)); (refine m_call (ent_of Try.func14 (by kernel_rfl) rfl) rfl rfl (fun w c => szRep_ok (c.rd g15) (c.rd g16) (c.rd g17) (c.rd g18) hpos (by omega)) ?_; rintro v H' ⟨rfl, rfl⟩)))
          | (show AT _ _ _ (wpList _ _ _ []); refine c_nil (x_then ?_))
          | (show AT _ _ _ (Code.wp _ _ _); first | refine c_seq ?_ | refine c_region ?_ | refine c_skip (x_blk ?_) | refine c_ret ?_ | refine c_if rfl (fun h => ?_) (fun h => ?_))
          | (show AT _ _ _ _; first | refine x_then ?_ | refine x_then_ret ?_ | refine x_blk_ret ?_))
        · refine x_ret1 Try.results51 (res_tmp rfl) (fun w c => ⟨_, _, rfl, ⟨?_, rfl⟩, c⟩)
          rw [if_pos (by split at h <;> omega)]
        · refine x_next (i + 1) ?_ (fun w' c' => ⟨⟨by omega, by split at h <;> omega⟩, c'⟩) (by omega)
          exact Sub.cons rfl (Sub.consi rfl (by split at h <;> split <;> omega) (Sub.cons rfl Sub.nil))
      · refine x_ret1 Try.results51 (res_tmp rfl) (fun w c => ⟨_, _, rfl, ⟨?_, rfl⟩, c⟩)
        have hall : szL (szR) ms = ms.length + ((ms.map (szR)).take i).sum := by
          rw [List.take_of_length_le (by simp; omega)]; rfl
        rw [if_neg (by omega), hall]
        exact congrArg iV (by omega)

theorem toRps_ok {w : World} {e : Nat} {ms : List (Rp)} {v : Value} (hr : Rd w (rpsT e ms) v) (hb : szL (szR) ms ≤ 1048576) :
    Does Try.prog 53 [v] w (fun r H => Gives (rpsT 35 ms) ms.length r H) := by
  obtain ⟨a, c, rfl, hs, hc1, hc2, hget⟩ := rd_rps hr
  have hn : ms.length ≤ 1048576 := by unfold szL at hb; omega
  have hcs : ∀ (i : Nat) (m : Rp), ms[i]? = some m → (szR) m ≤ 1048576 := fun i m hm => Nat.le_trans (szL_get (f := szR) hm) hb
  refine fn_enter Try.func53 rfl Try.ntmps53 rfl ?_
  repeat' (first
    | (show AT _ _ _ (wpList _ _ _ (_ :: _)); first
       | (show AT _ _ _ (wpList _ _ _ (⟨_, Op.move _, _, _, _, _⟩ :: _)); refine st_y (y_move rfl) rfl ?_)
       | (show AT _ _ _ (wpList _ _ _ (⟨_, Op.assign _, _, _, _, _⟩ :: _)); refine st_y (y_assign rfl) rfl ?_)
       | (show AT _ _ _ (wpList _ _ _ (⟨_, Op.call _, _, _, _, _⟩ :: _)); refine st_y (y_len tabs rfl rfl) rfl ?_)
       | (show AT _ _ _ (wpList _ _ _ (⟨_, Op.makeSlice _ _ _, _, _, _, _⟩ :: _)); refine m_makeT tabs (tz := rpT rp0) rfl rfl rfl (by omega) (by omega) (by decide) rp0_own rfl (fun b hb1 => ?_)))
    | (show AT _ _ _ (wpList _ _ _ []); refine c_nil (x_then ?_))
    | (show AT _ _ _ (Code.wp _ _ _); first | refine c_seq ?_ | refine c_region ?_ | refine c_block ?_))
  refine c_loop (fun i : Nat => [(0, .slice a ms.length c), (3, .slice (some ⟨b, 0, none⟩) ms.length ms.length), (4, .int .i64 i)])
    (fun i w' => i ≤ ms.length ∧ Hp [] w [.own (rpsT 35 (ms.take i ++ List.replicate (ms.length - i) rp0)) (.slice (some ⟨b, 0, none⟩) ms.length ms.length)] w') (fun i => ms.length - i) 0 ?_ ?_ ?_
  · exact (by repeat' (first | exact Sub.nil | refine Sub.cons rfl ?_ | refine Sub.consi rfl (by omega) ?_))
  · intro w' c'
    exact ⟨by omega, by simpa [rpsT, flatMap_rep] using c'⟩
  · intro i
    refine AT.pr (fun hi => ?_)
    repeat' (first
      | (show AT _ _ _ (wpList _ _ _ (_ :: _)); first
         | (show AT _ _ _ (wpList _ _ _ (⟨_, Op.move _, _, _, _, _⟩ :: _)); refine st_y (y_move rfl) rfl ?_)
         | (show AT _ _ _ (wpList _ _ _ (⟨_, Op.assign _, _, _, _, _⟩ :: _)); refine st_y (y_assign rfl) rfl ?_)
         | (show AT _ _ _ (wpList _ _ _ (⟨_, Op.indexAddr _ _ _, _, _, _, _⟩ :: _)); refine st_y (y_ixa tabs rfl rfl rfl (by first | assumption | exact .mk) (by omega) (by omega)) rfl ?_)
         | (show AT _ _ _ (wpList _ _ _ (⟨_, Op.binOp _ _ _ _ _, _, _, _, _⟩ :: _)); refine st_y (y_lss rfl rfl) rfl ?_)
         | (show AT _ _ _ (wpList _ _ _ (⟨_, Op.call _, _, _, _, _⟩ :: _)); refine st_y (y_len tabs rfl rfl) rfl ?_))
      | (show AT _ _ _ (wpList _ _ _ []); refine c_nil (x_then ?_))
      | (show AT _ _ _ (Code.wp _ _ _); first | refine c_seq ?_ | refine c_region ?_ | refine c_skip (x_then ?_) | refine c_block ?_ | refine c_ret ?_ | refine c_exit ?_ | refine c_if rfl (fun h => ?_) (fun h => ?_))
      | (show AT _ _ _ _; first | refine x_then ?_ | refine x_then_exit ?_ | refine x_blk_exit rfl ?_))
    · have hi' : i < ms.length := by omega
      obtain ⟨m, hm⟩ : ∃ m, ms[i]? = some m := ⟨_, List.getElem?_eq_getElem hi'⟩
      obtain ⟨g1, g2, g3, g4, g5, g6, g7, g8, g9, g10, g11, g12, g13, g14, g15, g16, g17, g18⟩ := hget i m hm
      repeat' (first
        | (show AT _ _ _ (wpList _ _ _ (_ :: _)); first
           | (show AT _ _ _ (wpList _ _ _ (⟨_, Op.move _, _, _, _, _⟩ :: _)); refine st_y (y_move rfl) rfl ?_)
           | (show AT _ _ _ (wpList _ _ _ (⟨_, Op.assign _, _, _, _, _⟩ :: _)); refine st_y (y_assign rfl) rfl ?_)
           | (show AT _ _ _ (wpList _ _ _ (⟨_, Op.load _ _, _, _, _, _⟩ :: _)); refine st_y (y_load6 tabs rfl rfl (hc_w0 g9) (hc_w0 g10) (hc_w0 g11) (hc_w0 g12) (hc_w0 g13) (hc_w0 g14)) rfl ?_)
           | (show AT _ _ _ (wpList _ _ _ (⟨_, Op.indexAddr _ _ _, _, _, _, _⟩ :: _)); refine st_y (y_ixa tabs rfl rfl rfl (by first | assumption | exact .mk) (by omega) (by omega)) rfl ?_)
           | (show AT _ _ _ (wpList _ _ _ (⟨_, Op.binOp _ _ _ _ _, _, _, _, _⟩ :: _)); refine st_y (y_add rfl rfl (by omega)) rfl ?_)
           | (show AT _ _ _ (wpList _ _ _ (⟨_, Op.call _, _, _, _, _⟩ :: _)); (refine m_call (ent_of Try.func17 (by kernel_rfl) rfl) rfl rfl (fun w c => toRep_ok (c.rd g15) (c.rd g16) (c.rd g17) (c.rd g18) (hcs i m hm)) ?_; rintro v H' ⟨a40, c40, a41, c41, a42, c42, a43, c43, rfl, hs40, hs41, hs42, hs43, rfl⟩))
           | (show AT _ _ _ (wpList _ _ _ (⟨_, Op.store _ _ _, _, _, _, _⟩ :: _)); refine m_storeT tabs (m := ms.length) (tn := rpT m) (j := i) rfl rfl rfl rfl rfl rfl (by decide) (by rw [flatMap_length rpT_length]; simp; try omega) hi' (fun w c => (Hp.rpl (r := m) c).swap) ?_))
        | (show AT _ _ _ (wpList _ _ _ []); first | refine c_nil (x_then ?_) | refine c_nil ?_)
        | (show AT _ _ _ (Code.wp _ _ _); refine c_region ?_)
        | (show AT _ _ _ _; first | refine x_then ?_ | refine x_blk ?_))
      refine x_next (i + 1) (by repeat' (first | exact Sub.nil | refine Sub.cons rfl ?_ | refine Sub.consi rfl (by omega) ?_)) (fun w' c' => ⟨by omega, ?_⟩) (by omega)
      rw [flatMap_set rpT_length _ _ _ (by simp; omega), set_fill ms i rp0 hi' _ hm] at c'
      exact c'
    · refine x_ret1 Try.results53 (res_tmp rfl) (fun w' c' => ⟨_, _, rfl, ⟨_, _, rfl, .mk, rfl⟩, ?_⟩)
      have e1 : ms.take i = ms := take_end (by omega)
      have e2 : ms.length - i = 0 := by omega
      simpa [e1, e2] using c'

theorem szRps_fit {w : World} {left : Int} {e : Nat} {ms : List Rp} {u : Value} (hu : Rd w (rpsT e ms) u) (h1 : left ≤ 1048576) (hf : szL szR ms ≤ left) :
    Does Try.prog 51 [u, iV left] w (fun v H => v = iV (left - szL szR ms) ∧ H = []) := by
  have := szRps_ok (left := left) hu (by omega) h1
  rwa [if_neg (by omega)] at this
theorem szRps_big {w : World} {left : Int} {e : Nat} {ms : List Rp} {u : Value} (hu : Rd w (rpsT e ms) u) (h0 : 0 ≤ left) (h1 : left ≤ 1048576) (hf : left < szL szR ms) :
    Does Try.prog 51 [u, iV left] w (fun v H => v = iV (-1) ∧ H = []) := by
  have := szRps_ok (left := left) hu h0 h1
  rwa [if_pos (by omega)] at this

theorem markRps_ok {w1 : World} {M1 : List Nat} {H1 : List HE} {w : World} {M' : List Nat} {e : Nat} {ms : List Rp} {v : Value} {k : Int} (hl : LentL M1 w1 [.own (rpsT e ms) v] H1 M' w) (h0 : 0 ≤ k) (hb : k + nT (rpsT e ms) ≤ 4611686018427387904) :
    DoesB Try.prog 56 [v, iV k] w M' (fun r H => r = iV (k + nT (rpsT e ms)) ∧ H = [.own (mkT k (rpsT e ms)) v]) := by
  obtain ⟨a, n0, c, rfl, hs, hc1, hc2, hlen, _⟩ := Rd.open (by decide) hl.rd
  have hn0 : n0 = ms.length := by rw [flatMap_length rpT_length] at hlen; omega
  subst hn0
  have hmx : ms.length ≤ 9223372036854775807 := by unfold maxLen at hc2; omega
  simp only [mkT, nT] at *
  refine fnb_lentL Try.func56 rfl Try.ntmps56 rfl hl ?_
  by_cases hn : 0 < ms.length
  · refine AT.openS (by omega) (fun g cur us h1 h2 h3 h4 h5 h6 h7 => ?_)
    subst h1; subst h2
    repeat' (first
      | (show AT _ _ _ (wpList _ _ _ (_ :: _)); first
         | (show AT _ _ _ (wpList _ _ _ (⟨_, Op.assign _, _, _, _, _⟩ :: _)); refine st_y (y_assign rfl) rfl ?_))
      | (show AT _ _ _ (wpList _ _ _ []); refine c_nil (x_then ?_))
      | (show AT _ _ _ (Code.wp _ _ _); first | refine c_seq ?_ | refine c_region ?_ | refine c_block ?_))
    refine c_loopH (α := Nat × Array Value) [0] (fun q => [(1, iV (k + nL ((ms.flatMap rpT).take (q.1 * 6)))), (5, .int .i64 q.1)]) (fun q => q.1 ≤ ms.length ∧ q.2.size = c * 6) (fun q => [.ownL (mkTo k (ms.flatMap rpT) (q.1 * 6)) (q.2.toList.take (ms.length * 6)), .blk g q.2 e]) (fun q => ms.length - q.1) (0, cur) rfl (by repeat' (first | exact Sub.nil | refine Sub.cons rfl ?_ | refine Sub.consi rfl (by first | omega | (simp [nL]; done) | (rw [Int.add_assoc]; omega)) ?_)) ?_ ?_ ?_
    · exact ⟨Nat.zero_le _, h7⟩
    · intro w' c'
      simp only [Nat.zero_mul]
      rw [mkTo_zero]
      exact c'
    · rintro ⟨i, cur⟩ ⟨hi, hcs⟩
      simp only at hi hcs ⊢
      by_cases hin : i < ms.length
      · obtain ⟨m, hm⟩ : ∃ m, ms[i]? = some m := ⟨_, List.getElem?_eq_getElem hin⟩
        have g0 : (ms.flatMap rpT)[i * 6 + 0]? = some (.c (iV m.p)) := by rw [flatMap_get rpT_length hm (by omega)]; rfl
        have x0 : nL ((ms.flatMap rpT).take (i * 6 + 1)) = nL ((ms.flatMap rpT).take (i * 6 + 0)) + 1 := by
          have := nL_next g0
          simpa only [nT] using this
        have l0 := nL_le (ms.flatMap rpT) (i * 6 + 1)
        have y0 : (mkTo k (ms.flatMap rpT) (i * 6 + 0))[i * 6 + 0]? = some (.c (iV m.p)) := mkTo_get g0
        have g1 : (ms.flatMap rpT)[i * 6 + 1]? = some (.c (iV m.q.1)) := by rw [flatMap_get rpT_length hm (by omega)]; rfl
        have x1 : nL ((ms.flatMap rpT).take (i * 6 + 2)) = nL ((ms.flatMap rpT).take (i * 6 + 1)) + 1 := by
          have := nL_next g1
          simpa only [nT] using this
        have l1 := nL_le (ms.flatMap rpT) (i * 6 + 2)
        have y1 : (mkTo k (ms.flatMap rpT) (i * 6 + 1))[i * 6 + 1]? = some (.c (iV m.q.1)) := mkTo_get g1
        have g2 : (ms.flatMap rpT)[i * 6 + 2]? = some (iT m.q.2.1) := by rw [flatMap_get rpT_length hm (by omega)]; rfl
        have x2 : nL ((ms.flatMap rpT).take (i * 6 + 3)) = nL ((ms.flatMap rpT).take (i * 6 + 2)) + nT (iT m.q.2.1) := by
          have := nL_next g2
          exact this
        have l2 := nL_le (ms.flatMap rpT) (i * 6 + 3)
        have y2 : (mkTo k (ms.flatMap rpT) (i * 6 + 2))[i * 6 + 2]? = some (iT m.q.2.1) := mkTo_get g2
        have g3 : (ms.flatMap rpT)[i * 6 + 3]? = some (iT m.q.2.2) := by rw [flatMap_get rpT_length hm (by omega)]; rfl
        have x3 : nL ((ms.flatMap rpT).take (i * 6 + 4)) = nL ((ms.flatMap rpT).take (i * 6 + 3)) + nT (iT m.q.2.2) := by
          have := nL_next g3
          exact this
        have l3 := nL_le (ms.flatMap rpT) (i * 6 + 4)
        have y3 : (mkTo k (ms.flatMap rpT) (i * 6 + 3))[i * 6 + 3]? = some (iT m.q.2.2) := mkTo_get g3
        have g4 : (ms.flatMap rpT)[i * 6 + 4]? = some (iT m.d) := by rw [flatMap_get rpT_length hm (by omega)]; rfl
        have x4 : nL ((ms.flatMap rpT).take (i * 6 + 5)) = nL ((ms.flatMap rpT).take (i * 6 + 4)) + nT (iT m.d) := by
          have := nL_next g4
          exact this
        have l4 := nL_le (ms.flatMap rpT) (i * 6 + 5)
        have y4 : (mkTo k (ms.flatMap rpT) (i * 6 + 4))[i * 6 + 4]? = some (iT m.d) := mkTo_get g4
        have g5 : (ms.flatMap rpT)[i * 6 + 5]? = some (matsT 81 m.m) := by rw [flatMap_get rpT_length hm (by omega)]; rfl
        have x5 : nL ((ms.flatMap rpT).take (i * 6 + 6)) = nL ((ms.flatMap rpT).take (i * 6 + 5)) + nT (matsT 81 m.m) := by
          have := nL_next g5
          exact this
        have l5 := nL_le (ms.flatMap rpT) (i * 6 + 6)
        have y5 : (mkTo k (ms.flatMap rpT) (i * 6 + 5))[i * 6 + 5]? = some (matsT 81 m.m) := mkTo_get g5
        have hp0 := nL_pos ((ms.flatMap rpT).take (i * 6 + 0))
        simp only [Nat.add_zero] at g0 x0 l0 y0 hp0
        have hq : i * 6 + 6 ≤ ms.length * 6 := by omega
        have hqc : i * 6 + 6 ≤ cur.size := by rw [hcs]; have := Nat.mul_le_mul_right 6 h5; omega
        have e0 : (mkTo k (ms.flatMap rpT) (i * 6)).set (i * 6) (.c (iV (k + nL ((ms.flatMap rpT).take (i * 6))))) = mkTo k (ms.flatMap rpT) (i * 6 + 1) := by
          have := mkTo_next (k := k) (a := (ms.flatMap rpT)) (q := i * 6) (by first | exact g0 | simpa using g0)
          rw [← this]
          simp only [mkT]
        have e1 : (mkTo k (ms.flatMap rpT) (i * 6 + 1)).set (i * 6 + 1) (.c (iV (k + nL ((ms.flatMap rpT).take (i * 6)) + 1))) = mkTo k (ms.flatMap rpT) (i * 6 + 2) := by
          have := mkTo_next (k := k) (a := (ms.flatMap rpT)) (q := i * 6 + 1) (by first | exact g1 | simpa using g1)
          rw [← this]
          simp only [mkT]
          congr 3 <;> omega
        obtain ⟨u2, hu2⟩ : ∃ u, cur[i * 6 + 2]? = some u := ⟨_, Array.getElem?_eq_getElem (by omega)⟩
        have hut2 : (cur.toList.take (ms.length * 6))[i * 6 + 2]? = some u2 := by rw [List.getElem?_take, if_pos (by omega)]; simpa using hu2
        have hp12 := nT_pos (iT m.q.2.1)
        have zz2 : k + nL ((ms.flatMap rpT).take (i * 6)) + 1 + 1 = k + nL ((ms.flatMap rpT).take (i * 6 + 2)) := by omega
        have e2 : (mkTo k (ms.flatMap rpT) (i * 6 + 2)).set (i * 6 + 2) (mkT (k + nL ((ms.flatMap rpT).take (i * 6)) + 1 + 1) (iT m.q.2.1)) = mkTo k (ms.flatMap rpT) (i * 6 + 3) := by
          rw [zz2, mkTo_next g2]
        obtain ⟨u3, hu3⟩ : ∃ u, cur[i * 6 + 3]? = some u := ⟨_, Array.getElem?_eq_getElem (by omega)⟩
        have hut3 : (cur.toList.take (ms.length * 6))[i * 6 + 3]? = some u3 := by rw [List.getElem?_take, if_pos (by omega)]; simpa using hu3
        have hp13 := nT_pos (iT m.q.2.2)
        have zz3 : k + nL ((ms.flatMap rpT).take (i * 6)) + 1 + 1 + nT (iT m.q.2.1) = k + nL ((ms.flatMap rpT).take (i * 6 + 3)) := by omega
        have e3 : (mkTo k (ms.flatMap rpT) (i * 6 + 3)).set (i * 6 + 3) (mkT (k + nL ((ms.flatMap rpT).take (i * 6)) + 1 + 1 + nT (iT m.q.2.1)) (iT m.q.2.2)) = mkTo k (ms.flatMap rpT) (i * 6 + 4) := by
          rw [zz3, mkTo_next g3]
        obtain ⟨u4, hu4⟩ : ∃ u, cur[i * 6 + 4]? = some u := ⟨_, Array.getElem?_eq_getElem (by omega)⟩
        have hut4 : (cur.toList.take (ms.length * 6))[i * 6 + 4]? = some u4 := by rw [List.getElem?_take, if_pos (by omega)]; simpa using hu4
        have hp14 := nT_pos (iT m.d)
        have zz4 : k + nL ((ms.flatMap rpT).take (i * 6)) + 1 + 1 + nT (iT m.q.2.1) + nT (iT m.q.2.2) = k + nL ((ms.flatMap rpT).take (i * 6 + 4)) := by omega
        have e4 : (mkTo k (ms.flatMap rpT) (i * 6 + 4)).set (i * 6 + 4) (mkT (k + nL ((ms.flatMap rpT).take (i * 6)) + 1 + 1 + nT (iT m.q.2.1) + nT (iT m.q.2.2)) (iT m.d)) = mkTo k (ms.flatMap rpT) (i * 6 + 5) := by
          rw [zz4, mkTo_next g4]
        obtain ⟨u5, hu5⟩ : ∃ u, cur[i * 6 + 5]? = some u := ⟨_, Array.getElem?_eq_getElem (by omega)⟩
        have hut5 : (cur.toList.take (ms.length * 6))[i * 6 + 5]? = some u5 := by rw [List.getElem?_take, if_pos (by omega)]; simpa using hu5
        have hp15 := nT_pos (matsT 81 m.m)
        have zz5 : k + nL ((ms.flatMap rpT).take (i * 6)) + 1 + 1 + nT (iT m.q.2.1) + nT (iT m.q.2.2) + nT (iT m.d) = k + nL ((ms.flatMap rpT).take (i * 6 + 5)) := by omega
        have e5 : (mkTo k (ms.flatMap rpT) (i * 6 + 5)).set (i * 6 + 5) (mkT (k + nL ((ms.flatMap rpT).take (i * 6)) + 1 + 1 + nT (iT m.q.2.1) + nT (iT m.q.2.2) + nT (iT m.d)) (matsT 81 m.m)) = mkTo k (ms.flatMap rpT) ((i + 1) * 6) := by
          rw [zz5, mkTo_next g5]
          congr 1 <;> omega
        have hkk : k + nL ((ms.flatMap rpT).take (i * 6)) + 1 + 1 + nT (iT m.q.2.1) + nT (iT m.q.2.2) + nT (iT m.d) + nT (matsT 81 m.m) = k + nL ((ms.flatMap rpT).take ((i + 1) * 6)) := by
          rw [show (i + 1) * 6 = i * 6 + 6 by omega]
          omega
        have hl5 := nL_le (ms.flatMap rpT) ((i + 1) * 6)
        repeat' (first
          | (show AT _ _ _ (wpList _ _ _ (_ :: _)); first
             | (show AT _ _ _ (wpList _ _ _ (⟨_, Op.move _, _, _, _, _⟩ :: _)); refine st_y (y_move rfl) rfl ?_)
             | (show AT _ _ _ (wpList _ _ _ (⟨_, Op.assign _, _, _, _, _⟩ :: _)); refine st_y (y_assign rfl) rfl ?_)
             | (show AT _ _ _ (wpList _ _ _ (⟨_, Op.fieldAddr _ _ _, _, _, _, _⟩ :: _)); refine st_y (y_field tabs rfl rfl rfl) rfl ?_)
             | (show AT _ _ _ (wpList _ _ _ (⟨_, Op.load _ _, _, _, _, _⟩ :: _)); first | refine st_y (y_load tabs rfl rfl (hc_blk 1 rfl (by rw [Array.getElem?_setIfInBounds_ne (by omega), Array.getElem?_setIfInBounds_ne (by omega)]; exact hu2))) rfl ?_ | refine st_y (y_load tabs rfl rfl (hc_blk 1 rfl (by rw [Array.getElem?_setIfInBounds_ne (by omega), Array.getElem?_setIfInBounds_ne (by omega)]; exact hu3))) rfl ?_ | refine st_y (y_load tabs rfl rfl (hc_blk 1 rfl (by rw [Array.getElem?_setIfInBounds_ne (by omega), Array.getElem?_setIfInBounds_ne (by omega)]; exact hu4))) rfl ?_ | refine st_y (y_load tabs rfl rfl (hc_blk 1 rfl (by rw [Array.getElem?_setIfInBounds_ne (by omega), Array.getElem?_setIfInBounds_ne (by omega)]; exact hu5))) rfl ?_)
             | (show AT _ _ _ (wpList _ _ _ (⟨_, Op.indexAddr _ _ _, _, _, _, _⟩ :: _)); refine st_y (y_ix0 tabs (j := i) rfl rfl rfl rfl hin) rfl ?_)
             | (show AT _ _ _ (wpList _ _ _ (⟨_, Op.binOp _ _ _ _ _, _, _, _, _⟩ :: _)); first | refine st_y (y_add rfl rfl (by omega)) rfl ?_ | refine st_y (y_lss rfl rfl) rfl ?_)
             | (show AT _ _ _ (wpList _ _ _ (⟨_, Op.call _, _, _, _, _⟩ :: _)); first | (refine m_callE (i * 6 + 2) (t2 := mkT (k + nL ((ms.flatMap rpT).take (i * 6)) + 1 + 1) (iT m.q.2.1)) (ψ := fun r => r = iV (k + nL ((ms.flatMap rpT).take (i * 6)) + 1 + 1 + nT (iT m.q.2.1))) (ent_of Try.func39 (by kernel_rfl) rfl) rfl rfl (by rw [e0, e1]; exact y2) (by rw [List.getElem?_set_ne (by omega), List.getElem?_set_ne (by omega)]; exact hut2) (fun w M' hl => markIntS_ok hl (by omega) (by omega)) ?_; rintro v rfl) | (refine m_callE (i * 6 + 3) (t2 := mkT (k + nL ((ms.flatMap rpT).take (i * 6)) + 1 + 1 + nT (iT m.q.2.1)) (iT m.q.2.2)) (ψ := fun r => r = iV (k + nL ((ms.flatMap rpT).take (i * 6)) + 1 + 1 + nT (iT m.q.2.1) + nT (iT m.q.2.2))) (ent_of Try.func39 (by kernel_rfl) rfl) rfl rfl (by rw [e0, e1, e2]; exact y3) (by rw [List.getElem?_set_ne (by omega), List.getElem?_set_ne (by omega)]; exact hut3) (fun w M' hl => markIntS_ok hl (by omega) (by omega)) ?_; rintro v rfl) | (refine m_callE (i * 6 + 4) (t2 := mkT (k + nL ((ms.flatMap rpT).take (i * 6)) + 1 + 1 + nT (iT m.q.2.1) + nT (iT m.q.2.2)) (iT m.d)) (ψ := fun r => r = iV (k + nL ((ms.flatMap rpT).take (i * 6)) + 1 + 1 + nT (iT m.q.2.1) + nT (iT m.q.2.2) + nT (iT m.d))) (ent_of Try.func39 (by kernel_rfl) rfl) rfl rfl (by rw [e0, e1, e2, e3]; exact y4) (by rw [List.getElem?_set_ne (by omega), List.getElem?_set_ne (by omega)]; exact hut4) (fun w M' hl => markIntS_ok hl (by omega) (by omega)) ?_; rintro v rfl) | (refine m_callE (i * 6 + 5) (t2 := mkT (k + nL ((ms.flatMap rpT).take (i * 6)) + 1 + 1 + nT (iT m.q.2.1) + nT (iT m.q.2.2) + nT (iT m.d)) (matsT 81 m.m)) (ψ := fun r => r = iV (k + nL ((ms.flatMap rpT).take (i * 6)) + 1 + 1 + nT (iT m.q.2.1) + nT (iT m.q.2.2) + nT (iT m.d) + nT (matsT 81 m.m))) (ent_of Try.func23 (by kernel_rfl) rfl) rfl rfl (by rw [e0, e1, e2, e3, e4]; exact y5) (by rw [List.getElem?_set_ne (by omega), List.getElem?_set_ne (by omega)]; exact hut5) (fun w M' hl => markMats_ok hl (by omega) (by omega)) ?_; rintro v rfl) | refine st_y (y_len tabs rfl rfl) rfl ?_)
             | (show AT _ _ _ (wpList _ _ _ (⟨_, Op.store _ _ _, _, _, _, _⟩ :: _)); first | refine m_storeE (q := i * 6) tabs rfl rfl rfl rfl (y0) (by first | omega | (simp only [Array.size_setIfInBounds]; omega)) ?_ | refine m_storeE (q := i * 6 + 1) tabs rfl rfl rfl rfl (by rw [e0]; exact y1) (by first | omega | (simp only [Array.size_setIfInBounds]; omega)) ?_))
          | (show AT _ _ _ (wpList _ _ _ []); first | refine c_nil (x_then ?_) | refine c_nil ?_)
          | (show AT _ _ _ (Code.wp _ _ _); first | refine c_seq ?_ | refine c_region ?_ | refine c_skip (x_then ?_) | refine c_block ?_ | refine c_ift rfl (by first | assumption | omega) ?_)
          | (show AT _ _ _ _; first | refine x_then ?_ | refine x_blk ?_))
        refine x_nx (i + 1, (cur.setIfInBounds (i * 6) (iV (k + nL ((ms.flatMap rpT).take (i * 6))))).setIfInBounds (i * 6 + 1) (iV (k + nL ((ms.flatMap rpT).take (i * 6)) + 1))) (by repeat' (first | exact Sub.nil | refine Sub.cons rfl ?_ | refine Sub.consi rfl (by first | omega | (simp [nL]; done) | (rw [← hkk]; omega)) ?_)) ⟨by simp only; omega, by simp only [Array.size_setIfInBounds]; exact hcs⟩ (fun w' c' => ?_) (by simp only; omega)
        rw [e0, e1, e2, e3, e4, e5] at c'
        simp only [Array.toList_setIfInBounds, List.take_set] at c' ⊢
        exact c'
      · have : i = ms.length := by omega
        subst this
        repeat' (first
          | (show AT _ _ _ (wpList _ _ _ (_ :: _)); first
             | (show AT _ _ _ (wpList _ _ _ (⟨_, Op.move _, _, _, _, _⟩ :: _)); refine st_y (y_move rfl) rfl ?_)
             | (show AT _ _ _ (wpList _ _ _ (⟨_, Op.assign _, _, _, _, _⟩ :: _)); refine st_y (y_assign rfl) rfl ?_)
             | (show AT _ _ _ (wpList _ _ _ (⟨_, Op.binOp _ _ _ _ _, _, _, _, _⟩ :: _)); refine st_y (y_lss rfl rfl) rfl ?_)
             | (show AT _ _ _ (wpList _ _ _ (⟨_, Op.call _, _, _, _, _⟩ :: _)); refine st_y (y_len tabs rfl rfl) rfl ?_))
          | (show AT _ _ _ (wpList _ _ _ []); refine c_nil (x_then ?_))
          | (show AT _ _ _ (Code.wp _ _ _); first | refine c_seq ?_ | refine c_region ?_ | refine c_ret ?_ | refine c_exit ?_ | refine c_iff rfl (by first | assumption | exact not_not_intro (by assumption) | omega) ?_)
          | (show AT _ _ _ _; first | refine x_then ?_ | refine x_then_exit ?_ | refine x_blk_exit rfl ?_))
        refine x_ret1 Try.results56 (res_tmp rfl) (fun w' c' => ⟨_, _, rfl, ⟨by rw [List.take_of_length_le (by omega)], rfl⟩, ?_⟩)
        rw [mkTo_end (by omega)] at c'
        exact c'.shutS (m := ms.length) (c := c) rfl (by simpa using h4) h5 h6 hcs
  · have hr0 : ms = [] := List.length_eq_zero_iff.1 (by omega)
    subst hr0
    repeat' (first
      | (show AT _ _ _ (wpList _ _ _ (_ :: _)); first
         | (show AT _ _ _ (wpList _ _ _ (⟨_, Op.assign _, _, _, _, _⟩ :: _)); refine st_y (y_assign rfl) rfl ?_))
      | (show AT _ _ _ (wpList _ _ _ []); refine c_nil (x_then ?_))
      | (show AT _ _ _ (Code.wp _ _ _); first | refine c_seq ?_ | refine c_region ?_ | refine c_block ?_))
    refine c_loopH (α := Nat) [0] (fun i => [(1, iV k), (5, .int .i64 0)]) (fun i => True) (fun i => [.own (rpsT e []) (.slice a 0 c)]) (fun i => i) 0 rfl (by repeat' (first | exact Sub.nil | refine Sub.cons rfl ?_ | refine Sub.consi rfl (by omega) ?_)) ?_ ?_ ?_
    · trivial
    · exact fun w' c' => c'
    · intro i hi
      repeat' (first
        | (show AT _ _ _ (wpList _ _ _ (_ :: _)); first
           | (show AT _ _ _ (wpList _ _ _ (⟨_, Op.move _, _, _, _, _⟩ :: _)); refine st_y (y_move rfl) rfl ?_)
           | (show AT _ _ _ (wpList _ _ _ (⟨_, Op.assign _, _, _, _, _⟩ :: _)); refine st_y (y_assign rfl) rfl ?_)
           | (show AT _ _ _ (wpList _ _ _ (⟨_, Op.binOp _ _ _ _ _, _, _, _, _⟩ :: _)); refine st_y (y_lss rfl rfl) rfl ?_)
           | (show AT _ _ _ (wpList _ _ _ (⟨_, Op.call _, _, _, _, _⟩ :: _)); refine st_y (y_len tabs rfl rfl) rfl ?_))
        | (show AT _ _ _ (wpList _ _ _ []); refine c_nil (x_then ?_))
        | (show AT _ _ _ (Code.wp _ _ _); first | refine c_seq ?_ | refine c_region ?_ | refine c_ret ?_ | refine c_exit ?_ | refine c_false rfl ?_)
        | (show AT _ _ _ _; first | refine x_then ?_ | refine x_then_exit ?_ | refine x_blk_exit rfl ?_))
      refine x_ret1 Try.results56 (res_tmp rfl) (fun w' c' => ⟨_, _, rfl, ⟨by simp [nL], rfl⟩, ?_⟩)
      exact c'
theorem nT_rps (e : Nat) (l : List Rp) : nT (rpsT e l) ≤ 4 * (szL szR l : Nat) := by
  have key : ∀ l : List Rp, nL (l.flatMap rpT) ≤ 2 * l.length + 2 * (l.map szR).sum := fun l => by
    induction l with
    | nil => simp [nL]
    | cons m l ih =>
      have h1 : nL (rpT m) ≤ 2 + 2 * szR m := by
        have h2 := nT_mats 81 m.m
        have e0 : nL (rpT m) = 1 + (1 + (nT (iT m.q.2.1) + (nT (iT m.q.2.2) + (nT (iT m.d) + (nT (matsT 81 m.m) + 0))))) := rfl
        rw [e0, nT_ints, nT_ints, nT_ints]
        unfold szR szQ
        omega
      rw [List.flatMap_cons, nL_append, List.map_cons, List.sum_cons, List.length_cons]
      omega
  have := key l
  simp only [nT]
  show _ ≤ 4 * ((l.length + (l.map szR).sum : Nat) : Int)
  omega
end Go.Proofs.Ytfhgpkdhhclpbaa
