import Derived.Test.YtfhgpkdhhclpbaaEqmqcb
import Derived.Test.YtfhgpkdhhclpbaaMrkqcb
import Derived.Test.YtfhgpkdhhclpbaaMslqcb
import Derived.Test.YtfhgpkdhhclpbaaMssqcb
import Derived.Test.YtfhgpkdhhclpbaaRowqcb
namespace Go.Proofs.Ytfhgpkdhhclpbaa
open Go.Lg Go.Proofs Go.RowKit
attribute [local irreducible] Code.wp wpList bodyPost Exit.then Exit.inBlock Hp Again Calls Y AT ResV QT Qn QI wpAny wpAnyQ
set_option maxRecDepth 20000
set_option maxHeartbeats 4000000

/-! ### lists of lists of matrices: equal, marked, held -/
abbrev msM (ms : List Mat) : T := matsT 81 ms
abbrev mslT (e : Nat) (l : List (List Mat)) : T := mssT e 81 l
theorem msT_map : ∀ l : List (List Mat), l.flatMap (msT 81) = l.map msM
  | [] => rfl
  | x :: l => by rw [List.flatMap_cons, msT_map l]; rfl
theorem eqMats_at (w : World) (m m' : List Mat) (u u' : Value) {e e' : Nat} (hu : Rd w (matsT e m) u) (hu' : Rd w (matsT e' m') u') : Does Try.prog 20 [u, u'] w (fun v H => v = .bool (decide (m = m')) ∧ H = []) := eqMatrixS_ok w e e' m m' u u' hu hu'

theorem eqMss_ok (w : World) (e e' : Nat) (ms ms' : List (List Mat)) (v u : Value) (hr : Rd w (mslT e ms) v) (hr' : Rd w (mslT e' ms') u) :
    Does Try.prog 43 [v, u] w (fun r H => r = .bool (decide (ms = ms')) ∧ H = []) := by
  obtain ⟨a, c, rfl, hs, hc1, hc2, hget⟩ := rd_mss hr
  obtain ⟨a', c', rfl, hs', hc1', hc2', hget'⟩ := rd_mss hr'
  unfold maxLen at hc2 hc2'
  refine fn_enter Try.func43 rfl Try.ntmps43 rfl ?_
  repeat' (first
    | (show AT _ _ _ (wpList _ _ _ (_ :: _)); first
       | (show AT _ _ _ (wpList _ _ _ (⟨_, Op.move _, _, _, _, _⟩ :: _)); refine st_y (y_move rfl) rfl ?_)
       | (show AT _ _ _ (wpList _ _ _ (⟨_, Op.assign _, _, _, _, _⟩ :: _)); refine st_y (y_assign rfl) rfl ?_)
       | (show AT _ _ _ (wpList _ _ _ (⟨_, Op.binOp _ _ _ _ _, _, _, _, _⟩ :: _)); refine st_y (y_neq rfl rfl) rfl ?_)
       | (show AT _ _ _ (wpList _ _ _ (⟨_, Op.call _, _, _, _, _⟩ :: _)); refine st_y (y_len tabs rfl rfl) rfl ?_))
    | (show AT _ _ _ (wpList _ _ _ []); refine c_nil (x_then ?_))
    | (show AT _ _ _ (Code.wp _ _ _); first | refine c_seq ?_ | refine c_region ?_ | refine c_skip (x_then ?_) | refine c_block ?_ | refine c_ret ?_ | refine c_ifnd rfl (fun h => ?_) (fun h => ?_))
    | (show AT _ _ _ _; refine x_then_ret ?_))
  · refine x_ret1 Try.results43 (res_tmp rfl) (fun w' c' => ⟨_, _, rfl, ⟨?_, rfl⟩, c'⟩)
    have : ¬ ms = ms' := fun e => h (by rw [e])
    simp [this]
  · have hl : ms.length = ms'.length := by omega
    refine c_loop (fun i : Nat => [(0, .slice a ms.length c), (1, .slice a' ms'.length c'), (5, .int .i64 i)])
      (fun i w' => (i ≤ ms.length ∧ ms.take i = ms'.take i) ∧ Hp [] w [] w') (fun i => ms.length - i) 0 ?_ ?_ ?_
    · exact (by repeat' (first | exact Sub.nil | refine Sub.cons rfl ?_ | refine Sub.consi rfl (by omega) ?_))
    · intro w' c'
      exact ⟨⟨by omega, rfl⟩, c'⟩
    · intro i
      refine AT.pr (fun ⟨hi, he⟩ => ?_)
      repeat' (first
        | (show AT _ _ _ (wpList _ _ _ (_ :: _)); first
           | (show AT _ _ _ (wpList _ _ _ (⟨_, Op.move _, _, _, _, _⟩ :: _)); refine st_y (y_move rfl) rfl ?_)
           | (show AT _ _ _ (wpList _ _ _ (⟨_, Op.assign _, _, _, _, _⟩ :: _)); refine st_y (y_assign rfl) rfl ?_)
           | (show AT _ _ _ (wpList _ _ _ (⟨_, Op.binOp _ _ _ _ _, _, _, _, _⟩ :: _)); refine st_y (y_lss rfl rfl) rfl ?_)
           | (show AT _ _ _ (wpList _ _ _ (⟨_, Op.call _, _, _, _, _⟩ :: _)); refine st_y (y_len tabs rfl rfl) rfl ?_))
        | (show AT _ _ _ (wpList _ _ _ []); refine c_nil (x_then ?_))
        | (show AT _ _ _ (Code.wp _ _ _); first | refine c_seq ?_ | refine c_region ?_ | refine c_skip (x_then ?_) | refine c_block ?_ | refine c_ret ?_ | refine c_exit ?_ | refine c_draw (by kernel_rfl) (by kernel_rfl) (fun _ c => Hp.drew c) ?_ | refine c_if rfl (fun h => ?_) (fun h => ?_))
        | (show QT _ _ _ _ _ _ (_ :: _); first
           | (show QT _ _ _ _ _ _ (⟨_, Op.move _, _, _, _, _⟩ :: _); refine q_y (y_move rfl) rfl ?_)
           | (show QT _ _ _ _ _ _ (⟨_, Op.indexAddr _ _ _, _, _, _, _⟩ :: _); refine q_y (y_ix1 tabs rfl rfl rfl (by first | assumption | exact .mk) rfl (by omega)) rfl ?_))
        | (show AT _ _ _ _; first | refine x_then ?_ | refine x_then_exit ?_ | refine x_blk_exit rfl ?_))
      · obtain ⟨m, hm⟩ : ∃ m, ms[i]? = some m := ⟨_, List.getElem?_eq_getElem (show i < ms.length by omega)⟩
        obtain ⟨m', hm'⟩ : ∃ m, ms'[i]? = some m := ⟨_, List.getElem?_eq_getElem (show i < ms'.length by omega)⟩
        obtain ⟨g1, g2, g3, g4⟩ := hget i m hm
        obtain ⟨k1, k2, k3, k4⟩ := hget' i m' hm'
        repeat' (first
          | (show AT _ _ _ (wpList _ _ _ (_ :: _)); first
             | (show AT _ _ _ (wpList _ _ _ (⟨_, Op.move _, _, _, _, _⟩ :: _)); refine st_y (y_move rfl) rfl ?_)
             | (show AT _ _ _ (wpList _ _ _ (⟨_, Op.assign _, _, _, _, _⟩ :: _)); refine st_y (y_assign rfl) rfl ?_)
             | (show AT _ _ _ (wpList _ _ _ (⟨_, Op.binOp _ _ _ _ _, _, _, _, _⟩ :: _)); refine st_y (y_add rfl rfl (by omega)) rfl ?_))
          | (show AT _ _ _ (wpList _ _ _ []); refine c_nil (x_then ?_))
          | (show AT _ _ _ (Code.wp _ _ _); first | refine c_seq ?_ | refine c_region ?_ | refine c_skip (x_blk ?_) | refine c_ret ?_ | refine c_ifnd rfl (fun h => ?_) (fun h => ?_))
          | (show QT _ _ _ _ _ _ (_ :: _); first
             | (show QT _ _ _ _ _ _ (⟨_, Op.move _, _, _, _, _⟩ :: _); refine q_y (y_move rfl) rfl ?_)
             | (show QT _ _ _ _ _ _ (⟨_, Op.load _ _, _, _, _, _⟩ :: _); first | refine q_y (y_load tabs rfl rfl (hc_w0 g3)) rfl ?_ | refine q_y (y_load tabs rfl rfl (hc_w0 k3)) rfl ?_)
             | (show QT _ _ _ _ _ _ (⟨_, Op.indexAddr _ _ _, _, _, _, _⟩ :: _); refine q_y (y_ix1 tabs rfl rfl rfl (by first | assumption | exact .mk) rfl (by omega)) rfl ?_)
             | (show QT _ _ _ _ _ _ (⟨_, Op.unOp _ _ _, _, _, _, _⟩ :: _); refine q_y (y_notd rfl) rfl ?_)
             | (show QT _ _ _ _ _ _ (⟨_, Op.call _, _, _, _, _⟩ :: _); refine q_call (ent_of Try.func20 (by kernel_rfl) rfl) rfl rfl (fun w c => eqMats_at w m m' _ _ (c.rd g4) (c.rd k4)) (fun u H' h => h.1) ?_))
          | (show QT _ _ _ _ _ _ []; refine q_nil (x_then ?_))
          | (show AT _ _ _ _; first | refine x_then ?_ | refine x_then_ret ?_ | refine x_blk_ret ?_))
        · refine x_ret1 Try.results43 (res_tmp rfl) (fun w' c' => ⟨_, _, rfl, ⟨?_, rfl⟩, c'⟩)
          have : ¬ ms = ms' := fun e => h (by rw [e, hm'] at hm; exact (Option.some.inj hm).symm)
          simp [this]
        · refine x_next (i + 1) (by repeat' (first | exact Sub.nil | refine Sub.cons rfl ?_ | refine Sub.consi rfl (by omega) ?_)) (fun w' c' => ⟨⟨by omega, ?_⟩, c'⟩) (by omega)
          rw [List.take_add_one, List.take_add_one, he, hm, hm', h]
      · refine x_ret1 Try.results43 (res_tmp rfl) (fun w' c' => ⟨_, _, rfl, ⟨?_, rfl⟩, c'⟩)
        rw [take_end (by omega), take_end (by omega)] at he
        simp [he]

theorem eqMss_same {w : World} {e e' : Nat} {ms : List (List Mat)} {v u : Value} (hr : Rd w (mslT e ms) v) (hr' : Rd w (mslT e' ms) u) :
    Does Try.prog 43 [v, u] w (fun r H => r = .bool true ∧ H = []) := by
  have := eqMss_ok w e e' ms ms v u hr hr'
  simpa using this

theorem markMss_ok {w1 : World} {M1 : List Nat} {H1 : List HE} {w : World} {M' : List Nat} {e : Nat} {rs : List (List Mat)} {v : Value} {k : Int} (hl : LentL M1 w1 [.own (mslT e rs) v] H1 M' w) (h0 : 0 ≤ k) (hb : k + nT (mslT e rs) ≤ 4611686018427387904) :
    DoesB Try.prog 44 [v, iV k] w M' (fun r H => r = iV (k + nT (mslT e rs)) ∧ H = [.own (mkT k (mslT e rs)) v]) := by
  obtain ⟨a, c, rfl, hs, hc1, hc2, _⟩ := rd_mss hl.rd
  have hmx : rs.length ≤ 9223372036854775807 := by unfold maxLen at hc2; omega
  simp only [mkT, nT, msT_map] at *
  refine fnb_lentL Try.func44 rfl Try.ntmps44 rfl hl ?_
  by_cases hn : 0 < rs.length
  · refine AT.openS (by rw [msT_map, List.length_map]; exact hn) (fun g cur us h1 h2 h3 h4 h5 h6 h7 => ?_)
    subst h1
    simp only [Nat.mul_one] at h2 h4 h7
    repeat' (first
      | (show AT _ _ _ (wpList _ _ _ (_ :: _)); first
         | (show AT _ _ _ (wpList _ _ _ (⟨_, Op.assign _, _, _, _, _⟩ :: _)); refine st_y (y_assign rfl) rfl ?_))
      | (show AT _ _ _ (wpList _ _ _ []); refine c_nil (x_then ?_))
      | (show AT _ _ _ (Code.wp _ _ _); first | refine c_seq ?_ | refine c_region ?_ | refine c_block ?_))
    refine c_loopH (α := Nat) [0] (fun i => [(1, iV (k + nL ((rs.map msM).take i))), (5, .int .i64 i)]) (fun i => i ≤ rs.length) (fun i => [.ownL (mkTo k (rs.map msM) i) us, .blk g cur e]) (fun i => rs.length - i) 0 rfl (by repeat' (first | exact Sub.nil | refine Sub.cons rfl ?_ | refine Sub.consi rfl (by first | omega | (simp [nL]; done) | (rw [Int.add_assoc]; omega)) ?_)) ?_ ?_ ?_
    · omega
    · intro w' c'
      rw [mkTo_zero, ← msT_map]
      exact c'
    · intro i hi
      by_cases hin : i < rs.length
      · obtain ⟨xs, hx⟩ : ∃ xs, rs[i]? = some xs := ⟨_, List.getElem?_eq_getElem hin⟩
        have hx1 : (rs.map msM)[i]? = some (matsT 81 xs) := by rw [List.getElem?_map, hx]; rfl
        have hx2 : (mkTo k (rs.map msM) i)[i]? = some (matsT 81 xs) := mkTo_get hx1
        obtain ⟨u, hu⟩ : ∃ u, us[i]? = some u := ⟨_, List.getElem?_eq_getElem (show i < us.length by rw [h3, msT_map, List.length_map]; exact hin)⟩
        have hcu : cur[i]? = some u := by
          rw [← h2, List.getElem?_take, if_pos hin] at hu
          simpa using hu
        have hnx := nL_next hx1
        have hle := nL_le (rs.map msM) (i + 1)
        have hp0 := nL_pos ((rs.map msM).take i)
        have hp1 := nT_pos (matsT 81 xs)
        repeat' (first
          | (show AT _ _ _ (wpList _ _ _ (_ :: _)); first
             | (show AT _ _ _ (wpList _ _ _ (⟨_, Op.move _, _, _, _, _⟩ :: _)); refine st_y (y_move rfl) rfl ?_)
             | (show AT _ _ _ (wpList _ _ _ (⟨_, Op.assign _, _, _, _, _⟩ :: _)); refine st_y (y_assign rfl) rfl ?_)
             | (show AT _ _ _ (wpList _ _ _ (⟨_, Op.load _ _, _, _, _, _⟩ :: _)); refine st_y (y_load tabs rfl rfl (hc_blk 1 rfl hcu)) rfl ?_)
             | (show AT _ _ _ (wpList _ _ _ (⟨_, Op.indexAddr _ _ _, _, _, _, _⟩ :: _)); refine st_y (y_ix01 tabs (j := i) rfl rfl rfl rfl hin) rfl ?_)
             | (show AT _ _ _ (wpList _ _ _ (⟨_, Op.binOp _ _ _ _ _, _, _, _, _⟩ :: _)); first | refine st_y (y_add rfl rfl (by omega)) rfl ?_ | refine st_y (y_lss rfl rfl) rfl ?_)
             | (show AT _ _ _ (wpList _ _ _ (⟨_, Op.call _, _, _, _, _⟩ :: _)); first | (refine m_callE i (t2 := mkT (k + nL ((rs.map msM).take i)) (matsT 81 xs)) (ψ := fun r => r = iV (k + nL ((rs.map msM).take i) + nT (matsT 81 xs))) (ent_of Try.func23 (by kernel_rfl) rfl) rfl rfl hx2 hu (fun w M' hl => markMats_ok hl (by omega) (by omega)) ?_; rintro v rfl) | refine st_y (y_len tabs rfl rfl) rfl ?_))
          | (show AT _ _ _ (wpList _ _ _ []); first | refine c_nil (x_then ?_) | refine c_nil ?_)
          | (show AT _ _ _ (Code.wp _ _ _); first | refine c_seq ?_ | refine c_region ?_ | refine c_skip (x_then ?_) | refine c_block ?_ | refine c_ift rfl (by first | assumption | omega) ?_)
          | (show AT _ _ _ _; first | refine x_then ?_ | refine x_blk ?_))
        refine x_nx (i + 1) (by repeat' (first | exact Sub.nil | refine Sub.cons rfl ?_ | refine Sub.consi rfl (by first | omega | (simp [nL]; done) | (rw [hnx]; omega)) ?_)) (by omega) (fun w' c' => ?_) (by omega)
        rw [mkTo_next hx1] at c'
        exact c'
      · have : i = rs.length := by omega
        subst this
        repeat' (first
          | (show AT _ _ _ (wpList _ _ _ (_ :: _)); first
             | (show AT _ _ _ (wpList _ _ _ (⟨_, Op.move _, _, _, _, _⟩ :: _)); refine st_y (y_move rfl) rfl ?_)
             | (show AT _ _ _ (wpList _ _ _ (⟨_, Op.assign _, _, _, _, _⟩ :: _)); refine st_y (y_assign rfl) rfl ?_)
             | (show AT _ _ _ (wpList _ _ _ (⟨_, Op.binOp _ _ _ _ _, _, _, _, _⟩ :: _)); refine st_y (y_lss rfl rfl) rfl ?_)
             | (show AT _ _ _ (wpList _ _ _ (⟨_, Op.call _, _, _, _, _⟩ :: _)); refine st_y (y_len tabs rfl rfl) rfl ?_))
          | (show AT _ _ _ (wpList _ _ _ []); refine c_nil (x_then ?_))
          | (show AT _ _ _ (Code.wp _ _ _); first | refine c_seq ?_ | refine c_region ?_ | refine c_ret ?_ | refine c_exit ?_ | refine c_iff rfl (by first | assumption | exact not_not_intro (by assumption) | omega) ?_)
          | (show AT _ _ _ _; first | refine x_then ?_ | refine x_then_exit ?_ | refine x_blk_exit rfl ?_))
        refine x_ret1 Try.results44 (res_tmp rfl) (fun w' c' => ⟨_, _, rfl, ⟨by rw [List.take_of_length_le (by simp)], rfl⟩, ?_⟩)
        rw [mkTo_end (by simp)] at c'
        exact c'.shutS (m := rs.length) (c := c) (by rw [Nat.mul_one]; exact h2) (by simp) h5 h6 (by rw [Nat.mul_one]; exact h7)
  · have hr0 : rs = [] := List.length_eq_zero_iff.1 (by omega)
    subst hr0
    repeat' (first
      | (show AT _ _ _ (wpList _ _ _ (_ :: _)); first
         | (show AT _ _ _ (wpList _ _ _ (⟨_, Op.assign _, _, _, _, _⟩ :: _)); refine st_y (y_assign rfl) rfl ?_))
      | (show AT _ _ _ (wpList _ _ _ []); refine c_nil (x_then ?_))
      | (show AT _ _ _ (Code.wp _ _ _); first | refine c_seq ?_ | refine c_region ?_ | refine c_block ?_))
    refine c_loopH (α := Nat) [0] (fun i => [(1, iV k), (5, .int .i64 0)]) (fun i => True) (fun i => [.own (mslT e []) (.slice a 0 c)]) (fun i => i) 0 rfl (by repeat' (first | exact Sub.nil | refine Sub.cons rfl ?_ | refine Sub.consi rfl (by omega) ?_)) ?_ ?_ ?_
    · trivial
    · exact fun w' c' => c'
    · intro i hi
      repeat' (first
        | (show AT _ _ _ (wpList _ _ _ (_ :: _)); first
           | (show AT _ _ _ (wpList _ _ _ (⟨_, Op.move _, _, _, _, _⟩ :: _)); refine st_y (y_move rfl) rfl ?_)
           | (show AT _ _ _ (wpList _ _ _ (⟨_, Op.assign _, _, _, _, _⟩ :: _)); refine st_y (y_assign rfl) rfl ?_)
           | (show AT _ _ _ (wpList _ _ _ (⟨_, Op.binOp _ _ _ _ _, _, _, _, _⟩ :: _)); refine st_y (y_lss rfl rfl) rfl ?_)
           | (show AT _ _ _ (wpList _ _ _ (⟨_, Op.call _, _, _, _, _⟩ :: _)); refine st_y (y_len tabs rfl rfl) rfl ?_))
        | (show AT _ _ _ (wpList _ _ _ []); refine c_nil (x_then ?_))
        | (show AT _ _ _ (Code.wp _ _ _); first | refine c_seq ?_ | refine c_region ?_ | refine c_ret ?_ | refine c_exit ?_ | refine c_false rfl ?_)
        | (show AT _ _ _ _; first | refine x_then ?_ | refine x_then_exit ?_ | refine x_blk_exit rfl ?_))
      refine x_ret1 Try.results44 (res_tmp rfl) (fun w' c' => ⟨_, _, rfl, ⟨by simp [nL], rfl⟩, ?_⟩)
      exact c'
theorem nT_mss (e : Nat) (l : List (List Mat)) : nT (mslT e l) ≤ 2 * (szL szMs l : Nat) := by
  have key : ∀ l : List (List Mat), nL (l.map msM) ≤ 2 * (l.map szMs).sum := fun l => by
    induction l with
    | nil => simp [nL]
    | cons m l ih =>
      have h1 : nT (msM m) ≤ 2 * (szMs m : Nat) := nT_mats 81 m
      rw [List.map_cons, nL, List.map_cons, List.sum_cons]
      omega
  have := key l
  simp only [nT, msT_map]
  show _ ≤ 2 * ((l.length + (l.map szMs).sum : Nat) : Int)
  omega
end Go.Proofs.Ytfhgpkdhhclpbaa
