import Derived.Lib.SliceRun
import Derived.Test.YtnmhdmkfhacdbaaInvqA
import Derived.Test.YtnmhdmkfhacdbaaLCqA
namespace Go.Proofs.Ytnmhdmkfhacdbaa
open Go.Lg Go.Proofs Go.RowKit
/-! ### a part of a list is cleared -/
theorem hp_seto {M : List Nat} {w0 w : World} {H : List HE} {i : Nat} {e m c j : Nat} {xs : List Int} {a0 : Option Addr} {q : Int} (cw : Hp M w0 H w) (hi : H[i]? = some (.own (ints e xs) (.slice a0 m c))) (hj : j < xs.length) :
    Hp M w0 (H.set i (.own (ints e (xs.set j q)) (.slice a0 m c))) (w.setCell ⟨ab a0, ao a0 + j, none⟩ (.int .i64 q)) := by
  refine cw.turn hi (fun g hg => ?_) rfl rfl rfl (by simp [World.setCell])
  simp only [HE.sat, ints, Own] at hg ⊢
  rcases hg with ⟨h1, _⟩ | ⟨g', n', cap', cur, fp', h1, h2, h3, h4, h5, h6, h7, rfl⟩
  · simp [it] at h1; subst h1; simp at hj
  · cases h1
    obtain ⟨h8, rfl⟩ := OwnL.ints_inv h7
    refine ⟨.inr ⟨g', m, c, cur.setIfInBounds j (.int .i64 q), [], rfl, ?_, ?_, h4, h5, by simpa using h6, ?_, rfl⟩, fun k _ hk => Below.heap_setCell w _ _ k (by simp [ab]; simpa using hk)⟩
    · simp [World.setCell, Array.getElem?_modify, h2, ab, ao]
    · simpa [it] using h3
    · have hh : List.take (m * 1) (cur.setIfInBounds j (Value.int IntKind.i64 q)).toList = ic (xs.set j q) := by
        rw [Array.toList_setIfInBounds, List.take_set, h8]
        simp [ic, List.map_set]
      rw [hh]
      exact OwnL.ints _
theorem hp_setz {M : List Nat} {w0 : World} {H : List HE} {i e m c : Nat} {a0 : Option Addr} : ∀ (n j : Nat) (xs : List Int) (w : World), Hp M w0 H w → H[i]? = some (.own (ints e xs) (.slice a0 m c)) → j + n ≤ xs.length →
    ∃ ys : List Int, ys.length = xs.length ∧ Hp M w0 (H.set i (.own (ints e ys) (.slice a0 m c))) (w.setCells (ab a0) (ao a0 + j) (List.replicate n (.int .i64 0)))
  | 0, j, xs, w, cw, hi, hj => ⟨xs, rfl, by
      rw [List.replicate_zero, World.setCells]
      have : H.set i (.own (ints e xs) (.slice a0 m c)) = H := by
        obtain ⟨h1, h2⟩ := List.getElem?_eq_some_iff.1 hi
        rw [← h2, List.set_getElem_self]
      rw [this]; exact cw⟩
  | n + 1, j, xs, w, cw, hi, hj => by
      have hil : i < H.length := (List.getElem?_eq_some_iff.1 hi).1
      have c2 := hp_seto (q := 0) cw hi (j := j) (by omega)
      obtain ⟨ys, h1, h2⟩ := hp_setz (H := H.set i (.own (ints e (xs.set j 0)) (.slice a0 m c))) (i := i) (e := e) (m := m) (c := c) (a0 := a0) n (j + 1) (xs.set j 0) _ c2 (by rw [List.getElem?_set_self hil]) (by simp; omega)
      refine ⟨ys, by simpa using h1, ?_⟩
      rw [List.set_set] at h2
      rw [List.replicate_succ, World.setCells, Nat.add_assoc]
      exact h2
theorem m_clear {P : Program} {n : Nat} {s : List (Nat × Value)} {Q : Exit → Act → World → Prop} {ops : Array Oper} {rest : List Oper} {ty t : Nat} {pos : String} {af : Array Edge} {x : Operand} {M : List Nat} {w0 : World} {H : List HE}
    (i : Nat) (T : Tabs P) {e e' b m c k l cc : Nat} {xs : List Int} {a0 : Option Addr} (ht : lk T.sl t = some (e', 1, b, [.int .i64 0])) (hx : ev s x = some (.slice (some ⟨ab a0, ao a0 + k, none⟩) l cc)) (hl : 0 < l)
    (hi : H[i]? = some (.own (ints e xs) (.slice a0 m c))) (hk : k + l ≤ xs.length) (h : ∀ ys : List Int, ys.length = xs.length → AT n (Hp M w0 (H.set i (.own (ints e ys) (.slice a0 m c)))) s (wpList P ops Q rest)) :
    AT n (Hp M w0 H) s (wpList P ops Q (⟨none, .call ⟨.builtin .clear, #[x], #[t]⟩, ty, pos, af, none⟩ :: rest)) := fun a w f cw => by
  obtain ⟨g1, _, _, i0, zv, g2, g3, _, g4, g5⟩ := T.sl_ok _ _ _ _ _ ht
  obtain ⟨ys, h1, h2⟩ := hp_setz (i := i) (e := e) (m := m) (c := c) (a0 := a0) l k xs w cw hi hk
  have hcell : ∀ j, j < l → (w.cell? ⟨ab a0, ao a0 + k + j, none⟩).isSome = true := fun j hj => by
    have := hc_own (M := M) (w0 := w0) i hi (j := k + j) (by omega) w cw
    rw [← Nat.add_assoc] at this; rw [this]; rfl
  have hfro : ∀ j, j < l → w.frozen? ⟨ab a0, ao a0 + k + j, none⟩ = false := fun j hj => by
    obtain ⟨g, hg, _⟩ := cw.sat hi
    simp only [HE.sat, ints, Own] at hg
    rcases hg with ⟨h3, _⟩ | ⟨g', n', cap', cur, fp', h3, h4, _⟩
    · simp [it] at h3; subst h3; simp at hk; omega
    · cases h3; simp [World.frozen?, ab, h4]
  have hzc : (Builtin.zeroCells zv.cells l).toList = List.replicate l (.int .i64 0) := by
    rw [g5]
    simp [Builtin.zeroCells]
    apply List.ext_getElem
    · simp
    · intro i h1 h2
      simp [Nat.mod_one]
  have hst := run_storeCells_cells (P := P) (ab a0) (ao a0 + k) (List.replicate l (.int .i64 0)) 0 w (by simpa using hcell) (by simpa using hfro) (by intro v hv'; rw [List.eq_of_mem_replicate hv']; rfl)
  simp only [Nat.add_zero] at hst
  have hrun : (execOp a.eval ⟨none, .call ⟨.builtin .clear, #[x], #[t]⟩, ty, pos, af, none⟩).run P w = .ok (.value (.tuple #[])) (w.setCells (ab a0) (ao a0 + k) (List.replicate l (.int .i64 0))) := by
    obtain ⟨l', rfl⟩ : ∃ l', l = l' + 1 := ⟨l - 1, by omega⟩
    simp [execOp, resolve, invoke, builtin, f.ev hx, Builtin.clear_, run_underlying g1, zeroValue, typeInfo, g2, g4, hzc, hst]
  refine wpList_one rfl ?_
  unfold Oper.wp
  rw [hrun]
  exact h ys h1 _ _ f h2
attribute [local irreducible] Code.wp wpList bodyPost Exit.then Exit.inBlock Hp Again Calls Y AT ResV QT
set_option maxRecDepth 20000
set_option maxHeartbeats 4000000

/-- what lies behind a place of a list that is not empty -/
theorem y_slor {P : Program} {n : Nat} {C : World → Prop} {s : List (Nat × Value)} {ty t : Nat} {x lo' : Operand} (T : Tabs P) {e b m cap lo : Nat} {z : List Value} {a : Option Addr} {p : Int} (ht : lk T.sl t = some (e, 1, b, z)) (hx : ev s x = some (.slice a m cap)) (hl : ev s lo' = some (.int .i64 p)) (hs : SA a m) (hp : p = (lo : Int)) (h1 : lo < m) (h2 : m ≤ cap) :
    Y P n C s (.slice t x (some lo') none none) ty (.slice (some ⟨ab a, ao a + lo, none⟩) (m - lo) (cap - lo)) := by
  have h := y_slo (P := P) (n := n) (C := C) (s := s) (ty := ty) T ht hx hl hp (by omega)
  have e1 : subA a 1 lo cap = some ⟨ab a, ao a + lo, none⟩ := by
    rw [subA, if_neg (by omega), hs.get (by omega)]
    simp [Addr.add_lit, ab, ao]
  rwa [e1] at h

/-! ### sorted lists -/
theorem isNaN_ok {w : World} (x : Int) : Does Try.prog 168 [iV x] w (fun v H => v = .bool false ∧ H = []) := by
  refine fn_enter Try.func168 rfl Try.ntmps168 rfl ?_
  repeat' (first
    | (show AT _ _ _ (wpList _ _ _ (_ :: _)); first
       | (show AT _ _ _ (wpList _ _ _ (⟨_, Op.move _, _, _, _, _⟩ :: _)); refine st_y (y_move rfl) rfl ?_)
       | (show AT _ _ _ (wpList _ _ _ (⟨_, Op.assign _, _, _, _, _⟩ :: _)); refine st_y (y_assign rfl) rfl ?_)
       | (show AT _ _ _ (wpList _ _ _ (⟨_, Op.binOp _ _ _ _ _, _, _, _, _⟩ :: _)); first | refine st_y (y_neq rfl rfl) rfl ?_ | refine st_y (y_neqb_same Try.underlying4 rfl rfl) rfl ?_))
    | (show AT _ _ _ (wpList _ _ _ []); first | refine c_nil (x_then ?_) | refine c_nil ?_)
    | (show AT _ _ _ (Code.wp _ _ _); first | refine c_seq ?_ | refine c_region ?_ | refine c_skip (x_then ?_) | refine c_skip (x_blk ?_) | refine c_skip ?_ | refine c_ret ?_ | refine c_exit ?_)
    | (show AT _ _ _ _; first | refine x_then ?_ | refine x_then_ret ?_ | refine x_blk_ret ?_ | refine x_then_exit ?_ | refine x_blk_exit rfl ?_ | refine x_blk_other rfl ?_ | refine x_blk ?_))
  refine x_ret1 Try.results168 (res_tmp rfl) (fun w c => ⟨_, _, rfl, ⟨?_, rfl⟩, c⟩)
  simp
theorem Less_ok {w : World} (x y : Int) : Does Try.prog 126 [iV x, iV y] w (fun v H => v = .bool (decide (x < y)) ∧ H = []) := by
  refine fn_enter Try.func126 rfl Try.ntmps126 rfl ?_
  repeat' (first
    | (show AT _ _ _ (wpList _ _ _ (_ :: _)); first
       | (show AT _ _ _ (wpList _ _ _ (⟨_, Op.move _, _, _, _, _⟩ :: _)); refine st_y (y_move rfl) rfl ?_)
       | (show AT _ _ _ (wpList _ _ _ (⟨_, Op.assign _, _, _, _, _⟩ :: _)); refine st_y (y_assign rfl) rfl ?_)
       | (show AT _ _ _ (wpList _ _ _ (⟨_, Op.binOp _ _ _ _ _, _, _, _, _⟩ :: _)); refine st_y (y_lss rfl rfl) rfl ?_)
       | (show AT _ _ _ (wpList _ _ _ (⟨_, Op.unOp _ _ _, _, _, _, _⟩ :: _)); first | refine st_y (y_notd rfl) rfl ?_ | refine st_y (y_not rfl) rfl ?_)
       | (show AT _ _ _ (wpList _ _ _ (⟨_, Op.call _, _, _, _, _⟩ :: _)); (refine m_call (ent_of Try.func168 (by kernel_rfl) rfl) rfl rfl (fun w c => isNaN_ok _) ?_; rintro v H' ⟨rfl, rfl⟩))
       | (show AT _ _ _ (wpList _ _ _ (⟨_, Op.pick _ _ _, _, _, _, _⟩ :: _)); first | refine st_y (y_pickt rfl (by assumption) rfl) rfl ?_ | refine st_y (y_pickf rfl (by assumption) rfl) rfl ?_ | refine st_y (y_pick rfl rfl rfl) rfl ?_)
       | refine st_gy rfl rfl ?_ | refine st_gn rfl rfl rfl ?_ | refine st_gdy rfl rfl (by assumption) ?_ | refine st_gdn rfl rfl (by assumption) rfl ?_ | refine st_gfy rfl rfl (by assumption) ?_ | refine st_gfn rfl rfl (by assumption) rfl ?_ | refine st_gd rfl rfl (fun h => ?_) (fun h => ?_))
    | (show AT _ _ _ (wpList _ _ _ []); first | refine c_nil (x_then ?_) | refine c_nil ?_)
    | (show AT _ _ _ (Code.wp _ _ _); first | refine c_seq ?_ | refine c_region ?_ | refine c_skip (x_then ?_) | refine c_skip (x_blk ?_) | refine c_skip ?_ | refine c_ret ?_ | refine c_exit ?_)
    | (show AT _ _ _ _; first | refine x_then ?_ | refine x_then_ret ?_ | refine x_blk_ret ?_ | refine x_then_exit ?_ | refine x_blk_exit rfl ?_ | refine x_blk_other rfl ?_ | refine x_blk ?_))
  all_goals refine x_ret1 Try.results126 (res_tmp rfl) (fun w c => ⟨_, _, rfl, ⟨?_, rfl⟩, c⟩)
  all_goals first | (simp_all; done) | (simp_all; omega)
/-- no element is less than the one ahead of it -/
def SorP (xs : List Int) : Prop := ∀ j, j < xs.length → 0 < j → xs.getD (j - 1) 0 ≤ xs.getD j 0
instance (xs : List Int) : Decidable (SorP xs) := by unfold SorP; infer_instance
theorem IsSorted_ok {w : World} {xs : List Int} {v : Value} (hr : Rd w (iT xs) v) :
    Does Try.prog 73 [v] w (fun v H => v = .bool (decide (SorP xs)) ∧ H = []) := by
  obtain ⟨a, c, rfl, hs, hc1, hc2, hget⟩ := hr.ints
  unfold maxLen at hc2
  refine fn_enter Try.func73 rfl Try.ntmps73 rfl ?_
  repeat' (first
    | (show AT _ _ _ (wpList _ _ _ (_ :: _)); first
       | (show AT _ _ _ (wpList _ _ _ (⟨_, Op.move _, _, _, _, _⟩ :: _)); refine st_y (y_move rfl) rfl ?_)
       | (show AT _ _ _ (wpList _ _ _ (⟨_, Op.assign _, _, _, _, _⟩ :: _)); refine st_y (y_assign rfl) rfl ?_)
       | (show AT _ _ _ (wpList _ _ _ (⟨_, Op.load _ _, _, _, _, _⟩ :: _)); refine st_y (y_load tabs rfl rfl (hc_rd (by assumption) (by omega))) rfl ?_)
       | (show AT _ _ _ (wpList _ _ _ (⟨_, Op.indexAddr _ _ _, _, _, _, _⟩ :: _)); first | refine st_y (y_ix1 tabs rfl rfl rfl (by first | assumption | exact .mk) rfl (by omega)) rfl ?_ | refine st_y (y_ixi tabs rfl rfl rfl (by first | assumption | exact .mk) (by omega) (by omega)) rfl ?_ | refine st_y (y_ixa tabs rfl rfl rfl (by first | assumption | exact .mk) (by omega) (by omega)) rfl ?_)
       | (show AT _ _ _ (wpList _ _ _ (⟨_, Op.binOp _ _ _ _ _, _, _, _, _⟩ :: _)); first | refine st_y (y_sub rfl rfl (by omega)) rfl ?_ | refine st_y (y_gtr rfl rfl) rfl ?_)
       | (show AT _ _ _ (wpList _ _ _ (⟨_, Op.call _, _, _, _, _⟩ :: _)); refine st_y (y_len tabs rfl rfl) rfl ?_))
    | (show AT _ _ _ (wpList _ _ _ []); first | refine c_nil (x_then ?_) | refine c_nil ?_)
    | (show AT _ _ _ (Code.wp _ _ _); first | refine c_seq ?_ | refine c_region ?_ | refine c_skip (x_then ?_) | refine c_skip (x_blk ?_) | refine c_skip ?_ | refine c_block ?_ | refine c_ret ?_ | refine c_exit ?_ | refine c_draw (by kernel_rfl) (by kernel_rfl) (fun _ c => Hp.drew c) ?_ | refine c_true rfl ?_ | refine c_false rfl ?_ | refine c_ift rfl (by first | assumption | omega) ?_ | refine c_iff rfl (by first | assumption | exact not_not_intro (by assumption) | omega) ?_ | refine c_ifnd rfl (fun h => ?_) (fun h => ?_) | refine c_if rfl (fun h => ?_) (fun h => ?_) | refine c_ifn rfl (fun h => ?_) (fun h => ?_))
    | (show QT _ _ _ _ _ _ (_ :: _); first
       | (show QT _ _ _ _ _ _ (⟨_, Op.move _, _, _, _, _⟩ :: _); refine q_y (y_move rfl) rfl ?_)
       | (show QT _ _ _ _ _ _ (⟨_, Op.assign _, _, _, _, _⟩ :: _); refine q_y (y_assign rfl) rfl ?_)
       | (show QT _ _ _ _ _ _ (⟨_, Op.load _ _, _, _, _, _⟩ :: _); refine q_y (y_load tabs rfl rfl (hc_rd (by assumption) (by omega))) rfl ?_)
       | (show QT _ _ _ _ _ _ (⟨_, Op.indexAddr _ _ _, _, _, _, _⟩ :: _); first | refine q_y (y_ix1 tabs rfl rfl rfl (by first | assumption | exact .mk) rfl (by omega)) rfl ?_ | refine q_y (y_ixi tabs rfl rfl rfl (by first | assumption | exact .mk) (by omega) (by omega)) rfl ?_ | refine q_y (y_ixa tabs rfl rfl rfl (by first | assumption | exact .mk) (by omega) (by omega)) rfl ?_)
       | (show QT _ _ _ _ _ _ (⟨_, Op.binOp _ _ _ _ _, _, _, _, _⟩ :: _); first | refine q_y (y_sub rfl rfl (by omega)) rfl ?_ | refine q_y (y_gtr rfl rfl) rfl ?_)
       | (show QT _ _ _ _ _ _ (⟨_, Op.call _, _, _, _, _⟩ :: _); refine q_y (y_len tabs rfl rfl) rfl ?_))
    | (show QT _ _ _ _ _ _ []; first | refine q_nil (x_then ?_) | refine q_nil ?_)
    | (show AT _ _ _ (Qk _ _ _); refine x_one ?_)
    | (show AT _ _ _ _; first | refine x_then ?_ | refine x_then_ret ?_ | refine x_blk_ret ?_ | refine x_then_exit ?_ | refine x_blk_exit rfl ?_ | refine x_blk_other rfl ?_ | refine x_blk ?_))
  refine c_loopH (α := Int) [0] (fun i => [(3, .int .i64 i)]) (fun i => -1 ≤ i ∧ i < xs.length ∧ (∀ j, j < xs.length → 0 < j → i < j → xs.getD (j - 1) 0 ≤ xs.getD j 0)) (fun i => []) (fun i => i.toNat) ((xs.length : Int) - 1) rfl (by repeat' (first | exact Sub.nil | refine Sub.cons rfl ?_ | refine Sub.consi rfl (by omega) ?_)) ?_ ?_ ?_
  · exact ⟨by omega, by omega, fun j h1 h2 h3 => by omega⟩
  · exact fun w' c' => c'
  · rintro i ⟨hi1, hi2, hn⟩
    by_cases hin : 0 < i
    · obtain ⟨k, rfl⟩ : ∃ k : Nat, i = (k : Int) := ⟨i.toNat, by omega⟩
      have hk : k < xs.length := by omega
      have hk1 : k - 1 < xs.length := by omega
      have e1 : (k : Int) - 1 = ((k - 1 : Nat) : Int) := by omega
      repeat' (first
        | (show AT _ _ _ (wpList _ _ _ (_ :: _)); first
           | (show AT _ _ _ (wpList _ _ _ (⟨_, Op.move _, _, _, _, _⟩ :: _)); refine st_y (y_move rfl) rfl ?_)
           | (show AT _ _ _ (wpList _ _ _ (⟨_, Op.assign _, _, _, _, _⟩ :: _)); refine st_y (y_assign rfl) rfl ?_)
           | (show AT _ _ _ (wpList _ _ _ (⟨_, Op.load _ _, _, _, _, _⟩ :: _)); first | refine st_y (y_load tabs rfl rfl (hc_w0 (hget k hk))) rfl ?_ | refine st_y (y_load tabs rfl rfl (hc_w0 (hget (k - 1) hk1))) rfl ?_ | refine st_y (y_load tabs rfl rfl (hc_rd (by assumption) (by omega))) rfl ?_)
           | (show AT _ _ _ (wpList _ _ _ (⟨_, Op.indexAddr _ _ _, _, _, _, _⟩ :: _)); first | refine st_y (y_ix1 tabs (j := k) rfl rfl rfl hs rfl hk) rfl ?_ | refine st_y (y_ix1 tabs (j := k - 1) rfl rfl (by rw [← e1]; rfl) hs rfl hk1) rfl ?_ | refine st_y (y_ix1 tabs rfl rfl rfl (by first | assumption | exact .mk) rfl (by omega)) rfl ?_ | refine st_y (y_ixi tabs rfl rfl rfl (by first | assumption | exact .mk) (by omega) (by omega)) rfl ?_ | refine st_y (y_ixa tabs rfl rfl rfl (by first | assumption | exact .mk) (by omega) (by omega)) rfl ?_)
           | (show AT _ _ _ (wpList _ _ _ (⟨_, Op.binOp _ _ _ _ _, _, _, _, _⟩ :: _)); first | refine st_y (y_sub rfl rfl (by omega)) rfl ?_ | refine st_y (y_gtr rfl rfl) rfl ?_)
           | (show AT _ _ _ (wpList _ _ _ (⟨_, Op.call _, _, _, _, _⟩ :: _)); refine st_y (y_len tabs rfl rfl) rfl ?_))
        | (show AT _ _ _ (wpList _ _ _ []); first | refine c_nil (x_then ?_) | refine c_nil ?_)
        | (show AT _ _ _ (Code.wp _ _ _); first | refine c_seq ?_ | refine c_region ?_ | refine c_skip (x_then ?_) | refine c_skip (x_blk ?_) | refine c_skip ?_ | refine c_block ?_ | refine c_ret ?_ | refine c_exit ?_ | refine c_draw (by kernel_rfl) (by kernel_rfl) (fun _ c => Hp.drew c) ?_ | refine c_true rfl ?_ | refine c_false rfl ?_ | refine c_ift rfl (by first | assumption | omega) ?_ | refine c_iff rfl (by first | assumption | exact not_not_intro (by assumption) | omega) ?_ | refine c_ifnd rfl (fun h => ?_) (fun h => ?_) | refine c_if rfl (fun h => ?_) (fun h => ?_) | refine c_ifn rfl (fun h => ?_) (fun h => ?_))
        | (show QT _ _ _ _ _ _ (_ :: _); first
           | (show QT _ _ _ _ _ _ (⟨_, Op.move _, _, _, _, _⟩ :: _); refine q_y (y_move rfl) rfl ?_)
           | (show QT _ _ _ _ _ _ (⟨_, Op.assign _, _, _, _, _⟩ :: _); refine q_y (y_assign rfl) rfl ?_)
           | (show QT _ _ _ _ _ _ (⟨_, Op.load _ _, _, _, _, _⟩ :: _); first | refine q_y (y_load tabs rfl rfl (hc_w0 (hget k hk))) rfl ?_ | refine q_y (y_load tabs rfl rfl (hc_w0 (hget (k - 1) hk1))) rfl ?_ | refine q_y (y_load tabs rfl rfl (hc_rd (by assumption) (by omega))) rfl ?_)
           | (show QT _ _ _ _ _ _ (⟨_, Op.indexAddr _ _ _, _, _, _, _⟩ :: _); first | refine q_y (y_ix1 tabs (j := k) rfl rfl rfl hs rfl hk) rfl ?_ | refine q_y (y_ix1 tabs (j := k - 1) rfl rfl (by rw [← e1]; rfl) hs rfl hk1) rfl ?_ | refine q_y (y_ix1 tabs rfl rfl rfl (by first | assumption | exact .mk) rfl (by omega)) rfl ?_ | refine q_y (y_ixi tabs rfl rfl rfl (by first | assumption | exact .mk) (by omega) (by omega)) rfl ?_ | refine q_y (y_ixa tabs rfl rfl rfl (by first | assumption | exact .mk) (by omega) (by omega)) rfl ?_)
           | (show QT _ _ _ _ _ _ (⟨_, Op.binOp _ _ _ _ _, _, _, _, _⟩ :: _); first | refine q_y (y_sub rfl rfl (by omega)) rfl ?_ | refine q_y (y_gtr rfl rfl) rfl ?_)
           | (show QT _ _ _ _ _ _ (⟨_, Op.call _, _, _, _, _⟩ :: _); first | refine q_call (ent_of Try.func126 (by kernel_rfl) rfl) rfl rfl (fun w c => Less_ok _ _) (fun u H' h => h.1) ?_ | refine q_y (y_len tabs rfl rfl) rfl ?_))
        | (show QT _ _ _ _ _ _ []; first | refine q_nil (x_then ?_) | refine q_nil ?_)
        | (show AT _ _ _ (Qk _ _ _); refine x_one ?_)
        | (show AT _ _ _ _; first | refine x_then ?_ | refine x_then_ret ?_ | refine x_blk_ret ?_ | refine x_then_exit ?_ | refine x_blk_exit rfl ?_ | refine x_blk_other rfl ?_ | refine x_blk ?_))
      · refine x_ret1 Try.results73 (res_tmp rfl) (fun w c => ⟨_, _, rfl, ⟨congrArg Value.bool ?_, rfl⟩, c⟩)
        refine (decide_eq_false fun hS => ?_).symm
        have := hS k hk (by omega)
        omega
      · refine x_nx ((k : Int) - 1) (by repeat' (first | exact Sub.nil | refine Sub.cons rfl ?_ | refine Sub.consi rfl (by omega) ?_)) ⟨by omega, by omega, fun j h1 h2 h3 => ?_⟩ (fun w' c' => c') (by omega)
        by_cases hj : j = k
        · subst hj; omega
        · exact hn j h1 h2 (by omega)
    · repeat' (first
        | (show AT _ _ _ (wpList _ _ _ (_ :: _)); first
           | (show AT _ _ _ (wpList _ _ _ (⟨_, Op.move _, _, _, _, _⟩ :: _)); refine st_y (y_move rfl) rfl ?_)
           | (show AT _ _ _ (wpList _ _ _ (⟨_, Op.assign _, _, _, _, _⟩ :: _)); refine st_y (y_assign rfl) rfl ?_)
           | (show AT _ _ _ (wpList _ _ _ (⟨_, Op.load _ _, _, _, _, _⟩ :: _)); refine st_y (y_load tabs rfl rfl (hc_rd (by assumption) (by omega))) rfl ?_)
           | (show AT _ _ _ (wpList _ _ _ (⟨_, Op.indexAddr _ _ _, _, _, _, _⟩ :: _)); first | refine st_y (y_ix1 tabs rfl rfl rfl (by first | assumption | exact .mk) rfl (by omega)) rfl ?_ | refine st_y (y_ixi tabs rfl rfl rfl (by first | assumption | exact .mk) (by omega) (by omega)) rfl ?_ | refine st_y (y_ixa tabs rfl rfl rfl (by first | assumption | exact .mk) (by omega) (by omega)) rfl ?_)
           | (show AT _ _ _ (wpList _ _ _ (⟨_, Op.binOp _ _ _ _ _, _, _, _, _⟩ :: _)); first | refine st_y (y_sub rfl rfl (by omega)) rfl ?_ | refine st_y (y_gtr rfl rfl) rfl ?_)
           | (show AT _ _ _ (wpList _ _ _ (⟨_, Op.call _, _, _, _, _⟩ :: _)); refine st_y (y_len tabs rfl rfl) rfl ?_))
        | (show AT _ _ _ (wpList _ _ _ []); first | refine c_nil (x_then ?_) | refine c_nil ?_)
        | (show AT _ _ _ (Code.wp _ _ _); first | refine c_seq ?_ | refine c_region ?_ | refine c_skip (x_then ?_) | refine c_skip (x_blk ?_) | refine c_skip ?_ | refine c_block ?_ | refine c_ret ?_ | refine c_exit ?_ | refine c_draw (by kernel_rfl) (by kernel_rfl) (fun _ c => Hp.drew c) ?_ | refine c_true rfl ?_ | refine c_false rfl ?_ | refine c_ift rfl (by first | assumption | omega) ?_ | refine c_iff rfl (by first | assumption | exact not_not_intro (by assumption) | omega) ?_ | refine c_ifnd rfl (fun h => ?_) (fun h => ?_) | refine c_if rfl (fun h => ?_) (fun h => ?_) | refine c_ifn rfl (fun h => ?_) (fun h => ?_))
        | (show QT _ _ _ _ _ _ (_ :: _); first
           | (show QT _ _ _ _ _ _ (⟨_, Op.move _, _, _, _, _⟩ :: _); refine q_y (y_move rfl) rfl ?_)
           | (show QT _ _ _ _ _ _ (⟨_, Op.assign _, _, _, _, _⟩ :: _); refine q_y (y_assign rfl) rfl ?_)
           | (show QT _ _ _ _ _ _ (⟨_, Op.load _ _, _, _, _, _⟩ :: _); refine q_y (y_load tabs rfl rfl (hc_rd (by assumption) (by omega))) rfl ?_)
           | (show QT _ _ _ _ _ _ (⟨_, Op.indexAddr _ _ _, _, _, _, _⟩ :: _); first | refine q_y (y_ix1 tabs rfl rfl rfl (by first | assumption | exact .mk) rfl (by omega)) rfl ?_ | refine q_y (y_ixi tabs rfl rfl rfl (by first | assumption | exact .mk) (by omega) (by omega)) rfl ?_ | refine q_y (y_ixa tabs rfl rfl rfl (by first | assumption | exact .mk) (by omega) (by omega)) rfl ?_)
           | (show QT _ _ _ _ _ _ (⟨_, Op.binOp _ _ _ _ _, _, _, _, _⟩ :: _); first | refine q_y (y_sub rfl rfl (by omega)) rfl ?_ | refine q_y (y_gtr rfl rfl) rfl ?_)
           | (show QT _ _ _ _ _ _ (⟨_, Op.call _, _, _, _, _⟩ :: _); refine q_y (y_len tabs rfl rfl) rfl ?_))
        | (show QT _ _ _ _ _ _ []; first | refine q_nil (x_then ?_) | refine q_nil ?_)
        | (show AT _ _ _ (Qk _ _ _); refine x_one ?_)
        | (show AT _ _ _ _; first | refine x_then ?_ | refine x_then_ret ?_ | refine x_blk_ret ?_ | refine x_then_exit ?_ | refine x_blk_exit rfl ?_ | refine x_blk_other rfl ?_ | refine x_blk ?_))
      refine x_ret1 Try.results73 (res_tmp rfl) (fun w c => ⟨_, _, rfl, ⟨congrArg Value.bool ?_, rfl⟩, c⟩)
      exact (decide_eq_true fun j h1 h2 => hn j h1 h2 (by omega)).symm
/-- no element equals the one ahead of it -/
def NoDup1 (xs : List Int) : Prop := ∀ j, j < xs.length → 0 < j → xs.getD j 0 ≠ xs.getD (j - 1) 0
theorem Compact_ok {w1 : World} {M1 : List Nat} {H1 : List HE} {w : World} {M' : List Nat} {xs : List Int} {a : Option Addr} {m c : Nat} (hl : Lent M1 w1 (.own (iT xs) (.slice a m c)) H1 M' w) :
    DoesB Try.prog 74 [.slice a m c] w M' (fun v H => ∃ a' k c' ys, v = .slice a' k c' ∧ H = [.own (iT ys) (.slice a m c)] ∧ (k = xs.length ↔ NoDup1 xs)) := by
  obtain ⟨a1, c1, e1, hs, hc1, hc2, _⟩ := (Own.rd hl.sat : Rd w (iT xs) (.slice a m c)).ints
  cases e1
  unfold maxLen at hc2
  refine fnb_lent Try.func74 rfl Try.ntmps74 rfl hl ?_
  repeat' (first
    | (show AT _ _ _ (wpList _ _ _ (_ :: _)); first
       | (show AT _ _ _ (wpList _ _ _ (⟨_, Op.move _, _, _, _, _⟩ :: _)); refine st_y (y_move rfl) rfl ?_)
       | (show AT _ _ _ (wpList _ _ _ (⟨_, Op.assign _, _, _, _, _⟩ :: _)); refine st_y (y_assign rfl) rfl ?_)
       | (show AT _ _ _ (wpList _ _ _ (⟨_, Op.load _ _, _, _, _, _⟩ :: _)); refine st_y (y_load tabs rfl rfl (hc_rd (by assumption) (by omega))) rfl ?_)
       | (show AT _ _ _ (wpList _ _ _ (⟨_, Op.indexAddr _ _ _, _, _, _, _⟩ :: _)); first | refine st_y (y_ix1 tabs rfl rfl rfl (by first | assumption | exact .mk) rfl (by omega)) rfl ?_ | refine st_y (y_ixi tabs rfl rfl rfl (by first | assumption | exact .mk) (by omega) (by omega)) rfl ?_ | refine st_y (y_ixa tabs rfl rfl rfl (by first | assumption | exact .mk) (by omega) (by omega)) rfl ?_)
       | (show AT _ _ _ (wpList _ _ _ (⟨_, Op.binOp _ _ _ _ _, _, _, _, _⟩ :: _)); first | refine st_y (y_add rfl rfl (by omega)) rfl ?_ | refine st_y (y_sub rfl rfl (by omega)) rfl ?_ | refine st_y (y_lss rfl rfl) rfl ?_ | refine st_y (y_eql rfl rfl) rfl ?_ | refine st_y (y_neq rfl rfl) rfl ?_ | refine st_y (y_neqb_same Try.underlying4 rfl rfl) rfl ?_)
       | (show AT _ _ _ (wpList _ _ _ (⟨_, Op.call _, _, _, _, _⟩ :: _)); refine st_y (y_len tabs rfl rfl) rfl ?_))
    | (show AT _ _ _ (wpList _ _ _ []); first | refine c_nil (x_then ?_) | refine c_nil ?_)
    | (show AT _ _ _ (Code.wp _ _ _); first | refine c_seq ?_ | refine c_region ?_ | refine c_skip (x_then ?_) | refine c_skip (x_blk ?_) | refine c_skip ?_ | refine c_block ?_ | refine c_ret ?_ | refine c_exit ?_ | refine c_draw (by kernel_rfl) (by kernel_rfl) (fun _ c => Hp.drew c) ?_ | refine c_true rfl ?_ | refine c_false rfl ?_ | refine c_ift rfl (by first | assumption | omega) ?_ | refine c_iff rfl (by first | assumption | exact not_not_intro (by assumption) | omega) ?_ | refine c_ifnd rfl (fun h => ?_) (fun h => ?_) | refine c_if rfl (fun h => ?_) (fun h => ?_) | refine c_ifn rfl (fun h => ?_) (fun h => ?_))
    | (show QT _ _ _ _ _ _ (_ :: _); first
       | (show QT _ _ _ _ _ _ (⟨_, Op.move _, _, _, _, _⟩ :: _); refine q_y (y_move rfl) rfl ?_)
       | (show QT _ _ _ _ _ _ (⟨_, Op.assign _, _, _, _, _⟩ :: _); refine q_y (y_assign rfl) rfl ?_)
       | (show QT _ _ _ _ _ _ (⟨_, Op.load _ _, _, _, _, _⟩ :: _); refine q_y (y_load tabs rfl rfl (hc_rd (by assumption) (by omega))) rfl ?_)
       | (show QT _ _ _ _ _ _ (⟨_, Op.indexAddr _ _ _, _, _, _, _⟩ :: _); first | refine q_y (y_ix1 tabs rfl rfl rfl (by first | assumption | exact .mk) rfl (by omega)) rfl ?_ | refine q_y (y_ixi tabs rfl rfl rfl (by first | assumption | exact .mk) (by omega) (by omega)) rfl ?_ | refine q_y (y_ixa tabs rfl rfl rfl (by first | assumption | exact .mk) (by omega) (by omega)) rfl ?_)
       | (show QT _ _ _ _ _ _ (⟨_, Op.binOp _ _ _ _ _, _, _, _, _⟩ :: _); first | refine q_y (y_add rfl rfl (by omega)) rfl ?_ | refine q_y (y_sub rfl rfl (by omega)) rfl ?_ | refine q_y (y_lss rfl rfl) rfl ?_ | refine q_y (y_eql rfl rfl) rfl ?_ | refine q_y (y_neq rfl rfl) rfl ?_ | refine q_y (y_neqb_same Try.underlying4 rfl rfl) rfl ?_)
       | (show QT _ _ _ _ _ _ (⟨_, Op.call _, _, _, _, _⟩ :: _); refine q_y (y_len tabs rfl rfl) rfl ?_))
    | (show QT _ _ _ _ _ _ []; first | refine q_nil (x_then ?_) | refine q_nil ?_)
    | (show AT _ _ _ (Qk _ _ _); refine x_one ?_)
    | (show AT _ _ _ _; first | refine x_then ?_ | refine x_then_ret ?_ | refine x_blk_ret ?_ | refine x_then_exit ?_ | refine x_blk_exit rfl ?_ | refine x_blk_other rfl ?_ | refine x_blk ?_))
  · refine x_ret1 Try.results74 (res_tmp rfl) (fun w' c' => ⟨_, _, rfl, ⟨_, _, _, xs, rfl, rfl, ?_⟩, c'⟩)
    exact ⟨fun _ j h1 h2 => by omega, fun _ => rfl⟩
  refine c_loopH (α := Nat) [0] (fun k => [(3, .int .i64 k)]) (fun k => 1 ≤ k ∧ k ≤ xs.length ∧ (∀ j, j < k → 0 < j → xs.getD j 0 ≠ xs.getD (j - 1) 0)) (fun k => [.own (iT xs) (.slice a xs.length c)]) (fun k => xs.length - k) 1 rfl (by repeat' (first | exact Sub.nil | refine Sub.cons rfl ?_ | refine Sub.consi rfl (by omega) ?_)) ?_ ?_ ?_
  · exact ⟨by omega, by omega, fun j h1 h2 => by omega⟩
  · exact fun w' c' => c'
  · rintro k ⟨hk0, hk1, hn⟩
    by_cases hin : k < xs.length
    · have hk2 : k - 1 < xs.length := by omega
      have ek : (k : Int) - 1 = ((k - 1 : Nat) : Int) := by omega
      repeat' (first
        | (show AT _ _ _ (wpList _ _ _ (_ :: _)); first
           | (show AT _ _ _ (wpList _ _ _ (⟨_, Op.move _, _, _, _, _⟩ :: _)); refine st_y (y_move rfl) rfl ?_)
           | (show AT _ _ _ (wpList _ _ _ (⟨_, Op.assign _, _, _, _, _⟩ :: _)); refine st_y (y_assign rfl) rfl ?_)
           | (show AT _ _ _ (wpList _ _ _ (⟨_, Op.load _ _, _, _, _, _⟩ :: _)); first | refine st_y (y_load tabs rfl rfl (hc_own 0 rfl hin)) rfl ?_ | refine st_y (y_load tabs rfl rfl (hc_own 0 rfl hk2)) rfl ?_ | refine st_y (y_load tabs rfl rfl (hc_rd (by assumption) (by omega))) rfl ?_)
           | (show AT _ _ _ (wpList _ _ _ (⟨_, Op.indexAddr _ _ _, _, _, _, _⟩ :: _)); first | refine st_y (y_ix1 tabs (j := k) rfl rfl rfl hs rfl hin) rfl ?_ | refine st_y (y_ix1 tabs (j := k - 1) rfl rfl (by rw [← ek]; rfl) hs rfl hk2) rfl ?_ | refine st_y (y_ix1 tabs rfl rfl rfl (by first | assumption | exact .mk) rfl (by omega)) rfl ?_ | refine st_y (y_ixi tabs rfl rfl rfl (by first | assumption | exact .mk) (by omega) (by omega)) rfl ?_ | refine st_y (y_ixa tabs rfl rfl rfl (by first | assumption | exact .mk) (by omega) (by omega)) rfl ?_)
           | (show AT _ _ _ (wpList _ _ _ (⟨_, Op.binOp _ _ _ _ _, _, _, _, _⟩ :: _)); first | refine st_y (y_add rfl rfl (by omega)) rfl ?_ | refine st_y (y_sub rfl rfl (by omega)) rfl ?_ | refine st_y (y_lss rfl rfl) rfl ?_ | refine st_y (y_eql rfl rfl) rfl ?_ | refine st_y (y_neq rfl rfl) rfl ?_ | refine st_y (y_neqb_same Try.underlying4 rfl rfl) rfl ?_)
           | (show AT _ _ _ (wpList _ _ _ (⟨_, Op.call _, _, _, _, _⟩ :: _)); refine st_y (y_len tabs rfl rfl) rfl ?_)
           | (show AT _ _ _ (wpList _ _ _ (⟨_, Op.slice _ _ _ _ _, _, _, _, _⟩ :: _)); refine st_y (y_slor tabs (lo := k) rfl rfl rfl hs rfl hin hc1) rfl ?_))
        | (show AT _ _ _ (wpList _ _ _ []); first | refine c_nil (x_then ?_) | refine c_nil ?_)
        | (show AT _ _ _ (Code.wp _ _ _); first | refine c_seq ?_ | refine c_region ?_ | refine c_skip (x_then ?_) | refine c_skip (x_blk ?_) | refine c_skip ?_ | refine c_block ?_ | refine c_ret ?_ | refine c_exit ?_ | refine c_draw (by kernel_rfl) (by kernel_rfl) (fun _ c => Hp.drew c) ?_ | refine c_true rfl ?_ | refine c_false rfl ?_ | refine c_ift rfl (by first | assumption | omega) ?_ | refine c_iff rfl (by first | assumption | exact not_not_intro (by assumption) | omega) ?_ | refine c_ifnd rfl (fun h => ?_) (fun h => ?_) | refine c_if rfl (fun h => ?_) (fun h => ?_) | refine c_ifn rfl (fun h => ?_) (fun h => ?_))
        | (show QT _ _ _ _ _ _ (_ :: _); first
           | (show QT _ _ _ _ _ _ (⟨_, Op.move _, _, _, _, _⟩ :: _); refine q_y (y_move rfl) rfl ?_)
           | (show QT _ _ _ _ _ _ (⟨_, Op.assign _, _, _, _, _⟩ :: _); refine q_y (y_assign rfl) rfl ?_)
           | (show QT _ _ _ _ _ _ (⟨_, Op.load _ _, _, _, _, _⟩ :: _); first | refine q_y (y_load tabs rfl rfl (hc_own 0 rfl hin)) rfl ?_ | refine q_y (y_load tabs rfl rfl (hc_own 0 rfl hk2)) rfl ?_ | refine q_y (y_load tabs rfl rfl (hc_rd (by assumption) (by omega))) rfl ?_)
           | (show QT _ _ _ _ _ _ (⟨_, Op.indexAddr _ _ _, _, _, _, _⟩ :: _); first | refine q_y (y_ix1 tabs (j := k) rfl rfl rfl hs rfl hin) rfl ?_ | refine q_y (y_ix1 tabs (j := k - 1) rfl rfl (by rw [← ek]; rfl) hs rfl hk2) rfl ?_ | refine q_y (y_ix1 tabs rfl rfl rfl (by first | assumption | exact .mk) rfl (by omega)) rfl ?_ | refine q_y (y_ixi tabs rfl rfl rfl (by first | assumption | exact .mk) (by omega) (by omega)) rfl ?_ | refine q_y (y_ixa tabs rfl rfl rfl (by first | assumption | exact .mk) (by omega) (by omega)) rfl ?_)
           | (show QT _ _ _ _ _ _ (⟨_, Op.binOp _ _ _ _ _, _, _, _, _⟩ :: _); first | refine q_y (y_add rfl rfl (by omega)) rfl ?_ | refine q_y (y_sub rfl rfl (by omega)) rfl ?_ | refine q_y (y_lss rfl rfl) rfl ?_ | refine q_y (y_eql rfl rfl) rfl ?_ | refine q_y (y_neq rfl rfl) rfl ?_ | refine q_y (y_neqb_same Try.underlying4 rfl rfl) rfl ?_)
           | (show QT _ _ _ _ _ _ (⟨_, Op.call _, _, _, _, _⟩ :: _); refine q_y (y_len tabs rfl rfl) rfl ?_)
           | (show QT _ _ _ _ _ _ (⟨_, Op.slice _ _ _ _ _, _, _, _, _⟩ :: _); refine q_y (y_slor tabs (lo := k) rfl rfl rfl hs rfl hin hc1) rfl ?_))
        | (show QT _ _ _ _ _ _ []; first | refine q_nil (x_then ?_) | refine q_nil ?_)
        | (show AT _ _ _ (Qk _ _ _); refine x_one ?_)
        | (show AT _ _ _ _; first | refine x_then ?_ | refine x_then_ret ?_ | refine x_blk_ret ?_ | refine x_then_exit ?_ | refine x_blk_exit rfl ?_ | refine x_blk_other rfl ?_ | refine x_blk ?_))
      · have heq := h
        refine c_loopH (α := Nat × Nat × List Int) [0, 4] (fun z => [(3, .int .i64 z.2.1), (5, .int .i64 z.1)]) (fun z => 1 ≤ z.1 ∧ z.1 ≤ xs.length - k ∧ k ≤ z.2.1 ∧ z.2.1 + 1 ≤ k + z.1 ∧ z.2.2.length = xs.length) (fun z => [.own (iT z.2.2) (.slice a xs.length c)]) (fun z => xs.length - z.1) (1, k, xs) rfl (by repeat' (first | exact Sub.nil | refine Sub.cons rfl ?_ | refine Sub.consi rfl (by omega) ?_)) ?_ ?_ ?_
        · exact ⟨by omega, by omega, by show k ≤ k; omega, by show k + 1 ≤ k + 1; omega, rfl⟩
        · exact fun w' c' => c'
        · rintro ⟨i, kk, ys⟩ ⟨hi1, hi2, hi3, hi4, hi5⟩
          simp only at hi1 hi2 hi3 hi4 hi5
          dsimp only
          by_cases hii : i < xs.length - k
          · have hi' : i - 1 < xs.length - k := by omega
            have ei : (i : Int) - 1 = ((i - 1 : Nat) : Int) := by omega
            have hkk : kk < xs.length := by omega
            have hcell : ∀ j, k + j < ys.length → ∀ w2, Hp M' w [.own (iT ys) (.slice a xs.length c)] w2 → w2.cell? ⟨ab a, ao a + k + j, none⟩ = some (iV (ys.getD (k + j) 0)) := fun j hj w2 c2 => by
              have := hc_own (M := M') (w0 := w) 0 (H := [.own (iT ys) (.slice a xs.length c)]) rfl (j := k + j) hj w2 c2
              rwa [← Nat.add_assoc] at this
            repeat' (first
              | (show AT _ _ _ (wpList _ _ _ (_ :: _)); first
                 | (show AT _ _ _ (wpList _ _ _ (⟨_, Op.move _, _, _, _, _⟩ :: _)); refine st_y (y_move rfl) rfl ?_)
                 | (show AT _ _ _ (wpList _ _ _ (⟨_, Op.assign _, _, _, _, _⟩ :: _)); refine st_y (y_assign rfl) rfl ?_)
                 | (show AT _ _ _ (wpList _ _ _ (⟨_, Op.load _ _, _, _, _, _⟩ :: _)); first | refine st_y (y_load tabs rfl rfl (hcell i (by omega))) rfl ?_ | refine st_y (y_load tabs rfl rfl (hcell (i - 1) (by omega))) rfl ?_ | refine st_y (y_load tabs rfl rfl (hc_rd (by assumption) (by omega))) rfl ?_)
                 | (show AT _ _ _ (wpList _ _ _ (⟨_, Op.indexAddr _ _ _, _, _, _, _⟩ :: _)); first | refine st_y (y_ixs tabs (j := i) rfl rfl rfl rfl hii) rfl ?_ | refine st_y (y_ixs tabs (j := i - 1) rfl rfl rfl (by rw [← ei]) hi') rfl ?_ | refine st_y (y_ix1 tabs (j := kk) rfl rfl rfl hs rfl hkk) rfl ?_ | refine st_y (y_ix1 tabs rfl rfl rfl (by first | assumption | exact .mk) rfl (by omega)) rfl ?_ | refine st_y (y_ixi tabs rfl rfl rfl (by first | assumption | exact .mk) (by omega) (by omega)) rfl ?_ | refine st_y (y_ixa tabs rfl rfl rfl (by first | assumption | exact .mk) (by omega) (by omega)) rfl ?_)
                 | (show AT _ _ _ (wpList _ _ _ (⟨_, Op.binOp _ _ _ _ _, _, _, _, _⟩ :: _)); first | refine st_y (y_add rfl rfl (by omega)) rfl ?_ | refine st_y (y_sub rfl rfl (by omega)) rfl ?_ | refine st_y (y_lss rfl rfl) rfl ?_ | refine st_y (y_eql rfl rfl) rfl ?_ | refine st_y (y_neq rfl rfl) rfl ?_ | refine st_y (y_neqb_same Try.underlying4 rfl rfl) rfl ?_)
                 | (show AT _ _ _ (wpList _ _ _ (⟨_, Op.call _, _, _, _, _⟩ :: _)); refine st_y (y_len tabs rfl rfl) rfl ?_)
                 | (show AT _ _ _ (wpList _ _ _ (⟨_, Op.store _ _ _, _, _, _, _⟩ :: _)); refine m_storeo 0 (j := kk) tabs rfl rfl rfl rfl (by rw [hi5]; omega) ?_))
              | (show AT _ _ _ (wpList _ _ _ []); first | refine c_nil (x_then ?_) | refine c_nil ?_)
              | (show AT _ _ _ (Code.wp _ _ _); first | refine c_seq ?_ | refine c_region ?_ | refine c_skip (x_then ?_) | refine c_skip (x_blk ?_) | refine c_skip ?_ | refine c_block ?_ | refine c_ret ?_ | refine c_exit ?_ | refine c_draw (by kernel_rfl) (by kernel_rfl) (fun _ c => Hp.drew c) ?_ | refine c_true rfl ?_ | refine c_false rfl ?_ | refine c_ift rfl (by first | assumption | omega) ?_ | refine c_iff rfl (by first | assumption | exact not_not_intro (by assumption) | omega) ?_ | refine c_ifnd rfl (fun h => ?_) (fun h => ?_) | refine c_if rfl (fun h => ?_) (fun h => ?_) | refine c_ifn rfl (fun h => ?_) (fun h => ?_))
              | (show QT _ _ _ _ _ _ (_ :: _); first
                 | (show QT _ _ _ _ _ _ (⟨_, Op.move _, _, _, _, _⟩ :: _); refine q_y (y_move rfl) rfl ?_)
                 | (show QT _ _ _ _ _ _ (⟨_, Op.assign _, _, _, _, _⟩ :: _); refine q_y (y_assign rfl) rfl ?_)
                 | (show QT _ _ _ _ _ _ (⟨_, Op.load _ _, _, _, _, _⟩ :: _); first | refine q_y (y_load tabs rfl rfl (hcell i (by omega))) rfl ?_ | refine q_y (y_load tabs rfl rfl (hcell (i - 1) (by omega))) rfl ?_ | refine q_y (y_load tabs rfl rfl (hc_rd (by assumption) (by omega))) rfl ?_)
                 | (show QT _ _ _ _ _ _ (⟨_, Op.indexAddr _ _ _, _, _, _, _⟩ :: _); first | refine q_y (y_ixs tabs (j := i) rfl rfl rfl rfl hii) rfl ?_ | refine q_y (y_ixs tabs (j := i - 1) rfl rfl rfl (by rw [← ei]) hi') rfl ?_ | refine q_y (y_ix1 tabs (j := kk) rfl rfl rfl hs rfl hkk) rfl ?_ | refine q_y (y_ix1 tabs rfl rfl rfl (by first | assumption | exact .mk) rfl (by omega)) rfl ?_ | refine q_y (y_ixi tabs rfl rfl rfl (by first | assumption | exact .mk) (by omega) (by omega)) rfl ?_ | refine q_y (y_ixa tabs rfl rfl rfl (by first | assumption | exact .mk) (by omega) (by omega)) rfl ?_)
                 | (show QT _ _ _ _ _ _ (⟨_, Op.binOp _ _ _ _ _, _, _, _, _⟩ :: _); first | refine q_y (y_add rfl rfl (by omega)) rfl ?_ | refine q_y (y_sub rfl rfl (by omega)) rfl ?_ | refine q_y (y_lss rfl rfl) rfl ?_ | refine q_y (y_eql rfl rfl) rfl ?_ | refine q_y (y_neq rfl rfl) rfl ?_ | refine q_y (y_neqb_same Try.underlying4 rfl rfl) rfl ?_)
                 | (show QT _ _ _ _ _ _ (⟨_, Op.call _, _, _, _, _⟩ :: _); refine q_y (y_len tabs rfl rfl) rfl ?_))
              | (show QT _ _ _ _ _ _ []; first | refine q_nil (x_then ?_) | refine q_nil ?_)
              | (show AT _ _ _ (Qk _ _ _); refine x_one ?_)
              | (show AT _ _ _ _; first | refine x_then ?_ | refine x_then_ret ?_ | refine x_blk_ret ?_ | refine x_then_exit ?_ | refine x_blk_exit rfl ?_ | refine x_blk_other rfl ?_ | refine x_blk ?_))
            · exact x_nx (i + 1, kk + 1, ys.set kk (ys.getD (k + i) 0)) (by repeat' (first | exact Sub.nil | refine Sub.cons rfl ?_ | refine Sub.consi rfl (by omega) ?_)) ⟨by simp, by simp; omega, by simp; omega, by simp; omega, by simp [hi5]⟩ (fun w' c' => c') (by simp; omega)
            · exact x_nx (i + 1, kk, ys) (by repeat' (first | exact Sub.nil | refine Sub.cons rfl ?_ | refine Sub.consi rfl (by omega) ?_)) ⟨by simp, by simp; omega, by simp; omega, by simp; omega, by simp [hi5]⟩ (fun w' c' => c') (by simp; omega)
          · have hkk : kk < xs.length := by omega
            repeat' (first
              | (show AT _ _ _ (wpList _ _ _ (_ :: _)); first
                 | (show AT _ _ _ (wpList _ _ _ (⟨_, Op.move _, _, _, _, _⟩ :: _)); refine st_y (y_move rfl) rfl ?_)
                 | (show AT _ _ _ (wpList _ _ _ (⟨_, Op.assign _, _, _, _, _⟩ :: _)); refine st_y (y_assign rfl) rfl ?_)
                 | (show AT _ _ _ (wpList _ _ _ (⟨_, Op.load _ _, _, _, _, _⟩ :: _)); refine st_y (y_load tabs rfl rfl (hc_rd (by assumption) (by omega))) rfl ?_)
                 | (show AT _ _ _ (wpList _ _ _ (⟨_, Op.indexAddr _ _ _, _, _, _, _⟩ :: _)); first | refine st_y (y_ix1 tabs rfl rfl rfl (by first | assumption | exact .mk) rfl (by omega)) rfl ?_ | refine st_y (y_ixi tabs rfl rfl rfl (by first | assumption | exact .mk) (by omega) (by omega)) rfl ?_ | refine st_y (y_ixa tabs rfl rfl rfl (by first | assumption | exact .mk) (by omega) (by omega)) rfl ?_)
                 | (show AT _ _ _ (wpList _ _ _ (⟨_, Op.binOp _ _ _ _ _, _, _, _, _⟩ :: _)); first | refine st_y (y_add rfl rfl (by omega)) rfl ?_ | refine st_y (y_sub rfl rfl (by omega)) rfl ?_ | refine st_y (y_lss rfl rfl) rfl ?_ | refine st_y (y_eql rfl rfl) rfl ?_ | refine st_y (y_neq rfl rfl) rfl ?_ | refine st_y (y_neqb_same Try.underlying4 rfl rfl) rfl ?_)
                 | (show AT _ _ _ (wpList _ _ _ (⟨_, Op.call _, _, _, _, _⟩ :: _)); first | refine m_clear 0 tabs (k := kk) rfl rfl (by omega) rfl (by omega) (fun ys' hys' => ?_) | refine st_y (y_len tabs rfl rfl) rfl ?_)
                 | (show AT _ _ _ (wpList _ _ _ (⟨_, Op.slice _ _ _ _ _, _, _, _, _⟩ :: _)); first | refine st_y (y_slor tabs (lo := kk) rfl rfl rfl hs rfl hkk hc1) rfl ?_ | refine st_y (y_slh tabs (hi := kk) rfl rfl rfl rfl (by omega)) rfl ?_))
              | (show AT _ _ _ (wpList _ _ _ []); first | refine c_nil (x_then ?_) | refine c_nil ?_)
              | (show AT _ _ _ (Code.wp _ _ _); first | refine c_seq ?_ | refine c_region ?_ | refine c_skip (x_then ?_) | refine c_skip (x_blk ?_) | refine c_skip ?_ | refine c_block ?_ | refine c_ret ?_ | refine c_exit ?_ | refine c_draw (by kernel_rfl) (by kernel_rfl) (fun _ c => Hp.drew c) ?_ | refine c_true rfl ?_ | refine c_false rfl ?_ | refine c_ift rfl (by first | assumption | omega) ?_ | refine c_iff rfl (by first | assumption | exact not_not_intro (by assumption) | omega) ?_ | refine c_ifnd rfl (fun h => ?_) (fun h => ?_) | refine c_if rfl (fun h => ?_) (fun h => ?_) | refine c_ifn rfl (fun h => ?_) (fun h => ?_))
              | (show QT _ _ _ _ _ _ (_ :: _); first
                 | (show QT _ _ _ _ _ _ (⟨_, Op.move _, _, _, _, _⟩ :: _); refine q_y (y_move rfl) rfl ?_)
                 | (show QT _ _ _ _ _ _ (⟨_, Op.assign _, _, _, _, _⟩ :: _); refine q_y (y_assign rfl) rfl ?_)
                 | (show QT _ _ _ _ _ _ (⟨_, Op.load _ _, _, _, _, _⟩ :: _); refine q_y (y_load tabs rfl rfl (hc_rd (by assumption) (by omega))) rfl ?_)
                 | (show QT _ _ _ _ _ _ (⟨_, Op.indexAddr _ _ _, _, _, _, _⟩ :: _); first | refine q_y (y_ix1 tabs rfl rfl rfl (by first | assumption | exact .mk) rfl (by omega)) rfl ?_ | refine q_y (y_ixi tabs rfl rfl rfl (by first | assumption | exact .mk) (by omega) (by omega)) rfl ?_ | refine q_y (y_ixa tabs rfl rfl rfl (by first | assumption | exact .mk) (by omega) (by omega)) rfl ?_)
                 | (show QT _ _ _ _ _ _ (⟨_, Op.binOp _ _ _ _ _, _, _, _, _⟩ :: _); first | refine q_y (y_add rfl rfl (by omega)) rfl ?_ | refine q_y (y_sub rfl rfl (by omega)) rfl ?_ | refine q_y (y_lss rfl rfl) rfl ?_ | refine q_y (y_eql rfl rfl) rfl ?_ | refine q_y (y_neq rfl rfl) rfl ?_ | refine q_y (y_neqb_same Try.underlying4 rfl rfl) rfl ?_)
                 | (show QT _ _ _ _ _ _ (⟨_, Op.call _, _, _, _, _⟩ :: _); refine q_y (y_len tabs rfl rfl) rfl ?_)
                 | (show QT _ _ _ _ _ _ (⟨_, Op.slice _ _ _ _ _, _, _, _, _⟩ :: _); first | refine q_y (y_slor tabs (lo := kk) rfl rfl rfl hs rfl hkk hc1) rfl ?_ | refine q_y (y_slh tabs (hi := kk) rfl rfl rfl rfl (by omega)) rfl ?_))
              | (show QT _ _ _ _ _ _ []; first | refine q_nil (x_then ?_) | refine q_nil ?_)
              | (show AT _ _ _ (Qk _ _ _); refine x_one ?_)
              | (show AT _ _ _ _; first | refine x_then ?_ | refine x_then_ret ?_ | refine x_blk_ret ?_ | refine x_then_exit ?_ | refine x_blk_exit rfl ?_ | refine x_blk_other rfl ?_ | refine x_blk ?_))
            refine x_ret1 Try.results74 (res_tmp rfl) (fun w' c' => ⟨_, _, rfl, ⟨_, _, _, ys', rfl, rfl, ?_⟩, c'⟩)
            exact ⟨fun h => by omega, fun h => absurd heq (h k hin (by omega))⟩
      · have heq := h
        refine x_nx (k + 1) (by repeat' (first | exact Sub.nil | refine Sub.cons rfl ?_ | refine Sub.consi rfl (by omega) ?_)) ⟨by omega, by omega, fun j h1 h2 => ?_⟩ (fun w' c' => c') (by omega)
        by_cases hj : j = k
        · subst hj; exact heq
        · exact hn j (by omega) h2
    · repeat' (first
        | (show AT _ _ _ (wpList _ _ _ (_ :: _)); first
           | (show AT _ _ _ (wpList _ _ _ (⟨_, Op.move _, _, _, _, _⟩ :: _)); refine st_y (y_move rfl) rfl ?_)
           | (show AT _ _ _ (wpList _ _ _ (⟨_, Op.assign _, _, _, _, _⟩ :: _)); refine st_y (y_assign rfl) rfl ?_)
           | (show AT _ _ _ (wpList _ _ _ (⟨_, Op.load _ _, _, _, _, _⟩ :: _)); refine st_y (y_load tabs rfl rfl (hc_rd (by assumption) (by omega))) rfl ?_)
           | (show AT _ _ _ (wpList _ _ _ (⟨_, Op.indexAddr _ _ _, _, _, _, _⟩ :: _)); first | refine st_y (y_ix1 tabs rfl rfl rfl (by first | assumption | exact .mk) rfl (by omega)) rfl ?_ | refine st_y (y_ixi tabs rfl rfl rfl (by first | assumption | exact .mk) (by omega) (by omega)) rfl ?_ | refine st_y (y_ixa tabs rfl rfl rfl (by first | assumption | exact .mk) (by omega) (by omega)) rfl ?_)
           | (show AT _ _ _ (wpList _ _ _ (⟨_, Op.binOp _ _ _ _ _, _, _, _, _⟩ :: _)); first | refine st_y (y_add rfl rfl (by omega)) rfl ?_ | refine st_y (y_sub rfl rfl (by omega)) rfl ?_ | refine st_y (y_lss rfl rfl) rfl ?_ | refine st_y (y_eql rfl rfl) rfl ?_ | refine st_y (y_neq rfl rfl) rfl ?_ | refine st_y (y_neqb_same Try.underlying4 rfl rfl) rfl ?_)
           | (show AT _ _ _ (wpList _ _ _ (⟨_, Op.call _, _, _, _, _⟩ :: _)); refine st_y (y_len tabs rfl rfl) rfl ?_))
        | (show AT _ _ _ (wpList _ _ _ []); first | refine c_nil (x_then ?_) | refine c_nil ?_)
        | (show AT _ _ _ (Code.wp _ _ _); first | refine c_seq ?_ | refine c_region ?_ | refine c_skip (x_then ?_) | refine c_skip (x_blk ?_) | refine c_skip ?_ | refine c_block ?_ | refine c_ret ?_ | refine c_exit ?_ | refine c_draw (by kernel_rfl) (by kernel_rfl) (fun _ c => Hp.drew c) ?_ | refine c_true rfl ?_ | refine c_false rfl ?_ | refine c_ift rfl (by first | assumption | omega) ?_ | refine c_iff rfl (by first | assumption | exact not_not_intro (by assumption) | omega) ?_ | refine c_ifnd rfl (fun h => ?_) (fun h => ?_) | refine c_if rfl (fun h => ?_) (fun h => ?_) | refine c_ifn rfl (fun h => ?_) (fun h => ?_))
        | (show QT _ _ _ _ _ _ (_ :: _); first
           | (show QT _ _ _ _ _ _ (⟨_, Op.move _, _, _, _, _⟩ :: _); refine q_y (y_move rfl) rfl ?_)
           | (show QT _ _ _ _ _ _ (⟨_, Op.assign _, _, _, _, _⟩ :: _); refine q_y (y_assign rfl) rfl ?_)
           | (show QT _ _ _ _ _ _ (⟨_, Op.load _ _, _, _, _, _⟩ :: _); refine q_y (y_load tabs rfl rfl (hc_rd (by assumption) (by omega))) rfl ?_)
           | (show QT _ _ _ _ _ _ (⟨_, Op.indexAddr _ _ _, _, _, _, _⟩ :: _); first | refine q_y (y_ix1 tabs rfl rfl rfl (by first | assumption | exact .mk) rfl (by omega)) rfl ?_ | refine q_y (y_ixi tabs rfl rfl rfl (by first | assumption | exact .mk) (by omega) (by omega)) rfl ?_ | refine q_y (y_ixa tabs rfl rfl rfl (by first | assumption | exact .mk) (by omega) (by omega)) rfl ?_)
           | (show QT _ _ _ _ _ _ (⟨_, Op.binOp _ _ _ _ _, _, _, _, _⟩ :: _); first | refine q_y (y_add rfl rfl (by omega)) rfl ?_ | refine q_y (y_sub rfl rfl (by omega)) rfl ?_ | refine q_y (y_lss rfl rfl) rfl ?_ | refine q_y (y_eql rfl rfl) rfl ?_ | refine q_y (y_neq rfl rfl) rfl ?_ | refine q_y (y_neqb_same Try.underlying4 rfl rfl) rfl ?_)
           | (show QT _ _ _ _ _ _ (⟨_, Op.call _, _, _, _, _⟩ :: _); refine q_y (y_len tabs rfl rfl) rfl ?_))
        | (show QT _ _ _ _ _ _ []; first | refine q_nil (x_then ?_) | refine q_nil ?_)
        | (show AT _ _ _ (Qk _ _ _); refine x_one ?_)
        | (show AT _ _ _ _; first | refine x_then ?_ | refine x_then_ret ?_ | refine x_blk_ret ?_ | refine x_then_exit ?_ | refine x_blk_exit rfl ?_ | refine x_blk_other rfl ?_ | refine x_blk ?_))
      refine x_ret1 Try.results74 (res_tmp rfl) (fun w' c' => ⟨_, _, rfl, ⟨_, _, _, xs, rfl, rfl, ?_⟩, c'⟩)
      exact ⟨fun _ j h1 h2 => hn j (by omega) h2, fun _ => rfl⟩
end Go.Proofs.Ytnmhdmkfhacdbaa
