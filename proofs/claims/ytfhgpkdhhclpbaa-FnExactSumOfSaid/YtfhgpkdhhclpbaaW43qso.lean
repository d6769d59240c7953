/- The law FnExactSumOf returns true for all arguments, and its arguments read behind the call as they read before; there are no conditions. -/
import Derived.OpenShut
import Derived.ShutString
import Derived.Below
import Derived.Test.YtfhgpkdhhclpbaaEqmqso
import Derived.Test.YtfhgpkdhhclpbaaFinqso
import Derived.Test.YtfhgpkdhhclpbaaLBqso
import Derived.Test.YtfhgpkdhhclpbaaMasqso
import Derived.Test.YtfhgpkdhhclpbaaMrkqso
import Derived.Test.YtfhgpkdhhclpbaaOpPqso
import Derived.Test.YtfhgpkdhhclpbaaOpRqso
import Derived.Test.YtfhgpkdhhclpbaaOpnqso
import Derived.Test.YtfhgpkdhhclpbaaRepqso
import Derived.Test.YtfhgpkdhhclpbaaRplqso
import Derived.Test.YtfhgpkdhhclpbaaSmsqso
namespace Go.Proofs.Ytfhgpkdhhclpbaa.wFnExactSumOf
open Go.Lg Go.Proofs Go.RowKit Go.ChangeShapes Go.WideShapes Go.ChangeAt
attribute [local irreducible] Code.wp wpList bodyPost Exit.then Exit.inBlock Hp Again Calls Y AT ResV QT
set_option maxRecDepth 20000
set_option maxHeartbeats 4000000
set_option maxRecDepth 20000
set_option maxHeartbeats 40000000
set_option linter.unusedVariables false

theorem rep_sz {r : Rp} (hR : RepP r) : r.q.2.1.length ≤ 64 ∧ r.q.2.2.length ≤ 64 ∧ r.d.length ≤ 64 ∧ szMs r.m ≤ 1000 := by
  have h1 := hR.2.1.1.2.1
  have h2 := hR.2.1.1.2.2.1
  have h3 := (RepP.dd hR).2
  have h4 := hR.2.2.1
  have key : ∀ k, k ≤ r.m.length → szMs (r.m.take k) ≤ 65 * k := fun k => by
    induction k with
    | zero => intro _; simp [szMs]
    | succ k ih =>
      intro hk
      have ih := ih (by omega)
      obtain ⟨m, hm⟩ : ∃ m, r.m[k]? = some m := ⟨_, List.getElem?_eq_getElem (by omega)⟩
      have hl := (hR.2.2.2 k (by omega)).1.2.2.2.2.1
      have e : r.m.getD k mat0 = m := by rw [List.getD, hm]; rfl
      rw [e] at hl
      rw [List.take_add_one, hm]
      simp only [szMs, Option.toList_some, List.map_append, List.length_append, List.sum_append, List.map_cons, List.map_nil, List.sum_cons, List.sum_nil, List.length_cons, List.length_nil] at ih ⊢
      omega
  have h5 := key r.m.length (Nat.le_refl _)
  rw [List.take_length] at h5
  exact ⟨by omega, by omega, by omega, by omega⟩
theorem soN_rep {l : List Rp} (h : SoP l) : ∀ i, i ≤ l.length - 1 → RepP (soN l i)
  | 0, _ => h.2.1
  | i + 1, hi => (h.2.2 i (by omega)).2
theorem soR_sz (l : List Rp) : (soR l).q.2.1.length ≤ 64 ∧ (soR l).q.2.2.length ≤ 64 ∧ (soR l).d.length ≤ 64 ∧ szMs (soR l).m ≤ 1000 := by
  unfold soR
  split
  · rename_i h
    exact rep_sz (soN_rep h _ (Nat.le_refl _))
  · simp [repZ, szMs]
theorem law_ok (w : World) {e0 : Nat} {m0 : List Rp} {u0 : Value} (h0 : Rd w (rpsT e0 m0) u0) (g0 : ∀ r ∈ m0, RngRp r) :
    Does Try.prog 12 [u0] w (fun r H => r = .bool true ∧ H = []) := by
  by_cases b0 : ((szL szR m0 : Nat) : Int) ≤ 1048576
  · have na0_0 : ∀ e, 0 ≤ nT (rpsT e m0) ∧ nT (rpsT e m0) ≤ 4194304 := fun e => ⟨nT_pos _, by have := nT_rps e m0; omega⟩
    have na0_1 := na0_0 35
    obtain ⟨z0, z1, z2, z3⟩ := soR_sz m0
    have f0 : 0 ≤ nT (iT (soR m0).q.2.1) ∧ nT (iT (soR m0).q.2.1) ≤ 64 := by rw [nT_ints]; omega
    have f1 : 0 ≤ nT (iT (soR m0).q.2.2) ∧ nT (iT (soR m0).q.2.2) ≤ 64 := by rw [nT_ints]; omega
    have f2 : 0 ≤ nT (iT (soR m0).d) ∧ nT (iT (soR m0).d) ≤ 64 := by rw [nT_ints]; omega
    have f3 : ∀ e, 0 ≤ nT (matsT e (soR m0).m) ∧ nT (matsT e (soR m0).m) ≤ 4096 := fun e => ⟨nT_pos _, by have := nT_mats e (soR m0).m; omega⟩
    have f4 := f3 81
    refine fn_enter Try.func12 rfl Try.ntmps12 rfl ?_
    repeat' (first
      | (show AT _ _ _ (wpList _ _ _ (_ :: _)); first
         | (show AT _ _ _ (wpList _ _ _ (⟨_, Op.move _, _, _, _, _⟩ :: _)); refine st_y (y_move rfl) rfl ?_)
         | (show AT _ _ _ (wpList _ _ _ (⟨_, Op.assign _, _, _, _, _⟩ :: _)); refine st_y (y_assign rfl) rfl ?_)
         | (show AT _ _ _ (wpList _ _ _ (⟨_, Op.load _ _, _, _, _, _⟩ :: _)); first | refine st_y (y_loadb 0 tabs rfl rfl rfl rfl) rfl ?_ | refine st_y (y_loadb 2 tabs rfl rfl rfl rfl) rfl ?_ | refine st_y (y_loadb 6 tabs rfl rfl rfl rfl) rfl ?_ | refine st_y (y_loadb 7 tabs rfl rfl rfl rfl) rfl ?_ | refine st_y (y_loadb 12 tabs rfl rfl rfl rfl) rfl ?_ | refine st_y (y_loadb 13 tabs rfl rfl rfl rfl) rfl ?_)
         | (show AT _ _ _ (wpList _ _ _ (⟨_, Op.binOp _ _ _ _ _, _, _, _, _⟩ :: _)); first | refine st_y (y_lss rfl rfl) rfl ?_ | refine st_y (y_neq rfl rfl) rfl ?_ | refine st_y (y_neqb_same Try.underlying4 rfl rfl) rfl ?_)
         | (show AT _ _ _ (wpList _ _ _ (⟨_, Op.unOp _ _ _, _, _, _, _⟩ :: _)); refine st_y (y_not rfl) rfl ?_)
         | (show AT _ _ _ (wpList _ _ _ (⟨_, Op.call _, _, _, _, _⟩ :: _)); first | (refine m_call (ent_of Try.func52 (by kernel_rfl) rfl) rfl rfl (fun w c => spec_SumOf_ok (l := m0) (by first | exact c.own_rd (i := 0) rfl | exact c.own_rd (i := 1) rfl | exact c.own_rd (i := 2) rfl | exact c.own_rd (i := 3) rfl | exact c.own_rd (i := 4) rfl | exact c.own_rd (i := 5) rfl | exact c.own_rd (i := 6) rfl | exact c.own_rd (i := 7) rfl | exact c.own_rd (i := 8) rfl | exact c.own_rd (i := 9) rfl | exact c.own_rd (i := 10) rfl | exact c.own_rd (i := 11) rfl | exact c.own_rd (i := 12) rfl | exact c.own_rd (i := 13) rfl | exact c.own_rd (i := 14) rfl | exact c.own_rd (i := 15) rfl | exact c.own_rd (i := 16) rfl | exact c.own_rd (i := 17) rfl | exact c.own_rd (i := 18) rfl | exact c.own_rd (i := 19) rfl | exact c.own_rd (i := 20) rfl | exact c.own_rd (i := 21) rfl | exact c.own_rd (i := 22) rfl | exact c.own_rd (i := 23) rfl | exact c.own_rd (i := 24) rfl | exact c.own_rd (i := 25) rfl)) ?_; rintro v H' ⟨a5, c5, a6, c6, a7, c7, a8, c8, rfl, hs5, hs6, hs7, hs8, rfl⟩) | (refine m_call (ent_of Try.func54 (by kernel_rfl) rfl) rfl rfl (fun w c => impl_SumOf_ok (l := m0) (by first | exact c.own_rd (i := 0) rfl | exact c.own_rd (i := 1) rfl | exact c.own_rd (i := 2) rfl | exact c.own_rd (i := 3) rfl | exact c.own_rd (i := 4) rfl | exact c.own_rd (i := 5) rfl | exact c.own_rd (i := 6) rfl | exact c.own_rd (i := 7) rfl | exact c.own_rd (i := 8) rfl | exact c.own_rd (i := 9) rfl | exact c.own_rd (i := 10) rfl | exact c.own_rd (i := 11) rfl | exact c.own_rd (i := 12) rfl | exact c.own_rd (i := 13) rfl | exact c.own_rd (i := 14) rfl | exact c.own_rd (i := 15) rfl | exact c.own_rd (i := 16) rfl | exact c.own_rd (i := 17) rfl | exact c.own_rd (i := 18) rfl | exact c.own_rd (i := 19) rfl | exact c.own_rd (i := 20) rfl | exact c.own_rd (i := 21) rfl | exact c.own_rd (i := 22) rfl | exact c.own_rd (i := 23) rfl | exact c.own_rd (i := 24) rfl | exact c.own_rd (i := 25) rfl)) ?_; rintro v H' ⟨a5, c5, a6, c6, a7, c7, a8, c8, rfl, hs5, hs6, hs7, hs8, rfl⟩) | (refine m_call (ent_of Try.func51 (by kernel_rfl) rfl) rfl rfl (fun w c => szRps_fit (c.rd h0) (by omega) (by omega)) ?_; rintro v H' ⟨rfl, rfl⟩) | (refine m_call (ent_of Try.func53 (by kernel_rfl) rfl) rfl rfl (fun w c => toRps_ok (c.rd h0) (by omega)) ?_; rintro v H' ⟨a4, c4, rfl, hs4, rfl⟩) | (refine m_callLs (ent_of Try.func22 (by kernel_rfl) rfl) rfl rfl (fun w c => by first | exact c.mid 0 4 | exact c.mid 1 4 | exact c.mid 2 4 | exact c.mid 3 4 | exact c.mid 4 4 | exact c.mid 5 4 | exact c.mid 6 4 | exact c.mid 7 4 | exact c.mid 8 4 | exact c.mid 9 4 | exact c.mid 10 4 | exact c.mid 11 4 | exact c.mid 12 4 | exact c.mid 13 4 | exact c.mid 14 4 | exact c.mid 15 4 | exact c.mid 16 4 | exact c.mid 17 4 | exact c.mid 18 4 | exact c.mid 19 4 | exact c.mid 20 4 | exact c.mid 21 4 | exact c.mid 22 4 | exact c.mid 23 4 | exact c.mid 24 4 | exact c.mid 25 4) (fun w M' hl => markRep_ok hl (by omega) (by omega)) ?_; rintro v H' ⟨rfl, rfl⟩) | (refine m_call (ent_of Try.func27 (by kernel_rfl) rfl) rfl rfl (fun w c => heldRep_ok (by first | exact c.own_rd (i := 0) rfl | exact c.own_rd (i := 1) rfl | exact c.own_rd (i := 2) rfl | exact c.own_rd (i := 3) rfl | exact c.own_rd (i := 4) rfl | exact c.own_rd (i := 5) rfl | exact c.own_rd (i := 6) rfl | exact c.own_rd (i := 7) rfl | exact c.own_rd (i := 8) rfl | exact c.own_rd (i := 9) rfl | exact c.own_rd (i := 10) rfl | exact c.own_rd (i := 11) rfl | exact c.own_rd (i := 12) rfl | exact c.own_rd (i := 13) rfl | exact c.own_rd (i := 14) rfl | exact c.own_rd (i := 15) rfl | exact c.own_rd (i := 16) rfl | exact c.own_rd (i := 17) rfl | exact c.own_rd (i := 18) rfl | exact c.own_rd (i := 19) rfl | exact c.own_rd (i := 20) rfl | exact c.own_rd (i := 21) rfl | exact c.own_rd (i := 22) rfl | exact c.own_rd (i := 23) rfl | exact c.own_rd (i := 24) rfl | exact c.own_rd (i := 25) rfl) (by first | exact c.own_rd (i := 0) rfl | exact c.own_rd (i := 1) rfl | exact c.own_rd (i := 2) rfl | exact c.own_rd (i := 3) rfl | exact c.own_rd (i := 4) rfl | exact c.own_rd (i := 5) rfl | exact c.own_rd (i := 6) rfl | exact c.own_rd (i := 7) rfl | exact c.own_rd (i := 8) rfl | exact c.own_rd (i := 9) rfl | exact c.own_rd (i := 10) rfl | exact c.own_rd (i := 11) rfl | exact c.own_rd (i := 12) rfl | exact c.own_rd (i := 13) rfl | exact c.own_rd (i := 14) rfl | exact c.own_rd (i := 15) rfl | exact c.own_rd (i := 16) rfl | exact c.own_rd (i := 17) rfl | exact c.own_rd (i := 18) rfl | exact c.own_rd (i := 19) rfl | exact c.own_rd (i := 20) rfl | exact c.own_rd (i := 21) rfl | exact c.own_rd (i := 22) rfl | exact c.own_rd (i := 23) rfl | exact c.own_rd (i := 24) rfl | exact c.own_rd (i := 25) rfl) (by first | exact c.own_rd (i := 0) rfl | exact c.own_rd (i := 1) rfl | exact c.own_rd (i := 2) rfl | exact c.own_rd (i := 3) rfl | exact c.own_rd (i := 4) rfl | exact c.own_rd (i := 5) rfl | exact c.own_rd (i := 6) rfl | exact c.own_rd (i := 7) rfl | exact c.own_rd (i := 8) rfl | exact c.own_rd (i := 9) rfl | exact c.own_rd (i := 10) rfl | exact c.own_rd (i := 11) rfl | exact c.own_rd (i := 12) rfl | exact c.own_rd (i := 13) rfl | exact c.own_rd (i := 14) rfl | exact c.own_rd (i := 15) rfl | exact c.own_rd (i := 16) rfl | exact c.own_rd (i := 17) rfl | exact c.own_rd (i := 18) rfl | exact c.own_rd (i := 19) rfl | exact c.own_rd (i := 20) rfl | exact c.own_rd (i := 21) rfl | exact c.own_rd (i := 22) rfl | exact c.own_rd (i := 23) rfl | exact c.own_rd (i := 24) rfl | exact c.own_rd (i := 25) rfl) (by first | exact c.own_rd (i := 0) rfl | exact c.own_rd (i := 1) rfl | exact c.own_rd (i := 2) rfl | exact c.own_rd (i := 3) rfl | exact c.own_rd (i := 4) rfl | exact c.own_rd (i := 5) rfl | exact c.own_rd (i := 6) rfl | exact c.own_rd (i := 7) rfl | exact c.own_rd (i := 8) rfl | exact c.own_rd (i := 9) rfl | exact c.own_rd (i := 10) rfl | exact c.own_rd (i := 11) rfl | exact c.own_rd (i := 12) rfl | exact c.own_rd (i := 13) rfl | exact c.own_rd (i := 14) rfl | exact c.own_rd (i := 15) rfl | exact c.own_rd (i := 16) rfl | exact c.own_rd (i := 17) rfl | exact c.own_rd (i := 18) rfl | exact c.own_rd (i := 19) rfl | exact c.own_rd (i := 20) rfl | exact c.own_rd (i := 21) rfl | exact c.own_rd (i := 22) rfl | exact c.own_rd (i := 23) rfl | exact c.own_rd (i := 24) rfl | exact c.own_rd (i := 25) rfl) (by omega) (by omega)) ?_; rintro v H' ⟨rfl, rfl⟩) | (refine m_call (ent_of Try.func21 (by kernel_rfl) rfl) rfl rfl (fun w c => eqRep_same (by first | exact c.own_rd (i := 0) rfl | exact c.own_rd (i := 1) rfl | exact c.own_rd (i := 2) rfl | exact c.own_rd (i := 3) rfl | exact c.own_rd (i := 4) rfl | exact c.own_rd (i := 5) rfl | exact c.own_rd (i := 6) rfl | exact c.own_rd (i := 7) rfl | exact c.own_rd (i := 8) rfl | exact c.own_rd (i := 9) rfl | exact c.own_rd (i := 10) rfl | exact c.own_rd (i := 11) rfl | exact c.own_rd (i := 12) rfl | exact c.own_rd (i := 13) rfl | exact c.own_rd (i := 14) rfl | exact c.own_rd (i := 15) rfl | exact c.own_rd (i := 16) rfl | exact c.own_rd (i := 17) rfl | exact c.own_rd (i := 18) rfl | exact c.own_rd (i := 19) rfl | exact c.own_rd (i := 20) rfl | exact c.own_rd (i := 21) rfl | exact c.own_rd (i := 22) rfl | exact c.own_rd (i := 23) rfl | exact c.own_rd (i := 24) rfl | exact c.own_rd (i := 25) rfl) (by first | exact c.own_rd (i := 0) rfl | exact c.own_rd (i := 1) rfl | exact c.own_rd (i := 2) rfl | exact c.own_rd (i := 3) rfl | exact c.own_rd (i := 4) rfl | exact c.own_rd (i := 5) rfl | exact c.own_rd (i := 6) rfl | exact c.own_rd (i := 7) rfl | exact c.own_rd (i := 8) rfl | exact c.own_rd (i := 9) rfl | exact c.own_rd (i := 10) rfl | exact c.own_rd (i := 11) rfl | exact c.own_rd (i := 12) rfl | exact c.own_rd (i := 13) rfl | exact c.own_rd (i := 14) rfl | exact c.own_rd (i := 15) rfl | exact c.own_rd (i := 16) rfl | exact c.own_rd (i := 17) rfl | exact c.own_rd (i := 18) rfl | exact c.own_rd (i := 19) rfl | exact c.own_rd (i := 20) rfl | exact c.own_rd (i := 21) rfl | exact c.own_rd (i := 22) rfl | exact c.own_rd (i := 23) rfl | exact c.own_rd (i := 24) rfl | exact c.own_rd (i := 25) rfl) (by first | exact c.own_rd (i := 0) rfl | exact c.own_rd (i := 1) rfl | exact c.own_rd (i := 2) rfl | exact c.own_rd (i := 3) rfl | exact c.own_rd (i := 4) rfl | exact c.own_rd (i := 5) rfl | exact c.own_rd (i := 6) rfl | exact c.own_rd (i := 7) rfl | exact c.own_rd (i := 8) rfl | exact c.own_rd (i := 9) rfl | exact c.own_rd (i := 10) rfl | exact c.own_rd (i := 11) rfl | exact c.own_rd (i := 12) rfl | exact c.own_rd (i := 13) rfl | exact c.own_rd (i := 14) rfl | exact c.own_rd (i := 15) rfl | exact c.own_rd (i := 16) rfl | exact c.own_rd (i := 17) rfl | exact c.own_rd (i := 18) rfl | exact c.own_rd (i := 19) rfl | exact c.own_rd (i := 20) rfl | exact c.own_rd (i := 21) rfl | exact c.own_rd (i := 22) rfl | exact c.own_rd (i := 23) rfl | exact c.own_rd (i := 24) rfl | exact c.own_rd (i := 25) rfl) (by first | exact c.own_rd (i := 0) rfl | exact c.own_rd (i := 1) rfl | exact c.own_rd (i := 2) rfl | exact c.own_rd (i := 3) rfl | exact c.own_rd (i := 4) rfl | exact c.own_rd (i := 5) rfl | exact c.own_rd (i := 6) rfl | exact c.own_rd (i := 7) rfl | exact c.own_rd (i := 8) rfl | exact c.own_rd (i := 9) rfl | exact c.own_rd (i := 10) rfl | exact c.own_rd (i := 11) rfl | exact c.own_rd (i := 12) rfl | exact c.own_rd (i := 13) rfl | exact c.own_rd (i := 14) rfl | exact c.own_rd (i := 15) rfl | exact c.own_rd (i := 16) rfl | exact c.own_rd (i := 17) rfl | exact c.own_rd (i := 18) rfl | exact c.own_rd (i := 19) rfl | exact c.own_rd (i := 20) rfl | exact c.own_rd (i := 21) rfl | exact c.own_rd (i := 22) rfl | exact c.own_rd (i := 23) rfl | exact c.own_rd (i := 24) rfl | exact c.own_rd (i := 25) rfl) (by first | exact c.own_rd (i := 0) rfl | exact c.own_rd (i := 1) rfl | exact c.own_rd (i := 2) rfl | exact c.own_rd (i := 3) rfl | exact c.own_rd (i := 4) rfl | exact c.own_rd (i := 5) rfl | exact c.own_rd (i := 6) rfl | exact c.own_rd (i := 7) rfl | exact c.own_rd (i := 8) rfl | exact c.own_rd (i := 9) rfl | exact c.own_rd (i := 10) rfl | exact c.own_rd (i := 11) rfl | exact c.own_rd (i := 12) rfl | exact c.own_rd (i := 13) rfl | exact c.own_rd (i := 14) rfl | exact c.own_rd (i := 15) rfl | exact c.own_rd (i := 16) rfl | exact c.own_rd (i := 17) rfl | exact c.own_rd (i := 18) rfl | exact c.own_rd (i := 19) rfl | exact c.own_rd (i := 20) rfl | exact c.own_rd (i := 21) rfl | exact c.own_rd (i := 22) rfl | exact c.own_rd (i := 23) rfl | exact c.own_rd (i := 24) rfl | exact c.own_rd (i := 25) rfl) (by first | exact c.own_rd (i := 0) rfl | exact c.own_rd (i := 1) rfl | exact c.own_rd (i := 2) rfl | exact c.own_rd (i := 3) rfl | exact c.own_rd (i := 4) rfl | exact c.own_rd (i := 5) rfl | exact c.own_rd (i := 6) rfl | exact c.own_rd (i := 7) rfl | exact c.own_rd (i := 8) rfl | exact c.own_rd (i := 9) rfl | exact c.own_rd (i := 10) rfl | exact c.own_rd (i := 11) rfl | exact c.own_rd (i := 12) rfl | exact c.own_rd (i := 13) rfl | exact c.own_rd (i := 14) rfl | exact c.own_rd (i := 15) rfl | exact c.own_rd (i := 16) rfl | exact c.own_rd (i := 17) rfl | exact c.own_rd (i := 18) rfl | exact c.own_rd (i := 19) rfl | exact c.own_rd (i := 20) rfl | exact c.own_rd (i := 21) rfl | exact c.own_rd (i := 22) rfl | exact c.own_rd (i := 23) rfl | exact c.own_rd (i := 24) rfl | exact c.own_rd (i := 25) rfl) (by first | exact c.own_rd (i := 0) rfl | exact c.own_rd (i := 1) rfl | exact c.own_rd (i := 2) rfl | exact c.own_rd (i := 3) rfl | exact c.own_rd (i := 4) rfl | exact c.own_rd (i := 5) rfl | exact c.own_rd (i := 6) rfl | exact c.own_rd (i := 7) rfl | exact c.own_rd (i := 8) rfl | exact c.own_rd (i := 9) rfl | exact c.own_rd (i := 10) rfl | exact c.own_rd (i := 11) rfl | exact c.own_rd (i := 12) rfl | exact c.own_rd (i := 13) rfl | exact c.own_rd (i := 14) rfl | exact c.own_rd (i := 15) rfl | exact c.own_rd (i := 16) rfl | exact c.own_rd (i := 17) rfl | exact c.own_rd (i := 18) rfl | exact c.own_rd (i := 19) rfl | exact c.own_rd (i := 20) rfl | exact c.own_rd (i := 21) rfl | exact c.own_rd (i := 22) rfl | exact c.own_rd (i := 23) rfl | exact c.own_rd (i := 24) rfl | exact c.own_rd (i := 25) rfl) (by first | exact c.own_rd (i := 0) rfl | exact c.own_rd (i := 1) rfl | exact c.own_rd (i := 2) rfl | exact c.own_rd (i := 3) rfl | exact c.own_rd (i := 4) rfl | exact c.own_rd (i := 5) rfl | exact c.own_rd (i := 6) rfl | exact c.own_rd (i := 7) rfl | exact c.own_rd (i := 8) rfl | exact c.own_rd (i := 9) rfl | exact c.own_rd (i := 10) rfl | exact c.own_rd (i := 11) rfl | exact c.own_rd (i := 12) rfl | exact c.own_rd (i := 13) rfl | exact c.own_rd (i := 14) rfl | exact c.own_rd (i := 15) rfl | exact c.own_rd (i := 16) rfl | exact c.own_rd (i := 17) rfl | exact c.own_rd (i := 18) rfl | exact c.own_rd (i := 19) rfl | exact c.own_rd (i := 20) rfl | exact c.own_rd (i := 21) rfl | exact c.own_rd (i := 22) rfl | exact c.own_rd (i := 23) rfl | exact c.own_rd (i := 24) rfl | exact c.own_rd (i := 25) rfl)) ?_; rintro v H' ⟨rfl, rfl⟩) | (refine m_callLs (ent_of Try.func56 (by kernel_rfl) rfl) rfl rfl (fun w c => by first | exact c.mid 0 1 | exact c.mid 1 1 | exact c.mid 2 1 | exact c.mid 3 1 | exact c.mid 4 1 | exact c.mid 5 1 | exact c.mid 6 1 | exact c.mid 7 1 | exact c.mid 8 1 | exact c.mid 9 1 | exact c.mid 10 1 | exact c.mid 11 1 | exact c.mid 12 1 | exact c.mid 13 1 | exact c.mid 14 1 | exact c.mid 15 1 | exact c.mid 16 1 | exact c.mid 17 1 | exact c.mid 18 1 | exact c.mid 19 1 | exact c.mid 20 1 | exact c.mid 21 1 | exact c.mid 22 1 | exact c.mid 23 1 | exact c.mid 24 1 | exact c.mid 25 1) (fun w M' hl => markRps_ok hl (by omega) (by omega)) ?_; rintro v H' ⟨rfl, rfl⟩) | (refine m_call (ent_of Try.func55 (by kernel_rfl) rfl) rfl rfl (fun w c => eqRps_same (by first | exact c.own_rd (i := 0) rfl | exact c.own_rd (i := 1) rfl | exact c.own_rd (i := 2) rfl | exact c.own_rd (i := 3) rfl | exact c.own_rd (i := 4) rfl | exact c.own_rd (i := 5) rfl | exact c.own_rd (i := 6) rfl | exact c.own_rd (i := 7) rfl | exact c.own_rd (i := 8) rfl | exact c.own_rd (i := 9) rfl | exact c.own_rd (i := 10) rfl | exact c.own_rd (i := 11) rfl | exact c.own_rd (i := 12) rfl | exact c.own_rd (i := 13) rfl | exact c.own_rd (i := 14) rfl | exact c.own_rd (i := 15) rfl | exact c.own_rd (i := 16) rfl | exact c.own_rd (i := 17) rfl | exact c.own_rd (i := 18) rfl | exact c.own_rd (i := 19) rfl | exact c.own_rd (i := 20) rfl | exact c.own_rd (i := 21) rfl | exact c.own_rd (i := 22) rfl | exact c.own_rd (i := 23) rfl | exact c.own_rd (i := 24) rfl | exact c.own_rd (i := 25) rfl) (by first | exact c.own_rd (i := 0) rfl | exact c.own_rd (i := 1) rfl | exact c.own_rd (i := 2) rfl | exact c.own_rd (i := 3) rfl | exact c.own_rd (i := 4) rfl | exact c.own_rd (i := 5) rfl | exact c.own_rd (i := 6) rfl | exact c.own_rd (i := 7) rfl | exact c.own_rd (i := 8) rfl | exact c.own_rd (i := 9) rfl | exact c.own_rd (i := 10) rfl | exact c.own_rd (i := 11) rfl | exact c.own_rd (i := 12) rfl | exact c.own_rd (i := 13) rfl | exact c.own_rd (i := 14) rfl | exact c.own_rd (i := 15) rfl | exact c.own_rd (i := 16) rfl | exact c.own_rd (i := 17) rfl | exact c.own_rd (i := 18) rfl | exact c.own_rd (i := 19) rfl | exact c.own_rd (i := 20) rfl | exact c.own_rd (i := 21) rfl | exact c.own_rd (i := 22) rfl | exact c.own_rd (i := 23) rfl | exact c.own_rd (i := 24) rfl | exact c.own_rd (i := 25) rfl)) ?_; rintro v H' ⟨rfl, rfl⟩))
         | (show AT _ _ _ (wpList _ _ _ (⟨_, Op.extract _ _, _, _, _, _⟩ :: _)); refine st_y (y_ext rfl rfl) rfl ?_)
         | (show AT _ _ _ (wpList _ _ _ (⟨_, Op.pick _ _ _, _, _, _, _⟩ :: _)); first | refine st_y (y_pickf rfl (by first | assumption | omega) rfl) rfl ?_ | refine st_y (y_pick rfl rfl rfl) rfl ?_)
         | (show AT _ _ _ (wpList _ _ _ (⟨_, Op.store _ _ _, _, _, _, _⟩ :: _)); refine m_storeb 0 tabs rfl rfl rfl rfl rfl rfl rfl ?_)
         | (show AT _ _ _ (wpList _ _ _ (⟨_, Op.alloc _, _, _, _, _⟩ :: _)); refine m_alloc tabs rfl rfl (fun b hb => ?_))
         | refine st_gy rfl rfl ?_ | refine st_gfy rfl rfl (by first | assumption | omega) ?_)
      | (show AT _ _ _ (wpList _ _ _ []); refine c_nil (x_then ?_))
      | (show AT _ _ _ (Code.wp _ _ _); first | refine c_seq ?_ | refine c_region ?_ | refine c_skip (x_then ?_) | refine c_ret ?_ | refine c_false rfl ?_ | refine c_iff rfl (by first | assumption | exact not_not_intro (by assumption) | omega) ?_))
    exact x_ret1 Try.results12 (res_tmp rfl) (fun w' c' => ⟨_, _, rfl, ⟨rfl, rfl⟩, c'.sub (List.nil_sublist _)⟩)
  · refine fn_enter Try.func12 rfl Try.ntmps12 rfl ?_
    repeat' (first
      | (show AT _ _ _ (wpList _ _ _ (_ :: _)); first
         | (show AT _ _ _ (wpList _ _ _ (⟨_, Op.move _, _, _, _, _⟩ :: _)); refine st_y (y_move rfl) rfl ?_)
         | (show AT _ _ _ (wpList _ _ _ (⟨_, Op.assign _, _, _, _, _⟩ :: _)); refine st_y (y_assign rfl) rfl ?_)
         | (show AT _ _ _ (wpList _ _ _ (⟨_, Op.binOp _ _ _ _ _, _, _, _, _⟩ :: _)); refine st_y (y_lss rfl rfl) rfl ?_)
         | (show AT _ _ _ (wpList _ _ _ (⟨_, Op.call _, _, _, _, _⟩ :: _)); (refine m_call (ent_of Try.func51 (by kernel_rfl) rfl) rfl rfl (fun w c => szRps_big (c.rd h0) (by omega) (by omega) (by omega)) ?_; rintro v H' ⟨rfl, rfl⟩)))
      | (show AT _ _ _ (wpList _ _ _ []); refine c_nil (x_then ?_))
      | (show AT _ _ _ (Code.wp _ _ _); first | refine c_seq ?_ | refine c_region ?_ | refine c_ret ?_ | refine c_true rfl ?_)
      | (show AT _ _ _ _; refine x_then_ret ?_))
    exact x_ret1 Try.results12 (res_tmp rfl) (fun w' c' => ⟨_, _, rfl, ⟨rfl, rfl⟩, c'.sub (List.nil_sublist _)⟩)

set_option maxRecDepth 100000 in
theorem lifted (os : Os) (started : os.Started) (H : Type) (enc : TypeId × Value → H) :
    ReturnsInHanded {} Try.checked os 12 .any (Rows.fnExactSumOfSpec.pre6 enc Try.prog Try.f12 Rows.fnExactSumOfRow.domain false) (Rows.fnExactSumOfSpec.post enc Try.prog Try.f12 false true false false) := by
  refine returnsInHanded_of_change (C := Try.checked) Try.own started (by kernel_rfl) Try.func12
    (ChangeSpec.witness6 (enc := enc) (C := Try.checked) false ⟨#[], #[.slice none 0 0], []⟩ 16 (by kernel_rfl) (by kernel_rfl) (by kernel_rfl) (by kernel_rfl)) ?_
  intro W base args ds gs before hval0 hW hcnd _
  have hval : ∀ (j : Nat) t v, Try.f12.params[j]? = some t → args[j]? = some v → Value.okWide Try.prog W .any base t v := hval0
  have hW' := hW
  obtain ⟨p, q, hA0, hV, rfl, hfz, hnd⟩ := hW
  have hA : DataW.TrodAll enc Try.prog W 0 (fun _ => true) true Try.f12.params.toList args.toList ds p := hA0
  rw [Try.params12] at hA hval
  obtain ⟨v0, vs0, d0, ds0, p0, q0, hargs, rfl, rfl, k0, r0⟩ := trodAll_cons hA
  obtain ⟨rfl, rfl, rfl⟩ := trodAll_nil r0
  obtain rfl : args = #[v0] := by cases args; simp_all
  obtain ⟨rfl, rfl⟩ := trodVars_none hV
  have lt0 : ∀ x ∈ p0, x.block < W.heap.size := by obtain ⟨m, hm⟩ := k0; exact DataW.trod_lt m _ _ _ hm
  obtain ⟨m0, h0, g0⟩ := opn_rps (hval 0 66 v0 rfl rfl) k0
  clear hA0 hval0
  refine (law_ok W h0 g0).mono fun e W' ⟨v, H', he, ⟨hv, _⟩, hp⟩ => ?_
  subst he; subst hv
  have bel := hp.below
  exact ⟨_, rfl, _, _, _, [], _, [], hW', trodAll_mk1 (shut_bool Try.underlying4 _), (trodAll_cons_mk (Below.trod Try.laidOut (by kernel_rfl) (of_decide_eq_true (by kernel_rfl)) k0 bel lt0) trodAll_mk0), rfl, bel.frame _, fun h => by cases h⟩

theorem closed : joinedFacts Try.pinned.checked.prog 12 Try.f12 Rows.fnExactSumOfSpec Rows.fnExactSumOfRow = true := by
  unfold joinedFacts
  repeat' (with_reducible refine band ?_ ?_)
  all_goals first | (with_reducible exact fin_enter) | ((with_reducible refine fin_lifted ?_); rfl) | ((with_reducible refine fin_make ?_); rfl) | (as_aux_lemma => kernel_rfl)
/-- the given statement -/
theorem proved : Rows.FnExactSumOfSaid :=
  OpenClaim.holds_of_wide 12 Try.f12 rfl rfl rfl rfl rfl rfl rfl ⟨rfl, rfl, rfl, rfl, rfl⟩ rfl rfl rfl rfl rfl (by kernel_rfl) Try.func12 closed
    (of_decide_eq_true (by kernel_rfl)) (by unfold Func.isWrapper; first | (rw [if_pos (by decide +kernel)]; kernel_rfl) | (rw [if_neg (by decide +kernel)]; exact ⟨rfl, rfl⟩))
    (fun os started H enc _ => lifted os started H enc)
#print axioms proved
end Go.Proofs.Ytfhgpkdhhclpbaa.wFnExactSumOf
