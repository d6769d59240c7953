/- The law FnExactInSpace returns true for all arguments, and its arguments read behind the call as they read before; there are no conditions. -/
import Derived.Test.YtooffimgfnacoaaMrk
import Derived.Test.YtooffimgfnacoaaRpl
import Derived.Test.YtooffimgfnacoaaOpR
import Derived.Test.YtooffimgfnacoaaOpS
import Derived.Test.YtooffimgfnacoaaMks
import Derived.Test.YtooffimgfnacoaaSpg
import Derived.Test.YtooffimgfnacoaaOpn
import Derived.Test.YtooffimgfnacoaaFin
import Derived.Test.YtooffimgfnacoaaLB
import Derived.OpenShut
import Derived.ShutString
import Derived.Below
namespace Go.Proofs.Ytooffimgfnacoaa.wFnExactInSpace
open Go.Lg Go.Proofs Go.RowKit Go.ChangeShapes Go.WideShapes Go.ChangeAt
attribute [local irreducible] Code.wp wpList bodyPost Exit.then Exit.inBlock Hp Again Calls Y AT ResV QT
set_option maxRecDepth 20000
set_option maxHeartbeats 4000000
set_option maxRecDepth 20000
set_option linter.unusedVariables false

theorem law_ok (w : World) {n0 : Int} (g0 : Rng n0) {m1 : Sp} {u1 : Value} (h1 : Rd w (rowsT 38 m1.2) u1) (g1 : RngSp m1) {x2 : List Int} {u2 : Value} (h2 : Rd w (iT x2) u2) (g2 : ∀ n ∈ x2, Rng n) :
    Does Try.prog 7 [iV n0, .agg #[iV m1.1, u1], u2] w (fun r H => r = .bool true ∧ H = []) := by
  obtain ⟨al2, cl2, rfl, hsl2, hcl2, hdl2, _⟩ := h2.ints
  by_cases d2 : ((x2.length : Nat) : Int) > 1048576
  · refine fn_enter Try.func7 rfl Try.ntmps7 rfl ?_
    repeat' (first
      | (show AT _ _ _ (wpList _ _ _ (_ :: _)); first
         | (show AT _ _ _ (wpList _ _ _ (⟨_, Op.move _, _, _, _, _⟩ :: _)); refine st_y (y_move rfl) rfl ?_)
         | (show AT _ _ _ (wpList _ _ _ (⟨_, Op.assign _, _, _, _, _⟩ :: _)); refine st_y (y_assign rfl) rfl ?_)
         | (show AT _ _ _ (wpList _ _ _ (⟨_, Op.binOp _ _ _ _ _, _, _, _, _⟩ :: _)); refine st_y (y_gtr rfl rfl) rfl ?_)
         | (show AT _ _ _ (wpList _ _ _ (⟨_, Op.call _, _, _, _, _⟩ :: _)); refine st_y (y_len tabs rfl rfl) rfl ?_)
         | (show AT _ _ _ (wpList _ _ _ (⟨_, Op.box _ _, _, _, _, _⟩ :: _)); refine m_box rfl rfl (fun b hb => ?_)))
      | (show AT _ _ _ (wpList _ _ _ []); refine c_nil (x_then ?_))
      | (show AT _ _ _ (Code.wp _ _ _); first | refine c_seq ?_ | refine c_region ?_ | refine c_ret ?_ | refine c_ift rfl (by first | assumption | omega) ?_)
      | (show AT _ _ _ _; refine x_then_ret ?_))
    exact x_ret1 Try.results7 (res_tmp rfl) (fun w' c' => ⟨_, _, rfl, ⟨rfl, rfl⟩, c'.sub (List.nil_sublist _)⟩)
  · by_cases b1 : ((szRows m1.2 : Nat) : Int) ≤ 1048576
    · refine fn_enter Try.func7 rfl Try.ntmps7 rfl ?_
      repeat' (first
        | (show AT _ _ _ (wpList _ _ _ (_ :: _)); first
           | (show AT _ _ _ (wpList _ _ _ (⟨_, Op.move _, _, _, _, _⟩ :: _)); refine st_y (y_move rfl) rfl ?_)
           | (show AT _ _ _ (wpList _ _ _ (⟨_, Op.assign _, _, _, _, _⟩ :: _)); refine st_y (y_assign rfl) rfl ?_)
           | (show AT _ _ _ (wpList _ _ _ (⟨_, Op.load _ _, _, _, _, _⟩ :: _)); first | refine st_y (y_loadb 0 tabs rfl rfl rfl rfl) rfl ?_ | refine st_y (y_loadb 1 tabs rfl rfl rfl rfl) rfl ?_ | refine st_y (y_loadb 2 tabs rfl rfl rfl rfl) rfl ?_)
           | (show AT _ _ _ (wpList _ _ _ (⟨_, Op.binOp _ _ _ _ _, _, _, _, _⟩ :: _)); first | refine st_y (y_lss rfl rfl) rfl ?_ | refine st_y (y_gtr rfl rfl) rfl ?_ | refine st_y (y_neqb_same Try.underlying4 rfl rfl) rfl ?_)
           | (show AT _ _ _ (wpList _ _ _ (⟨_, Op.unOp _ _ _, _, _, _, _⟩ :: _)); refine st_y (y_not rfl) rfl ?_)
           | (show AT _ _ _ (wpList _ _ _ (⟨_, Op.call _, _, _, _, _⟩ :: _)); first | (refine m_call (ent_of Try.func46 (by kernel_rfl) rfl) rfl rfl (fun w c => spec_InSpace_ok (s := m1) (by first | exact c.own_rd (i := 0) rfl | exact c.own_rd (i := 1) rfl | exact c.own_rd (i := 2) rfl | exact c.own_rd (i := 3) rfl | exact c.own_rd (i := 4) rfl | exact c.own_rd (i := 5) rfl | exact c.own_rd (i := 6) rfl | exact c.own_rd (i := 7) rfl | exact c.own_rd (i := 8) rfl | exact c.own_rd (i := 9) rfl | exact c.own_rd (i := 10) rfl | exact c.own_rd (i := 11) rfl | exact c.own_rd (i := 12) rfl | exact c.own_rd (i := 13) rfl | exact c.own_rd (i := 14) rfl | exact c.own_rd (i := 15) rfl | exact c.own_rd (i := 16) rfl | exact c.own_rd (i := 17) rfl | exact c.own_rd (i := 18) rfl | exact c.own_rd (i := 19) rfl | exact c.own_rd (i := 20) rfl | exact c.own_rd (i := 21) rfl | exact c.own_rd (i := 22) rfl | exact c.own_rd (i := 23) rfl | exact c.own_rd (i := 24) rfl | exact c.own_rd (i := 25) rfl) (by first | exact c.own_rd (i := 0) rfl | exact c.own_rd (i := 1) rfl | exact c.own_rd (i := 2) rfl | exact c.own_rd (i := 3) rfl | exact c.own_rd (i := 4) rfl | exact c.own_rd (i := 5) rfl | exact c.own_rd (i := 6) rfl | exact c.own_rd (i := 7) rfl | exact c.own_rd (i := 8) rfl | exact c.own_rd (i := 9) rfl | exact c.own_rd (i := 10) rfl | exact c.own_rd (i := 11) rfl | exact c.own_rd (i := 12) rfl | exact c.own_rd (i := 13) rfl | exact c.own_rd (i := 14) rfl | exact c.own_rd (i := 15) rfl | exact c.own_rd (i := 16) rfl | exact c.own_rd (i := 17) rfl | exact c.own_rd (i := 18) rfl | exact c.own_rd (i := 19) rfl | exact c.own_rd (i := 20) rfl | exact c.own_rd (i := 21) rfl | exact c.own_rd (i := 22) rfl | exact c.own_rd (i := 23) rfl | exact c.own_rd (i := 24) rfl | exact c.own_rd (i := 25) rfl)) ?_; rintro v H' ⟨rfl, rfl⟩) | (refine m_call (ent_of Try.func48 (by kernel_rfl) rfl) rfl rfl (fun w c => impl_InSpace_ok (s := m1) (by first | exact c.own_rd (i := 0) rfl | exact c.own_rd (i := 1) rfl | exact c.own_rd (i := 2) rfl | exact c.own_rd (i := 3) rfl | exact c.own_rd (i := 4) rfl | exact c.own_rd (i := 5) rfl | exact c.own_rd (i := 6) rfl | exact c.own_rd (i := 7) rfl | exact c.own_rd (i := 8) rfl | exact c.own_rd (i := 9) rfl | exact c.own_rd (i := 10) rfl | exact c.own_rd (i := 11) rfl | exact c.own_rd (i := 12) rfl | exact c.own_rd (i := 13) rfl | exact c.own_rd (i := 14) rfl | exact c.own_rd (i := 15) rfl | exact c.own_rd (i := 16) rfl | exact c.own_rd (i := 17) rfl | exact c.own_rd (i := 18) rfl | exact c.own_rd (i := 19) rfl | exact c.own_rd (i := 20) rfl | exact c.own_rd (i := 21) rfl | exact c.own_rd (i := 22) rfl | exact c.own_rd (i := 23) rfl | exact c.own_rd (i := 24) rfl | exact c.own_rd (i := 25) rfl) (by first | exact c.own_rd (i := 0) rfl | exact c.own_rd (i := 1) rfl | exact c.own_rd (i := 2) rfl | exact c.own_rd (i := 3) rfl | exact c.own_rd (i := 4) rfl | exact c.own_rd (i := 5) rfl | exact c.own_rd (i := 6) rfl | exact c.own_rd (i := 7) rfl | exact c.own_rd (i := 8) rfl | exact c.own_rd (i := 9) rfl | exact c.own_rd (i := 10) rfl | exact c.own_rd (i := 11) rfl | exact c.own_rd (i := 12) rfl | exact c.own_rd (i := 13) rfl | exact c.own_rd (i := 14) rfl | exact c.own_rd (i := 15) rfl | exact c.own_rd (i := 16) rfl | exact c.own_rd (i := 17) rfl | exact c.own_rd (i := 18) rfl | exact c.own_rd (i := 19) rfl | exact c.own_rd (i := 20) rfl | exact c.own_rd (i := 21) rfl | exact c.own_rd (i := 22) rfl | exact c.own_rd (i := 23) rfl | exact c.own_rd (i := 24) rfl | exact c.own_rd (i := 25) rfl)) ?_; rintro v H' ⟨rfl, rfl⟩) | (refine m_call (ent_of Try.func28 (by kernel_rfl) rfl) rfl rfl (fun w c => szSpace_fit (n := m1.1) (c.rd h1) (by omega) (by omega)) ?_; rintro v H' ⟨rfl, rfl⟩) | (refine m_call (ent_of Try.func47 (by kernel_rfl) rfl) rfl rfl (fun w c => toIntS_at (c.rd h2) (by omega)) ?_; rintro v H' ⟨a4, c4, rfl, hs4, rfl⟩) | (refine m_call (ent_of Try.func30 (by kernel_rfl) rfl) rfl rfl (fun w c => toSpace_ok (s := m1) (c.rd h1) (by omega)) ?_; rintro v H' ⟨a4, c4, rfl, hs4, rfl⟩) | (refine m_call (ent_of Try.func23 (by kernel_rfl) rfl) rfl rfl (fun w c => eqSpace_same (by first | exact c.own_rd (i := 0) rfl | exact c.own_rd (i := 1) rfl | exact c.own_rd (i := 2) rfl | exact c.own_rd (i := 3) rfl | exact c.own_rd (i := 4) rfl | exact c.own_rd (i := 5) rfl | exact c.own_rd (i := 6) rfl | exact c.own_rd (i := 7) rfl | exact c.own_rd (i := 8) rfl | exact c.own_rd (i := 9) rfl | exact c.own_rd (i := 10) rfl | exact c.own_rd (i := 11) rfl | exact c.own_rd (i := 12) rfl | exact c.own_rd (i := 13) rfl | exact c.own_rd (i := 14) rfl | exact c.own_rd (i := 15) rfl | exact c.own_rd (i := 16) rfl | exact c.own_rd (i := 17) rfl | exact c.own_rd (i := 18) rfl | exact c.own_rd (i := 19) rfl | exact c.own_rd (i := 20) rfl | exact c.own_rd (i := 21) rfl | exact c.own_rd (i := 22) rfl | exact c.own_rd (i := 23) rfl | exact c.own_rd (i := 24) rfl | exact c.own_rd (i := 25) rfl) (by first | exact c.own_rd (i := 0) rfl | exact c.own_rd (i := 1) rfl | exact c.own_rd (i := 2) rfl | exact c.own_rd (i := 3) rfl | exact c.own_rd (i := 4) rfl | exact c.own_rd (i := 5) rfl | exact c.own_rd (i := 6) rfl | exact c.own_rd (i := 7) rfl | exact c.own_rd (i := 8) rfl | exact c.own_rd (i := 9) rfl | exact c.own_rd (i := 10) rfl | exact c.own_rd (i := 11) rfl | exact c.own_rd (i := 12) rfl | exact c.own_rd (i := 13) rfl | exact c.own_rd (i := 14) rfl | exact c.own_rd (i := 15) rfl | exact c.own_rd (i := 16) rfl | exact c.own_rd (i := 17) rfl | exact c.own_rd (i := 18) rfl | exact c.own_rd (i := 19) rfl | exact c.own_rd (i := 20) rfl | exact c.own_rd (i := 21) rfl | exact c.own_rd (i := 22) rfl | exact c.own_rd (i := 23) rfl | exact c.own_rd (i := 24) rfl | exact c.own_rd (i := 25) rfl)) ?_; rintro v H' ⟨rfl, rfl⟩) | (refine m_call (ent_of Try.func49 (by kernel_rfl) rfl) rfl rfl (fun w c => eqIntS_same (by first | exact c.own_rd (i := 0) rfl | exact c.own_rd (i := 1) rfl | exact c.own_rd (i := 2) rfl | exact c.own_rd (i := 3) rfl | exact c.own_rd (i := 4) rfl | exact c.own_rd (i := 5) rfl | exact c.own_rd (i := 6) rfl | exact c.own_rd (i := 7) rfl | exact c.own_rd (i := 8) rfl | exact c.own_rd (i := 9) rfl | exact c.own_rd (i := 10) rfl | exact c.own_rd (i := 11) rfl | exact c.own_rd (i := 12) rfl | exact c.own_rd (i := 13) rfl | exact c.own_rd (i := 14) rfl | exact c.own_rd (i := 15) rfl | exact c.own_rd (i := 16) rfl | exact c.own_rd (i := 17) rfl | exact c.own_rd (i := 18) rfl | exact c.own_rd (i := 19) rfl | exact c.own_rd (i := 20) rfl | exact c.own_rd (i := 21) rfl | exact c.own_rd (i := 22) rfl | exact c.own_rd (i := 23) rfl | exact c.own_rd (i := 24) rfl | exact c.own_rd (i := 25) rfl) (by first | exact c.own_rd (i := 0) rfl | exact c.own_rd (i := 1) rfl | exact c.own_rd (i := 2) rfl | exact c.own_rd (i := 3) rfl | exact c.own_rd (i := 4) rfl | exact c.own_rd (i := 5) rfl | exact c.own_rd (i := 6) rfl | exact c.own_rd (i := 7) rfl | exact c.own_rd (i := 8) rfl | exact c.own_rd (i := 9) rfl | exact c.own_rd (i := 10) rfl | exact c.own_rd (i := 11) rfl | exact c.own_rd (i := 12) rfl | exact c.own_rd (i := 13) rfl | exact c.own_rd (i := 14) rfl | exact c.own_rd (i := 15) rfl | exact c.own_rd (i := 16) rfl | exact c.own_rd (i := 17) rfl | exact c.own_rd (i := 18) rfl | exact c.own_rd (i := 19) rfl | exact c.own_rd (i := 20) rfl | exact c.own_rd (i := 21) rfl | exact c.own_rd (i := 22) rfl | exact c.own_rd (i := 23) rfl | exact c.own_rd (i := 24) rfl | exact c.own_rd (i := 25) rfl)) ?_; rintro v H' ⟨rfl, rfl⟩) | refine st_y (y_len tabs rfl rfl) rfl ?_)
           | (show AT _ _ _ (wpList _ _ _ (⟨_, Op.store _ _ _, _, _, _, _⟩ :: _)); refine m_storeb 0 tabs rfl rfl rfl rfl rfl rfl rfl ?_)
           | (show AT _ _ _ (wpList _ _ _ (⟨_, Op.box _ _, _, _, _, _⟩ :: _)); refine m_box rfl rfl (fun b hb => ?_))
           | (show AT _ _ _ (wpList _ _ _ (⟨_, Op.alloc _, _, _, _, _⟩ :: _)); refine m_alloc tabs rfl rfl (fun b hb => ?_)))
        | (show AT _ _ _ (wpList _ _ _ []); refine c_nil (x_then ?_))
        | (show AT _ _ _ (Code.wp _ _ _); first | (refine c_eqto (by kernel_rfl) (by kernel_rfl) (by kernel_rfl) (by kernel_rfl) (by kernel_rfl) (by kernel_rfl) (by kernel_rfl) rfl rfl rfl ⟨rfl, rfl, rfl⟩ (by first | exact y_loadb 0 tabs rfl rfl rfl rfl | exact y_loadb 1 tabs rfl rfl rfl rfl | exact y_loadb 2 tabs rfl rfl rfl rfl | exact y_loadb 3 tabs rfl rfl rfl rfl | exact y_loadb 4 tabs rfl rfl rfl rfl | exact y_loadb 5 tabs rfl rfl rfl rfl | exact y_loadb 6 tabs rfl rfl rfl rfl | exact y_loadb 7 tabs rfl rfl rfl rfl | exact y_loadb 8 tabs rfl rfl rfl rfl | exact y_loadb 9 tabs rfl rfl rfl rfl | exact y_loadb 10 tabs rfl rfl rfl rfl | exact y_loadb 11 tabs rfl rfl rfl rfl | exact y_loadb 12 tabs rfl rfl rfl rfl | exact y_loadb 13 tabs rfl rfl rfl rfl | exact y_loadb 14 tabs rfl rfl rfl rfl | exact y_loadb 15 tabs rfl rfl rfl rfl | exact y_loadb 16 tabs rfl rfl rfl rfl | exact y_loadb 17 tabs rfl rfl rfl rfl | exact y_loadb 18 tabs rfl rfl rfl rfl | exact y_loadb 19 tabs rfl rfl rfl rfl | exact y_loadb 20 tabs rfl rfl rfl rfl | exact y_loadb 21 tabs rfl rfl rfl rfl | exact y_loadb 22 tabs rfl rfl rfl rfl | exact y_loadb 23 tabs rfl rfl rfl rfl | exact y_loadb 24 tabs rfl rfl rfl rfl | exact y_loadb 25 tabs rfl rfl rfl rfl) (by first | exact y_loadb 0 tabs rfl rfl rfl rfl | exact y_loadb 1 tabs rfl rfl rfl rfl | exact y_loadb 2 tabs rfl rfl rfl rfl | exact y_loadb 3 tabs rfl rfl rfl rfl | exact y_loadb 4 tabs rfl rfl rfl rfl | exact y_loadb 5 tabs rfl rfl rfl rfl | exact y_loadb 6 tabs rfl rfl rfl rfl | exact y_loadb 7 tabs rfl rfl rfl rfl | exact y_loadb 8 tabs rfl rfl rfl rfl | exact y_loadb 9 tabs rfl rfl rfl rfl | exact y_loadb 10 tabs rfl rfl rfl rfl | exact y_loadb 11 tabs rfl rfl rfl rfl | exact y_loadb 12 tabs rfl rfl rfl rfl | exact y_loadb 13 tabs rfl rfl rfl rfl | exact y_loadb 14 tabs rfl rfl rfl rfl | exact y_loadb 15 tabs rfl rfl rfl rfl | exact y_loadb 16 tabs rfl rfl rfl rfl | exact y_loadb 17 tabs rfl rfl rfl rfl | exact y_loadb 18 tabs rfl rfl rfl rfl | exact y_loadb 19 tabs rfl rfl rfl rfl | exact y_loadb 20 tabs rfl rfl rfl rfl | exact y_loadb 21 tabs rfl rfl rfl rfl | exact y_loadb 22 tabs rfl rfl rfl rfl | exact y_loadb 23 tabs rfl rfl rfl rfl | exact y_loadb 24 tabs rfl rfl rfl rfl | exact y_loadb 25 tabs rfl rfl rfl rfl) (ent_of Try.func30 (by kernel_rfl) rfl) rfl (fun w c => toSpace_ok (s := m1) (c.rd h1) (by omega)) ?_; rintro v H' ⟨a4, c4, rfl, hs4, rfl⟩) | refine c_seq ?_ | refine c_region ?_ | refine c_skip (x_then ?_) | refine c_ret ?_ | refine c_false rfl ?_ | refine c_iff rfl (by first | assumption | exact not_not_intro (by assumption) | omega) ?_))
      exact x_ret1 Try.results7 (res_tmp rfl) (fun w' c' => ⟨_, _, rfl, ⟨rfl, rfl⟩, c'.sub (List.nil_sublist _)⟩)
    · refine fn_enter Try.func7 rfl Try.ntmps7 rfl ?_
      repeat' (first
        | (show AT _ _ _ (wpList _ _ _ (_ :: _)); first
           | (show AT _ _ _ (wpList _ _ _ (⟨_, Op.move _, _, _, _, _⟩ :: _)); refine st_y (y_move rfl) rfl ?_)
           | (show AT _ _ _ (wpList _ _ _ (⟨_, Op.assign _, _, _, _, _⟩ :: _)); refine st_y (y_assign rfl) rfl ?_)
           | (show AT _ _ _ (wpList _ _ _ (⟨_, Op.load _ _, _, _, _, _⟩ :: _)); refine st_y (y_loadb 0 tabs rfl rfl rfl rfl) rfl ?_)
           | (show AT _ _ _ (wpList _ _ _ (⟨_, Op.binOp _ _ _ _ _, _, _, _, _⟩ :: _)); first | refine st_y (y_lss rfl rfl) rfl ?_ | refine st_y (y_gtr rfl rfl) rfl ?_)
           | (show AT _ _ _ (wpList _ _ _ (⟨_, Op.call _, _, _, _, _⟩ :: _)); first | (refine m_call (ent_of Try.func28 (by kernel_rfl) rfl) rfl rfl (fun w c => szSpace_big (n := m1.1) (c.rd h1) (by omega) (by omega) (by omega)) ?_; rintro v H' ⟨rfl, rfl⟩) | refine st_y (y_len tabs rfl rfl) rfl ?_)
           | (show AT _ _ _ (wpList _ _ _ (⟨_, Op.box _ _, _, _, _, _⟩ :: _)); refine m_box rfl rfl (fun b hb => ?_)))
        | (show AT _ _ _ (wpList _ _ _ []); refine c_nil (x_then ?_))
        | (show AT _ _ _ (Code.wp _ _ _); first | refine c_seq ?_ | refine c_region ?_ | refine c_skip (x_then ?_) | refine c_ret ?_ | refine c_true rfl ?_ | refine c_iff rfl (by first | assumption | exact not_not_intro (by assumption) | omega) ?_)
        | (show AT _ _ _ _; refine x_then_ret ?_))
      exact x_ret1 Try.results7 (res_tmp rfl) (fun w' c' => ⟨_, _, rfl, ⟨rfl, rfl⟩, c'.sub (List.nil_sublist _)⟩)

set_option maxRecDepth 100000 in
theorem lifted (os : Os) (started : os.Started) (H : Type) (enc : TypeId × Value → H) :
    ReturnsInHanded {} Try.checked os 7 .any (Rows.fnExactInSpaceSpec.pre6 enc Try.prog Try.f7 Rows.fnExactInSpaceRow.domain false) (Rows.fnExactInSpaceSpec.post enc Try.prog Try.f7 false true false false) := by
  refine returnsInHanded_of_change (C := Try.checked) Try.own started (by kernel_rfl) Try.func7
    (ChangeSpec.witness6 (enc := enc) (C := Try.checked) false ⟨#[], #[.int .i64 0, .agg #[.int .i64 0, .slice none 0 0], .slice none 0 0], []⟩ 16 (by kernel_rfl) (by kernel_rfl) (by kernel_rfl) (by kernel_rfl)) ?_
  intro W base args ds gs before hval0 hW hcnd _
  have hval : ∀ (j : Nat) t v, Try.f7.params[j]? = some t → args[j]? = some v → Value.okWide Try.prog W .any base t v := hval0
  have hW' := hW
  obtain ⟨p, q, hA0, hV, rfl, hfz, hnd⟩ := hW
  have hA : DataW.TrodAll enc Try.prog W 0 (fun _ => true) true Try.f7.params.toList args.toList ds p := hA0
  rw [Try.params7] at hA hval
  obtain ⟨v0, vs0, d0, ds0, p0, q0, hargs, rfl, rfl, k0, r0⟩ := trodAll_cons hA
  obtain ⟨v1, vs1, d1, ds1, p1, q1, rfl, rfl, rfl, k1, r1⟩ := trodAll_cons r0
  obtain ⟨v2, vs2, d2, ds2, p2, q2, rfl, rfl, rfl, k2, r2⟩ := trodAll_cons r1
  obtain ⟨rfl, rfl, rfl⟩ := trodAll_nil r2
  obtain rfl : args = #[v0, v1, v2] := by cases args; simp_all
  obtain ⟨rfl, rfl⟩ := trodVars_none hV
  have lt0 : ∀ x ∈ p0, x.block < W.heap.size := by obtain ⟨m, hm⟩ := k0; exact DataW.trod_lt m _ _ _ hm
  obtain ⟨n0, rfl, g0⟩ := opn_int (hval 0 3 v0 rfl rfl) k0
  have lt1 : ∀ x ∈ p1, x.block < W.heap.size := by obtain ⟨m, hm⟩ := k1; exact DataW.trod_lt m _ _ _ hm
  obtain ⟨m1, u1, rfl, h1, g1⟩ := opn_space (hval 1 33 v1 rfl rfl) k1
  have lt2 : ∀ x ∈ p2, x.block < W.heap.size := by obtain ⟨m, hm⟩ := k2; exact DataW.trod_lt m _ _ _ hm
  obtain ⟨x2, h2, g2⟩ := opn_ints (hval 2 38 v2 rfl rfl) k2
  clear hA0 hval0
  refine (law_ok W g0 h1 g1 h2 g2).mono fun e W' ⟨v, H', he, ⟨hv, _⟩, hp⟩ => ?_
  subst he; subst hv
  have bel := hp.below
  exact ⟨_, rfl, _, _, _, [], _, [], hW', trodAll_mk1 (shut_bool Try.underlying4 _), (trodAll_cons_mk (Below.trod Try.laidOut (by kernel_rfl) (of_decide_eq_true (by kernel_rfl)) k0 bel lt0) (trodAll_cons_mk (Below.trod Try.laidOut (by kernel_rfl) (of_decide_eq_true (by kernel_rfl)) k1 bel lt1) (trodAll_cons_mk (Below.trod Try.laidOut (by kernel_rfl) (of_decide_eq_true (by kernel_rfl)) k2 bel lt2) trodAll_mk0))), rfl, bel.frame _, fun h => by cases h⟩

theorem closed : joinedFacts Try.pinned.checked.prog 7 Try.f7 Rows.fnExactInSpaceSpec Rows.fnExactInSpaceRow = true := by
  unfold joinedFacts
  repeat' (with_reducible refine band ?_ ?_)
  all_goals first | (with_reducible exact fin_enter) | ((with_reducible refine fin_lifted ?_); rfl) | ((with_reducible refine fin_make ?_); rfl) | (as_aux_lemma => kernel_rfl)
/-- the given statement -/
theorem proved : Rows.FnExactInSpaceSaid :=
  OpenClaim.holds_of_wide 7 Try.f7 rfl rfl rfl rfl rfl rfl rfl ⟨rfl, rfl, rfl, rfl, rfl⟩ rfl rfl rfl rfl rfl (by kernel_rfl) Try.func7 closed
    (of_decide_eq_true (by kernel_rfl)) (by unfold Func.isWrapper; first | (rw [if_pos (by decide +kernel)]; kernel_rfl) | (rw [if_neg (by decide +kernel)]; exact ⟨rfl, rfl⟩))
    (fun os started H enc _ => lifted os started H enc)
#print axioms proved
end Go.Proofs.Ytooffimgfnacoaa.wFnExactInSpace
