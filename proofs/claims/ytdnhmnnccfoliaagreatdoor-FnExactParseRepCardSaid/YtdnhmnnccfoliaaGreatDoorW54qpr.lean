/- The law FnExactParseRep returns true for all arguments, and its arguments read behind the call as they read before; there are no conditions. -/
import Derived.Test.YtdnhmnnccfoliaaGreatDoorCards
import Derived.Test.YtdnhmnnccfoliaaGreatDoorTie
import Derived.LaidMore
import Derived.Lay
import Derived.SevenTiedAt
import Derived.Stop.Joined
import Derived.OpenShut
import Derived.ShutString
import Derived.Below
import Derived.Test.YtdnhmnnccfoliaaGreatDoorFinqpr
import Derived.Test.YtdnhmnnccfoliaaGreatDoorGlbqpr
import Derived.Test.YtdnhmnnccfoliaaGreatDoorLBqpr
import Derived.Test.YtdnhmnnccfoliaaGreatDoorMrkqpr
import Derived.Test.YtdnhmnnccfoliaaGreatDoorOpRqpr
import Derived.Test.YtdnhmnnccfoliaaGreatDoorOpnqpr
import Derived.Test.YtdnhmnnccfoliaaGreatDoorPriqpr
import Derived.Test.YtdnhmnnccfoliaaGreatDoorRepqpr
import Derived.Test.YtdnhmnnccfoliaaGreatDoorRplqpr
namespace Go.Proofs.YtdnhmnnccfoliaaGreatDoor.wFnExactParseRep
open Go.Lg Go.Proofs Go.RowKit Go.ChangeShapes Go.WideShapes Go.ChangeAt
attribute [local irreducible] Code.wp wpList bodyPost Exit.then Exit.inBlock Hp Again Calls Y AT ResV QT
set_option maxRecDepth 20000
set_option maxHeartbeats 4000000
set_option maxRecDepth 20000
set_option maxHeartbeats 40000000
set_option linter.unusedVariables false

theorem rep_sz {r : Rp} (hR : RepP r) : r.q.2.1.length ≤ 64 ∧ r.q.2.2.length ≤ 64 ∧ r.d.length ≤ 64 ∧ szMs r.m ≤ 1000 := by
  have h1 := hR.2.1.1.2.1
  have h2 := hR.2.1.1.2.2.1
  have h3 := (RepP.dd hR).2
  have h4 := hR.2.2.1
  have key : ∀ k, k ≤ r.m.length → szMs (r.m.take k) ≤ 65 * k := fun k => by
    induction k with
    | zero => intro _; simp [szMs]
    | succ k ih =>
      intro hk
      have ih := ih om
      obtain ⟨m, hm⟩ : ∃ m, r.m[k]? = some m := ⟨_, List.getElem?_eq_getElem om⟩
      have hl := (hR.2.2.2 k om).1.2.2.2.2.1
      have e : r.m.getD k mat0 = m := by rw [List.getD, hm]; rfl
      rw [e] at hl
      rw [List.take_add_one, hm]
      simp only [szMs, Option.toList_some, List.map_append, List.length_append, List.sum_append, List.map_cons, List.map_nil, List.sum_cons, List.sum_nil, List.length_cons, List.length_nil] at ih ⊢
      omega
  have h5 := key r.m.length (Nat.le_refl _)
  rw [List.take_length] at h5
  exact ⟨by omega, by omega, by omega, by omega⟩
theorem parRL_sz (p : Int) (q : Qv) (s : List UInt8) : (parRL p q s).q.2.1.length ≤ 64 ∧ (parRL p q s).q.2.2.length ≤ 64 ∧ (parRL p q s).d.length ≤ 64 ∧ szMs (parRL p q s).m ≤ 1000 := by
  unfold parRL
  split
  · rename_i h
    exact rep_sz h.1
  · simp [repZ, szMs]
theorem law_ok (w : World) {n0 : Int} (g0 : Rng n0) {q1 : Qv} {u1_0 u1_1 : Value} (h1_0 : Rd w (iT q1.2.1) u1_0) (h1_1 : Rd w (iT q1.2.2) u1_1) (g1 : RngQ q1) {s2 : List UInt8} (hG : Glb w) :
    Does Tryz.prog 3 [iV n0, .agg #[iV q1.1, u1_0, u1_1], sV s2] w (fun r H => r = .bool true ∧ H = []) := by
  by_cases d2 : ((s2.length : Nat) : Int) > 1048576
  · refine fn_enter Tryz.func3 rfl Tryz.ntmps3 rfl ?_
    repeat' (first | (show oL; first | refine sMv rfl rfl ?_ | refine sAs rfl rfl ?_ | (show oA (.binOp _ _ _ _ _); refine st_y (y_gtr rfl rfl) rfl ?_) | (show oA (.call _); refine st_y (y_lens Tryz.underlying9 rfl) rfl ?_) | (show oA (.box _ _); refine m_box rfl rfl (fun b hb => ?_))) | refine xNt ?_ | (show oC; first | refine c_seq ?_ | refine c_region ?_ | refine c_ret ?_ | refine c_ift rfl aO ?_) | (show AT _ _ _ _; refine x_then_ret ?_))
    exact x_ret1 Tryz.results3 (res_tmp rfl) (fun w' c' => ⟨_, _, rfl, ⟨rfl, rfl⟩, c'.sub (List.nil_sublist _)⟩)
  · by_cases b1 : ((szQ q1 : Nat) : Int) ≤ 1048576
    · have na1_0 : 0 ≤ nT (iT q1.2.1) ∧ nT (iT q1.2.1) ≤ 1048576 := by rw [nT_ints]; unfold szQ at *; omega
      have na1_1 : 0 ≤ nT (iT q1.2.2) ∧ nT (iT q1.2.2) ≤ 1048576 := by rw [nT_ints]; unfold szQ at *; omega
      obtain ⟨z0, z1, z2, z3⟩ := parRL_sz n0 q1 s2
      have f0 : 0 ≤ nT (iT (parRL n0 q1 s2).q.2.1) ∧ nT (iT (parRL n0 q1 s2).q.2.1) ≤ 64 := by rw [nT_ints]; omega
      have f1 : 0 ≤ nT (iT (parRL n0 q1 s2).q.2.2) ∧ nT (iT (parRL n0 q1 s2).q.2.2) ≤ 64 := by rw [nT_ints]; omega
      have f2 : 0 ≤ nT (iT (parRL n0 q1 s2).d) ∧ nT (iT (parRL n0 q1 s2).d) ≤ 64 := by rw [nT_ints]; omega
      have f3 : ∀ e, 0 ≤ nT (matsT e (parRL n0 q1 s2).m) ∧ nT (matsT e (parRL n0 q1 s2).m) ≤ 4096 := fun e => ⟨nT_pos _, by have := nT_mats e (parRL n0 q1 s2).m; omega⟩
      have f4 := f3 41
      refine fn_enter Tryz.func3 rfl Tryz.ntmps3 rfl ?_
      repeat' (first | (show oL; first | refine sMv rfl rfl ?_ | refine sAs rfl rfl ?_ | (show oA (.load _ _); first | refine sLb 0 tabs rfl rfl rfl rfl rfl ?_ | refine sLb 4 tabs rfl rfl rfl rfl rfl ?_ | refine sLb 7 tabs rfl rfl rfl rfl rfl ?_ | refine sLb 8 tabs rfl rfl rfl rfl rfl ?_ | refine sLb 10 tabs rfl rfl rfl rfl rfl ?_ | refine sLb 15 tabs rfl rfl rfl rfl rfl ?_ | refine sLb 17 tabs rfl rfl rfl rfl rfl ?_) | (show oA (.binOp _ _ _ _ _); first | refine sLs rfl rfl rfl ?_ | refine st_y (y_gtr rfl rfl) rfl ?_ | refine st_y (y_neq rfl rfl) rfl ?_ | refine st_y (y_neqb_same Tryz.underlying4 rfl rfl) rfl ?_) | (show oA (.unOp _ _ _); refine st_y (y_not rfl) rfl ?_) | (show oA (.call _); first | (refine m_call (ent_of Tryz.func7 kr rfl) rfl rfl (fun w c => spec_ParseRep_ok (p := n0) (q := q1) (s := s2) om (by exact c.own_rd (i := 1) rfl) (by exact c.own_rd (i := 0) rfl)) ?_; rintro v H' ⟨a5, c5, a6, c6, a7, c7, a8, c8, rfl, hs5, hs6, hs7, hs8, rfl⟩) | (refine m_call (ent_of Tryz.func9 kr rfl) rfl rfl (fun w c => impl_ParseRep_ok (p := n0) (q := q1) (s := s2) (hG.mono c) om (by first | exact c.own_rd (i := 1) rfl | exact c.own_rd (i := 2) rfl) (by first | exact c.own_rd (i := 0) rfl | exact c.own_rd (i := 1) rfl)) ?_; rintro v H' ⟨a5, c5, a6, c6, a7, c7, a8, c8, rfl, hs5, hs6, hs7, hs8, rfl⟩) | refine st_y (y_lens Tryz.underlying9 rfl) rfl ?_ | (refine m_call (ent_of Tryz.func6 kr rfl) rfl rfl (fun w c => szQuiver_fit (q := q1) (c.rd h1_0) (c.rd h1_1) om om) ?_; rintro v H' ⟨rfl, rfl⟩) | (refine m_call (ent_of Tryz.func8 kr rfl) rfl rfl (fun w c => toQuiver_ok (q := q1) (c.rd h1_0) (c.rd h1_1) om) ?_; rintro v H' ⟨a0, c0, a1, c1, rfl, hs0, hs1, rfl⟩) | (refine m_callLs (ent_of Tryz.func13 kr rfl) rfl rfl (fun w c => by exact c.mid 5 4) (fun w M' hl => markRep_ok hl om om) ?_; rintro v H' ⟨rfl, rfl⟩) | (refine m_call (ent_of Tryz.func14 kr rfl) rfl rfl (fun w c => heldRep_ok (by first | exact c.own_rd (i := 3) rfl | exact c.own_rd (i := 10) rfl) (by first | exact c.own_rd (i := 2) rfl | exact c.own_rd (i := 9) rfl) (by first | exact c.own_rd (i := 1) rfl | exact c.own_rd (i := 8) rfl) (by first | exact c.own_rd (i := 0) rfl | exact c.own_rd (i := 7) rfl) om om) ?_; rintro v H' ⟨rfl, rfl⟩) | (refine m_call (ent_of Tryz.func10 kr rfl) rfl rfl (fun w c => eqRep_same (by first | exact c.own_rd (i := 4) rfl | exact c.own_rd (i := 8) rfl) (by first | exact c.own_rd (i := 3) rfl | exact c.own_rd (i := 7) rfl) (by first | exact c.own_rd (i := 2) rfl | exact c.own_rd (i := 6) rfl) (by first | exact c.own_rd (i := 1) rfl | exact c.own_rd (i := 5) rfl) (by first | exact c.own_rd (i := 12) rfl | exact c.own_rd (i := 14) rfl | exact c.own_rd (i := 21) rfl) (by first | exact c.own_rd (i := 11) rfl | exact c.own_rd (i := 13) rfl | exact c.own_rd (i := 20) rfl) (by first | exact c.own_rd (i := 10) rfl | exact c.own_rd (i := 12) rfl | exact c.own_rd (i := 19) rfl) (by first | exact c.own_rd (i := 9) rfl | exact c.own_rd (i := 11) rfl | exact c.own_rd (i := 18) rfl)) ?_; rintro v H' ⟨rfl, rfl⟩) | (refine m_callLs (ent_of Tryz.func12 kr rfl) rfl rfl (fun w c => by exact c.mid 8 2) (fun w M' hl => markQuiver_ok hl om om) ?_; rintro v H' ⟨rfl, rfl⟩) | (refine m_call (ent_of Tryz.func11 kr rfl) rfl rfl (fun w c => eqQuiver_same (by exact c.own_rd (i := 9) rfl) (by exact c.own_rd (i := 8) rfl) (by exact c.own_rd (i := 1) rfl) (by exact c.own_rd (i := 0) rfl)) ?_; rintro v H' ⟨rfl, rfl⟩)) | (show oA (.extract _ _); refine st_y (y_ext rfl rfl) rfl ?_) | (show oA (.pick _ _ _); first | refine st_y (y_pickf rfl aO rfl) rfl ?_ | refine st_y (y_pick rfl rfl rfl) rfl ?_) | (show oA (.store _ _ _); refine m_storeb 0 tabs rfl rfl rfl rfl rfl rfl rfl ?_) | (show oA (.box _ _); refine m_box rfl rfl (fun b hb => ?_)) | (show oA (.alloc _); refine m_alloc tabs rfl rfl (fun b hb => ?_)) | refine st_gy rfl rfl ?_ | refine st_gfy rfl rfl aO ?_) | refine xNt ?_ | (show oC; first | (refine c_eqto kr kr kr kr kr kr kr rfl rfl rfl ⟨rfl, rfl, rfl⟩ (by exact y_loadb 5 tabs rfl rfl rfl rfl) (by exact y_loadb 15 tabs rfl rfl rfl rfl) (ent_of Tryz.func8 kr rfl) rfl (fun w c => toQuiver_ok (q := q1) (c.rd h1_0) (c.rd h1_1) om) ?_; rintro v H' ⟨a0, c0, a1, c1, rfl, hs0, hs1, rfl⟩) | refine c_seq ?_ | refine c_region ?_ | refine c_skip (x_then ?_) | refine c_ret ?_ | refine c_false rfl ?_ | refine c_iff rfl nN ?_))
      exact x_ret1 Tryz.results3 (res_tmp rfl) (fun w' c' => ⟨_, _, rfl, ⟨rfl, rfl⟩, c'.sub (List.nil_sublist _)⟩)
    · refine fn_enter Tryz.func3 rfl Tryz.ntmps3 rfl ?_
      repeat' (first | (show oL; first | refine sMv rfl rfl ?_ | refine sAs rfl rfl ?_ | refine sLb 0 tabs rfl rfl rfl rfl rfl ?_ | (show oA (.binOp _ _ _ _ _); first | refine sLs rfl rfl rfl ?_ | refine st_y (y_gtr rfl rfl) rfl ?_) | (show oA (.call _); first | refine st_y (y_lens Tryz.underlying9 rfl) rfl ?_ | (refine m_call (ent_of Tryz.func6 kr rfl) rfl rfl (fun w c => szQuiver_big (q := q1) (c.rd h1_0) (c.rd h1_1) om om om) ?_; rintro v H' ⟨rfl, rfl⟩)) | (show oA (.box _ _); refine m_box rfl rfl (fun b hb => ?_))) | refine xNt ?_ | (show oC; first | refine c_seq ?_ | refine c_region ?_ | refine c_skip (x_then ?_) | refine c_ret ?_ | refine c_true rfl ?_ | refine c_iff rfl nN ?_) | (show AT _ _ _ _; refine x_then_ret ?_))
      exact x_ret1 Tryz.results3 (res_tmp rfl) (fun w' c' => ⟨_, _, rfl, ⟨rfl, rfl⟩, c'.sub (List.nil_sublist _)⟩)
set_option maxRecDepth 100000 in
theorem lifted (os : Os) (started : os.Started) (H : Type) (enc : TypeId × Value → H) :
    ReturnsInHanded {} Tryz.checked os 3 .any (fun w args => (Rows.fnExactParseRepSpec.pre enc Tryz.prog Tryz.f3 Rows.fnExactParseRepRow.domain false w args ∧ laidMetH Tryz.prog Rows.fnExactParseRepRow.laid w) ∧ sizedMet enc Tryz.prog Tryz.f3 (OpenSpec.ofChange Rows.fnExactParseRepSpec) false w args) (Rows.fnExactParseRepSpec.post enc Tryz.prog Tryz.f3 false true false false) := by
  refine handed_both (C := Tryz.checked) (X := fun w _ => laidMetH Tryz.prog Rows.fnExactParseRepRow.laid w) (fun _ _ _ hh h => h.of_heap hh) Tryz.own started kr Tryz.func3
    (ChangeSpec.witness_shaped (enc := enc) (C := Tryz.checked) (os := os) (X := fun w _ => laidMetH Tryz.prog Rows.fnExactParseRepRow.laid w) false (World.laidAll Tryz.prog os Rows.fnExactParseRepRow.laid) #[.int .i64 0, .agg #[.int .i64 0, .slice none 0 0, .slice none 0 0], .string ⟨#[]⟩] 16 (World.laidAll_os _ _ _) (World.shaped_of_ZipB kr kr) kr kr kr (by rw [MakeChecks.laidMetH_plain _ _ _ kr]; exact laidMet_laidAll _ kr kr)) ?_
  intro W base args ds gs before hval0 hW hcnd _ hL hsh _
  have hG := glb_of hL hsh
  have hval : ∀ (j : Nat) t v, Tryz.f3.params[j]? = some t → args[j]? = some v → Value.okWide Tryz.prog W .any base t v := hval0
  have hW' := hW
  obtain ⟨p, q, hA0, hV, rfl, hfz, hnd⟩ := hW
  have hA : DataW.TrodAll enc Tryz.prog W 0 (fun _ => true) true Tryz.f3.params.toList args.toList ds p := hA0
  rw [Tryz.params3] at hA hval
  obtain ⟨v0, vs0, d0, ds0, p0, q0, hargs, rfl, rfl, k0, r0⟩ := trodAll_cons hA
  obtain ⟨v1, vs1, d1, ds1, p1, q1, rfl, rfl, rfl, k1, r1⟩ := trodAll_cons r0
  obtain ⟨v2, vs2, d2, ds2, p2, q2, rfl, rfl, rfl, k2, r2⟩ := trodAll_cons r1
  obtain ⟨rfl, rfl, rfl⟩ := trodAll_nil r2
  obtain rfl : args = #[v0, v1, v2] := by cases args; simp_all
  obtain ⟨rfl, rfl⟩ := trodVars_none hV
  have lt0 : ∀ x ∈ p0, x.block < W.heap.size := by obtain ⟨m, hm⟩ := k0; exact DataW.trod_lt m _ _ _ hm
  obtain ⟨n0, rfl, g0⟩ := opn_int (hval 0 3 v0 rfl rfl) k0
  have lt1 : ∀ x ∈ p1, x.block < W.heap.size := by obtain ⟨m, hm⟩ := k1; exact DataW.trod_lt m _ _ _ hm
  obtain ⟨q1, u1_0, u1_1, rfl, h1_0, h1_1, g1⟩ := opn_quiver (hval 1 24 v1 rfl rfl) k1
  have lt2 : ∀ x ∈ p2, x.block < W.heap.size := by obtain ⟨m, hm⟩ := k2; exact DataW.trod_lt m _ _ _ hm
  obtain ⟨s2, rfl⟩ := opn_string (hval 2 9 v2 rfl rfl) k2
  clear hA0 hval0
  refine (law_ok W g0 h1_0 h1_1 g1  hG).mono fun e W' ⟨v, H', he, ⟨hv, _⟩, hp⟩ => ?_
  subst he; subst hv
  have bel := hp.below
  exact ⟨_, rfl, _, _, _, [], _, [], hW', trodAll_mk1 (shut_bool Tryz.underlying4 _), (trodAll_cons_mk (Below.trod Tryz.laidOut kr (of_decide_eq_true kr) k0 bel lt0) (trodAll_cons_mk (Below.trod Tryz.laidOut kr (of_decide_eq_true kr) k1 bel lt1) (trodAll_cons_mk (Below.trod Tryz.laidOut kr (of_decide_eq_true kr) k2 bel lt2) trodAll_mk0))), rfl, bel.frame _, fun h => by cases h⟩

theorem closed : joinedFacts Tryz.pinned.checked.prog 3 Tryz.f3 Rows.fnExactParseRepSpec Rows.fnExactParseRepRow = true := by
  unfold joinedFacts
  repeat' (with_reducible refine band ?_ ?_)
  all_goals first | (with_reducible exact fin_enter) | ((with_reducible refine fin_lifted ?_); rfl) | ((with_reducible refine fin_make ?_); rfl) | (as_aux_lemma => kernel_rfl)
/-- the row -/
theorem rowed : Rows.FnExactParseRepSaid :=
  OpenClaim.holds_of_wide 3 Tryz.f3 rfl rfl rfl rfl rfl rfl rfl ⟨rfl, rfl, rfl, rfl, rfl⟩ rfl rfl rfl rfl rfl kr Tryz.func3 closed
    (of_decide_eq_true kr) (by unfold Func.isWrapper; first | (rw [if_pos (by decide +kernel)]; kernel_rfl) | (rw [if_neg (by decide +kernel)]; exact ⟨rfl, rfl⟩))
    (fun os started H enc _ => lifted os started H enc)
/-- the given statement -/
theorem proved : Rows.FnExactParseRepCardSaid :=
  Claim7.holds_tied_plain_at .later [] [.data, .data, .data, .data, .sentinel, .sentinel, .pinned] true (true, "087f56d0a5693e9d561eecd025ca21a5123f4825c21fa0492194b810e092d5bb") true rowed (fun _ h => by cases h) kr (fun _ h => by cases h) fnExactParseRep_row_tie rfl ⟨rfl, rfl⟩ kr rfl
    (fun f fn hf hfn => by
      obtain rfl : f = 3 := Option.some.inj ((show Tryz.prog.funcNamed "loop.example/g03404/laws.FnExactParseRep" = some 3 by kernel_rfl).symm.trans hf) |>.symm
      obtain rfl : fn = Tryz.f3 := (Option.some.inj (Tryz.func3.symm.trans hfn)).symm
      exact ⟨by kernel_rfl, fun j t ht => by
        rw [Tryz.params3] at ht
        have hm : t ∈ [3, 24, 9] := by simpa using Array.mem_of_getElem? ht
        have hall : ([3, 24, 9].all fun u => !Tryz.prog.wantsStandIn u) = true := by kernel_rfl
        exact (show Tryz.prog.wantsStandIn t = false by simpa using List.all_eq_true.1 hall t hm)⟩)
    kr
#print axioms proved
end Go.Proofs.YtdnhmnnccfoliaaGreatDoor.wFnExactParseRep
