import Derived.Test.YtdnhmnnccfoliaaGreatDoorRows
import Derived.Stop.LaidErr
import Derived.Stop.Joined
import Derived.MakeChecks
import Derived.HandedShaped
import Derived.ChangeMaps5
import Derived.Shelf.Vars
import Derived.Lib.LaidTab
import Derived.OpenShut
import Derived.Test.YtdnhmnnccfoliaaGreatDoorDuaqrp
import Derived.Test.YtdnhmnnccfoliaaGreatDoorOpnqrp
import Derived.Test.YtdnhmnnccfoliaaGreatDoorPmpqrp
import Derived.Test.YtdnhmnnccfoliaaGreatDoorShpqrp
import Derived.Test.YtdnhmnnccfoliaaGreatDoorSupqrp
import Derived.Test.YtdnhmnnccfoliaaGreatDoorWhoqrp
namespace Go.Proofs.YtdnhmnnccfoliaaGreatDoor
open Go.Lg Go.Proofs Go.RowKit
attribute [local irreducible] Code.wp wpList bodyPost Exit.then Exit.inBlock Hp Again Calls Y AT ResV QT Qn QI wpAny wpAnyQ
set_option maxRecDepth 20000
set_option maxHeartbeats 4000000

theorem spec_MultiplyMatrices_ok {w : World} {p : Int} {a b : Mat} {u v : Value} (hr : Rd w (iT a.2.2) u) (hv : Rd w (iT b.2.2) v) :
    Does Tryz.prog 27 [iV p, .agg #[iV a.1, iV a.2.1, u], .agg #[iV b.1, iV b.2.1, v]] w (GivesMB (mlM p a b) (decide (MlP p a b))) := by
  by_cases hA : MlP p a b
  · rw [decide_eq_true hA]
    have hM := hA.1
    have hN := hA.2.1
    obtain ⟨R, N, C, f, g, rfl, rfl, hR, hN', hC, hF, hf, hg, e⟩ := mlM_of hA
    rw [e]
    simp only at hr hv ⊢
    refine fn_enter Tryz.func27 rfl Tryz.ntmps27 rfl ?_
    repeat' (first | (show oL; first | refine sMv rfl rfl ?_ | refine sAs rfl rfl ?_ | refine sFd tabs rfl rfl rfl rfl ?_ | (show oA (.load _ _); first | refine sLd 1 tabs rfl rfl rfl rfl rfl ?_ | refine sLd 2 tabs rfl rfl rfl rfl rfl ?_ | refine sLb 1 tabs rfl rfl rfl rfl rfl ?_ | refine sLb 2 tabs rfl rfl rfl rfl rfl ?_) | (show oA (.binOp _ _ _ _ _); refine st_y (y_neq rfl rfl) rfl ?_) | (show oA (.unOp _ _ _); refine st_y (y_notd rfl) rfl ?_) | (show oA (.call _); first | (refine m_call (ent_of Tryz.func22 kr rfl) rfl rfl (fun w c => spec_IsMatrix_ok (m := (↑R, ↑N, mk R N f)) (c.rd hr)) ?_; rintro v H' ⟨rfl, rfl⟩) | (refine m_call (ent_of Tryz.func22 kr rfl) rfl rfl (fun w c => spec_IsMatrix_ok (m := (↑N, ↑C, mk N C g)) (c.rd hv)) ?_; rintro v H' ⟨rfl, rfl⟩) | (refine m_call (ent_of Tryz.func111 kr rfl) rfl rfl (fun w c => l3Multiply_ok (c.rd hr) (c.rd hv) hF om om om hf hg) ?_; rintro v H' ⟨a2, c2, rfl, hs2, rfl⟩)) | (show oA (.pick _ _ _); first | refine st_y (y_pickt rfl aO rfl) rfl ?_ | refine st_y (y_pickf rfl aO rfl) rfl ?_ | refine st_y (y_pick rfl rfl rfl) rfl ?_) | (show oA (.store _ _ _); refine m_storeb 1 tabs rfl rfl rfl rfl rfl rfl rfl ?_) | (show oA (.box _ _); refine m_box rfl rfl (fun b5 hb5 => ?_)) | (show oA (.alloc _); refine m_alloc tabs rfl rfl (fun bq hbq => ?_)) | refine st_gn rfl rfl rfl ?_ | refine st_gfy rfl rfl aO ?_ | refine st_gfn rfl rfl aO rfl ?_ | refine st_gd rfl rfl (fun h => ?_) (fun h => ?_)) | refine xNt ?_ | (show oC; first | refine c_seq ?_ | refine c_region ?_ | refine c_skip (x_then ?_) | refine c_ret ?_ | refine c_true rfl ?_ | refine c_iff rfl nN ?_))
    all_goals first
      | exact x_ret2 Tryz.results27 (res_cellb 1 tabs rfl rfl rfl rfl) (res_tmp rfl) (fun w' c' => ⟨_, _, rfl, ⟨a2, c2, by rw [mk_length], by rw [mk_length]; exact hs2, by rw [mk_length]⟩, c'.sub (.cons_cons _ (List.nil_sublist _))⟩)
      | exact absurd hM aS
      | exact absurd hN aS
  · rw [mlM, if_neg hA, decide_eq_false hA]
    refine fn_enter Tryz.func27 rfl Tryz.ntmps27 rfl ?_
    repeat' (first | (show oL; first | refine sMv rfl rfl ?_ | refine sAs rfl rfl ?_ | refine sFd tabs rfl rfl rfl rfl ?_ | (show oA (.load _ _); first | refine sLd 1 tabs rfl rfl rfl rfl rfl ?_ | refine sLd 2 tabs rfl rfl rfl rfl rfl ?_ | refine sLb 1 tabs rfl rfl rfl rfl rfl ?_ | refine sLb 2 tabs rfl rfl rfl rfl rfl ?_) | (show oA (.binOp _ _ _ _ _); refine st_y (y_neq rfl rfl) rfl ?_) | (show oA (.unOp _ _ _); refine st_y (y_notd rfl) rfl ?_) | (show oA (.call _); first | (refine m_call (ent_of Tryz.func22 kr rfl) rfl rfl (fun w c => spec_IsMatrix_ok (m := a) (c.rd hr)) ?_; rintro v H' ⟨rfl, rfl⟩) | (refine m_call (ent_of Tryz.func22 kr rfl) rfl rfl (fun w c => spec_IsMatrix_ok (m := b) (c.rd hv)) ?_; rintro v H' ⟨rfl, rfl⟩)) | (show oA (.pick _ _ _); first | refine st_y (y_pickt rfl aS rfl) rfl ?_ | refine st_y (y_pickf rfl aS rfl) rfl ?_ | refine st_y (y_pick rfl rfl rfl) rfl ?_) | (show oA (.store _ _ _); refine m_storeb 0 tabs rfl rfl rfl rfl rfl rfl rfl ?_) | (show oA (.box _ _); refine m_box rfl rfl (fun b5 hb5 => ?_)) | (show oA (.alloc _); refine m_alloc tabs rfl rfl (fun bq hbq => ?_)) | (show oA (.build _ _); refine st_y (y_bld0 bld_mat0) rfl ?_) | refine st_gn rfl rfl rfl ?_ | refine st_gfy rfl rfl aS ?_ | refine st_gfn rfl rfl aS rfl ?_ | refine st_gd rfl rfl (fun h => ?_) (fun h => ?_)) | refine xNt ?_ | (show oC; first | refine c_seq ?_ | refine c_region ?_ | refine c_skip (x_then ?_) | refine c_ret ?_ | refine c_true rfl ?_ | refine c_ifnd rfl (fun h => ?_) (fun h => ?_)) | (show AT _ _ _ _; refine x_then_ret ?_))
    all_goals first
      | exact absurd ⟨by first | assumption | exact Decidable.not_not.1 aS, by first | assumption | exact Decidable.not_not.1 aS, by omega⟩ hA
      | exact x_ret2 Tryz.results27 (res_cellb 0 tabs rfl rfl rfl rfl) (res_tmp rfl) (fun w' c' => ⟨_, _, rfl, ⟨none, 0, rfl, .inl rfl, rfl⟩, Hp.nilp _ _ (c'.sub (List.nil_sublist _))⟩)

end Go.Proofs.YtdnhmnnccfoliaaGreatDoor

namespace Go.Proofs.YtdnhmnnccfoliaaGreatDoor
open Go.Lg Go.Proofs Go.RowKit Go.ChangeShapes

theorem err_star : "*errors.errorString" = "*" ++ "errors.errorString" := by decide
theorem err_is {nm : String} (h : nm = "*errors.errorString") : ∀ u, Tryz.prog.typeName? 3 u = some nm → u = 231 := by
  subst h
  exact fun u hu => typeName_ptr_named (nm := "errors.errorString") (by rw [← err_star]; kernel_rfl) kr (by decide) u (by rw [← err_star]; exact hu)
theorem handed_both {H : Type} {enc : TypeId × Value → H} {a : Assume} {C : Checked} {os : Os} {f : FuncId} {fn : Func} {s : ChangeSpec} {conds : List PathCond} {apart fresh handsOn again : Bool} {X : World → Array Value → Prop}
    (hX : ∀ (w w' : World) (args : Array Value), w.heap = w'.heap → X w args → X w' args)
    (own : ownKnob C.prog.godebug = none) (started : os.Started) (noInit : C.prog.inits.idxOf? f = none) (hfn : C.prog.funcs[f]? = some fn)
    (witness : ∃ (w : World) (tape : Tape) (i : Input), w.os = os ∧ (w.forCall tape i).Shaped C.prog ∧ i.vars = [] ∧ Input.okWide C.prog (w.forCall tape i) .any w.heap.size f i ∧
      ((s.pre enc C.prog fn conds apart (w.forCall tape i).memory i.args ∧ X (w.forCall tape i).memory i.args) ∧ sizedMet enc C.prog fn (OpenSpec.ofChange s) apart (w.forCall tape i).memory i.args) ∧ a.holds C.prog (lone (Frame.enter C.prog f i.args .normal) [] (w.forCall tape i)))
    (contract : ∀ (W : World) (base : Nat) (args : Array Value) (ds gs : List (DataW H)) (before : List MemPlace),
      (∀ (j : Nat) t v, fn.params[j]? = some t → args[j]? = some v → Value.okWide C.prog W .any base t v) →
      DataW.Whole enc C.prog fn.params.toList s.vars apart W args.toList ds gs before →
      conds.all (PathCond.test C.prog ⟨fn.params.toList, ds, s.plain.varTypes C.prog, gs⟩) = true →
      (DataW.weightsEach C.prog (fn.params.toList ++ s.plain.varTypes C.prog) (ds ++ gs)).all (· ≤ reachBytes) = true → X W args → W.ShapedOpen C.prog →
      a.holds C.prog (lone (Frame.enter C.prog f args .normal) [] W) →
      Calls C.prog f args W fun e W' => ∃ v, e = .returned v ∧ s.post enc C.prog fn apart fresh handsOn again W args v W') :
    ReturnsInHanded a C os f .any (fun w args => (s.pre enc C.prog fn conds apart w args ∧ X w args) ∧ sizedMet enc C.prog fn (OpenSpec.ofChange s) apart w args) (s.post enc C.prog fn apart fresh handsOn again) := by
  refine returnsInHanded_of_calls own started noInit witness ?_
  intro w tape i _ hsh _ hok hpre hholds
  obtain ⟨_, _, _, fn', hfn', _, _, _, _, hval⟩ := hok
  have e : fn' = fn := Option.some.inj (hfn'.symm.trans hfn)
  subst e
  obtain ⟨⟨⟨ds, gs, before, hw, hc⟩, hx⟩, hz⟩ := hpre
  have hw' := DataW.Whole.of_heap (w' := w.forCall tape i) (by rfl) hw
  refine (contract (w.forCall tape i) w.heap.size i.args ds gs before hval hw' hc (hz.weights hw) (hX _ _ _ (by rfl) hx) hsh hholds).mono fun e W' ⟨v, he, hp⟩ => ?_
  subst he
  exact ChangeSpec.post_blind hp
end Go.Proofs.YtdnhmnnccfoliaaGreatDoor

namespace Go.Proofs.YtdnhmnnccfoliaaGreatDoor
open Go.Lg Go.Proofs Go.RowKit Go.ChangeShapes

theorem glb_ofR {w : World} (h : laidMetH Tryz.prog Rows.fnRepsRow.laid w) (hS : w.ShapedOpen Tryz.prog) : Glb w := by
  rw [MakeChecks.laidMetH_plain _ _ _ kr] at h
  have h3 := h.tail.tail
  have h5 := h3.tail.tail
  have h6 := h5.tail
  refine ⟨?_, ?_, ?_, ?_⟩
  · exact cell_of_shapedOpen_int (zero := #[.int .i64 0]) (t := 3) hS (of_decide_eq_true kr) kr rfl kr kr Tryz.underlying3
  · obtain ⟨a, s, hv, _⟩ := laid_sentinel (g := 1) h6 (ti := 155) kr kr Tryz.underlying155 (err_is rfl) Tryz.underlying231 Tryz.underlying233 rfl rfl Tryz.underlying9 kr kr
    exact ⟨_, _, hv⟩
  · obtain ⟨a, s, hv, _⟩ := laid_sentinel (g := 2) h5 (ti := 155) kr kr Tryz.underlying155 (err_is rfl) Tryz.underlying231 Tryz.underlying233 rfl rfl Tryz.underlying9 kr kr
    exact ⟨_, _, hv⟩
  · refine Lib.tabIs_of_head (rest := _) (g := 5) (t := 226) kr kr Tryz.underlying226 Tryz.underlying204 kr kr h3
end Go.Proofs.YtdnhmnnccfoliaaGreatDoor

/- Facts on the words at the head of the program; there are no conditions. -/
namespace Go.Proofs.YtdnhmnnccfoliaaGreatDoor
open Go.Lg Go.Proofs Go.RowKit Go.ChangeShapes Go.WideShapes Go.ChangeAt
set_option maxRecDepth 100000
theorem band {a b : Bool} (h : a = true) (h' : b = true) : (a && b) = true := by rw [h, h']; rfl
def headCodes : List Nat := [104, 97, 114, 110, 101, 115, 115, 32, 48, 56, 55, 102, 53, 54, 100, 48, 97, 53, 54, 57, 51, 101, 57, 100, 53, 54, 49, 101, 101, 99, 100, 48, 50, 53, 99, 97, 50, 49, 97, 53, 49, 50, 51, 102, 52, 56, 50, 53, 99, 50, 49, 102, 97, 48, 52, 57, 50, 49, 57, 52, 98, 56, 49, 48, 101, 48, 57, 50, 100, 53, 98, 98, 32, 99, 117, 116, 32, 97, 116, 32, 108, 111, 111, 112, 46, 101, 120, 97, 109, 112, 108, 101, 47, 103, 48, 51, 52, 48, 52, 47, 108, 97, 119, 115, 46, 70, 110, 69, 120, 97, 99, 116, 80, 97, 114, 115, 101, 82, 101, 112, 32, 108, 111, 111, 112, 46, 101, 120, 97, 109, 112, 108, 101, 47, 103, 48, 51, 52, 48, 52, 47, 108, 97, 119, 115, 46, 70, 110, 77, 97, 116, 114, 105, 99, 101, 115, 32, 108, 111, 111, 112, 46, 101, 120, 97, 109, 112, 108, 101, 47, 103, 48, 51, 52, 48, 52, 47, 108, 97, 119, 115, 46, 70, 110, 82, 101, 112, 115]
theorem headIs0 : Tryz.pinned.checked.prog.initOrder = "harness 087f56d0a5693e9d561eecd025ca21a5123f4825c21fa0492194b810e092d5bb cut at loop.example/g03404/laws.FnExactParseRep loop.example/g03404/laws.FnMatrices loop.example/g03404/laws.FnReps" := by kernel_rfl
theorem headIs1 : "harness 087f56d0a5693e9d561eecd025ca21a5123f4825c21fa0492194b810e092d5bb cut at loop.example/g03404/laws.FnExactParseRep loop.example/g03404/laws.FnMatrices loop.example/g03404/laws.FnReps" = String.ofList (headCodes.map Char.ofNat) := by kernel_rfl
theorem headIs : Tryz.pinned.checked.prog.initOrder = String.ofList (headCodes.map Char.ofNat) := headIs0.trans headIs1
theorem headWords : ∃ rest, behindMainWord (wordsSigns Tryz.pinned.checked.prog.initOrder.toList) = "cut".toList :: "at".toList :: rest := by
  rw [headIs, String.toList_ofList]
  exact ⟨(behindMainWord (wordsSigns (headCodes.map Char.ofNat))).tail.tail, by kernel_rfl⟩
theorem gen_enter (P : Program) {rest : List (List Char)} (h : behindMainWord (wordsSigns P.initOrder.toList) = "cut".toList :: "at".toList :: rest) (h1 : P.laysLater = false) (h2 : P.bearsReflect = false) (h3 : P.doorFits [] = true) : P.mayEnter = true := by
  unfold Program.mayEnter
  rw [h]
  have e : stripLifts liftWords ("cut".toList :: "at".toList :: rest) = ([], "cut".toList :: "at".toList :: rest) := by rfl
  simp only [e, h1, h2, h3]
  simp
theorem gen_lifts (P : Program) {rest : List (List Char)} (h : behindMainWord (wordsSigns P.initOrder.toList) = "cut".toList :: "at".toList :: rest) : P.headLifts = [] := by
  unfold Program.headLifts
  rw [h]
  rfl
theorem gen_lifted (P : Program) {rest : List (List Char)} (h : behindMainWord (wordsSigns P.initOrder.toList) = "cut".toList :: "at".toList :: rest) : P.liftsFinal = false := by
  have := gen_lifts P h
  unfold Program.liftsFinal
  rw [h, this]
  rfl
theorem gen_make (P : Program) {rest : List (List Char)} (h : behindMainWord (wordsSigns P.initOrder.toList) = "cut".toList :: "at".toList :: rest) : P.make = some .cut := by
  unfold Program.make
  rw [h]
  rfl
theorem fin_lays : Tryz.pinned.checked.prog.laysLater = false := by kernel_rfl
theorem fin_bears : Tryz.pinned.checked.prog.bearsReflect = false := by kernel_rfl
theorem fin_door : Tryz.pinned.checked.prog.doorFits [] = true := by kernel_rfl
theorem fin_enter : Tryz.pinned.checked.prog.mayEnter = true := Exists.elim headWords (fun _ h => gen_enter Tryz.pinned.checked.prog h fin_lays fin_bears fin_door)
theorem fin_lifted {b : Bool} (hb : b = false) : (b == Tryz.pinned.checked.prog.liftsFinal) = true := Exists.elim headWords (fun _ h => by
  have := gen_lifted Tryz.pinned.checked.prog h
  generalize Tryz.pinned.checked.prog.liftsFinal = x at this
  rw [hb, this]; rfl)
theorem fin_make {m : Make} (hm : m = .cut) : (Tryz.pinned.checked.prog.make == some m) = true := Exists.elim headWords (fun _ h => by
  have := gen_make Tryz.pinned.checked.prog h
  generalize Tryz.pinned.checked.prog.make = x at this
  rw [hm, this]; rfl)
end Go.Proofs.YtdnhmnnccfoliaaGreatDoor
