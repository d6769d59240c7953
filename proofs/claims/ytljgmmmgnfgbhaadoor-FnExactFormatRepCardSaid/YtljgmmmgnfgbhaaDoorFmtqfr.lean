import Derived.Test.YtljgmmmgnfgbhaaDoorRepqfr
import Derived.Test.YtljgmmmgnfgbhaaDoorShfqfr
import Derived.Test.YtljgmmmgnfgbhaaDoorWhoqfr
namespace Go.Proofs.YtljgmmmgnfgbhaaDoor
open Go.Lg Go.Proofs Go.RowKit
attribute [local irreducible] Code.wp wpList bodyPost Exit.then Exit.inBlock Hp Again Calls Y AT ResV QT Qn QI wpAny wpAnyQ
set_option maxRecDepth 20000
set_option maxHeartbeats 4000000

/-! ### texts of matrices and of representations -/
theorem dg_conv {x : Int} (h0 : 0 ≤ x) (h9 : x ≤ 9) : IntKind.u8.wrap (48 + x) = ((dg x).toNat : Int) := by
  obtain ⟨k, rfl⟩ : ∃ k : Nat, x = k := ⟨x.toNat, by omega⟩
  have hk : k < 10 := by omega
  match k, hk with
  | 0, _ => rfl
  | 1, _ => rfl
  | 2, _ => rfl
  | 3, _ => rfl
  | 4, _ => rfl
  | 5, _ => rfl
  | 6, _ => rfl
  | 7, _ => rfl
  | 8, _ => rfl
  | 9, _ => rfl
def dgA (xs : List Int) (i : Nat) : Array Value := ((digL (xs.take i)).map bV ++ List.replicate (xs.length - i) (Value.int .u8 0)).toArray
theorem dgA_size {xs : List Int} {i : Nat} (h : i ≤ xs.length) : (dgA xs i).size = xs.length := by
  simp [dgA, digL]; omega
theorem digL_next {xs : List Int} {i : Nat} (h : i < xs.length) : digL (xs.take (i + 1)) = digL (xs.take i) ++ [dg (xs.getD i 0)] := by
  rw [List.take_add_one, List.getElem?_eq_getElem h, digL, List.map_append]
  simp [digL, List.getD, h]
theorem digL_len {xs : List Int} : (digL xs).length = xs.length := by simp [digL]
theorem dgA_next {xs : List Int} {i : Nat} (h : i < xs.length) : (dgA xs i).setIfInBounds i (bV (dg (xs.getD i 0))) = dgA xs (i + 1) := by
  apply Array.ext'
  have hl : ((digL (xs.take i)).map bV).length = i := by simp [digL]; omega
  have e : xs.length - i = (xs.length - (i + 1)) + 1 := by omega
  simp only [dgA, Array.toList_setIfInBounds, List.toList_toArray]
  rw [List.set_append_right _ _ (by omega), hl, Nat.sub_self, e, List.replicate_succ, List.set_cons_zero, digL_next h, List.map_append, List.append_assoc]
  rfl
theorem dgA_all {xs : List Int} : dgA xs xs.length = ((digL xs).map bV).toArray := by simp [dgA]
theorem dgA_zero {xs : List Int} : zeros [Value.int .u8 0] xs.length = dgA xs 0 := by
  apply Array.ext'
  rw [zeros_eq _ _ (by decide)]
  simp [dgA, digL]
theorem digits_ok {w : World} {xs : List Int} {u : Value} (hr : Rd w (iT xs) u) (hl : xs.length ≤ 64) (hd : ∀ i, i < xs.length → 0 ≤ xs.getD i 0 ∧ xs.getD i 0 ≤ 9) : Does Tryd.prog 19 [u] w (fun r H => r = sV (digL xs) ∧ H = []) := by
  obtain ⟨a, c, rfl, hs, hc1, hc2, hg⟩ := hr.ints
  refine fn_enter Tryd.func19 rfl Tryd.ntmps19 rfl ?_
  repeat' (first
    | (show AT _ _ _ (wpList _ _ _ (_ :: _)); first
       | (show AT _ _ _ (wpList _ _ _ (⟨_, Op.move _, _, _, _, _⟩ :: _)); refine st_y (y_move rfl) rfl ?_)
       | (show AT _ _ _ (wpList _ _ _ (⟨_, Op.assign _, _, _, _, _⟩ :: _)); refine st_y (y_assign rfl) rfl ?_)
       | (show AT _ _ _ (wpList _ _ _ (⟨_, Op.load _ _, _, _, _, _⟩ :: _)); refine st_y (y_load tabs rfl rfl (hc_rd (by assumption) (by omega))) rfl ?_)
       | (show AT _ _ _ (wpList _ _ _ (⟨_, Op.indexAddr _ _ _, _, _, _, _⟩ :: _)); first | refine st_y (y_ix1 tabs rfl rfl rfl (by first | assumption | exact .mk) rfl (by omega)) rfl ?_ | refine st_y (y_ixi tabs rfl rfl rfl (by first | assumption | exact .mk) (by omega) (by omega)) rfl ?_ | refine st_y (y_ixa tabs rfl rfl rfl (by first | assumption | exact .mk) (by omega) (by omega)) rfl ?_)
       | (show AT _ _ _ (wpList _ _ _ (⟨_, Op.binOp _ _ _ _ _, _, _, _, _⟩ :: _)); first | refine st_y (y_add rfl rfl (by omega)) rfl ?_ | refine st_y (y_lss rfl rfl) rfl ?_)
       | (show AT _ _ _ (wpList _ _ _ (⟨_, Op.call _, _, _, _, _⟩ :: _)); refine st_y (y_len tabs rfl rfl) rfl ?_)
       | (show AT _ _ _ (wpList _ _ _ (⟨_, Op.makeSlice _ _ _, _, _, _, _⟩ :: _)); first | refine m_make tabs (l := xs.length) (c := xs.length) rfl rfl rfl (by omega) (by omega) (by omega) (by omega) (by decide) (fun g hg => ?_) | refine m_makei tabs rfl rfl rfl (by omega) (by omega) rfl (fun g hg => ?_)))
    | (show AT _ _ _ (wpList _ _ _ []); first | refine c_nil (x_then ?_) | refine c_nil (x_qn ?_) | refine c_nil ?_)
    | (show AT _ _ _ (Code.wp _ _ _); first | refine c_seq ?_ | refine c_region ?_ | refine c_skip (x_then ?_) | refine c_skip (x_blk ?_) | refine c_skip ?_ | refine c_block ?_ | refine c_ret ?_ | refine c_exit ?_ | refine c_true rfl ?_ | refine c_false rfl ?_ | refine c_ift rfl (by first | assumption | omega) ?_ | refine c_iff rfl (by first | assumption | exact not_not_intro (by assumption) | omega) ?_ | refine c_ifnd rfl (fun h => ?_) (fun h => ?_) | refine c_if rfl (fun h => ?_) (fun h => ?_) | refine c_ifn rfl (fun h => ?_) (fun h => ?_))
    | (show AT _ _ _ _; first | refine x_then ?_ | refine x_qn ?_ | refine x_then_ret ?_ | refine x_blk_ret ?_ | refine x_then_exit ?_ | refine x_blk_exit rfl ?_ | refine x_blk_other rfl ?_ | refine x_blk ?_))
  simp only [Int.toNat_natCast]
  rw [dgA_zero]
  refine c_loopH (α := Nat) [3, 9, 10] (fun i => [(11, .int .i64 i)]) (fun i => i ≤ xs.length) (fun i => [.blk g (dgA xs i) 5]) (fun i => xs.length - i) 0 rfl (by repeat' (first | exact Sub.nil | refine Sub.cons rfl ?_ | refine Sub.consi rfl (by omega) ?_)) ?_ ?_ ?_
  · exact Nat.zero_le _
  · exact fun w' c' => c'
  · intro i hi
    by_cases hin : i < xs.length
    · have hdi := hd i hin
      have e1 : min (max (xs.getD i 0) 0) 9 = xs.getD i 0 := by omega
      repeat' (first
        | (show AT _ _ _ (wpList _ _ _ (_ :: _)); first
           | (show AT _ _ _ (wpList _ _ _ (⟨_, Op.move _, _, _, _, _⟩ :: _)); refine st_y (y_move rfl) rfl ?_)
           | (show AT _ _ _ (wpList _ _ _ (⟨_, Op.assign _, _, _, _, _⟩ :: _)); refine st_y (y_assign rfl) rfl ?_)
           | (show AT _ _ _ (wpList _ _ _ (⟨_, Op.load _ _, _, _, _, _⟩ :: _)); first | refine st_y (y_load tabs rfl rfl (hc_w0 (hg i hin))) rfl ?_ | refine st_y (y_load tabs rfl rfl (hc_rd (by assumption) (by omega))) rfl ?_)
           | (show AT _ _ _ (wpList _ _ _ (⟨_, Op.indexAddr _ _ _, _, _, _, _⟩ :: _)); first | refine st_y (y_ix1 tabs (j := i) rfl rfl rfl hs rfl hin) rfl ?_ | refine st_y (y_ixs tabs (j := i) rfl rfl rfl rfl hin) rfl ?_ | refine st_y (y_ix1 tabs rfl rfl rfl (by first | assumption | exact .mk) rfl (by omega)) rfl ?_ | refine st_y (y_ixi tabs rfl rfl rfl (by first | assumption | exact .mk) (by omega) (by omega)) rfl ?_ | refine st_y (y_ixa tabs rfl rfl rfl (by first | assumption | exact .mk) (by omega) (by omega)) rfl ?_)
           | (show AT _ _ _ (wpList _ _ _ (⟨_, Op.binOp _ _ _ _ _, _, _, _, _⟩ :: _)); first | refine st_y (y_add rfl rfl (by omega)) rfl ?_ | refine st_y (y_lss rfl rfl) rfl ?_)
           | (show AT _ _ _ (wpList _ _ _ (⟨_, Op.call _, _, _, _, _⟩ :: _)); first | refine st_y (y_max rfl rfl) rfl ?_ | refine st_y (y_min rfl rfl) rfl ?_ | refine st_y (y_len tabs rfl rfl) rfl ?_)
           | (show AT _ _ _ (wpList _ _ _ (⟨_, Op.store _ _ _, _, _, _, _⟩ :: _)); refine m_store 0 tabs rfl rfl rfl rfl rfl (by rw [dgA_size hi]; omega) ?_)
           | (show AT _ _ _ (wpList _ _ _ (⟨_, Op.makeSlice _ _ _, _, _, _, _⟩ :: _)); refine m_makei tabs rfl rfl rfl (by omega) (by omega) rfl (fun g hg => ?_))
           | (show AT _ _ _ (wpList _ _ _ (⟨_, Op.convert _ _ _, _, _, _, _⟩ :: _)); refine st_y (y_convk (t := 3) (t' := 5) (k := .i64) (k' := .u8) (q := ((dg (xs.getD i 0)).toNat : Int)) (by kernel_rfl) (by kernel_rfl) (by kernel_rfl) rfl (by rw [e1]; exact dg_conv hdi.1 hdi.2)) rfl ?_))
        | (show AT _ _ _ (wpList _ _ _ []); first | refine c_nil (x_then ?_) | refine c_nil (x_qn ?_) | refine c_nil ?_)
        | (show AT _ _ _ (Code.wp _ _ _); first | refine c_seq ?_ | refine c_region ?_ | refine c_skip (x_then ?_) | refine c_skip (x_blk ?_) | refine c_skip ?_ | refine c_block ?_ | refine c_ret ?_ | refine c_exit ?_ | refine c_true rfl ?_ | refine c_false rfl ?_ | refine c_ift rfl (by first | assumption | omega) ?_ | refine c_iff rfl (by first | assumption | exact not_not_intro (by assumption) | omega) ?_ | refine c_ifnd rfl (fun h => ?_) (fun h => ?_) | refine c_if rfl (fun h => ?_) (fun h => ?_) | refine c_ifn rfl (fun h => ?_) (fun h => ?_))
        | (show AT _ _ _ _; first | refine x_then ?_ | refine x_qn ?_ | refine x_then_ret ?_ | refine x_blk_ret ?_ | refine x_then_exit ?_ | refine x_blk_exit rfl ?_ | refine x_blk_other rfl ?_ | refine x_blk ?_))
      exact x_nx (i + 1) (by repeat' (first | exact Sub.nil | refine Sub.cons rfl ?_ | refine Sub.consi rfl (by omega) ?_)) (by omega) (fun w' c' => by rw [Nat.zero_add] at c'; rw [← dgA_next hin]; exact c') (by omega)
    · have : i = xs.length := by omega
      subst this
      repeat' (first
        | (show AT _ _ _ (wpList _ _ _ (_ :: _)); first
           | (show AT _ _ _ (wpList _ _ _ (⟨_, Op.move _, _, _, _, _⟩ :: _)); refine st_y (y_move rfl) rfl ?_)
           | (show AT _ _ _ (wpList _ _ _ (⟨_, Op.assign _, _, _, _, _⟩ :: _)); refine st_y (y_assign rfl) rfl ?_)
           | (show AT _ _ _ (wpList _ _ _ (⟨_, Op.load _ _, _, _, _, _⟩ :: _)); refine st_y (y_load tabs rfl rfl (hc_rd (by assumption) (by omega))) rfl ?_)
           | (show AT _ _ _ (wpList _ _ _ (⟨_, Op.indexAddr _ _ _, _, _, _, _⟩ :: _)); first | refine st_y (y_ix1 tabs rfl rfl rfl (by first | assumption | exact .mk) rfl (by omega)) rfl ?_ | refine st_y (y_ixi tabs rfl rfl rfl (by first | assumption | exact .mk) (by omega) (by omega)) rfl ?_ | refine st_y (y_ixa tabs rfl rfl rfl (by first | assumption | exact .mk) (by omega) (by omega)) rfl ?_)
           | (show AT _ _ _ (wpList _ _ _ (⟨_, Op.binOp _ _ _ _ _, _, _, _, _⟩ :: _)); first | refine st_y (y_add rfl rfl (by omega)) rfl ?_ | refine st_y (y_lss rfl rfl) rfl ?_)
           | (show AT _ _ _ (wpList _ _ _ (⟨_, Op.call _, _, _, _, _⟩ :: _)); refine st_y (y_len tabs rfl rfl) rfl ?_)
           | (show AT _ _ _ (wpList _ _ _ (⟨_, Op.makeSlice _ _ _, _, _, _, _⟩ :: _)); refine m_makei tabs rfl rfl rfl (by omega) (by omega) rfl (fun g hg => ?_))
           | (show AT _ _ _ (wpList _ _ _ (⟨_, Op.convert _ _ _, _, _, _, _⟩ :: _)); refine st_y (y_convbs (t := 57) (t' := 9) (e := 5) (l := digL xs) (by kernel_rfl) (by kernel_rfl) (by kernel_rfl) (by rw [digL_len]; rfl) (fun w c => fun j u hj => by rw [dgA_all] at c; rw [Addr.add_lit]; exact hc_blk 0 rfl (by rw [Nat.zero_add, List.getElem?_toArray]; exact hj) w c)) rfl ?_))
        | (show AT _ _ _ (wpList _ _ _ []); first | refine c_nil (x_then ?_) | refine c_nil (x_qn ?_) | refine c_nil ?_)
        | (show AT _ _ _ (Code.wp _ _ _); first | refine c_seq ?_ | refine c_region ?_ | refine c_skip (x_then ?_) | refine c_skip (x_blk ?_) | refine c_skip ?_ | refine c_block ?_ | refine c_ret ?_ | refine c_exit ?_ | refine c_true rfl ?_ | refine c_false rfl ?_ | refine c_ift rfl (by first | assumption | omega) ?_ | refine c_iff rfl (by first | assumption | exact not_not_intro (by assumption) | omega) ?_ | refine c_ifnd rfl (fun h => ?_) (fun h => ?_) | refine c_if rfl (fun h => ?_) (fun h => ?_) | refine c_ifn rfl (fun h => ?_) (fun h => ?_))
        | (show AT _ _ _ _; first | refine x_then ?_ | refine x_qn ?_ | refine x_then_ret ?_ | refine x_blk_ret ?_ | refine x_then_exit ?_ | refine x_blk_exit rfl ?_ | refine x_blk_other rfl ?_ | refine x_blk ?_))
      exact x_ret1 Tryd.results19 (res_tmp rfl) (fun w' c' => ⟨_, _, rfl, ⟨rfl, rfl⟩, c'.sub (List.nil_sublist _)⟩)
theorem impl_FormatInt_ok {w : World} {n : Int} (h0 : 0 ≤ n) (h9 : n ≤ 9) : Does Tryd.prog 33 [iV n] w (fun r H => r = sV [dg n] ∧ H = []) := by
  refine fn_enter Tryd.func33 rfl Tryd.ntmps33 rfl ?_
  repeat' (first
    | (show AT _ _ _ (wpList _ _ _ (_ :: _)); first
       | (show AT _ _ _ (wpList _ _ _ (⟨_, Op.move _, _, _, _, _⟩ :: _)); refine st_y (y_move rfl) rfl ?_)
       | (show AT _ _ _ (wpList _ _ _ (⟨_, Op.assign _, _, _, _, _⟩ :: _)); refine st_y (y_assign rfl) rfl ?_)
       | (show AT _ _ _ (wpList _ _ _ (⟨_, Op.call _, _, _, _, _⟩ :: _)); (refine m_call (ent_of Tryd.func46 (by kernel_rfl) rfl) rfl rfl (fun w c => itoa_ok h0 h9) ?_; rintro v H' ⟨rfl, rfl⟩)))
    | (show AT _ _ _ (wpList _ _ _ []); first | refine c_nil (x_then ?_) | refine c_nil (x_qn ?_) | refine c_nil ?_)
    | (show AT _ _ _ (Code.wp _ _ _); first | refine c_seq ?_ | refine c_region ?_ | refine c_skip (x_then ?_) | refine c_skip (x_blk ?_) | refine c_skip ?_ | refine c_ret ?_ | refine c_exit ?_)
    | (show AT _ _ _ _; first | refine x_then ?_ | refine x_qn ?_ | refine x_then_ret ?_ | refine x_blk_ret ?_ | refine x_then_exit ?_ | refine x_blk_exit rfl ?_ | refine x_blk_other rfl ?_ | refine x_blk ?_))
  exact x_ret1 Tryd.results33 (res_tmp rfl) (fun w' c' => ⟨_, _, rfl, ⟨rfl, rfl⟩, c'.sub (List.nil_sublist _)⟩)
def fiN (n : Int) : Nat → Int
  | 0 => n
  | _ + 1 => 0
def fiS (n : Int) : Nat → List UInt8
  | 0 => []
  | _ + 1 => [dg n]
theorem spec_FormatInt_ok {w : World} {n : Int} (h0 : 0 ≤ n) (h9 : n ≤ 9) : Does Tryd.prog 13 [iV n] w (fun r H => r = sV [dg n] ∧ H = []) := by
  by_cases hn : n = 0
  · subst hn
    refine fn_enter Tryd.func13 rfl Tryd.ntmps13 rfl ?_
    repeat' (first
      | (show AT _ _ _ (wpList _ _ _ (_ :: _)); first
         | (show AT _ _ _ (wpList _ _ _ (⟨_, Op.move _, _, _, _, _⟩ :: _)); refine st_y (y_move rfl) rfl ?_)
         | (show AT _ _ _ (wpList _ _ _ (⟨_, Op.assign _, _, _, _, _⟩ :: _)); refine st_y (y_assign rfl) rfl ?_)
         | (show AT _ _ _ (wpList _ _ _ (⟨_, Op.binOp _ _ _ _ _, _, _, _, _⟩ :: _)); first | refine st_y (y_add rfl rfl (by omega)) rfl ?_ | refine st_y (y_lss rfl rfl) rfl ?_ | refine st_y (y_eql rfl rfl) rfl ?_ | refine st_y (y_neq rfl rfl) rfl ?_ | refine st_y (y_neqb_same Tryd.underlying4 rfl rfl) rfl ?_)
         | (show AT _ _ _ (wpList _ _ _ (⟨_, Op.unOp _ _ _, _, _, _, _⟩ :: _)); first | refine st_y (y_notd rfl) rfl ?_ | refine st_y (y_not rfl) rfl ?_)
         | (show AT _ _ _ (wpList _ _ _ (⟨_, Op.buildSlice _ _ _, _, _, _, _⟩ :: _)); refine m_build0 tabs rfl rfl (fun g hg => ?_)))
      | (show AT _ _ _ (wpList _ _ _ []); first | refine c_nil (x_then ?_) | refine c_nil (x_qn ?_) | refine c_nil ?_)
      | (show AT _ _ _ (Code.wp _ _ _); first | refine c_seq ?_ | refine c_region ?_ | refine c_skip (x_then ?_) | refine c_skip (x_blk ?_) | refine c_skip ?_ | refine c_block ?_ | refine c_ret ?_ | refine c_exit ?_ | refine c_true rfl ?_ | refine c_false rfl ?_ | refine c_ift rfl (by first | assumption | omega) ?_ | refine c_iff rfl (by first | assumption | exact not_not_intro (by assumption) | omega) ?_ | refine c_ifnd rfl (fun h => ?_) (fun h => ?_) | refine c_if rfl (fun h => ?_) (fun h => ?_) | refine c_ifn rfl (fun h => ?_) (fun h => ?_))
      | (show AT _ _ _ _; first | refine x_then ?_ | refine x_qn ?_ | refine x_then_ret ?_ | refine x_blk_ret ?_ | refine x_then_exit ?_ | refine x_blk_exit rfl ?_ | refine x_blk_other rfl ?_ | refine x_blk ?_))
    exact x_ret1 Tryd.results13 (res_tmp rfl) (fun w' c' => ⟨_, _, rfl, ⟨rfl, rfl⟩, c'.sub (List.nil_sublist _)⟩)
  · have e1 : n.tmod 10 = n := Int.tmod_eq_of_lt h0 (by omega)
    have e2 : IntKind.i64.wrap (n.tdiv 10) = 0 := by
      rw [Int.tdiv_eq_zero_of_lt h0 (by omega)]; rfl
    refine fn_enter Tryd.func13 rfl Tryd.ntmps13 rfl ?_
    repeat' (first
      | (show AT _ _ _ (wpList _ _ _ (_ :: _)); first
         | (show AT _ _ _ (wpList _ _ _ (⟨_, Op.move _, _, _, _, _⟩ :: _)); refine st_y (y_move rfl) rfl ?_)
         | (show AT _ _ _ (wpList _ _ _ (⟨_, Op.assign _, _, _, _, _⟩ :: _)); refine st_y (y_assign rfl) rfl ?_)
         | (show AT _ _ _ (wpList _ _ _ (⟨_, Op.binOp _ _ _ _ _, _, _, _, _⟩ :: _)); first | refine st_y (y_add rfl rfl (by omega)) rfl ?_ | refine st_y (y_lss rfl rfl) rfl ?_ | refine st_y (y_eql rfl rfl) rfl ?_ | refine st_y (y_neq rfl rfl) rfl ?_ | refine st_y (y_neqb_same Tryd.underlying4 rfl rfl) rfl ?_)
         | (show AT _ _ _ (wpList _ _ _ (⟨_, Op.unOp _ _ _, _, _, _, _⟩ :: _)); first | refine st_y (y_notd rfl) rfl ?_ | refine st_y (y_not rfl) rfl ?_)
         | (show AT _ _ _ (wpList _ _ _ (⟨_, Op.buildSlice _ _ _, _, _, _, _⟩ :: _)); refine m_build0 tabs rfl rfl (fun g hg => ?_)))
      | (show AT _ _ _ (wpList _ _ _ []); first | refine c_nil (x_then ?_) | refine c_nil (x_qn ?_) | refine c_nil ?_)
      | (show AT _ _ _ (Code.wp _ _ _); first | refine c_seq ?_ | refine c_region ?_ | refine c_skip (x_then ?_) | refine c_skip (x_blk ?_) | refine c_skip ?_ | refine c_block ?_ | refine c_ret ?_ | refine c_exit ?_ | refine c_true rfl ?_ | refine c_false rfl ?_ | refine c_ift rfl (by first | assumption | omega) ?_ | refine c_iff rfl (by first | assumption | exact not_not_intro (by assumption) | omega) ?_ | refine c_ifnd rfl (fun h => ?_) (fun h => ?_) | refine c_if rfl (fun h => ?_) (fun h => ?_) | refine c_ifn rfl (fun h => ?_) (fun h => ?_))
      | (show AT _ _ _ _; first | refine x_then ?_ | refine x_qn ?_ | refine x_then_ret ?_ | refine x_blk_ret ?_ | refine x_then_exit ?_ | refine x_blk_exit rfl ?_ | refine x_blk_other rfl ?_ | refine x_blk ?_))
    refine c_loopH (α := Nat) [4] (fun k => [(0, iV (fiN n k)), (3, sV (fiS n k))]) (fun k => k ≤ 1) (fun k => []) (fun k => 1 - k) 0 rfl (by repeat' (first | exact Sub.nil | refine Sub.cons rfl ?_ | refine Sub.consi rfl (by omega) ?_)) ?_ ?_ ?_
    · omega
    · exact fun w' c' => c'
    · intro k hk
      match k, hk with
      | 0, _ =>
        simp only [fiN, fiS]
        repeat' (first
          | (show AT _ _ _ (wpList _ _ _ (_ :: _)); first
             | (show AT _ _ _ (wpList _ _ _ (⟨_, Op.move _, _, _, _, _⟩ :: _)); refine st_y (y_move rfl) rfl ?_)
             | (show AT _ _ _ (wpList _ _ _ (⟨_, Op.assign _, _, _, _, _⟩ :: _)); refine st_y (y_assign rfl) rfl ?_)
             | (show AT _ _ _ (wpList _ _ _ (⟨_, Op.binOp _ _ _ _ _, _, _, _, _⟩ :: _)); first | refine st_y (y_rem rfl rfl (by decide)) rfl ?_ | refine st_y (y_cat rfl rfl (by simp) (by simp)) rfl ?_ | refine st_y (y_quo rfl rfl (by decide)) rfl ?_ | refine st_y (y_add rfl rfl (by omega)) rfl ?_ | refine st_y (y_lss rfl rfl) rfl ?_ | refine st_y (y_eql rfl rfl) rfl ?_ | refine st_y (y_neq rfl rfl) rfl ?_ | refine st_y (y_neqb_same Tryd.underlying4 rfl rfl) rfl ?_)
             | (show AT _ _ _ (wpList _ _ _ (⟨_, Op.unOp _ _ _, _, _, _, _⟩ :: _)); first | refine st_y (y_notd rfl) rfl ?_ | refine st_y (y_not rfl) rfl ?_)
             | (show AT _ _ _ (wpList _ _ _ (⟨_, Op.buildSlice _ _ _, _, _, _, _⟩ :: _)); first | refine m_build1 tabs (us := [bV (dg n)]) rfl rfl rfl rfl (by decide) rfl (fun g hg => ?_) | refine m_build0 tabs rfl rfl (fun g hg => ?_))
             | (show AT _ _ _ (wpList _ _ _ (⟨_, Op.convert _ _ _, _, _, _, _⟩ :: _)); first | refine st_y (y_convk (t := 3) (t' := 5) (k := .i64) (k' := .u8) (q := ((dg n).toNat : Int)) (by kernel_rfl) (by kernel_rfl) (by kernel_rfl) rfl (by rw [e1]; exact dg_conv h0 h9)) rfl ?_ | refine st_y (y_convbs (t := 57) (t' := 9) (e := 5) (l := [dg n]) (by kernel_rfl) (by kernel_rfl) (by kernel_rfl) rfl (fun w c => fun j u hj => by rw [Addr.add_lit]; exact hc_blk 0 rfl (by rw [Nat.zero_add, List.getElem?_toArray]; exact hj) w c)) rfl ?_))
          | (show AT _ _ _ (wpList _ _ _ []); first | refine c_nil (x_then ?_) | refine c_nil (x_qn ?_) | refine c_nil ?_)
          | (show AT _ _ _ (Code.wp _ _ _); first | refine c_seq ?_ | refine c_region ?_ | refine c_skip (x_then ?_) | refine c_skip (x_blk ?_) | refine c_skip ?_ | refine c_block ?_ | refine c_ret ?_ | refine c_exit ?_ | refine c_true rfl ?_ | refine c_false rfl ?_ | refine c_ift rfl (by first | assumption | omega) ?_ | refine c_iff rfl (by first | assumption | exact not_not_intro (by assumption) | omega) ?_ | refine c_ifnd rfl (fun h => ?_) (fun h => ?_) | refine c_if rfl (fun h => ?_) (fun h => ?_) | refine c_ifn rfl (fun h => ?_) (fun h => ?_))
          | (show AT _ _ _ _; first | refine x_then ?_ | refine x_qn ?_ | refine x_then_ret ?_ | refine x_blk_ret ?_ | refine x_then_exit ?_ | refine x_blk_exit rfl ?_ | refine x_blk_other rfl ?_ | refine x_blk ?_))
        rw [e2]
        exact x_nx 1 (by repeat' (first | exact Sub.nil | refine Sub.cons rfl ?_ | refine Sub.consi rfl (by omega) ?_)) (by omega) (fun w' c' => c'.sub (List.nil_sublist _)) (by omega)
      | 1, _ =>
        simp only [fiN, fiS]
        repeat' (first
          | (show AT _ _ _ (wpList _ _ _ (_ :: _)); first
             | (show AT _ _ _ (wpList _ _ _ (⟨_, Op.move _, _, _, _, _⟩ :: _)); refine st_y (y_move rfl) rfl ?_)
             | (show AT _ _ _ (wpList _ _ _ (⟨_, Op.assign _, _, _, _, _⟩ :: _)); refine st_y (y_assign rfl) rfl ?_)
             | (show AT _ _ _ (wpList _ _ _ (⟨_, Op.binOp _ _ _ _ _, _, _, _, _⟩ :: _)); first | refine st_y (y_add rfl rfl (by omega)) rfl ?_ | refine st_y (y_lss rfl rfl) rfl ?_ | refine st_y (y_eql rfl rfl) rfl ?_ | refine st_y (y_neq rfl rfl) rfl ?_ | refine st_y (y_neqb_same Tryd.underlying4 rfl rfl) rfl ?_)
             | (show AT _ _ _ (wpList _ _ _ (⟨_, Op.unOp _ _ _, _, _, _, _⟩ :: _)); first | refine st_y (y_notd rfl) rfl ?_ | refine st_y (y_not rfl) rfl ?_)
             | (show AT _ _ _ (wpList _ _ _ (⟨_, Op.buildSlice _ _ _, _, _, _, _⟩ :: _)); refine m_build0 tabs rfl rfl (fun g hg => ?_)))
          | (show AT _ _ _ (wpList _ _ _ []); first | refine c_nil (x_then ?_) | refine c_nil (x_qn ?_) | refine c_nil ?_)
          | (show AT _ _ _ (Code.wp _ _ _); first | refine c_seq ?_ | refine c_region ?_ | refine c_skip (x_then ?_) | refine c_skip (x_blk ?_) | refine c_skip ?_ | refine c_block ?_ | refine c_ret ?_ | refine c_exit ?_ | refine c_true rfl ?_ | refine c_false rfl ?_ | refine c_ift rfl (by first | assumption | omega) ?_ | refine c_iff rfl (by first | assumption | exact not_not_intro (by assumption) | omega) ?_ | refine c_ifnd rfl (fun h => ?_) (fun h => ?_) | refine c_if rfl (fun h => ?_) (fun h => ?_) | refine c_ifn rfl (fun h => ?_) (fun h => ?_))
          | (show AT _ _ _ _; first | refine x_then ?_ | refine x_qn ?_ | refine x_then_ret ?_ | refine x_blk_ret ?_ | refine x_then_exit ?_ | refine x_blk_exit rfl ?_ | refine x_blk_other rfl ?_ | refine x_blk ?_))
        exact x_ret1 Tryd.results13 (res_tmp rfl) (fun w' c' => ⟨_, _, rfl, ⟨rfl, rfl⟩, c'.sub (List.nil_sublist _)⟩)
end Go.Proofs.YtljgmmmgnfgbhaaDoor
