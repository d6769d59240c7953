import Derived.Test.YtnmhdmkfhacdbaaMrkqC
import Derived.Test.YtnmhdmkfhacdbaaSpaqC
namespace Go.Proofs.Ytnmhdmkfhacdbaa
open Go.Lg Go.Proofs Go.RowKit
attribute [local irreducible] Code.wp wpList bodyPost Exit.then Exit.inBlock Hp Again Calls Y AT ResV QT Qn QI wpAny wpAnyQ
set_option maxRecDepth 20000
set_option maxHeartbeats 4000000

theorem szSpace_fit {w : World} {left : Int} {n : Int} {rs : List (List Int)} {u : Value} (hu : Rd w (rowsT 22 rs) u) (h1 : left ≤ 1048576) (hf : szRows rs ≤ left) :
    Does Try.prog 43 [.agg #[iV n, u], iV left] w (fun v H => v = iV (left - szRows rs) ∧ H = []) := by
  have := szSpace_ok (left := left) (n := n) hu (by omega) h1
  rwa [if_neg (by omega)] at this
theorem szSpace_big {w : World} {left : Int} {n : Int} {rs : List (List Int)} {u : Value} (hu : Rd w (rowsT 22 rs) u) (h0 : 0 ≤ left) (h1 : left ≤ 1048576) (hf : left < szRows rs) :
    Does Try.prog 43 [.agg #[iV n, u], iV left] w (fun v H => v = iV (-1) ∧ H = []) := by
  have := szSpace_ok (left := left) (n := n) hu h0 h1
  rwa [if_pos (by omega)] at this

theorem eqSpace_same {w : World} {m : Sp} {u u' : Value} (hu : Rd w (rowsT 22 m.2) u) (hu' : Rd w (rowsT 22 m.2) u') :
    Does Try.prog 48 [.agg #[iV m.1, u], .agg #[iV m.1, u']] w (fun r H => r = .bool true ∧ H = []) := by
  have := eqSpace_ok w m m u u' hu hu'
  simpa using this
theorem markSpace_ok {w1 : World} {M1 : List Nat} {H1 : List HE} {w : World} {M' : List Nat} {e : Nat} {rs : List (List Int)} {v : Value} {k r : Int} (hl : LentL M1 w1 [.own (rowsT e rs) v] H1 M' w) (h0 : 0 ≤ k) (hb : k + nT (rowsT e rs) ≤ 4611686018427387904) :
    DoesB Try.prog 51 [.agg #[iV r, v], iV k] w M' (fun r H => r = iV (k + nT (rowsT e rs)) ∧ H = [.own (mkT k (rowsT e rs)) v]) := by
  refine fnb_lentL Try.func51 rfl Try.ntmps51 rfl hl ?_
  repeat' (first
    | (show AT _ _ _ (wpList _ _ _ (_ :: _)); first
       | (show AT _ _ _ (wpList _ _ _ (⟨_, Op.move _, _, _, _, _⟩ :: _)); refine st_y (y_move rfl) rfl ?_)
       | (show AT _ _ _ (wpList _ _ _ (⟨_, Op.assign _, _, _, _, _⟩ :: _)); refine st_y (y_assign rfl) rfl ?_)
       | (show AT _ _ _ (wpList _ _ _ (⟨_, Op.fieldAddr _ _ _, _, _, _, _⟩ :: _)); refine st_y (y_field tabs rfl rfl rfl) rfl ?_)
       | (show AT _ _ _ (wpList _ _ _ (⟨_, Op.load _ _, _, _, _, _⟩ :: _)); refine st_y (y_load tabs rfl rfl (hc_blk 0 rfl rfl)) rfl ?_)
       | (show AT _ _ _ (wpList _ _ _ (⟨_, Op.call _, _, _, _, _⟩ :: _)); (refine m_callLs (H0 := [.own (rowsT e rs) v]) (ent_of Try.func105 (by kernel_rfl) rfl) rfl rfl (fun w c => c.swap) (fun w M' hl => markRows_ok hl h0 hb) ?_; rintro v H' ⟨rfl, rfl⟩))
       | (show AT _ _ _ (wpList _ _ _ (⟨_, Op.box _ _, _, _, _, _⟩ :: _)); refine m_box rfl rfl (fun bq hbq => ?_)))
    | (show AT _ _ _ (wpList _ _ _ []); refine c_nil (x_then ?_))
    | (show AT _ _ _ (Code.wp _ _ _); first | refine c_seq ?_ | refine c_region ?_ | refine c_ret ?_))
  exact x_ret1 Try.results51 (res_tmp rfl) (fun w' c' => ⟨_, _, rfl, ⟨rfl, rfl⟩, c'.sub (.cons_cons _ (List.nil_sublist _))⟩)
theorem heldSpace_ok {w : World} {e : Nat} {rs : List (List Int)} {v : Value} {k r : Int} (hr : Rd w (mkT k (rowsT e rs)) v) (h0 : 0 ≤ k) (hb : k + nT (rowsT e rs) ≤ 4611686018427387904) :
    Does Try.prog 52 [.agg #[iV r, v], iV k] w (fun r H => r = iV (k + nT (rowsT e rs)) ∧ H = []) := by
  have hn := nT_pos (rowsT e rs)
  refine fn_enter Try.func52 rfl Try.ntmps52 rfl ?_
  repeat' (first
    | (show AT _ _ _ (wpList _ _ _ (_ :: _)); first
       | (show AT _ _ _ (wpList _ _ _ (⟨_, Op.move _, _, _, _, _⟩ :: _)); refine st_y (y_move rfl) rfl ?_)
       | (show AT _ _ _ (wpList _ _ _ (⟨_, Op.assign _, _, _, _, _⟩ :: _)); refine st_y (y_assign rfl) rfl ?_)
       | (show AT _ _ _ (wpList _ _ _ (⟨_, Op.fieldAddr _ _ _, _, _, _, _⟩ :: _)); refine st_y (y_field tabs rfl rfl rfl) rfl ?_)
       | (show AT _ _ _ (wpList _ _ _ (⟨_, Op.load _ _, _, _, _, _⟩ :: _)); refine st_y (y_load tabs rfl rfl (hc_blk 0 rfl rfl)) rfl ?_)
       | (show AT _ _ _ (wpList _ _ _ (⟨_, Op.binOp _ _ _ _ _, _, _, _, _⟩ :: _)); refine st_y (y_lss rfl rfl) rfl ?_)
       | (show AT _ _ _ (wpList _ _ _ (⟨_, Op.call _, _, _, _, _⟩ :: _)); (refine m_call (ent_of Try.func106 (by kernel_rfl) rfl) rfl rfl (fun w c => heldRows_ok (c.rd hr) h0 hb) ?_; rintro v H' ⟨rfl, rfl⟩))
       | (show AT _ _ _ (wpList _ _ _ (⟨_, Op.box _ _, _, _, _, _⟩ :: _)); refine m_box rfl rfl (fun bq hbq => ?_)))
    | (show AT _ _ _ (wpList _ _ _ []); refine c_nil (x_then ?_))
    | (show AT _ _ _ (Code.wp _ _ _); first | refine c_seq ?_ | refine c_region ?_ | refine c_skip (x_then ?_) | refine c_ret ?_ | refine c_iff rfl (by first | assumption | exact not_not_intro (by assumption) | omega) ?_))
  exact x_ret1 Try.results52 (res_tmp rfl) (fun w' c' => ⟨_, _, rfl, ⟨rfl, rfl⟩, c'.sub (List.nil_sublist _)⟩)
theorem nT_rows (e : Nat) (rs : List (List Int)) : nT (rowsT e rs) ≤ (szRows rs : Nat) := by
  have key : ∀ l : List (List Int), nL (l.map iT) = (l.map List.length).sum := fun l => by
    induction l with
    | nil => simp [nL]
    | cons m l ih => rw [List.map_cons, nL, ih, nT_ints, List.map_cons, List.sum_cons]; omega
  simp only [nT, rowT_map, szL]
  rw [key]
  omega
end Go.Proofs.Ytnmhdmkfhacdbaa
