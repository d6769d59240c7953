import Derived.Test.YtnmhdmkfhacdbaaWthqC
namespace Go.Proofs.Ytnmhdmkfhacdbaa
open Go.Lg Go.Proofs Go.RowKit
attribute [local irreducible] Code.wp wpList bodyPost Exit.then Exit.inBlock Hp Again Calls Y AT ResV QT Qn QI wpAny wpAnyQ
set_option maxRecDepth 20000
set_option maxHeartbeats 4000000

/-! ### sums of spaces -/
theorem areSpaces_ok {w : World} {p : Int} {a b : Sp} {u v : Value} (hu : Rd w (rowsT 22 a.2) u) (hv : Rd w (rowsT 22 b.2) v) : Does Try.prog 111 [iV p, .agg #[iV a.1, u], .agg #[iV b.1, v]] w (fun r H => r = .bool (decide (SpcP p a ∧ SpcP p b ∧ a.1 = b.1)) ∧ H = []) := by
  refine fn_enter Try.func111 rfl Try.ntmps111 rfl ?_
  repeat' (first
    | (show AT _ _ _ (wpList _ _ _ (_ :: _)); first
       | (show AT _ _ _ (wpList _ _ _ (⟨_, Op.move _, _, _, _, _⟩ :: _)); refine st_y (y_move rfl) rfl ?_)
       | (show AT _ _ _ (wpList _ _ _ (⟨_, Op.assign _, _, _, _, _⟩ :: _)); refine st_y (y_assign rfl) rfl ?_)
       | (show AT _ _ _ (wpList _ _ _ (⟨_, Op.fieldAddr _ _ _, _, _, _, _⟩ :: _)); refine st_y (y_field tabs rfl rfl rfl) rfl ?_)
       | (show AT _ _ _ (wpList _ _ _ (⟨_, Op.load _ _, _, _, _, _⟩ :: _)); first | refine st_y (y_loadb 0 tabs rfl rfl rfl rfl) rfl ?_ | refine st_y (y_loadb 1 tabs rfl rfl rfl rfl) rfl ?_ | refine st_y (y_load tabs rfl rfl (hc_blk 0 rfl rfl)) rfl ?_ | refine st_y (y_load tabs rfl rfl (hc_blk 1 rfl rfl)) rfl ?_)
       | (show AT _ _ _ (wpList _ _ _ (⟨_, Op.binOp _ _ _ _ _, _, _, _, _⟩ :: _)); refine st_y (y_eql rfl rfl) rfl ?_)
       | (show AT _ _ _ (wpList _ _ _ (⟨_, Op.call _, _, _, _, _⟩ :: _)); first | (refine m_call (ent_of Try.func102 (by kernel_rfl) rfl) rfl rfl (fun w c => impl_IsSpace_ok (s := a) (c.rd hu)) ?_; rintro v H' ⟨rfl, rfl⟩) | (refine m_call (ent_of Try.func102 (by kernel_rfl) rfl) rfl rfl (fun w c => impl_IsSpace_ok (s := b) (c.rd hv)) ?_; rintro v H' ⟨rfl, rfl⟩))
       | (show AT _ _ _ (wpList _ _ _ (⟨_, Op.pick _ _ _, _, _, _, _⟩ :: _)); first | refine st_y (y_pickt rfl (by assumption) rfl) rfl ?_ | refine st_y (y_pickf rfl (by assumption) rfl) rfl ?_ | refine st_y (y_pick rfl rfl rfl) rfl ?_)
       | (show AT _ _ _ (wpList _ _ _ (⟨_, Op.box _ _, _, _, _, _⟩ :: _)); refine m_box rfl rfl (fun bq hbq => ?_))
       | refine st_gn rfl rfl rfl ?_ | refine st_gdy rfl rfl (by assumption) ?_ | refine st_gdn rfl rfl (by assumption) rfl ?_ | refine st_gd rfl rfl (fun h => ?_) (fun h => ?_))
    | (show AT _ _ _ (wpList _ _ _ []); refine c_nil (x_then ?_))
    | (show AT _ _ _ (Code.wp _ _ _); first | refine c_seq ?_ | refine c_region ?_ | refine c_ret ?_))
  all_goals refine x_ret1 Try.results111 (res_tmp rfl) (fun w c => ⟨_, _, rfl, ⟨congrArg Value.bool ?_, rfl⟩, c.sub (List.nil_sublist _)⟩)
  all_goals simp_all
theorem two_names {w : World} {g : Nat} {ua ub : Value} {usa usb : List Value} (h0 : w.cell? ⟨g, 0, none⟩ = some ua) (h1 : w.cell? ⟨g, 1, none⟩ = some ub) (ha : NamesAt w ua usa) (hb : NamesAt w ub usb) : ∀ (i : Nat) us, [usa, usb][i]? = some us → ∃ u, w.cell? ⟨g, 0 + i, none⟩ = some u ∧ NamesAt w u us := fun i us h => by
  match i, h with
  | 0, h => simp at h; subst h; exact ⟨ua, h0, ha⟩
  | 1, h => simp at h; subst h; exact ⟨ub, h1, hb⟩
  | i + 2, h => simp at h
theorem rd_two {M : List Nat} {w0 w : World} {H : List HE} (i : Nat) {e e' m c : Nat} {A B : List (List Int)} {us usa usb : List Value} {a : Option Addr} (hi : H[i]? = some (.own (.s e 1 (us.map T.c)) (.slice a m c))) (hus : us = usa ++ usb) (cw : Hp M w0 H w) (hA : RdC w (A.map iT) usa) (hB : RdC w (B.map iT) usb) : Rd w (rowsT e' (A ++ B)) (.slice a m c) := by
  subst hus
  have h := hA.append hB
  rw [← List.map_append, ← rowT_map] at h
  exact rd_named i hi cw h
def SumP (p : Int) (a b : Sp) : Prop := SpcP p a ∧ SpcP p b ∧ a.1 = b.1
instance (p : Int) (a b : Sp) : Decidable (SumP p a b) := by unfold SumP; infer_instance
end Go.Proofs.Ytnmhdmkfhacdbaa
