import Derived.Test.YtljgmmmgnfgbhaaDoorSpbqfr
namespace Go.Proofs.YtljgmmmgnfgbhaaDoor
open Go.Lg Go.Proofs Go.RowKit
attribute [local irreducible] Code.wp wpList bodyPost Exit.then Exit.inBlock Hp Again Calls Y AT ResV QT Qn QI wpAny wpAnyQ
set_option maxRecDepth 20000
set_option maxHeartbeats 4000000

/-! ### products of matrices -/
theorem rowg_ok {w : World} {R C i cap : Nat} {a : Option Addr} (hR : R ≤ 1024) (hC : C ≤ 1024) (hi : i < R) (hcap : R * C ≤ cap) :
    Does Tryd.prog 45 [.agg #[iV R, iV C, .slice a (R * C) cap], iV i] w (fun r H => r = .slice (subA a 1 (i * C) cap) C (cap - i * C) ∧ H = []) := by
  have h1 : (i + 1) * C ≤ R * C := Nat.mul_le_mul_right C hi
  have h2 : R * C ≤ 1024 * 1024 := Nat.mul_le_mul hR hC
  have h3 : (i + 1) * C = i * C + C := Nat.succ_mul i C
  have e1 : (i : Int) * (C : Int) = ((i * C : Nat) : Int) := by simp
  have e2 : ((i : Int) + 1) * (C : Int) = (((i + 1) * C : Nat) : Int) := by simp
  refine fn_enter Tryd.func45 rfl Tryd.ntmps45 rfl ?_
  repeat' (first
    | (show AT _ _ _ (wpList _ _ _ (_ :: _)); first
       | (show AT _ _ _ (wpList _ _ _ (⟨_, Op.move _, _, _, _, _⟩ :: _)); refine st_y (y_move rfl) rfl ?_)
       | (show AT _ _ _ (wpList _ _ _ (⟨_, Op.assign _, _, _, _, _⟩ :: _)); refine st_y (y_assign rfl) rfl ?_)
       | (show AT _ _ _ (wpList _ _ _ (⟨_, Op.fieldAddr _ _ _, _, _, _, _⟩ :: _)); refine st_y (y_field tabs rfl rfl rfl) rfl ?_)
       | (show AT _ _ _ (wpList _ _ _ (⟨_, Op.load _ _, _, _, _, _⟩ :: _)); refine st_y (y_load tabs rfl rfl (hc_blk 0 rfl rfl)) rfl ?_)
       | (show AT _ _ _ (wpList _ _ _ (⟨_, Op.binOp _ _ _ _ _, _, _, _, _⟩ :: _)); first | refine st_y (y_mul rfl rfl (by first | (rw [e1]; omega) | (rw [e2]; omega))) rfl ?_ | refine st_y (y_add rfl rfl (by omega)) rfl ?_)
       | (show AT _ _ _ (wpList _ _ _ (⟨_, Op.box _ _, _, _, _, _⟩ :: _)); refine m_box rfl rfl (fun b hb => ?_))
       | (show AT _ _ _ (wpList _ _ _ (⟨_, Op.slice _ _ _ _ _, _, _, _, _⟩ :: _)); refine st_y (y_slb tabs (lo := i * C) (hi := (i + 1) * C) rfl rfl rfl rfl e1 e2 (by omega) (by omega)) rfl ?_))
    | (show AT _ _ _ (wpList _ _ _ []); refine c_nil (x_then ?_))
    | (show AT _ _ _ (Code.wp _ _ _); first | refine c_seq ?_ | refine c_region ?_ | refine c_ret ?_))
  refine x_ret1 Tryd.results45 (res_tmp rfl) (fun w' c' => ⟨_, _, rfl, ⟨?_, rfl⟩, c'.sub (List.nil_sublist _)⟩)
  rw [show (i + 1) * C - i * C = C by omega]
end Go.Proofs.YtljgmmmgnfgbhaaDoor
