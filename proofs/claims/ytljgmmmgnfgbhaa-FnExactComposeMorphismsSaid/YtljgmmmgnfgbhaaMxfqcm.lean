import Derived.Test.YtljgmmmgnfgbhaaLCqcm
import Derived.Test.YtljgmmmgnfgbhaaRdIqcm
import Derived.Test.YtljgmmmgnfgbhaaRowqcm
namespace Go.Proofs.Ytljgmmmgnfgbhaa
open Go.Lg Go.Proofs Go.RowKit
attribute [local irreducible] Code.wp wpList bodyPost Exit.then Exit.inBlock Hp Again Calls Y AT ResV QT Qn QI wpAny wpAnyQ
set_option maxRecDepth 20000
set_option maxHeartbeats 4000000

/-! ### matrices that are made -/
def GivesK (R C : Nat) (f : Nat → Nat → Int) (r : Value) (H : List HE) : Prop := ∃ a c, r = .agg #[iV R, iV C, .slice a (R * C) c] ∧ SA a (R * C) ∧ H = [.own (iT (mk R C f)) (.slice a (R * C) c)]
theorem mk_zero {R C : Nat} : List.replicate (R * C) (0 : Int) = mk R C (fun _ _ => 0) := by
  apply List.ext_getElem?
  intro q
  by_cases hq : q < R * C
  · simp [mk, hq]
  · rw [List.getElem?_eq_none (by simp; omega), List.getElem?_eq_none (by simp; omega)]
theorem rc_le {R C : Nat} (hR : R ≤ 1024) (hC : C ≤ 1024) : R * C ≤ 1048576 := by
  have := Nat.mul_le_mul hR hC; omega
theorem zero_ok {w : World} {R C : Nat} (hR : R ≤ 1024) (hC : C ≤ 1024) : Does Try.prog 119 [iV R, iV C] w (GivesK R C (fun _ _ => 0)) := by
  have hRC := rc_le hR hC
  refine fn_enter Try.func119 rfl Try.ntmps119 rfl ?_
  repeat' (first
    | (show AT _ _ _ (wpList _ _ _ (_ :: _)); first
       | (show AT _ _ _ (wpList _ _ _ (⟨_, Op.move _, _, _, _, _⟩ :: _)); refine st_y (y_move rfl) rfl ?_)
       | (show AT _ _ _ (wpList _ _ _ (⟨_, Op.binOp _ _ _ _ _, _, _, _, _⟩ :: _)); refine st_y (y_muln rfl rfl rfl rfl (by omega)) rfl ?_)
       | (show AT _ _ _ (wpList _ _ _ (⟨_, Op.store _ _ _, _, _, _, _⟩ :: _)); refine m_storeb 1 tabs rfl rfl rfl rfl rfl rfl rfl ?_)
       | (show AT _ _ _ (wpList _ _ _ (⟨_, Op.alloc _, _, _, _, _⟩ :: _)); refine m_alloc tabs rfl rfl (fun bq hbq => ?_))
       | (show AT _ _ _ (wpList _ _ _ (⟨_, Op.makeSlice _ _ _, _, _, _, _⟩ :: _)); refine m_maken tabs (m := R * C) rfl rfl rfl rfl (by omega) rfl (fun g hg => ?_))
       | (show AT _ _ _ (wpList _ _ _ (⟨_, Op.build _ _, _, _, _, _⟩ :: _)); refine st_y (y_bld3 (bld_mat _ _ _ _ _) rfl rfl rfl) rfl ?_))
    | (show AT _ _ _ (wpList _ _ _ []); refine c_nil (x_then ?_))
    | (show AT _ _ _ (Code.wp _ _ _); first | refine c_seq ?_ | refine c_region ?_ | refine c_ret ?_))
  rw [mk_zero]
  exact x_ret1 Try.results119 (res_cellb 1 tabs rfl rfl rfl rfl) (fun w' c' => ⟨_, _, rfl, ⟨_, _, rfl, .mk, rfl⟩, c'.sub (.cons_cons _ (List.nil_sublist _))⟩)

theorem l3Zero_ok {w : World} {R C : Nat} (hR : R ≤ 1024) (hC : C ≤ 1024) : Does Try.prog 94 [iV R, iV C] w (GivesK R C (fun _ _ => 0)) := by
  have hRC := rc_le hR hC
  refine fn_enter Try.func94 rfl Try.ntmps94 rfl ?_
  repeat' (first
    | (show AT _ _ _ (wpList _ _ _ (_ :: _)); first
       | (show AT _ _ _ (wpList _ _ _ (⟨_, Op.move _, _, _, _, _⟩ :: _)); refine st_y (y_move rfl) rfl ?_)
       | (show AT _ _ _ (wpList _ _ _ (⟨_, Op.binOp _ _ _ _ _, _, _, _, _⟩ :: _)); refine st_y (y_muln rfl rfl rfl rfl (by omega)) rfl ?_)
       | (show AT _ _ _ (wpList _ _ _ (⟨_, Op.store _ _ _, _, _, _, _⟩ :: _)); refine m_storeb 1 tabs rfl rfl rfl rfl rfl rfl rfl ?_)
       | (show AT _ _ _ (wpList _ _ _ (⟨_, Op.alloc _, _, _, _, _⟩ :: _)); refine m_alloc tabs rfl rfl (fun bq hbq => ?_))
       | (show AT _ _ _ (wpList _ _ _ (⟨_, Op.makeSlice _ _ _, _, _, _, _⟩ :: _)); refine m_maken tabs (m := R * C) rfl rfl rfl rfl (by omega) rfl (fun g hg => ?_))
       | (show AT _ _ _ (wpList _ _ _ (⟨_, Op.build _ _, _, _, _, _⟩ :: _)); refine st_y (y_bld3 (bld_mat _ _ _ _ _) rfl rfl rfl) rfl ?_))
    | (show AT _ _ _ (wpList _ _ _ []); refine c_nil (x_then ?_))
    | (show AT _ _ _ (Code.wp _ _ _); first | refine c_seq ?_ | refine c_region ?_ | refine c_ret ?_))
  rw [mk_zero]
  exact x_ret1 Try.results94 (res_cellb 1 tabs rfl rfl rfl rfl) (fun w' c' => ⟨_, _, rfl, ⟨_, _, rfl, .mk, rfl⟩, c'.sub (.cons_cons _ (List.nil_sublist _))⟩)

/-! ### vectors as functions -/
def mkv (n : Nat) (g : Nat → Int) : List Int := (List.range n).map g
@[simp] theorem mkv_length {n : Nat} {g : Nat → Int} : (mkv n g).length = n := by simp [mkv]
theorem mkv_get {n i : Nat} {g : Nat → Int} (h : i < n) : (mkv n g).getD i 0 = g i := by simp [mkv, List.getD, h]
theorem mkv_ext {n : Nat} {f g : Nat → Int} (h : ∀ i, i < n → f i = g i) : mkv n f = mkv n g := List.map_congr_left (fun i hi => h i (List.mem_range.1 hi))
theorem mkv_set {n i : Nat} {g : Nat → Int} {v : Int} : (mkv n g).set i v = mkv n (fun q => if q = i then v else g q) := by
  apply List.ext_getElem?
  intro q
  rw [List.getElem?_set]
  by_cases hq : i = q
  · subst hq
    by_cases hi : i < n
    · simp [mkv, hi]
    · simp [mkv, hi]
  · by_cases hn : q < n
    · have hq' : ¬ q = i := fun h => hq h.symm
      simp [mkv, hn, hq, hq']
    · simp [mkv, hn, hq]
theorem hc_rdk {w0 : World} {M : List Nat} {H : List HE} {e R C r c : Nat} {f : Nat → Nat → Int} {a : Option Addr} {n cc : Nat} (hr : RdOut w0 M (ints e (mk R C f)) (.slice a n cc)) (hi : r < R) (hj : c < C) : ∀ w, Hp M w0 H w → w.cell? ⟨ab a, ao a + (r * C + c), none⟩ = some (.int .i64 (f r c)) := fun w cw => by
  obtain ⟨a', c', h1, _, _, _, h5⟩ := (hr.rd cw).ints
  cases h1
  have := h5 (r * C + c) (by rw [mk_length]; exact cell_lt hi hj)
  rwa [mk_get hi hj] at this
theorem rd_mk {w : World} {e R C : Nat} {f : Nat → Nat → Int} {v : Value} (hr : Rd w (ints e (mk R C f)) v) : ∃ a c, v = .slice a (R * C) c ∧ SA a (R * C) ∧ R * C ≤ c := by
  obtain ⟨a, c, h1, h2, h3, _⟩ := hr.ints
  rw [mk_length] at h1 h2 h3
  exact ⟨a, c, h1, h2, h3⟩

theorem matF_mk {R C : Nat} {f : Nat → Nat → Int} {i j : Nat} (hi : i < R) (hj : j < C) : matF (↑R, ↑C, mk R C f) i j = f i j := by
  simp only [matF, Int.toNat_natCast]
  exact mk_get hi hj
end Go.Proofs.Ytljgmmmgnfgbhaa
