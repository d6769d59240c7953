import Derived.Test.YtljgmmmgnfgbhaaLCqel
import Derived.Test.YtljgmmmgnfgbhaaMtxqel
namespace Go.Proofs.Ytljgmmmgnfgbhaa
open Go.Lg Go.Proofs Go.RowKit
attribute [local irreducible] Code.wp wpList bodyPost Exit.then Exit.inBlock Hp Again Calls Y AT ResV QT
set_option maxRecDepth 20000
set_option maxHeartbeats 4000000

theorem Clone_ok {w : World} {v : Value} {xs : List Int} (hr : Rd w (iT xs) v) (hb : xs.length ≤ 1048576) : Does Try.prog 127 [v] w (fun r H => Gives (iT xs) xs.length r H) := by
  obtain ⟨a, c, rfl, hs, hc1, hc2, hget⟩ := hr.ints
  refine fn_enter Try.func127 rfl Try.ntmps127 rfl ?_
  repeat' (first
    | (show AT _ _ _ (wpList _ _ _ (_ :: _)); first
       | (show AT _ _ _ (wpList _ _ _ (⟨_, Op.move _, _, _, _, _⟩ :: _)); refine st_y (y_move rfl) rfl ?_)
       | (show AT _ _ _ (wpList _ _ _ (⟨_, Op.assign _, _, _, _, _⟩ :: _)); refine st_y (y_assign rfl) rfl ?_)
       | (show AT _ _ _ (wpList _ _ _ (⟨_, Op.binOp _ _ _ _ _, _, _, _, _⟩ :: _)); refine st_y (y_eqsnil tabs rfl rfl rfl) rfl ?_)
       | (show AT _ _ _ (wpList _ _ _ (⟨_, Op.call _, _, _, _, _⟩ :: _)); refine m_appi 0 tabs (xs := []) rfl rfl rfl rfl rfl (by simp; omega) (fun w c => rd_src (c.rd hr)) (fun a2 c2 => ?_))
       | (show AT _ _ _ (wpList _ _ _ (⟨_, Op.buildSlice _ _ _, _, _, _, _⟩ :: _)); refine m_build0 tabs rfl rfl (fun g hg => ?_)))
    | (show AT _ _ _ (wpList _ _ _ []); refine c_nil (x_then ?_))
    | (show AT _ _ _ (Code.wp _ _ _); first | refine c_seq ?_ | refine c_region ?_ | refine c_skip (x_then ?_) | refine c_ret ?_ | refine c_if rfl (fun h => ?_) (fun h => ?_))
    | (show AT _ _ _ _; refine x_then_ret ?_))
  · subst h
    have h0 : xs = [] := by
      rcases hs with h | h
      · exact List.length_eq_zero_iff.1 h
      · cases h
    subst h0
    refine x_ret1 Try.results127 (res_tmp rfl) (fun w' c' => ⟨_, _, rfl, ⟨none, 0, rfl, .inl rfl, rfl⟩, Hp.nilp _ _ c'⟩)
  · refine AT.fact (own_sl 0 rfl) (fun hsl => ?_)
    obtain ⟨a3, c3, e3, hs3⟩ := hsl
    simp at e3
    obtain ⟨rfl, rfl⟩ := e3
    refine x_ret1 Try.results127 (res_tmp rfl) (fun w' c' => ⟨.slice a2 xs.length c2, [.own (iT xs) (.slice a2 xs.length c2)], by simp, ⟨a2, c2, rfl, by simpa using hs3, rfl⟩, by simpa using c'⟩)

theorem clone_ok {w : World} {m : Mat} {u : Value} (hr : Rd w (iT m.2.2) u) (hb : m.2.2.length ≤ 1048576) : Does Try.prog 103 [.agg #[iV m.1, iV m.2.1, u]] w (GivesM m) := by
  obtain ⟨r, k, xs⟩ := m
  simp only at hr hb ⊢
  refine fn_enter Try.func103 rfl Try.ntmps103 rfl ?_
  repeat' (first
    | (show AT _ _ _ (wpList _ _ _ (_ :: _)); first
       | (show AT _ _ _ (wpList _ _ _ (⟨_, Op.fieldAddr _ _ _, _, _, _, _⟩ :: _)); refine st_y (y_field tabs rfl rfl rfl) rfl ?_)
       | (show AT _ _ _ (wpList _ _ _ (⟨_, Op.load _ _, _, _, _, _⟩ :: _)); first | refine st_y (y_loadb 2 tabs rfl rfl rfl rfl) rfl ?_ | refine st_y (y_load tabs rfl rfl (hc_blk 1 rfl rfl)) rfl ?_)
       | (show AT _ _ _ (wpList _ _ _ (⟨_, Op.call _, _, _, _, _⟩ :: _)); (refine m_call (ent_of Try.func127 (by kernel_rfl) rfl) rfl rfl (fun w c => Clone_ok (c.rd hr) hb) ?_; rintro v H' ⟨a2, c2, rfl, hs2, rfl⟩))
       | (show AT _ _ _ (wpList _ _ _ (⟨_, Op.store _ _ _, _, _, _, _⟩ :: _)); first | refine m_storef 2 tabs rfl rfl rfl rfl rfl rfl ?_ | refine m_storeb 1 tabs rfl rfl rfl rfl rfl rfl rfl ?_)
       | (show AT _ _ _ (wpList _ _ _ (⟨_, Op.box _ _, _, _, _, _⟩ :: _)); refine m_box rfl rfl (fun b hb1 => ?_))
       | (show AT _ _ _ (wpList _ _ _ (⟨_, Op.alloc _, _, _, _, _⟩ :: _)); refine m_alloc tabs rfl rfl (fun b2 hb2 => ?_)))
    | (show AT _ _ _ (wpList _ _ _ []); refine c_nil (x_then ?_))
    | (show AT _ _ _ (Code.wp _ _ _); first | refine c_seq ?_ | refine c_region ?_ | refine c_ret ?_))
  refine x_ret1 Try.results103 (res_cellb 1 tabs rfl rfl rfl rfl) (fun w c => ⟨_, _, rfl, ⟨a2, c2, rfl, hs2, rfl⟩, ?_⟩)
  exact c.sub (.cons_cons _ (List.nil_sublist _))

theorem row_ok {w : World} {R C i : Nat} {g o cap : Nat} (hR : R ≤ 1024) (hC : 0 < C ∧ C ≤ 1024) (hi : i < R) (hcap : R * C ≤ cap) :
    Does Try.prog 101 [.agg #[iV R, iV C, .slice (some ⟨g, o, none⟩) (R * C) cap], iV i] w (fun r H => r = .slice (some ⟨g, o + i * C, none⟩) C (cap - i * C) ∧ H = []) := by
  have h1 : (i + 1) * C ≤ R * C := Nat.mul_le_mul_right C hi
  have h2 : R * C ≤ 1024 * 1024 := Nat.mul_le_mul hR hC.2
  have h3 : (i + 1) * C = i * C + C := Nat.succ_mul i C
  have e1 : (i : Int) * (C : Int) = ((i * C : Nat) : Int) := by simp
  have e2 : ((i : Int) + 1) * (C : Int) = (((i + 1) * C : Nat) : Int) := by simp
  refine fn_enter Try.func101 rfl Try.ntmps101 rfl ?_
  repeat' (first
    | (show AT _ _ _ (wpList _ _ _ (_ :: _)); first
       | (show AT _ _ _ (wpList _ _ _ (⟨_, Op.move _, _, _, _, _⟩ :: _)); refine st_y (y_move rfl) rfl ?_)
       | (show AT _ _ _ (wpList _ _ _ (⟨_, Op.assign _, _, _, _, _⟩ :: _)); refine st_y (y_assign rfl) rfl ?_)
       | (show AT _ _ _ (wpList _ _ _ (⟨_, Op.fieldAddr _ _ _, _, _, _, _⟩ :: _)); refine st_y (y_field tabs rfl rfl rfl) rfl ?_)
       | (show AT _ _ _ (wpList _ _ _ (⟨_, Op.load _ _, _, _, _, _⟩ :: _)); refine st_y (y_load tabs rfl rfl (hc_blk 0 rfl rfl)) rfl ?_)
       | (show AT _ _ _ (wpList _ _ _ (⟨_, Op.binOp _ _ _ _ _, _, _, _, _⟩ :: _)); first | refine st_y (y_mul rfl rfl (by first | (rw [e1]; omega) | (rw [e2]; omega))) rfl ?_ | refine st_y (y_add rfl rfl (by omega)) rfl ?_)
       | (show AT _ _ _ (wpList _ _ _ (⟨_, Op.box _ _, _, _, _, _⟩ :: _)); refine m_box rfl rfl (fun b hb => ?_))
       | (show AT _ _ _ (wpList _ _ _ (⟨_, Op.slice _ _ _ _ _, _, _, _, _⟩ :: _)); refine st_y (y_slc tabs (lo := i * C) (hi := (i + 1) * C) rfl rfl rfl rfl e1 e2 (by omega) (by omega) (by omega)) rfl ?_))
    | (show AT _ _ _ (wpList _ _ _ []); refine c_nil (x_then ?_))
    | (show AT _ _ _ (Code.wp _ _ _); first | refine c_seq ?_ | refine c_region ?_ | refine c_ret ?_))
  refine x_ret1 Try.results101 (res_tmp rfl) (fun w' c' => ⟨_, _, rfl, ⟨?_, rfl⟩, c'.sub (List.nil_sublist _)⟩)
  rw [show (i + 1) * C - i * C = C by omega]

theorem bld_mat (r k : Int) (a : Option Addr) (m c : Nat) (w : World) : (Instr.build 46 #[(0, iV r), (1, iV k), (2, .slice a m c)]).run Try.prog w = .ok (.agg #[iV r, iV k, .slice a m c]) w := by kernel_rfl
theorem l3Copy_ok {w : World} {m : Mat} {u : Value} (hr : Rd w (iT m.2.2) u) (hb : m.2.2.length ≤ 1048576) : Does Try.prog 120 [.agg #[iV m.1, iV m.2.1, u]] w (GivesM m) := by
  obtain ⟨r, k, xs⟩ := m
  simp only at hr hb ⊢
  obtain ⟨a, c, rfl, hs, hc1, hc2, hget⟩ := hr.ints
  refine fn_enter Try.func120 rfl Try.ntmps120 rfl ?_
  refine c_seq (c_region (m_box rfl rfl fun b1 hb1 => m_alloc tabs rfl rfl fun b2 hb2 => c_nil (x_then ?_)))
  refine c_seq ?_
  refine c_mixR (Hp [] w [.blk b2 #[iV 0, iV 0, .slice none 0 0] 46, .blk b1 #[iV r, iV k, .slice a xs.length c] 46]) 9 (by kernel_rfl) (by kernel_rfl) (by kernel_rfl) (by kernel_rfl) (by kernel_rfl) (fun _ c => Hp.drew c) ?_
  refine h_take 0 rfl (by kernel_rfl) (by kernel_rfl) (by kernel_rfl) (by exact y_field tabs rfl rfl rfl) rfl (fun _ c => c) ?_
  refine h_take 1 rfl (by kernel_rfl) (by kernel_rfl) (by kernel_rfl) (by exact y_load tabs rfl rfl (hc_blk 1 rfl rfl)) rfl (fun _ c => c) ?_
  refine h_take 2 rfl (by kernel_rfl) (by kernel_rfl) (by kernel_rfl) (by exact y_field tabs rfl rfl rfl) rfl (fun _ c => c) ?_
  refine h_take 3 rfl (by kernel_rfl) (by kernel_rfl) (by kernel_rfl) (by exact y_load tabs rfl rfl (hc_blk 1 rfl rfl)) rfl (fun _ c => c) ?_
  refine h_take 5 rfl (by kernel_rfl) (by kernel_rfl) (by kernel_rfl) (by exact y_field tabs rfl rfl rfl) rfl (fun _ c => c) ?_
  refine h_take 6 rfl (by kernel_rfl) (by kernel_rfl) (by kernel_rfl) (by exact y_load tabs rfl rfl (hc_blk 1 rfl rfl)) rfl (fun _ c => c) ?_
  refine h_only 4 rfl (by kernel_rfl) ?_
  first | (refine m_build0 tabs rfl rfl (fun g hg => ?_)) | (refine m_appi 0 tabs (xs := []) rfl rfl rfl rfl rfl (by simp; omega) (fun w c => rd_src (c.rd hr)) (fun a2 c2 => ?_))
  refine c_nil (x_one (h_keep (fun w c => by exact c.drop) ?_))
  refine h_only 7 rfl (by kernel_rfl) ?_
  first | (refine m_build0 tabs rfl rfl (fun g hg => ?_)) | (refine m_appi 0 tabs (xs := []) rfl rfl rfl rfl rfl (by simp; omega) (fun w c => rd_src (c.rd hr)) (fun a2 c2 => ?_))
  refine c_nil (x_one (h_keep (fun w c => by exact c.drop) ?_))
  refine h_take 8 rfl (by kernel_rfl) (by kernel_rfl) (by kernel_rfl) (by exact y_bld3 (bld_mat _ _ _ _ _) rfl rfl rfl) rfl (fun w c => by exact c.drop) ?_
  refine h_end (by kernel_rfl) ?_
  refine AT.fact (own_sl 0 rfl) (fun hsl => ?_)
  obtain ⟨a3, c3, e3, hs3⟩ := hsl
  simp at e3
  obtain ⟨rfl, rfl⟩ := e3
  repeat' (first
    | (show AT _ _ _ (wpList _ _ _ (_ :: _)); first
       | (show AT _ _ _ (wpList _ _ _ (⟨_, Op.store _ _ _, _, _, _, _⟩ :: _)); refine m_storeb 1 tabs rfl rfl rfl rfl rfl rfl rfl ?_))
    | (show AT _ _ _ (wpList _ _ _ []); refine c_nil (x_then ?_))
    | (show AT _ _ _ (Code.wp _ _ _); refine c_ret ?_))
  refine x_ret1 Try.results120 (res_cellb 1 tabs rfl rfl rfl rfl) (fun w' c' => ⟨.agg #[iV r, iV k, .slice a2 xs.length c2], [.own (iT xs) (.slice a2 xs.length c2)], by simp, ⟨a2, c2, rfl, by simpa using hs3, rfl⟩, ?_⟩)
  have := Hp.sub (H' := [HE.own (ints 3 ([] ++ xs)) (.slice a2 (([] : List Int).length + xs.length) c2)]) (.cons_cons _ (List.nil_sublist _)) c'
  simpa using this
end Go.Proofs.Ytljgmmmgnfgbhaa
