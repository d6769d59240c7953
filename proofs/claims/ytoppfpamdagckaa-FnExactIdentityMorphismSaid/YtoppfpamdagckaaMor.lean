import Derived.Test.YtoppfpamdagckaaZer
namespace Go.Proofs.Ytoppfpamdagckaa
open Go.Lg Go.Proofs Go.RowKit
attribute [local irreducible] Code.wp wpList bodyPost Exit.then Exit.inBlock Hp Again Calls Y AT ResV QT Qn QI wpAny wpAnyQ
set_option maxRecDepth 20000
set_option maxHeartbeats 4000000

/-! ### lists of matrices: of one, of zeros -/
def GivesMs (ms : List Mat) (v : Value) (H : List HE) : Prop := ∃ a c, v = .slice a ms.length c ∧ SA a ms.length ∧ H = [.own (matsT 29 ms) (.slice a ms.length c)]
def GivesMsB (ms : List Mat) (b : Bool) (v : Value) (H : List HE) : Prop := ∃ a c, v = .tuple #[.slice a ms.length c, .bool b] ∧ SA a ms.length ∧ H = [.own (matsT 29 ms) (.slice a ms.length c)]
def idM (d : List Int) (i : Nat) : Mat := (((d.getD i 0).toNat : Nat), ((d.getD i 0).toNat : Nat), mk (d.getD i 0).toNat (d.getD i 0).toNat idF)
def idMs (d : List Int) (n : Nat) : List Mat := (List.range n).map (idM d)
@[simp] theorem idMs_length {d : List Int} {n : Nat} : (idMs d n).length = n := by simp [idMs]
theorem idM_at {d : List Int} {k : Int} (hd : ∀ n, 0 ≤ d.getD n 0 ∧ d.getD n 0 ≤ k) (i : Nat) : ∃ n : Nat, d.getD i 0 = n ∧ (n : Int) ≤ k ∧ idM d i = ((n : Int), (n : Int), mk n n idF) := by
  have := hd i
  exact ⟨(d.getD i 0).toNat, by omega, by omega, rfl⟩
theorem idMs_next {d : List Int} {i n : Nat} (hz : idM d i = ((n : Int), (n : Int), mk n n idF)) : (idMs d i).flatMap matT ++ (List.map T.c [iV n, iV n] ++ [iT (mk n n idF)]) = (idMs d (i + 1)).flatMap matT := by
  have e1 : idMs d (i + 1) = idMs d i ++ [idM d i] := by simp [idMs, List.range_succ]
  rw [e1, List.flatMap_append, hz]; rfl
theorem identities_ok {w : World} {d : List Int} {u : Value} (hu : Rd w (iT d) u) (hd : ∀ n, 0 ≤ d.getD n 0 ∧ d.getD n 0 ≤ 8) (hl : d.length ≤ 64) : Does Try.prog 81 [u] w (GivesMs (idMs d d.length)) := by
  obtain ⟨a0, c0, rfl, hs0, _, _, hg0⟩ := hu.ints
  refine fn_enter Try.func81 rfl Try.ntmps81 rfl ?_
  repeat' (first
    | (show AT _ _ _ (wpList _ _ _ (_ :: _)); first
       | (show AT _ _ _ (wpList _ _ _ (⟨_, Op.move _, _, _, _, _⟩ :: _)); refine st_y (y_move rfl) rfl ?_)
       | (show AT _ _ _ (wpList _ _ _ (⟨_, Op.assign _, _, _, _, _⟩ :: _)); refine st_y (y_assign rfl) rfl ?_)
       | (show AT _ _ _ (wpList _ _ _ (⟨_, Op.load _ _, _, _, _, _⟩ :: _)); refine st_y (y_load tabs rfl rfl (hc_rd (by assumption) (by omega))) rfl ?_)
       | (show AT _ _ _ (wpList _ _ _ (⟨_, Op.indexAddr _ _ _, _, _, _, _⟩ :: _)); first | refine st_y (y_ix1 tabs rfl rfl rfl (by first | assumption | exact .mk) rfl (by omega)) rfl ?_ | refine st_y (y_ixi tabs rfl rfl rfl (by first | assumption | exact .mk) (by omega) (by omega)) rfl ?_ | refine st_y (y_ixa tabs rfl rfl rfl (by first | assumption | exact .mk) (by omega) (by omega)) rfl ?_)
       | (show AT _ _ _ (wpList _ _ _ (⟨_, Op.binOp _ _ _ _ _, _, _, _, _⟩ :: _)); first | refine st_y (y_add rfl rfl (by omega)) rfl ?_ | refine st_y (y_lss rfl rfl) rfl ?_)
       | (show AT _ _ _ (wpList _ _ _ (⟨_, Op.call _, _, _, _, _⟩ :: _)); refine st_y (y_len tabs rfl rfl) rfl ?_)
       | (show AT _ _ _ (wpList _ _ _ (⟨_, Op.buildSlice _ _ _, _, _, _, _⟩ :: _)); refine m_build0 tabs rfl rfl (fun g hg => ?_)))
    | (show AT _ _ _ (wpList _ _ _ []); first | refine c_nil (x_then ?_) | refine c_nil (x_qn ?_) | refine c_nil ?_)
    | (show AT _ _ _ (Code.wp _ _ _); first | refine c_seq ?_ | refine c_region ?_ | refine c_skip (x_then ?_) | refine c_skip (x_blk ?_) | refine c_skip ?_ | refine c_block ?_ | refine c_ret ?_ | refine c_exit ?_ | refine c_true rfl ?_ | refine c_false rfl ?_ | refine c_ift rfl (by first | assumption | omega) ?_ | refine c_iff rfl (by first | assumption | exact not_not_intro (by assumption) | omega) ?_ | refine c_ifnd rfl (fun h => ?_) (fun h => ?_) | refine c_if rfl (fun h => ?_) (fun h => ?_) | refine c_ifn rfl (fun h => ?_) (fun h => ?_))
    | (show AT _ _ _ _; first | refine x_then ?_ | refine x_qn ?_ | refine x_then_ret ?_ | refine x_blk_ret ?_ | refine x_then_exit ?_ | refine x_blk_exit rfl ?_ | refine x_blk_other rfl ?_ | refine x_blk ?_))
  refine c_loopH (α := Nat × Option Addr × Nat) [6, 7] (fun s => [(3, .slice s.2.1 s.1 s.2.2), (8, .int .i64 s.1)]) (fun s => s.1 ≤ d.length) (fun s => [.own (matsT 29 (idMs d s.1)) (.slice s.2.1 s.1 s.2.2)]) (fun s => d.length - s.1) (0, none, 0) rfl (by repeat' (first | exact Sub.nil | refine Sub.cons rfl ?_ | refine Sub.consi rfl (by omega) ?_)) ?_ ?_ ?_
  · exact Nat.zero_le _
  · exact fun w' c' => Hp.nilp _ _ c'
  · rintro ⟨i, am, cm⟩ hi
    simp only at hi ⊢
    by_cases hin : i < d.length
    · obtain ⟨n, hn, hnb, hz⟩ := idM_at hd i
      repeat' (first
        | (show AT _ _ _ (wpList _ _ _ (_ :: _)); first
           | (show AT _ _ _ (wpList _ _ _ (⟨_, Op.move _, _, _, _, _⟩ :: _)); refine st_y (y_move rfl) rfl ?_)
           | (show AT _ _ _ (wpList _ _ _ (⟨_, Op.assign _, _, _, _, _⟩ :: _)); refine st_y (y_assign rfl) rfl ?_)
           | (show AT _ _ _ (wpList _ _ _ (⟨_, Op.load _ _, _, _, _, _⟩ :: _)); first | refine st_y (y_load tabs rfl rfl (hc_w0 (hg0 i hin))) rfl ?_ | refine st_y (y_load tabs rfl rfl (hc_rd (by assumption) (by omega))) rfl ?_)
           | (show AT _ _ _ (wpList _ _ _ (⟨_, Op.indexAddr _ _ _, _, _, _, _⟩ :: _)); first | refine st_y (y_ix1 tabs (j := i) rfl rfl rfl hs0 rfl hin) rfl ?_ | refine st_y (y_ix1 tabs rfl rfl rfl (by first | assumption | exact .mk) rfl (by omega)) rfl ?_ | refine st_y (y_ixi tabs rfl rfl rfl (by first | assumption | exact .mk) (by omega) (by omega)) rfl ?_ | refine st_y (y_ixa tabs rfl rfl rfl (by first | assumption | exact .mk) (by omega) (by omega)) rfl ?_)
           | (show AT _ _ _ (wpList _ _ _ (⟨_, Op.binOp _ _ _ _ _, _, _, _, _⟩ :: _)); first | refine st_y (y_add rfl rfl (by omega)) rfl ?_ | refine st_y (y_lss rfl rfl) rfl ?_)
           | (show AT _ _ _ (wpList _ _ _ (⟨_, Op.call _, _, _, _, _⟩ :: _)); first | (refine m_call (ent_of Try.func134 (by kernel_rfl) rfl) rfl rfl (fun w c => (by rw [hn]; exact identity_ok (n := n) (by omega))) ?_; rintro v H' ⟨az, cz, rfl, hsz, rfl⟩) | refine m_push1 [iV n, iV n] 0 0 tabs (m' := i) rfl rfl rfl rfl rfl rfl rfl (by rw [flatMap_length matT_length, idMs_length]) (by rw [flatMap_length matT_length, idMs_length]; omega) (by decide) rfl rfl (fun a3 c3 => ?_) | refine st_y (y_len tabs rfl rfl) rfl ?_)
           | (show AT _ _ _ (wpList _ _ _ (⟨_, Op.buildSlice _ _ _, _, _, _, _⟩ :: _)); first | refine m_build1 tabs (us := [iV n, iV n, .slice az (n * n) cz]) rfl rfl rfl rfl (by decide) rfl (fun g2 hg2 => ?_) | refine m_build0 tabs rfl rfl (fun g hg => ?_)))
        | (show AT _ _ _ (wpList _ _ _ []); first | refine c_nil (x_then ?_) | refine c_nil (x_qn ?_) | refine c_nil ?_)
        | (show AT _ _ _ (Code.wp _ _ _); first | refine c_seq ?_ | refine c_region ?_ | refine c_skip (x_then ?_) | refine c_skip (x_blk ?_) | refine c_skip ?_ | refine c_block ?_ | refine c_ret ?_ | refine c_exit ?_ | refine c_true rfl ?_ | refine c_false rfl ?_ | refine c_ift rfl (by first | assumption | omega) ?_ | refine c_iff rfl (by first | assumption | exact not_not_intro (by assumption) | omega) ?_ | refine c_ifnd rfl (fun h => ?_) (fun h => ?_) | refine c_if rfl (fun h => ?_) (fun h => ?_) | refine c_ifn rfl (fun h => ?_) (fun h => ?_))
        | (show AT _ _ _ _; first | refine x_then ?_ | refine x_qn ?_ | refine x_then_ret ?_ | refine x_blk_ret ?_ | refine x_then_exit ?_ | refine x_blk_exit rfl ?_ | refine x_blk_other rfl ?_ | refine x_blk ?_))
      refine x_nx (i + 1, a3, c3) (by repeat' (first | exact Sub.nil | refine Sub.cons rfl ?_ | refine Sub.consi rfl (by omega) ?_)) (by simp only; omega) (fun w' c' => ?_) (by simp only; omega)
      rw [idMs_next hz] at c'
      exact c'
    · have : i = d.length := by omega
      subst this
      refine AT.fact (mats_sl 0 rfl) (fun hsl => ?_)
      rw [idMs_length] at hsl
      repeat' (first
        | (show AT _ _ _ (wpList _ _ _ (_ :: _)); first
           | (show AT _ _ _ (wpList _ _ _ (⟨_, Op.move _, _, _, _, _⟩ :: _)); refine st_y (y_move rfl) rfl ?_)
           | (show AT _ _ _ (wpList _ _ _ (⟨_, Op.assign _, _, _, _, _⟩ :: _)); refine st_y (y_assign rfl) rfl ?_)
           | (show AT _ _ _ (wpList _ _ _ (⟨_, Op.load _ _, _, _, _, _⟩ :: _)); refine st_y (y_load tabs rfl rfl (hc_rd (by assumption) (by omega))) rfl ?_)
           | (show AT _ _ _ (wpList _ _ _ (⟨_, Op.indexAddr _ _ _, _, _, _, _⟩ :: _)); first | refine st_y (y_ix1 tabs rfl rfl rfl (by first | assumption | exact .mk) rfl (by omega)) rfl ?_ | refine st_y (y_ixi tabs rfl rfl rfl (by first | assumption | exact .mk) (by omega) (by omega)) rfl ?_ | refine st_y (y_ixa tabs rfl rfl rfl (by first | assumption | exact .mk) (by omega) (by omega)) rfl ?_)
           | (show AT _ _ _ (wpList _ _ _ (⟨_, Op.binOp _ _ _ _ _, _, _, _, _⟩ :: _)); first | refine st_y (y_add rfl rfl (by omega)) rfl ?_ | refine st_y (y_lss rfl rfl) rfl ?_)
           | (show AT _ _ _ (wpList _ _ _ (⟨_, Op.call _, _, _, _, _⟩ :: _)); refine st_y (y_len tabs rfl rfl) rfl ?_)
           | (show AT _ _ _ (wpList _ _ _ (⟨_, Op.buildSlice _ _ _, _, _, _, _⟩ :: _)); refine m_build0 tabs rfl rfl (fun g hg => ?_)))
        | (show AT _ _ _ (wpList _ _ _ []); first | refine c_nil (x_then ?_) | refine c_nil (x_qn ?_) | refine c_nil ?_)
        | (show AT _ _ _ (Code.wp _ _ _); first | refine c_seq ?_ | refine c_region ?_ | refine c_skip (x_then ?_) | refine c_skip (x_blk ?_) | refine c_skip ?_ | refine c_block ?_ | refine c_ret ?_ | refine c_exit ?_ | refine c_true rfl ?_ | refine c_false rfl ?_ | refine c_ift rfl (by first | assumption | omega) ?_ | refine c_iff rfl (by first | assumption | exact not_not_intro (by assumption) | omega) ?_ | refine c_ifnd rfl (fun h => ?_) (fun h => ?_) | refine c_if rfl (fun h => ?_) (fun h => ?_) | refine c_ifn rfl (fun h => ?_) (fun h => ?_))
        | (show AT _ _ _ _; first | refine x_then ?_ | refine x_qn ?_ | refine x_then_ret ?_ | refine x_blk_ret ?_ | refine x_then_exit ?_ | refine x_blk_exit rfl ?_ | refine x_blk_other rfl ?_ | refine x_blk ?_))
      exact x_ret1 Try.results81 (res_tmp rfl) (fun w' c' => ⟨_, _, rfl, ⟨am, cm, by rw [idMs_length], by rw [idMs_length]; exact hsl, by rw [idMs_length]⟩, c'.sub (.cons_cons _ (List.nil_sublist _))⟩)

theorem l3Identity_ok {w : World} {n : Nat} (hn : n ≤ 1024) : Does Try.prog 78 [iV n] w (GivesK n n idF) := by
  have hnn := rc_le hn hn
  refine fn_enter Try.func78 rfl Try.ntmps78 rfl ?_
  repeat' (first
    | (show AT _ _ _ (wpList _ _ _ (_ :: _)); first
       | (show AT _ _ _ (wpList _ _ _ (⟨_, Op.move _, _, _, _, _⟩ :: _)); refine st_y (y_move rfl) rfl ?_)
       | (show AT _ _ _ (wpList _ _ _ (⟨_, Op.assign _, _, _, _, _⟩ :: _)); refine st_y (y_assign rfl) rfl ?_)
       | (show AT _ _ _ (wpList _ _ _ (⟨_, Op.fieldAddr _ _ _, _, _, _, _⟩ :: _)); refine st_y (y_field tabs rfl rfl rfl) rfl ?_)
       | (show AT _ _ _ (wpList _ _ _ (⟨_, Op.load _ _, _, _, _, _⟩ :: _)); first | refine st_y (y_load tabs rfl rfl (hc_blk 0 rfl rfl)) rfl ?_ | refine st_y (y_load tabs rfl rfl (hc_blk 1 rfl rfl)) rfl ?_ | refine st_y (y_load tabs rfl rfl (hc_blk 2 rfl rfl)) rfl ?_ | refine st_y (y_load tabs rfl rfl (hc_blk 3 rfl rfl)) rfl ?_ | refine st_y (y_load tabs rfl rfl (hc_blk 4 rfl rfl)) rfl ?_ | refine st_y (y_load tabs rfl rfl (hc_blk 5 rfl rfl)) rfl ?_ | refine st_y (y_loadb 0 tabs rfl rfl rfl rfl) rfl ?_ | refine st_y (y_loadb 1 tabs rfl rfl rfl rfl) rfl ?_ | refine st_y (y_loadb 2 tabs rfl rfl rfl rfl) rfl ?_ | refine st_y (y_loadb 3 tabs rfl rfl rfl rfl) rfl ?_ | refine st_y (y_load tabs rfl rfl (hc_rd (by assumption) (by omega))) rfl ?_)
       | (show AT _ _ _ (wpList _ _ _ (⟨_, Op.indexAddr _ _ _, _, _, _, _⟩ :: _)); first | refine st_y (y_ix1 tabs rfl rfl rfl (by first | assumption | exact .mk) rfl (by omega)) rfl ?_ | refine st_y (y_ixi tabs rfl rfl rfl (by first | assumption | exact .mk) (by omega) (by omega)) rfl ?_ | refine st_y (y_ixa tabs rfl rfl rfl (by first | assumption | exact .mk) (by omega) (by omega)) rfl ?_)
       | (show AT _ _ _ (wpList _ _ _ (⟨_, Op.binOp _ _ _ _ _, _, _, _, _⟩ :: _)); first | refine st_y (y_add rfl rfl (by omega)) rfl ?_ | refine st_y (y_lss rfl rfl) rfl ?_)
       | (show AT _ _ _ (wpList _ _ _ (⟨_, Op.call _, _, _, _, _⟩ :: _)); (refine m_call (ent_of Try.func97 (by kernel_rfl) rfl) rfl rfl (fun w c => l3Zero_ok hn hn) ?_; rintro v H' ⟨a, c, rfl, hs, rfl⟩))
       | (show AT _ _ _ (wpList _ _ _ (⟨_, Op.store _ _ _, _, _, _, _⟩ :: _)); first | refine m_storef 0 tabs rfl rfl rfl rfl rfl rfl ?_ | refine m_storef 1 tabs rfl rfl rfl rfl rfl rfl ?_ | refine m_storef 2 tabs rfl rfl rfl rfl rfl rfl ?_ | refine m_storef 3 tabs rfl rfl rfl rfl rfl rfl ?_ | refine m_storeb 0 tabs rfl rfl rfl rfl rfl rfl rfl ?_ | refine m_storeb 1 tabs rfl rfl rfl rfl rfl rfl rfl ?_ | refine m_storeb 2 tabs rfl rfl rfl rfl rfl rfl rfl ?_ | refine m_storeb 3 tabs rfl rfl rfl rfl rfl rfl rfl ?_)
       | (show AT _ _ _ (wpList _ _ _ (⟨_, Op.box _ _, _, _, _, _⟩ :: _)); refine m_box rfl rfl (fun bq hbq => ?_))
       | (show AT _ _ _ (wpList _ _ _ (⟨_, Op.alloc _, _, _, _, _⟩ :: _)); first | refine m_alloc tabs rfl rfl (fun b2 hb2 => ?_) | refine m_alloc tabs rfl rfl (fun bq hbq => ?_)))
    | (show AT _ _ _ (wpList _ _ _ []); first | refine c_nil (x_then ?_) | refine c_nil (x_qn ?_) | refine c_nil ?_)
    | (show AT _ _ _ (Code.wp _ _ _); first | refine c_seq ?_ | refine c_region ?_ | refine c_skip (x_then ?_) | refine c_skip (x_blk ?_) | refine c_skip ?_ | refine c_block ?_ | refine c_ret ?_ | refine c_exit ?_ | refine c_true rfl ?_ | refine c_false rfl ?_ | refine c_ift rfl (by first | assumption | omega) ?_ | refine c_iff rfl (by first | assumption | exact not_not_intro (by assumption) | omega) ?_ | refine c_ifnd rfl (fun h => ?_) (fun h => ?_) | refine c_if rfl (fun h => ?_) (fun h => ?_) | refine c_ifn rfl (fun h => ?_) (fun h => ?_))
    | (show AT _ _ _ _; first | refine x_then ?_ | refine x_qn ?_ | refine x_then_ret ?_ | refine x_blk_ret ?_ | refine x_then_exit ?_ | refine x_blk_exit rfl ?_ | refine x_blk_other rfl ?_ | refine x_blk ?_))
  rename_i b1 hb1
  refine c_loopH (α := Nat) [0, 2, 3] (fun i => [(4, .int .i64 i)]) (fun i => i ≤ n) (fun i => [.blk b2 #[iV n, iV n, .slice a (n * n) c] 29, .own (iT (mk n n (idTo i))) (.slice a (n * n) c), .blk b1 #[iV 0, iV 0, .slice none 0 0] 29]) (fun i => n - i) 0 rfl (by repeat' (first | exact Sub.nil | refine Sub.cons rfl ?_ | refine Sub.consi rfl (by omega) ?_)) ?_ ?_ ?_
  · omega
  · intro w' c'
    have e0 : idTo 0 = (fun _ _ => 0) := by funext i j; simp [idTo]
    rw [e0]
    exact c'
  · intro i hi
    by_cases hin : i < n
    · have hc := cell_lt hin hin
      repeat' (first
        | (show AT _ _ _ (wpList _ _ _ (_ :: _)); first
           | (show AT _ _ _ (wpList _ _ _ (⟨_, Op.move _, _, _, _, _⟩ :: _)); refine st_y (y_move rfl) rfl ?_)
           | (show AT _ _ _ (wpList _ _ _ (⟨_, Op.assign _, _, _, _, _⟩ :: _)); refine st_y (y_assign rfl) rfl ?_)
           | (show AT _ _ _ (wpList _ _ _ (⟨_, Op.fieldAddr _ _ _, _, _, _, _⟩ :: _)); refine st_y (y_field tabs rfl rfl rfl) rfl ?_)
           | (show AT _ _ _ (wpList _ _ _ (⟨_, Op.load _ _, _, _, _, _⟩ :: _)); first | refine st_y (y_load tabs rfl rfl (hc_blk 0 rfl rfl)) rfl ?_ | refine st_y (y_load tabs rfl rfl (hc_blk 1 rfl rfl)) rfl ?_ | refine st_y (y_load tabs rfl rfl (hc_blk 2 rfl rfl)) rfl ?_ | refine st_y (y_load tabs rfl rfl (hc_blk 3 rfl rfl)) rfl ?_ | refine st_y (y_load tabs rfl rfl (hc_blk 4 rfl rfl)) rfl ?_ | refine st_y (y_load tabs rfl rfl (hc_blk 5 rfl rfl)) rfl ?_ | refine st_y (y_loadb 0 tabs rfl rfl rfl rfl) rfl ?_ | refine st_y (y_loadb 1 tabs rfl rfl rfl rfl) rfl ?_ | refine st_y (y_loadb 2 tabs rfl rfl rfl rfl) rfl ?_ | refine st_y (y_loadb 3 tabs rfl rfl rfl rfl) rfl ?_ | refine st_y (y_load tabs rfl rfl (hc_rd (by assumption) (by omega))) rfl ?_)
           | (show AT _ _ _ (wpList _ _ _ (⟨_, Op.indexAddr _ _ _, _, _, _, _⟩ :: _)); first | refine st_y (y_ix1 tabs (j := i * n + i) rfl rfl rfl hs rfl hc) rfl ?_ | refine st_y (y_ix1 tabs rfl rfl rfl (by first | assumption | exact .mk) rfl (by omega)) rfl ?_ | refine st_y (y_ixi tabs rfl rfl rfl (by first | assumption | exact .mk) (by omega) (by omega)) rfl ?_ | refine st_y (y_ixa tabs rfl rfl rfl (by first | assumption | exact .mk) (by omega) (by omega)) rfl ?_)
           | (show AT _ _ _ (wpList _ _ _ (⟨_, Op.binOp _ _ _ _ _, _, _, _, _⟩ :: _)); first | refine st_y (y_muln rfl rfl rfl rfl (Nat.le_trans (Nat.mul_le_mul_right n hi) (by omega))) rfl ?_ | refine st_y (y_addn (b := i) rfl rfl rfl rfl (by omega)) rfl ?_ | refine st_y (y_add rfl rfl (by omega)) rfl ?_ | refine st_y (y_lss rfl rfl) rfl ?_)
           | (show AT _ _ _ (wpList _ _ _ (⟨_, Op.store _ _ _, _, _, _, _⟩ :: _)); first | refine m_storeo 1 tabs rfl rfl rfl rfl (by rw [mk_length]; exact hc) ?_ | refine m_storef 0 tabs rfl rfl rfl rfl rfl rfl ?_ | refine m_storef 1 tabs rfl rfl rfl rfl rfl rfl ?_ | refine m_storef 2 tabs rfl rfl rfl rfl rfl rfl ?_ | refine m_storef 3 tabs rfl rfl rfl rfl rfl rfl ?_ | refine m_storeb 0 tabs rfl rfl rfl rfl rfl rfl rfl ?_ | refine m_storeb 1 tabs rfl rfl rfl rfl rfl rfl rfl ?_ | refine m_storeb 2 tabs rfl rfl rfl rfl rfl rfl rfl ?_ | refine m_storeb 3 tabs rfl rfl rfl rfl rfl rfl rfl ?_)
           | (show AT _ _ _ (wpList _ _ _ (⟨_, Op.box _ _, _, _, _, _⟩ :: _)); refine m_box rfl rfl (fun bq hbq => ?_))
           | (show AT _ _ _ (wpList _ _ _ (⟨_, Op.alloc _, _, _, _, _⟩ :: _)); refine m_alloc tabs rfl rfl (fun bq hbq => ?_)))
        | (show AT _ _ _ (wpList _ _ _ []); first | refine c_nil (x_then ?_) | refine c_nil (x_qn ?_) | refine c_nil ?_)
        | (show AT _ _ _ (Code.wp _ _ _); first | refine c_seq ?_ | refine c_region ?_ | refine c_skip (x_then ?_) | refine c_skip (x_blk ?_) | refine c_skip ?_ | refine c_block ?_ | refine c_ret ?_ | refine c_exit ?_ | refine c_true rfl ?_ | refine c_false rfl ?_ | refine c_ift rfl (by first | assumption | omega) ?_ | refine c_iff rfl (by first | assumption | exact not_not_intro (by assumption) | omega) ?_ | refine c_ifnd rfl (fun h => ?_) (fun h => ?_) | refine c_if rfl (fun h => ?_) (fun h => ?_) | refine c_ifn rfl (fun h => ?_) (fun h => ?_))
        | (show AT _ _ _ _; first | refine x_then ?_ | refine x_qn ?_ | refine x_then_ret ?_ | refine x_blk_ret ?_ | refine x_then_exit ?_ | refine x_blk_exit rfl ?_ | refine x_blk_other rfl ?_ | refine x_blk ?_))
      refine x_nx (i + 1) (by repeat' (first | exact Sub.nil | refine Sub.cons rfl ?_ | refine Sub.consi rfl (by omega) ?_)) (by omega) (fun w' c' => ?_) (by omega)
      simp only [List.set_cons_succ, List.set_cons_zero] at c'
      rw [mk_set hin hin, idTo_next] at c'
      exact c'
    · have : i = n := by omega
      subst this
      have e0 : mk i i (idTo i) = mk i i idF := mk_ext (fun a b ha hb => by unfold idTo idF; grind)
      rw [e0]
      repeat' (first
        | (show AT _ _ _ (wpList _ _ _ (_ :: _)); first
           | (show AT _ _ _ (wpList _ _ _ (⟨_, Op.move _, _, _, _, _⟩ :: _)); refine st_y (y_move rfl) rfl ?_)
           | (show AT _ _ _ (wpList _ _ _ (⟨_, Op.assign _, _, _, _, _⟩ :: _)); refine st_y (y_assign rfl) rfl ?_)
           | (show AT _ _ _ (wpList _ _ _ (⟨_, Op.fieldAddr _ _ _, _, _, _, _⟩ :: _)); refine st_y (y_field tabs rfl rfl rfl) rfl ?_)
           | (show AT _ _ _ (wpList _ _ _ (⟨_, Op.load _ _, _, _, _, _⟩ :: _)); first | refine st_y (y_load tabs rfl rfl (hc_blk 0 rfl rfl)) rfl ?_ | refine st_y (y_load tabs rfl rfl (hc_blk 1 rfl rfl)) rfl ?_ | refine st_y (y_load tabs rfl rfl (hc_blk 2 rfl rfl)) rfl ?_ | refine st_y (y_load tabs rfl rfl (hc_blk 3 rfl rfl)) rfl ?_ | refine st_y (y_load tabs rfl rfl (hc_blk 4 rfl rfl)) rfl ?_ | refine st_y (y_load tabs rfl rfl (hc_blk 5 rfl rfl)) rfl ?_ | refine st_y (y_loadb 0 tabs rfl rfl rfl rfl) rfl ?_ | refine st_y (y_loadb 1 tabs rfl rfl rfl rfl) rfl ?_ | refine st_y (y_loadb 2 tabs rfl rfl rfl rfl) rfl ?_ | refine st_y (y_loadb 3 tabs rfl rfl rfl rfl) rfl ?_ | refine st_y (y_load tabs rfl rfl (hc_rd (by assumption) (by omega))) rfl ?_)
           | (show AT _ _ _ (wpList _ _ _ (⟨_, Op.indexAddr _ _ _, _, _, _, _⟩ :: _)); first | refine st_y (y_ix1 tabs rfl rfl rfl (by first | assumption | exact .mk) rfl (by omega)) rfl ?_ | refine st_y (y_ixi tabs rfl rfl rfl (by first | assumption | exact .mk) (by omega) (by omega)) rfl ?_ | refine st_y (y_ixa tabs rfl rfl rfl (by first | assumption | exact .mk) (by omega) (by omega)) rfl ?_)
           | (show AT _ _ _ (wpList _ _ _ (⟨_, Op.binOp _ _ _ _ _, _, _, _, _⟩ :: _)); first | refine st_y (y_add rfl rfl (by omega)) rfl ?_ | refine st_y (y_lss rfl rfl) rfl ?_)
           | (show AT _ _ _ (wpList _ _ _ (⟨_, Op.store _ _ _, _, _, _, _⟩ :: _)); first | refine m_storef 0 tabs rfl rfl rfl rfl rfl rfl ?_ | refine m_storef 1 tabs rfl rfl rfl rfl rfl rfl ?_ | refine m_storef 2 tabs rfl rfl rfl rfl rfl rfl ?_ | refine m_storef 3 tabs rfl rfl rfl rfl rfl rfl ?_ | refine m_storeb 0 tabs rfl rfl rfl rfl rfl rfl rfl ?_ | refine m_storeb 1 tabs rfl rfl rfl rfl rfl rfl rfl ?_ | refine m_storeb 2 tabs rfl rfl rfl rfl rfl rfl rfl ?_ | refine m_storeb 3 tabs rfl rfl rfl rfl rfl rfl rfl ?_)
           | (show AT _ _ _ (wpList _ _ _ (⟨_, Op.box _ _, _, _, _, _⟩ :: _)); refine m_box rfl rfl (fun bq hbq => ?_))
           | (show AT _ _ _ (wpList _ _ _ (⟨_, Op.alloc _, _, _, _, _⟩ :: _)); refine m_alloc tabs rfl rfl (fun bq hbq => ?_)))
        | (show AT _ _ _ (wpList _ _ _ []); first | refine c_nil (x_then ?_) | refine c_nil (x_qn ?_) | refine c_nil ?_)
        | (show AT _ _ _ (Code.wp _ _ _); first | refine c_seq ?_ | refine c_region ?_ | refine c_skip (x_then ?_) | refine c_skip (x_blk ?_) | refine c_skip ?_ | refine c_block ?_ | refine c_ret ?_ | refine c_exit ?_ | refine c_true rfl ?_ | refine c_false rfl ?_ | refine c_ift rfl (by first | assumption | omega) ?_ | refine c_iff rfl (by first | assumption | exact not_not_intro (by assumption) | omega) ?_ | refine c_ifnd rfl (fun h => ?_) (fun h => ?_) | refine c_if rfl (fun h => ?_) (fun h => ?_) | refine c_ifn rfl (fun h => ?_) (fun h => ?_))
        | (show AT _ _ _ _; first | refine x_then ?_ | refine x_qn ?_ | refine x_then_ret ?_ | refine x_blk_ret ?_ | refine x_then_exit ?_ | refine x_blk_exit rfl ?_ | refine x_blk_other rfl ?_ | refine x_blk ?_))
      exact x_ret1 Try.results78 (res_cellb 2 tabs rfl rfl rfl rfl) (fun w' c' => ⟨_, _, rfl, ⟨a, c, rfl, hs, rfl⟩, c'.sub (.cons _ (.cons_cons _ (List.nil_sublist _)))⟩)
theorem RepP.dd {r : Rp} (h : RepP r) : (∀ n, 0 ≤ r.d.getD n 0 ∧ r.d.getD n 0 ≤ 4) ∧ r.d.length ≤ 5 := by
  obtain ⟨_, ⟨⟨hV, _⟩, hdV, hdi, _⟩, _⟩ := h
  refine ⟨fun n => ?_, by omega⟩
  rcases Nat.lt_or_ge n r.d.length with h1 | h1
  · exact hdi _ (List.mem_of_getElem? (getD_some (z := 0) h1))
  · rw [List.getD_eq_getElem?_getD, List.getElem?_eq_none h1]; exact ⟨by simp, by simp⟩
def idL (r : Rp) : List Mat := if RepP r then idMs r.d r.d.length else []
theorem impl_IdentityMorphism_ok {w : World} {r : Rp} {e : Nat} {u0 u1 u2 u3 : Value} (h0 : Rd w (iT r.q.2.1) u0) (h1 : Rd w (iT r.q.2.2) u1) (h2 : Rd w (iT r.d) u2) (h3 : Rd w (matsT e r.m) u3) :
    Does Try.prog 27 [.agg #[iV r.p, iV r.q.1, u0, u1, u2, u3]] w (GivesMsB (idL r) (decide (RepP r))) := by
  by_cases hR : RepP r
  · have hdd := RepP.dd hR
    rw [idL, if_pos hR, decide_eq_true hR]
    refine fn_enter Try.func27 rfl Try.ntmps27 rfl ?_
    repeat' (first
      | (show AT _ _ _ (wpList _ _ _ (_ :: _)); first
         | (show AT _ _ _ (wpList _ _ _ (⟨_, Op.assign _, _, _, _, _⟩ :: _)); refine st_y (y_assign rfl) rfl ?_)
         | (show AT _ _ _ (wpList _ _ _ (⟨_, Op.fieldAddr _ _ _, _, _, _, _⟩ :: _)); refine st_y (y_field tabs rfl rfl rfl) rfl ?_)
         | (show AT _ _ _ (wpList _ _ _ (⟨_, Op.load _ _, _, _, _, _⟩ :: _)); first | refine st_y (y_load tabs rfl rfl (hc_blk 0 rfl rfl)) rfl ?_ | refine st_y (y_load tabs rfl rfl (hc_blk 1 rfl rfl)) rfl ?_ | refine st_y (y_load tabs rfl rfl (hc_blk 2 rfl rfl)) rfl ?_ | refine st_y (y_load tabs rfl rfl (hc_blk 3 rfl rfl)) rfl ?_ | refine st_y (y_load tabs rfl rfl (hc_blk 4 rfl rfl)) rfl ?_ | refine st_y (y_load tabs rfl rfl (hc_blk 5 rfl rfl)) rfl ?_ | refine st_y (y_loadb 0 tabs rfl rfl rfl rfl) rfl ?_ | refine st_y (y_loadb 1 tabs rfl rfl rfl rfl) rfl ?_ | refine st_y (y_loadb 2 tabs rfl rfl rfl rfl) rfl ?_ | refine st_y (y_loadb 3 tabs rfl rfl rfl rfl) rfl ?_ | refine st_y (y_load tabs rfl rfl (hc_rd (by assumption) (by omega))) rfl ?_)
         | (show AT _ _ _ (wpList _ _ _ (⟨_, Op.unOp _ _ _, _, _, _, _⟩ :: _)); first | refine st_y (y_notd rfl) rfl ?_ | refine st_y (y_not rfl) rfl ?_)
         | (show AT _ _ _ (wpList _ _ _ (⟨_, Op.call _, _, _, _, _⟩ :: _)); first | (refine m_call (ent_of Try.func80 (by kernel_rfl) rfl) rfl rfl (fun w c => impl_IsRep_ok (r := r) (c.rd h0) (c.rd h1) (c.rd h2) (c.rd h3)) ?_; rintro v H' ⟨rfl, rfl⟩) | (refine m_call (ent_of Try.func81 (by kernel_rfl) rfl) rfl rfl (fun w c => identities_ok (c.rd h2) (fun n => by have := hdd.1 n; omega) (by have := hdd.2; omega)) ?_; rintro v H' ⟨a, c, rfl, hs, rfl⟩))
         | (show AT _ _ _ (wpList _ _ _ (⟨_, Op.box _ _, _, _, _, _⟩ :: _)); first | refine m_box rfl rfl (fun b hb => ?_) | refine m_box rfl rfl (fun bq hbq => ?_))
         | (show AT _ _ _ (wpList _ _ _ (⟨_, Op.alloc _, _, _, _, _⟩ :: _)); refine m_alloc tabs rfl rfl (fun bq hbq => ?_)))
      | (show AT _ _ _ (wpList _ _ _ []); first | refine c_nil (x_then ?_) | refine c_nil (x_qn ?_) | refine c_nil ?_)
      | (show AT _ _ _ (Code.wp _ _ _); first | refine c_seq ?_ | refine c_region ?_ | refine c_skip (x_then ?_) | refine c_skip (x_blk ?_) | refine c_skip ?_ | refine c_ret ?_ | refine c_exit ?_ | refine c_true rfl ?_ | refine c_false rfl ?_ | refine c_ift rfl (by first | assumption | omega) ?_ | refine c_iff rfl (by first | assumption | exact not_not_intro (by assumption) | omega) ?_ | refine c_ifnd rfl (fun h => ?_) (fun h => ?_) | refine c_if rfl (fun h => ?_) (fun h => ?_) | refine c_ifn rfl (fun h => ?_) (fun h => ?_))
      | (show AT _ _ _ _; first | refine x_then ?_ | refine x_qn ?_ | refine x_then_ret ?_ | refine x_blk_ret ?_ | refine x_then_exit ?_ | refine x_blk_exit rfl ?_ | refine x_blk_other rfl ?_ | refine x_blk ?_))
    exact x_ret2 Try.results27 (res_tmp rfl) (res_tmp rfl) (fun w' c' => ⟨_, _, rfl, ⟨a, c, rfl, hs, rfl⟩, c'.sub (.cons_cons _ (List.nil_sublist _))⟩)
  · rw [idL, if_neg hR, decide_eq_false hR]
    refine fn_enter Try.func27 rfl Try.ntmps27 rfl ?_
    repeat' (first
      | (show AT _ _ _ (wpList _ _ _ (_ :: _)); first
         | (show AT _ _ _ (wpList _ _ _ (⟨_, Op.assign _, _, _, _, _⟩ :: _)); refine st_y (y_assign rfl) rfl ?_)
         | (show AT _ _ _ (wpList _ _ _ (⟨_, Op.fieldAddr _ _ _, _, _, _, _⟩ :: _)); refine st_y (y_field tabs rfl rfl rfl) rfl ?_)
         | (show AT _ _ _ (wpList _ _ _ (⟨_, Op.load _ _, _, _, _, _⟩ :: _)); first | refine st_y (y_load tabs rfl rfl (hc_blk 0 rfl rfl)) rfl ?_ | refine st_y (y_load tabs rfl rfl (hc_blk 1 rfl rfl)) rfl ?_ | refine st_y (y_load tabs rfl rfl (hc_blk 2 rfl rfl)) rfl ?_ | refine st_y (y_load tabs rfl rfl (hc_blk 3 rfl rfl)) rfl ?_ | refine st_y (y_load tabs rfl rfl (hc_blk 4 rfl rfl)) rfl ?_ | refine st_y (y_load tabs rfl rfl (hc_blk 5 rfl rfl)) rfl ?_ | refine st_y (y_loadb 0 tabs rfl rfl rfl rfl) rfl ?_ | refine st_y (y_loadb 1 tabs rfl rfl rfl rfl) rfl ?_ | refine st_y (y_loadb 2 tabs rfl rfl rfl rfl) rfl ?_ | refine st_y (y_loadb 3 tabs rfl rfl rfl rfl) rfl ?_ | refine st_y (y_load tabs rfl rfl (hc_rd (by assumption) (by omega))) rfl ?_)
         | (show AT _ _ _ (wpList _ _ _ (⟨_, Op.unOp _ _ _, _, _, _, _⟩ :: _)); first | refine st_y (y_notd rfl) rfl ?_ | refine st_y (y_not rfl) rfl ?_)
         | (show AT _ _ _ (wpList _ _ _ (⟨_, Op.call _, _, _, _, _⟩ :: _)); (refine m_call (ent_of Try.func80 (by kernel_rfl) rfl) rfl rfl (fun w c => impl_IsRep_ok (r := r) (c.rd h0) (c.rd h1) (c.rd h2) (c.rd h3)) ?_; rintro v H' ⟨rfl, rfl⟩))
         | (show AT _ _ _ (wpList _ _ _ (⟨_, Op.box _ _, _, _, _, _⟩ :: _)); first | refine m_box rfl rfl (fun b hb => ?_) | refine m_box rfl rfl (fun bq hbq => ?_))
         | (show AT _ _ _ (wpList _ _ _ (⟨_, Op.alloc _, _, _, _, _⟩ :: _)); refine m_alloc tabs rfl rfl (fun bq hbq => ?_)))
      | (show AT _ _ _ (wpList _ _ _ []); first | refine c_nil (x_then ?_) | refine c_nil (x_qn ?_) | refine c_nil ?_)
      | (show AT _ _ _ (Code.wp _ _ _); first | refine c_seq ?_ | refine c_region ?_ | refine c_skip (x_then ?_) | refine c_skip (x_blk ?_) | refine c_skip ?_ | refine c_ret ?_ | refine c_exit ?_ | refine c_true rfl ?_ | refine c_false rfl ?_ | refine c_ift rfl (by first | assumption | omega) ?_ | refine c_iff rfl (by first | assumption | exact not_not_intro (by assumption) | omega) ?_ | refine c_ifnd rfl (fun h => ?_) (fun h => ?_) | refine c_if rfl (fun h => ?_) (fun h => ?_) | refine c_ifn rfl (fun h => ?_) (fun h => ?_))
      | (show AT _ _ _ _; first | refine x_then ?_ | refine x_qn ?_ | refine x_then_ret ?_ | refine x_blk_ret ?_ | refine x_then_exit ?_ | refine x_blk_exit rfl ?_ | refine x_blk_other rfl ?_ | refine x_blk ?_))
    exact x_ret2 Try.results27 (res_tmp rfl) (res_tmp rfl) (fun w' c' => ⟨_, _, rfl, ⟨none, 0, rfl, .inl rfl, rfl⟩, Hp.nilp _ _ (c'.sub (List.nil_sublist _))⟩)
theorem spec_IdentityMorphism_ok {w : World} {r : Rp} {e : Nat} {u0 u1 u2 u3 : Value} (h0 : Rd w (iT r.q.2.1) u0) (h1 : Rd w (iT r.q.2.2) u1) (h2 : Rd w (iT r.d) u2) (h3 : Rd w (matsT e r.m) u3) :
    Does Try.prog 25 [.agg #[iV r.p, iV r.q.1, u0, u1, u2, u3]] w (GivesMsB (idL r) (decide (RepP r))) := by
  obtain ⟨a2, c2, rfl, hs2, hcl2, hd2, hg2⟩ := h2.ints
  unfold maxLen at hd2
  refine fn_enter Try.func25 rfl Try.ntmps25 rfl ?_
  repeat' (first
    | (show AT _ _ _ (wpList _ _ _ (_ :: _)); first
       | (show AT _ _ _ (wpList _ _ _ (⟨_, Op.move _, _, _, _, _⟩ :: _)); refine st_y (y_move rfl) rfl ?_)
       | (show AT _ _ _ (wpList _ _ _ (⟨_, Op.assign _, _, _, _, _⟩ :: _)); refine st_y (y_assign rfl) rfl ?_)
       | (show AT _ _ _ (wpList _ _ _ (⟨_, Op.fieldAddr _ _ _, _, _, _, _⟩ :: _)); refine st_y (y_field tabs rfl rfl rfl) rfl ?_)
       | (show AT _ _ _ (wpList _ _ _ (⟨_, Op.load _ _, _, _, _, _⟩ :: _)); first | refine st_y (y_load tabs rfl rfl (hc_blk 0 rfl rfl)) rfl ?_ | refine st_y (y_load tabs rfl rfl (hc_blk 1 rfl rfl)) rfl ?_ | refine st_y (y_load tabs rfl rfl (hc_blk 2 rfl rfl)) rfl ?_ | refine st_y (y_load tabs rfl rfl (hc_blk 3 rfl rfl)) rfl ?_ | refine st_y (y_load tabs rfl rfl (hc_blk 4 rfl rfl)) rfl ?_ | refine st_y (y_load tabs rfl rfl (hc_blk 5 rfl rfl)) rfl ?_ | refine st_y (y_loadb 0 tabs rfl rfl rfl rfl) rfl ?_ | refine st_y (y_loadb 1 tabs rfl rfl rfl rfl) rfl ?_ | refine st_y (y_loadb 2 tabs rfl rfl rfl rfl) rfl ?_ | refine st_y (y_loadb 3 tabs rfl rfl rfl rfl) rfl ?_ | refine st_y (y_load tabs rfl rfl (hc_rd (by assumption) (by omega))) rfl ?_)
       | (show AT _ _ _ (wpList _ _ _ (⟨_, Op.indexAddr _ _ _, _, _, _, _⟩ :: _)); first | refine st_y (y_ix1 tabs rfl rfl rfl (by first | assumption | exact .mk) rfl (by omega)) rfl ?_ | refine st_y (y_ixi tabs rfl rfl rfl (by first | assumption | exact .mk) (by omega) (by omega)) rfl ?_ | refine st_y (y_ixa tabs rfl rfl rfl (by first | assumption | exact .mk) (by omega) (by omega)) rfl ?_)
       | (show AT _ _ _ (wpList _ _ _ (⟨_, Op.binOp _ _ _ _ _, _, _, _, _⟩ :: _)); first | refine st_y (y_add rfl rfl (by omega)) rfl ?_ | refine st_y (y_lss rfl rfl) rfl ?_)
       | (show AT _ _ _ (wpList _ _ _ (⟨_, Op.call _, _, _, _, _⟩ :: _)); refine st_y (y_len tabs rfl rfl) rfl ?_)
       | (show AT _ _ _ (wpList _ _ _ (⟨_, Op.pick _ _ _, _, _, _, _⟩ :: _)); first | refine st_y (y_pickt rfl (by assumption) rfl) rfl ?_ | refine st_y (y_pickf rfl (by assumption) rfl) rfl ?_ | refine st_y (y_pick rfl rfl rfl) rfl ?_)
       | (show AT _ _ _ (wpList _ _ _ (⟨_, Op.box _ _, _, _, _, _⟩ :: _)); first | refine m_box rfl rfl (fun b hb => ?_) | refine m_box rfl rfl (fun bq hbq => ?_))
       | (show AT _ _ _ (wpList _ _ _ (⟨_, Op.alloc _, _, _, _, _⟩ :: _)); refine m_alloc tabs rfl rfl (fun bq hbq => ?_))
       | (show AT _ _ _ (wpList _ _ _ (⟨_, Op.buildSlice _ _ _, _, _, _, _⟩ :: _)); refine m_build0 tabs rfl rfl (fun g hg => ?_))
       | refine st_gy rfl rfl ?_ | refine st_gn rfl rfl rfl ?_ | refine st_gdy rfl rfl (by assumption) ?_ | refine st_gdn rfl rfl (by assumption) rfl ?_ | refine st_gfy rfl rfl (by assumption) ?_ | refine st_gfn rfl rfl (by assumption) rfl ?_ | refine st_gd rfl rfl (fun h => ?_) (fun h => ?_))
    | (show AT _ _ _ (wpList _ _ _ []); first | refine c_nil (x_then ?_) | refine c_nil (x_qn ?_) | refine c_nil ?_)
    | (show AT _ _ _ (Code.wp _ _ _); first | refine c_seq ?_ | refine c_region ?_ | refine c_skip (x_then ?_) | refine c_skip (x_blk ?_) | refine c_skip ?_ | refine c_block ?_ | refine c_ret ?_ | refine c_exit ?_ | refine c_true rfl ?_ | refine c_false rfl ?_ | refine c_ift rfl (by first | assumption | omega) ?_ | refine c_iff rfl (by first | assumption | exact not_not_intro (by assumption) | omega) ?_ | refine c_ifnd rfl (fun h => ?_) (fun h => ?_) | refine c_if rfl (fun h => ?_) (fun h => ?_) | refine c_ifn rfl (fun h => ?_) (fun h => ?_))
    | (show AT _ _ _ _; first | refine x_then ?_ | refine x_qn ?_ | refine x_then_ret ?_ | refine x_blk_ret ?_ | refine x_then_exit ?_ | refine x_blk_exit rfl ?_ | refine x_blk_other rfl ?_ | refine x_blk ?_))
  refine c_loopH (α := Nat × Option Addr × Nat) [1] (fun s => [(4, .slice s.2.1 s.1 s.2.2), (5, .int .i64 s.1)]) (fun s => s.1 ≤ r.d.length ∧ (s.1 = 0 ∨ RepP r)) (fun s => [.own (matsT 29 (idMs r.d s.1)) (.slice s.2.1 s.1 s.2.2), .blk b #[iV r.p, iV r.q.1, u0, u1, .slice a2 r.d.length c2, u3] 47]) (fun s => r.d.length - s.1) (0, some ⟨g, 0, none⟩, 0) rfl (by repeat' (first | exact Sub.nil | refine Sub.cons rfl ?_ | refine Sub.consi rfl (by omega) ?_)) ?_ ?_ ?_
  · exact ⟨Nat.zero_le _, .inl rfl⟩
  · exact fun w' c' => c'
  · rintro ⟨i, am, cm⟩ ⟨hi, hz0⟩
    simp only at hi hz0 ⊢
    refine AT.fact (mats_sl 0 rfl) (fun hsl => ?_)
    rw [idMs_length] at hsl
    by_cases hR : RepP r
    · have hdd := RepP.dd hR
      by_cases hin : i < r.d.length
      · obtain ⟨n, hn, hnb, hz⟩ := idM_at hdd.1 i
        repeat' (first
          | (show AT _ _ _ (wpList _ _ _ (_ :: _)); first
             | (show AT _ _ _ (wpList _ _ _ (⟨_, Op.move _, _, _, _, _⟩ :: _)); refine st_y (y_move rfl) rfl ?_)
             | (show AT _ _ _ (wpList _ _ _ (⟨_, Op.assign _, _, _, _, _⟩ :: _)); refine st_y (y_assign rfl) rfl ?_)
             | (show AT _ _ _ (wpList _ _ _ (⟨_, Op.fieldAddr _ _ _, _, _, _, _⟩ :: _)); refine st_y (y_field tabs rfl rfl rfl) rfl ?_)
             | (show AT _ _ _ (wpList _ _ _ (⟨_, Op.load _ _, _, _, _, _⟩ :: _)); first | refine st_y (y_loadb 1 tabs rfl rfl rfl rfl) rfl ?_ | refine st_y (y_load tabs rfl rfl (hc_w0 (hg2 i hin))) rfl ?_ | refine st_y (y_load tabs rfl rfl (hc_blk 0 rfl rfl)) rfl ?_ | refine st_y (y_load tabs rfl rfl (hc_blk 1 rfl rfl)) rfl ?_ | refine st_y (y_load tabs rfl rfl (hc_blk 2 rfl rfl)) rfl ?_ | refine st_y (y_load tabs rfl rfl (hc_blk 3 rfl rfl)) rfl ?_ | refine st_y (y_load tabs rfl rfl (hc_blk 4 rfl rfl)) rfl ?_ | refine st_y (y_load tabs rfl rfl (hc_blk 5 rfl rfl)) rfl ?_ | refine st_y (y_loadb 0 tabs rfl rfl rfl rfl) rfl ?_ | refine st_y (y_loadb 2 tabs rfl rfl rfl rfl) rfl ?_ | refine st_y (y_loadb 3 tabs rfl rfl rfl rfl) rfl ?_ | refine st_y (y_load tabs rfl rfl (hc_rd (by assumption) (by omega))) rfl ?_)
             | (show AT _ _ _ (wpList _ _ _ (⟨_, Op.indexAddr _ _ _, _, _, _, _⟩ :: _)); first | refine st_y (y_ix1 tabs (j := i) rfl rfl rfl hs2 rfl hin) rfl ?_ | refine st_y (y_ix1 tabs rfl rfl rfl (by first | assumption | exact .mk) rfl (by omega)) rfl ?_ | refine st_y (y_ixi tabs rfl rfl rfl (by first | assumption | exact .mk) (by omega) (by omega)) rfl ?_ | refine st_y (y_ixa tabs rfl rfl rfl (by first | assumption | exact .mk) (by omega) (by omega)) rfl ?_)
             | (show AT _ _ _ (wpList _ _ _ (⟨_, Op.binOp _ _ _ _ _, _, _, _, _⟩ :: _)); first | refine st_y (y_add rfl rfl (by omega)) rfl ?_ | refine st_y (y_lss rfl rfl) rfl ?_)
             | (show AT _ _ _ (wpList _ _ _ (⟨_, Op.call _, _, _, _, _⟩ :: _)); first | (refine m_call (ent_of Try.func77 (by kernel_rfl) rfl) rfl rfl (fun w c => spec_IsRep_ok (r := r) (c.rd h0) (c.rd h1) (c.rd h2) (c.rd h3)) ?_; rintro v H' ⟨rfl, rfl⟩) | (refine m_call (ent_of Try.func78 (by kernel_rfl) rfl) rfl rfl (fun w c => (by rw [hn]; exact l3Identity_ok (n := n) (by omega))) ?_; rintro v H' ⟨az, cz, rfl, hsz, rfl⟩) | refine m_push1 [iV n, iV n] 0 0 tabs (m' := i) rfl rfl rfl rfl rfl rfl rfl (by rw [flatMap_length matT_length, idMs_length]) (by rw [flatMap_length matT_length, idMs_length]; omega) (by decide) rfl rfl (fun a3 c3 => ?_) | refine st_y (y_len tabs rfl rfl) rfl ?_)
             | (show AT _ _ _ (wpList _ _ _ (⟨_, Op.pick _ _ _, _, _, _, _⟩ :: _)); first | refine st_y (y_pickt rfl (by first | assumption | omega) rfl) rfl ?_ | refine st_y (y_pickf rfl (by first | assumption | omega) rfl) rfl ?_ | refine st_y (y_pick rfl rfl rfl) rfl ?_)
             | (show AT _ _ _ (wpList _ _ _ (⟨_, Op.box _ _, _, _, _, _⟩ :: _)); refine m_box rfl rfl (fun bq hbq => ?_))
             | (show AT _ _ _ (wpList _ _ _ (⟨_, Op.alloc _, _, _, _, _⟩ :: _)); refine m_alloc tabs rfl rfl (fun bq hbq => ?_))
             | (show AT _ _ _ (wpList _ _ _ (⟨_, Op.buildSlice _ _ _, _, _, _, _⟩ :: _)); first | refine m_build1 tabs (us := [iV n, iV n, .slice az (n * n) cz]) rfl rfl rfl rfl (by decide) rfl (fun g2 hg2 => ?_) | refine m_build0 tabs rfl rfl (fun g hg => ?_))
             | refine st_gy rfl rfl ?_ | refine st_gn rfl rfl rfl ?_ | refine st_gdy rfl rfl (by first | assumption | omega) ?_ | refine st_gdn rfl rfl (by first | assumption | omega) rfl ?_ | refine st_gfy rfl rfl (by first | assumption | omega) ?_ | refine st_gfn rfl rfl (by first | assumption | omega) rfl ?_ | refine st_gd rfl rfl (fun h => ?_) (fun h => ?_))
          | (show AT _ _ _ (wpList _ _ _ []); first | refine c_nil (x_then ?_) | refine c_nil (x_qn ?_) | refine c_nil ?_)
          | (show AT _ _ _ (Code.wp _ _ _); first | refine c_seq ?_ | refine c_region ?_ | refine c_skip (x_then ?_) | refine c_skip (x_blk ?_) | refine c_skip ?_ | refine c_block ?_ | refine c_ret ?_ | refine c_exit ?_ | refine c_true rfl ?_ | refine c_false rfl ?_ | refine c_ift rfl (by first | assumption | omega) ?_ | refine c_iff rfl (by first | assumption | exact not_not_intro (by assumption) | omega) ?_ | refine c_ifnd rfl (fun h => ?_) (fun h => ?_) | refine c_if rfl (fun h => ?_) (fun h => ?_) | refine c_ifn rfl (fun h => ?_) (fun h => ?_))
          | (show AT _ _ _ _; first | refine x_then ?_ | refine x_qn ?_ | refine x_then_ret ?_ | refine x_blk_ret ?_ | refine x_then_exit ?_ | refine x_blk_exit rfl ?_ | refine x_blk_other rfl ?_ | refine x_blk ?_))
        refine x_nx (i + 1, a3, c3) (by repeat' (first | exact Sub.nil | refine Sub.cons rfl ?_ | refine Sub.consi rfl (by omega) ?_)) ⟨by simp only; omega, .inr hR⟩ (fun w' c' => ?_) (by simp only; omega)
        rw [idMs_next hz] at c'
        exact c'
      · have : i = r.d.length := by omega
        subst this
        repeat' (first
          | (show AT _ _ _ (wpList _ _ _ (_ :: _)); first
             | (show AT _ _ _ (wpList _ _ _ (⟨_, Op.move _, _, _, _, _⟩ :: _)); refine st_y (y_move rfl) rfl ?_)
             | (show AT _ _ _ (wpList _ _ _ (⟨_, Op.assign _, _, _, _, _⟩ :: _)); refine st_y (y_assign rfl) rfl ?_)
             | (show AT _ _ _ (wpList _ _ _ (⟨_, Op.fieldAddr _ _ _, _, _, _, _⟩ :: _)); refine st_y (y_field tabs rfl rfl rfl) rfl ?_)
             | (show AT _ _ _ (wpList _ _ _ (⟨_, Op.load _ _, _, _, _, _⟩ :: _)); first | refine st_y (y_loadb 1 tabs rfl rfl rfl rfl) rfl ?_ | refine st_y (y_load tabs rfl rfl (hc_blk 0 rfl rfl)) rfl ?_ | refine st_y (y_load tabs rfl rfl (hc_blk 1 rfl rfl)) rfl ?_ | refine st_y (y_load tabs rfl rfl (hc_blk 2 rfl rfl)) rfl ?_ | refine st_y (y_load tabs rfl rfl (hc_blk 3 rfl rfl)) rfl ?_ | refine st_y (y_load tabs rfl rfl (hc_blk 4 rfl rfl)) rfl ?_ | refine st_y (y_load tabs rfl rfl (hc_blk 5 rfl rfl)) rfl ?_ | refine st_y (y_loadb 0 tabs rfl rfl rfl rfl) rfl ?_ | refine st_y (y_loadb 2 tabs rfl rfl rfl rfl) rfl ?_ | refine st_y (y_loadb 3 tabs rfl rfl rfl rfl) rfl ?_ | refine st_y (y_load tabs rfl rfl (hc_rd (by assumption) (by omega))) rfl ?_)
             | (show AT _ _ _ (wpList _ _ _ (⟨_, Op.indexAddr _ _ _, _, _, _, _⟩ :: _)); first | refine st_y (y_ix1 tabs rfl rfl rfl (by first | assumption | exact .mk) rfl (by omega)) rfl ?_ | refine st_y (y_ixi tabs rfl rfl rfl (by first | assumption | exact .mk) (by omega) (by omega)) rfl ?_ | refine st_y (y_ixa tabs rfl rfl rfl (by first | assumption | exact .mk) (by omega) (by omega)) rfl ?_)
             | (show AT _ _ _ (wpList _ _ _ (⟨_, Op.binOp _ _ _ _ _, _, _, _, _⟩ :: _)); first | refine st_y (y_add rfl rfl (by omega)) rfl ?_ | refine st_y (y_lss rfl rfl) rfl ?_)
             | (show AT _ _ _ (wpList _ _ _ (⟨_, Op.call _, _, _, _, _⟩ :: _)); first | (refine m_call (ent_of Try.func77 (by kernel_rfl) rfl) rfl rfl (fun w c => spec_IsRep_ok (r := r) (c.rd h0) (c.rd h1) (c.rd h2) (c.rd h3)) ?_; rintro v H' ⟨rfl, rfl⟩) | refine st_y (y_len tabs rfl rfl) rfl ?_)
             | (show AT _ _ _ (wpList _ _ _ (⟨_, Op.pick _ _ _, _, _, _, _⟩ :: _)); first | refine st_y (y_pickt rfl (by first | assumption | omega) rfl) rfl ?_ | refine st_y (y_pickf rfl (by first | assumption | omega) rfl) rfl ?_ | refine st_y (y_pick rfl rfl rfl) rfl ?_)
             | (show AT _ _ _ (wpList _ _ _ (⟨_, Op.box _ _, _, _, _, _⟩ :: _)); refine m_box rfl rfl (fun bq hbq => ?_))
             | (show AT _ _ _ (wpList _ _ _ (⟨_, Op.alloc _, _, _, _, _⟩ :: _)); refine m_alloc tabs rfl rfl (fun bq hbq => ?_))
             | (show AT _ _ _ (wpList _ _ _ (⟨_, Op.buildSlice _ _ _, _, _, _, _⟩ :: _)); refine m_build0 tabs rfl rfl (fun g hg => ?_))
             | refine st_gy rfl rfl ?_ | refine st_gn rfl rfl rfl ?_ | refine st_gdy rfl rfl (by first | assumption | omega) ?_ | refine st_gdn rfl rfl (by first | assumption | omega) rfl ?_ | refine st_gfy rfl rfl (by first | assumption | omega) ?_ | refine st_gfn rfl rfl (by first | assumption | omega) rfl ?_ | refine st_gd rfl rfl (fun h => ?_) (fun h => ?_))
          | (show AT _ _ _ (wpList _ _ _ []); first | refine c_nil (x_then ?_) | refine c_nil (x_qn ?_) | refine c_nil ?_)
          | (show AT _ _ _ (Code.wp _ _ _); first | refine c_seq ?_ | refine c_region ?_ | refine c_skip (x_then ?_) | refine c_skip (x_blk ?_) | refine c_skip ?_ | refine c_block ?_ | refine c_ret ?_ | refine c_exit ?_ | refine c_true rfl ?_ | refine c_false rfl ?_ | refine c_ift rfl (by first | assumption | omega) ?_ | refine c_iff rfl (by first | assumption | exact not_not_intro (by assumption) | omega) ?_ | refine c_ifnd rfl (fun h => ?_) (fun h => ?_) | refine c_if rfl (fun h => ?_) (fun h => ?_) | refine c_ifn rfl (fun h => ?_) (fun h => ?_))
          | (show AT _ _ _ _; first | refine x_then ?_ | refine x_qn ?_ | refine x_then_ret ?_ | refine x_blk_ret ?_ | refine x_then_exit ?_ | refine x_blk_exit rfl ?_ | refine x_blk_other rfl ?_ | refine x_blk ?_))
        rw [idL, if_pos hR]
        exact x_ret2 Try.results25 (res_tmp rfl) (res_tmp rfl) (fun w' c' => ⟨_, _, rfl, ⟨am, cm, by rw [idMs_length], by rw [idMs_length]; exact hsl, by rw [idMs_length]⟩, c'.sub (.cons_cons _ (List.nil_sublist _))⟩)
    · have hi0 : i = 0 := by rcases hz0 with h | h; · exact h
                             · exact absurd h hR
      subst hi0
      have e0 : idL r = idMs r.d 0 := by rw [idL, if_neg hR]; rfl
      repeat' (first
        | (show AT _ _ _ (wpList _ _ _ (_ :: _)); first
           | (show AT _ _ _ (wpList _ _ _ (⟨_, Op.move _, _, _, _, _⟩ :: _)); refine st_y (y_move rfl) rfl ?_)
           | (show AT _ _ _ (wpList _ _ _ (⟨_, Op.assign _, _, _, _, _⟩ :: _)); refine st_y (y_assign rfl) rfl ?_)
           | (show AT _ _ _ (wpList _ _ _ (⟨_, Op.fieldAddr _ _ _, _, _, _, _⟩ :: _)); refine st_y (y_field tabs rfl rfl rfl) rfl ?_)
           | (show AT _ _ _ (wpList _ _ _ (⟨_, Op.load _ _, _, _, _, _⟩ :: _)); first | refine st_y (y_loadb 1 tabs rfl rfl rfl rfl) rfl ?_ | refine st_y (y_load tabs rfl rfl (hc_blk 0 rfl rfl)) rfl ?_ | refine st_y (y_load tabs rfl rfl (hc_blk 1 rfl rfl)) rfl ?_ | refine st_y (y_load tabs rfl rfl (hc_blk 2 rfl rfl)) rfl ?_ | refine st_y (y_load tabs rfl rfl (hc_blk 3 rfl rfl)) rfl ?_ | refine st_y (y_load tabs rfl rfl (hc_blk 4 rfl rfl)) rfl ?_ | refine st_y (y_load tabs rfl rfl (hc_blk 5 rfl rfl)) rfl ?_ | refine st_y (y_loadb 0 tabs rfl rfl rfl rfl) rfl ?_ | refine st_y (y_loadb 2 tabs rfl rfl rfl rfl) rfl ?_ | refine st_y (y_loadb 3 tabs rfl rfl rfl rfl) rfl ?_ | refine st_y (y_load tabs rfl rfl (hc_rd (by assumption) (by omega))) rfl ?_)
           | (show AT _ _ _ (wpList _ _ _ (⟨_, Op.indexAddr _ _ _, _, _, _, _⟩ :: _)); first | refine st_y (y_ix1 tabs rfl rfl rfl (by first | assumption | exact .mk) rfl (by omega)) rfl ?_ | refine st_y (y_ixi tabs rfl rfl rfl (by first | assumption | exact .mk) (by omega) (by omega)) rfl ?_ | refine st_y (y_ixa tabs rfl rfl rfl (by first | assumption | exact .mk) (by omega) (by omega)) rfl ?_)
           | (show AT _ _ _ (wpList _ _ _ (⟨_, Op.binOp _ _ _ _ _, _, _, _, _⟩ :: _)); first | refine st_y (y_add rfl rfl (by omega)) rfl ?_ | refine st_y (y_lss rfl rfl) rfl ?_)
           | (show AT _ _ _ (wpList _ _ _ (⟨_, Op.call _, _, _, _, _⟩ :: _)); first | (refine m_call (ent_of Try.func77 (by kernel_rfl) rfl) rfl rfl (fun w c => spec_IsRep_ok (r := r) (c.rd h0) (c.rd h1) (c.rd h2) (c.rd h3)) ?_; rintro v H' ⟨rfl, rfl⟩) | refine st_y (y_len tabs rfl rfl) rfl ?_)
           | (show AT _ _ _ (wpList _ _ _ (⟨_, Op.pick _ _ _, _, _, _, _⟩ :: _)); first | refine st_y (y_pickt rfl (by first | assumption | omega) rfl) rfl ?_ | refine st_y (y_pickf rfl (by first | assumption | omega) rfl) rfl ?_ | refine st_y (y_pick rfl rfl rfl) rfl ?_)
           | (show AT _ _ _ (wpList _ _ _ (⟨_, Op.box _ _, _, _, _, _⟩ :: _)); refine m_box rfl rfl (fun bq hbq => ?_))
           | (show AT _ _ _ (wpList _ _ _ (⟨_, Op.alloc _, _, _, _, _⟩ :: _)); refine m_alloc tabs rfl rfl (fun bq hbq => ?_))
           | (show AT _ _ _ (wpList _ _ _ (⟨_, Op.buildSlice _ _ _, _, _, _, _⟩ :: _)); refine m_build0 tabs rfl rfl (fun g hg => ?_))
           | refine st_gy rfl rfl ?_ | refine st_gn rfl rfl rfl ?_ | refine st_gdy rfl rfl (by first | assumption | omega) ?_ | refine st_gdn rfl rfl (by first | assumption | omega) rfl ?_ | refine st_gfy rfl rfl (by first | assumption | omega) ?_ | refine st_gfn rfl rfl (by first | assumption | omega) rfl ?_ | refine st_gd rfl rfl (fun h => ?_) (fun h => ?_))
        | (show AT _ _ _ (wpList _ _ _ []); first | refine c_nil (x_then ?_) | refine c_nil (x_qn ?_) | refine c_nil ?_)
        | (show AT _ _ _ (Code.wp _ _ _); first | refine c_seq ?_ | refine c_region ?_ | refine c_skip (x_then ?_) | refine c_skip (x_blk ?_) | refine c_skip ?_ | refine c_block ?_ | refine c_ret ?_ | refine c_exit ?_ | refine c_true rfl ?_ | refine c_false rfl ?_ | refine c_ift rfl (by first | assumption | omega) ?_ | refine c_iff rfl (by first | assumption | exact not_not_intro (by assumption) | omega) ?_ | refine c_ifnd rfl (fun h => ?_) (fun h => ?_) | refine c_if rfl (fun h => ?_) (fun h => ?_) | refine c_ifn rfl (fun h => ?_) (fun h => ?_))
        | (show AT _ _ _ _; first | refine x_then ?_ | refine x_qn ?_ | refine x_then_ret ?_ | refine x_blk_ret ?_ | refine x_then_exit ?_ | refine x_blk_exit rfl ?_ | refine x_blk_other rfl ?_ | refine x_blk ?_))
      all_goals rw [e0]
      all_goals exact x_ret2 Try.results25 (res_tmp rfl) (res_tmp rfl) (fun w' c' => ⟨_, _, rfl, ⟨am, cm, by rw [idMs_length], by rw [idMs_length]; exact hsl, by rw [idMs_length]⟩, c'.sub (.cons_cons _ (List.nil_sublist _))⟩)
theorem szMs_le {k : Nat} : ∀ {l : List Mat}, (∀ m ∈ l, m.2.2.length ≤ k) → szMs l ≤ l.length * (k + 1)
  | [], _ => by simp [szMs]
  | m :: l, h => by
    have h1 := szMs_le (l := l) (fun x hx => h x (List.mem_cons_of_mem _ hx))
    have h2 := h m (List.mem_cons_self ..)
    simp only [szMs, List.map_cons, List.sum_cons, List.length_cons, Nat.add_mul] at h1 ⊢
    omega
theorem idL_sz (r : Rp) : szMs (idL r) ≤ 128 := by
  unfold idL
  split
  · rename_i h
    have hd := RepP.dd h
    have h1 := szMs_le (k := 16) (l := idMs r.d r.d.length) (fun m hm => by
      simp only [idMs, List.mem_map] at hm
      obtain ⟨i, _, rfl⟩ := hm
      simp only [idM, mk_length]
      have := hd.1 i
      exact Nat.le_trans (Nat.mul_le_mul (show _ ≤ 4 by omega) (show _ ≤ 4 by omega)) (by omega))
    rw [idMs_length] at h1
    have := hd.2
    omega
  · simp [szMs]
end Go.Proofs.Ytoppfpamdagckaa
