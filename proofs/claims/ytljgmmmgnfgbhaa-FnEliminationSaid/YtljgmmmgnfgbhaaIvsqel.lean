import Derived.Test.YtljgmmmgnfgbhaaInvqel
import Derived.Test.YtljgmmmgnfgbhaaRrfqel
import Derived.Test.YtljgmmmgnfgbhaaSolqel
namespace Go.Proofs.Ytljgmmmgnfgbhaa
open Go.Lg Go.Proofs Go.RowKit
attribute [local irreducible] Code.wp wpList bodyPost Exit.then Exit.inBlock Hp Again Calls Y AT ResV QT Qn QI wpAny wpAnyQ
set_option maxRecDepth 20000
set_option maxHeartbeats 4000000

/-! ### the inverse by its columns -/
theorem ind_id {p : Int} {n : Nat} {f : Nat → Nat → Int} : Ind p n (augF n f) n (n + n) := fun c hc i hi => by
  have := hc (n + i) (by omega) (by omega)
  rw [sumN_one hi, sumN_congr (g := fun _ => 0) (fun q hq => ?_), sumN_zero] at this
  · simp only [augF, besF, idF] at this
    rw [if_neg (show ¬ n + i < n by omega), Nat.add_sub_cancel_left, if_pos rfl] at this
    simpa using this
  · split
    · rfl
    · simp only [augF, besF, idF]
      rw [if_neg (by omega), if_neg (by omega), Int.mul_zero]
/-- the k-th unit vector -/
def unitV (n k : Nat) : List Int := mkv n (fun q => if q = k then 1 else 0)
theorem unit_col {n k : Nat} {f : Nat → Nat → Int} (_hk : k < n) : ∀ i, i < n → augF n f i (n + k) = sysF n f (unitV n k) i n := fun i hi => by
  simp only [augF, sysF, besF, idF, vF, unitV]
  rw [if_neg (show ¬ n + k < n by omega), if_neg (show ¬ n < n by omega), mkv_get hi, Nat.add_sub_cancel_left]
theorem unit_cols {p : Int} {n k : Nat} {f : Nat → Nat → Int} (hk : k < n) : (redTo p n (augF n f) n).2 = (redTo p n (sysF n f (unitV n k)) n).2 ∧
    (∀ i, i < n → (redTo p n (augF n f) n).1 i (n + k) = (redTo p n (sysF n f (unitV n k)) n).1 i n) ∧ (redTo p n f n).2 = (redTo p n (augF n f) n).2 := by
  have h := redTo_cols (p := p) (R := n) (f := augF n f) (f' := sysF n f (unitV n k)) n (fun i j hi hj => by simp only [augF, sysF, besF]; rw [if_pos hj, if_pos hj])
  refine ⟨h.1, h.2 _ _ (unit_col hk), ?_⟩
  exact (redTo_cols (p := p) (R := n) (f := f) (f' := augF n f) n (fun i j hi hj => by simp only [augF, besF]; rw [if_pos hj])).1
/-- a matrix that is not of full rank leaves a unit vector out -/
theorem sing_unit {p : Int} {n : Nat} {f : Nat → Nat → Int} (hF : FieldP p) (hin : inF p n n f) (h : (redTo p n f n).2.length < n) : ∃ k, k < n ∧ (n : Int) ∈ (redTo p n (sysF n f (unitV n k)) (n + 1)).2 := by
  have hp := fieldP_pos hF
  have hau : inF p n (n + n) (augF n f) := inF_bes hin (inF_id (by omega))
  have hI := ind_red hF hau (ind_id (p := p) (f := f)) n (by omega)
  have hl := (unit_cols (p := p) (n := n) (k := (redTo p n f n).2.length) (f := f) h).2.2
  have hex : ∃ k, k < n ∧ (redTo p n (augF n f) n).1 (redTo p n f n).2.length (n + k) ≠ 0 := by
    apply Classical.byContradiction
    intro hno
    have := hI (fun i => if i = (redTo p n f n).2.length then 1 else 0) (fun j hj hj2 => by
      rw [sumN_congr (g := fun _ => 0) (fun q hq => ?_), sumN_zero]
      · exact ⟨0, by omega⟩
      · by_cases hq2 : q = (redTo p n f n).2.length
        · rw [if_pos hq2, hq2, Int.one_mul]
          apply Classical.byContradiction
          intro hne
          exact hno ⟨j - n, by omega, by rwa [show n + (j - n) = j by omega]⟩
        · rw [if_neg hq2, Int.zero_mul]) _ h
    rw [if_pos rfl] at this
    have := Int.le_of_dvd (by omega) this
    omega
  obtain ⟨k, hk, hne⟩ := hex
  obtain ⟨u1, u2, u3⟩ := unit_cols (p := p) (f := f) hk
  refine ⟨k, hk, ?_⟩
  rw [u2 _ h, u3, u1] at hne
  rw [u3, u1] at h
  have := findAt_min (f := (redTo p n (sysF n f (unitV n k)) n).1) (k := n) (R := n) (r := (redTo p n (sysF n f (unitV n k)) n).2.length) h (Nat.le_refl _) hne
  rw [redTo_next (by omega)]
  simp
theorem full_piv {R k : Nat} {g : Nat → Nat → Int} {l : List Int} (h : RR R g l k) (hk : l.length = k) : ∀ t, t < k → l.getD t 0 = t := by
  obtain ⟨_, h1, h2, _⟩ := h
  have up : ∀ t, t < k → (t : Int) ≤ l.getD t 0 := fun t => by
    induction t with
    | zero => intro ht; exact (h1 0 (by omega)).1
    | succ t ih =>
      intro ht
      have := ih (by omega)
      have := h2 t (t + 1) (by omega) (by omega)
      omega
  have down : ∀ d t, t + d + 1 = k → l.getD t 0 ≤ t := fun d => by
    induction d with
    | zero => intro t ht; have := h1 t (by omega); omega
    | succ d ih =>
      intro t ht
      have := ih (t + 1) (by omega)
      have := h2 t (t + 1) (by omega) (by omega)
      omega
  intro t ht
  have := up t ht
  have := down (k - t - 1) t (by omega)
  omega
/-- a matrix of full rank: each unit vector is solved by a column of the inverse -/
theorem full_unit {p : Int} {n k : Nat} {f : Nat → Nat → Int} (hF : FieldP p) (hin : inF p n n f) (h : (redTo p n f n).2.length = n) (hk : k < n) :
    ¬ (n : Int) ∈ (redTo p n (sysF n f (unitV n k)) (n + 1)).2 ∧ solX p n n f (unitV n k) = mkv n (fun i => invF p n f i k) := by
  obtain ⟨u1, u2, u3⟩ := unit_cols (p := p) (f := f) hk
  have hfull := redTo_full (p := p) (R := n) (f := sysF n f (unitV n k)) (k := n) (by rw [← u1, ← u3]; omega) 1
  have hfa := redTo_full (p := p) (R := n) (f := augF n f) (k := n) (by rw [← u3]; omega) n
  have hp := fieldP_pos hF
  have hau : inF p n (n + n) (augF n f) := inF_bes hin (inF_id (by omega))
  have hrr := redTo_rr hF hau n (by omega)
  have hnot : ¬ (n : Int) ∈ (redTo p n (sysF n f (unitV n k)) (n + 1)).2 := by
    rw [hfull, ← u1]
    intro hm
    have := redTo_piv n _ hm
    omega
  refine ⟨hnot, ?_⟩
  rw [solX, if_neg hnot, hfull, ← u1, ← u3, h]
  have hpv := full_piv hrr (by rw [← u3]; exact h)
  rw [← u3] at hpv
  refine mkv_ext (fun i hi => ?_)
  have key : ∀ m, m ≤ n → ∀ q, q < m → solG (redTo p n (sysF n f (unitV n k)) n).1 n (redTo p n f n).2 m q = (redTo p n (sysF n f (unitV n k)) n).1 q n := fun m => by
    induction m with
    | zero => intro _ q hq; omega
    | succ m ih =>
      intro hm q hq
      have e := hpv m (by omega)
      simp only [solG, e, Int.toNat_natCast]
      by_cases hqm : q = m
      · rw [if_pos hqm, hqm]
      · rw [if_neg hqm]; exact ih (by omega) q (by omega)
  rw [key n (Nat.le_refl _) i hi, ← u2 i hi, invF, hfa]
/-- the columns of the inverse that are done; of column k the first i cells -/
def invTo (p : Int) (n : Nat) (f : Nat → Nat → Int) (k i : Nat) : Nat → Nat → Int := fun a b => if b < k ∨ (b = k ∧ a < i) then invF p n f a b else 0
theorem invTo_next {p : Int} {n k i : Nat} {f : Nat → Nat → Int} : upd (invTo p n f k i) i k (invF p n f i k) = invTo p n f k (i + 1) := by
  funext a b
  unfold upd invTo
  grind
theorem invTo_col {p : Int} {n k : Nat} {f : Nat → Nat → Int} : mk n n (invTo p n f k n) = mk n n (invTo p n f (k + 1) 0) := mk_ext (fun a b ha hb => by
  unfold invTo
  grind)
theorem invTo_end {p : Int} {n : Nat} {f : Nat → Nat → Int} : mk n n (invTo p n f n 0) = mk n n (invF p n f) := mk_ext (fun a b ha hb => by
  unfold invTo
  grind)
theorem inP_unit {p : Int} {n k : Nat} (hp : 2 ≤ p) : InP 0 (p - 1) (unitV n k) := fun x hx => by
  simp only [unitV, mkv, List.mem_map] at hx
  obtain ⟨q, _, rfl⟩ := hx
  split <;> omega
def ivM (p : Int) (R C : Nat) (f : Nat → Nat → Int) : Mat := if R = C ∧ (redTo p R f C).2.length = R then ((R : Int), (R : Int), mk R R (invF p R f)) else mat0
theorem l4Inverse_ok {w : World} {p : Int} {R C : Nat} {f : Nat → Nat → Int} {u : Value} (hr : Rd w (iT (mk R C f)) u) (hF : FieldP p) (hR : R ≤ 64) (hC : C ≤ 64) (hin : inF p R C f) :
    Does Try.prog 84 [iV p, .agg #[iV R, iV C, u]] w (GivesMB (ivM p R C f) (decide (R = C ∧ (redTo p R f C).2.length = R))) := by
  have hp := fieldP_pos hF
  have hRC := rc_le (R := R) (C := R) (by omega) (by omega)
  by_cases hsq : R = C
  · subst hsq
    obtain ⟨am, cm, rfl, hsm, _⟩ := rd_mk hr
    have hle := (redTo_in (p := p) (by omega) hin R).2
    have e1 : decide (R = R ∧ (redTo p R f R).2.length = R) = decide ((redTo p R f R).2.length = R) := by simp
    rw [e1]
    refine fn_enter Try.func84 rfl Try.ntmps84 rfl ?_
    repeat' (first
      | (show AT _ _ _ (wpList _ _ _ (_ :: _)); first
         | (show AT _ _ _ (wpList _ _ _ (⟨_, Op.move _, _, _, _, _⟩ :: _)); refine st_y (y_move rfl) rfl ?_)
         | (show AT _ _ _ (wpList _ _ _ (⟨_, Op.assign _, _, _, _, _⟩ :: _)); refine st_y (y_assign rfl) rfl ?_)
         | (show AT _ _ _ (wpList _ _ _ (⟨_, Op.fieldAddr _ _ _, _, _, _, _⟩ :: _)); refine st_y (y_field tabs rfl rfl rfl) rfl ?_)
         | (show AT _ _ _ (wpList _ _ _ (⟨_, Op.load _ _, _, _, _, _⟩ :: _)); first | refine st_y (y_loadb 0 tabs rfl rfl rfl rfl) rfl ?_ | refine st_y (y_loadb 1 tabs rfl rfl rfl rfl) rfl ?_ | refine st_y (y_load tabs rfl rfl (hc_blk 0 rfl rfl)) rfl ?_ | refine st_y (y_load tabs rfl rfl (hc_blk 1 rfl rfl)) rfl ?_ | refine st_y (y_load tabs rfl rfl (hc_blk 2 rfl rfl)) rfl ?_ | refine st_y (y_load tabs rfl rfl (hc_blk 3 rfl rfl)) rfl ?_ | refine st_y (y_load tabs rfl rfl (hc_blk 4 rfl rfl)) rfl ?_ | refine st_y (y_load tabs rfl rfl (hc_blk 5 rfl rfl)) rfl ?_ | refine st_y (y_loadb 2 tabs rfl rfl rfl rfl) rfl ?_ | refine st_y (y_loadb 3 tabs rfl rfl rfl rfl) rfl ?_ | refine st_y (y_load tabs rfl rfl (hc_rd (by assumption) (by omega))) rfl ?_)
         | (show AT _ _ _ (wpList _ _ _ (⟨_, Op.indexAddr _ _ _, _, _, _, _⟩ :: _)); first | refine st_y (y_ix1 tabs rfl rfl rfl (by first | assumption | exact .mk) rfl (by omega)) rfl ?_ | refine st_y (y_ixi tabs rfl rfl rfl (by first | assumption | exact .mk) (by omega) (by omega)) rfl ?_ | refine st_y (y_ixa tabs rfl rfl rfl (by first | assumption | exact .mk) (by omega) (by omega)) rfl ?_)
         | (show AT _ _ _ (wpList _ _ _ (⟨_, Op.binOp _ _ _ _ _, _, _, _, _⟩ :: _)); first | refine st_y (y_add rfl rfl (by omega)) rfl ?_ | refine st_y (y_lss rfl rfl) rfl ?_ | refine st_y (y_neq rfl rfl) rfl ?_ | refine st_y (y_neqb_same Try.underlying4 rfl rfl) rfl ?_)
         | (show AT _ _ _ (wpList _ _ _ (⟨_, Op.unOp _ _ _, _, _, _, _⟩ :: _)); first | refine st_y (y_notd rfl) rfl ?_ | refine st_y (y_not rfl) rfl ?_)
         | (show AT _ _ _ (wpList _ _ _ (⟨_, Op.call _, _, _, _, _⟩ :: _)); (refine m_call (ent_of Try.func94 (by kernel_rfl) rfl) rfl rfl (fun w c => l3Zero_ok (R := R) (C := R) (by omega) (by omega)) ?_; rintro v H' ⟨a, c, rfl, hs, rfl⟩))
         | (show AT _ _ _ (wpList _ _ _ (⟨_, Op.extract _ _, _, _, _, _⟩ :: _)); refine st_y (y_ext rfl rfl) rfl ?_)
         | (show AT _ _ _ (wpList _ _ _ (⟨_, Op.store _ _ _, _, _, _, _⟩ :: _)); first | refine m_storef 0 tabs rfl rfl rfl rfl rfl rfl ?_ | refine m_storef 1 tabs rfl rfl rfl rfl rfl rfl ?_ | refine m_storef 2 tabs rfl rfl rfl rfl rfl rfl ?_ | refine m_storef 3 tabs rfl rfl rfl rfl rfl rfl ?_ | refine m_storeb 0 tabs rfl rfl rfl rfl rfl rfl rfl ?_ | refine m_storeb 1 tabs rfl rfl rfl rfl rfl rfl rfl ?_ | refine m_storeb 2 tabs rfl rfl rfl rfl rfl rfl rfl ?_ | refine m_storeb 3 tabs rfl rfl rfl rfl rfl rfl rfl ?_)
         | (show AT _ _ _ (wpList _ _ _ (⟨_, Op.box _ _, _, _, _, _⟩ :: _)); first | refine m_box rfl rfl (fun b3 hb3 => ?_) | refine m_box rfl rfl (fun bq hbq => ?_))
         | (show AT _ _ _ (wpList _ _ _ (⟨_, Op.alloc _, _, _, _, _⟩ :: _)); first | refine m_alloc tabs rfl rfl (fun b6 hb6 => ?_) | refine m_alloc tabs rfl rfl (fun bq hbq => ?_))
         | (show AT _ _ _ (wpList _ _ _ (⟨_, Op.makeSlice _ _ _, _, _, _, _⟩ :: _)); refine m_makei tabs rfl rfl rfl (by omega) (by omega) rfl (fun g hg => ?_)))
      | (show AT _ _ _ (wpList _ _ _ []); first | refine c_nil (x_then ?_) | refine c_nil (x_qn ?_) | refine c_nil ?_)
      | (show AT _ _ _ (Code.wp _ _ _); first | refine c_seq ?_ | refine c_region ?_ | refine c_skip (x_then ?_) | refine c_skip (x_blk ?_) | refine c_skip ?_ | refine c_block ?_ | refine c_ret ?_ | refine c_exit ?_ | refine c_true rfl ?_ | refine c_false rfl ?_ | refine c_ift rfl (by first | assumption | omega) ?_ | refine c_iff rfl (by first | assumption | exact not_not_intro (by assumption) | omega) ?_ | refine c_ifnd rfl (fun h => ?_) (fun h => ?_) | refine c_if rfl (fun h => ?_) (fun h => ?_) | refine c_ifn rfl (fun h => ?_) (fun h => ?_))
      | (show QT _ _ _ _ _ _ (_ :: _); first
         | (show QT _ _ _ _ _ _ (⟨_, Op.move _, _, _, _, _⟩ :: _); refine q_y (y_move rfl) rfl ?_)
         | (show QT _ _ _ _ _ _ (⟨_, Op.assign _, _, _, _, _⟩ :: _); refine q_y (y_assign rfl) rfl ?_)
         | (show QT _ _ _ _ _ _ (⟨_, Op.fieldAddr _ _ _, _, _, _, _⟩ :: _); refine q_y (y_field tabs rfl rfl rfl) rfl ?_)
         | (show QT _ _ _ _ _ _ (⟨_, Op.load _ _, _, _, _, _⟩ :: _); first | refine q_y (y_loadb 0 tabs rfl rfl rfl rfl) rfl ?_ | refine q_y (y_loadb 1 tabs rfl rfl rfl rfl) rfl ?_ | refine q_y (y_load tabs rfl rfl (hc_blk 0 rfl rfl)) rfl ?_ | refine q_y (y_load tabs rfl rfl (hc_blk 1 rfl rfl)) rfl ?_ | refine q_y (y_load tabs rfl rfl (hc_blk 2 rfl rfl)) rfl ?_ | refine q_y (y_load tabs rfl rfl (hc_blk 3 rfl rfl)) rfl ?_ | refine q_y (y_load tabs rfl rfl (hc_blk 4 rfl rfl)) rfl ?_ | refine q_y (y_load tabs rfl rfl (hc_blk 5 rfl rfl)) rfl ?_ | refine q_y (y_loadb 2 tabs rfl rfl rfl rfl) rfl ?_ | refine q_y (y_loadb 3 tabs rfl rfl rfl rfl) rfl ?_ | refine q_y (y_load tabs rfl rfl (hc_rd (by assumption) (by omega))) rfl ?_)
         | (show QT _ _ _ _ _ _ (⟨_, Op.indexAddr _ _ _, _, _, _, _⟩ :: _); first | refine q_y (y_ix1 tabs rfl rfl rfl (by first | assumption | exact .mk) rfl (by omega)) rfl ?_ | refine q_y (y_ixi tabs rfl rfl rfl (by first | assumption | exact .mk) (by omega) (by omega)) rfl ?_ | refine q_y (y_ixa tabs rfl rfl rfl (by first | assumption | exact .mk) (by omega) (by omega)) rfl ?_)
         | (show QT _ _ _ _ _ _ (⟨_, Op.binOp _ _ _ _ _, _, _, _, _⟩ :: _); first | refine q_y (y_add rfl rfl (by omega)) rfl ?_ | refine q_y (y_lss rfl rfl) rfl ?_ | refine q_y (y_neq rfl rfl) rfl ?_ | refine q_y (y_neqb_same Try.underlying4 rfl rfl) rfl ?_)
         | (show QT _ _ _ _ _ _ (⟨_, Op.unOp _ _ _, _, _, _, _⟩ :: _); first | refine q_y (y_notd rfl) rfl ?_ | refine q_y (y_not rfl) rfl ?_)
         | (show QT _ _ _ _ _ _ (⟨_, Op.extract _ _, _, _, _, _⟩ :: _); refine q_y (y_ext rfl rfl) rfl ?_))
      | (show QT _ _ _ _ _ _ []; first | refine q_nil (x_then ?_) | refine q_nil ?_)
      | (show AT _ _ _ (Qk _ _ _); refine x_one ?_)
      | (show AT _ _ _ _; first | refine x_then ?_ | refine x_qn ?_ | refine x_then_ret ?_ | refine x_blk_ret ?_ | refine x_then_exit ?_ | refine x_blk_exit rfl ?_ | refine x_blk_other rfl ?_ | refine x_blk ?_))
    rename_i b4 hb4
    refine c_loopH (α := Nat × (Nat → Nat → Int)) [0, 3, 4, 6] (fun s => [(7, .int .i64 s.1)]) (fun s => s.1 ≤ R ∧ (∀ j, j < s.1 → ¬ (R : Int) ∈ (redTo p R (sysF R f (unitV R j)) (R + 1)).2) ∧ ((redTo p R f R).2.length = R → mk R R s.2 = mk R R (invTo p R f s.1 0))) (fun s => [.blk b6 #[iV R, iV R, .slice a (R * R) c] 46, .own (iT (mk R R s.2)) (.slice a (R * R) c), .blk b4 #[iV 0, iV 0, .slice none 0 0] 46, .blk b3 #[iV R, iV R, .slice am (R * R) cm] 46]) (fun s => R - s.1) (0, fun _ _ => 0) rfl (by repeat' (first | exact Sub.nil | refine Sub.cons rfl ?_ | refine Sub.consi rfl (by omega) ?_)) ?_ ?_ ?_
    · exact ⟨Nat.zero_le _, fun j hj => absurd hj (by simp), fun _ => mk_ext (fun a b _ _ => by simp [invTo])⟩
    · exact fun w' c' => c'
    · rintro ⟨k, g⟩ ⟨hk, hpre, hgi⟩
      simp only at hk hpre hgi ⊢
      by_cases hkR : k < R
      · repeat' (first
          | (show AT _ _ _ (wpList _ _ _ (_ :: _)); first
             | (show AT _ _ _ (wpList _ _ _ (⟨_, Op.move _, _, _, _, _⟩ :: _)); refine st_y (y_move rfl) rfl ?_)
             | (show AT _ _ _ (wpList _ _ _ (⟨_, Op.assign _, _, _, _, _⟩ :: _)); refine st_y (y_assign rfl) rfl ?_)
             | (show AT _ _ _ (wpList _ _ _ (⟨_, Op.fieldAddr _ _ _, _, _, _, _⟩ :: _)); refine st_y (y_field tabs rfl rfl rfl) rfl ?_)
             | (show AT _ _ _ (wpList _ _ _ (⟨_, Op.load _ _, _, _, _, _⟩ :: _)); first | refine st_y (y_load tabs rfl rfl (hc_blk 3 rfl rfl)) rfl ?_ | refine st_y (y_loadb 3 tabs rfl rfl rfl rfl) rfl ?_ | refine st_y (y_loadb 4 tabs rfl rfl rfl rfl) rfl ?_ | refine st_y (y_load tabs rfl rfl (hc_blk 0 rfl rfl)) rfl ?_ | refine st_y (y_load tabs rfl rfl (hc_blk 1 rfl rfl)) rfl ?_ | refine st_y (y_load tabs rfl rfl (hc_blk 2 rfl rfl)) rfl ?_ | refine st_y (y_load tabs rfl rfl (hc_blk 4 rfl rfl)) rfl ?_ | refine st_y (y_load tabs rfl rfl (hc_blk 5 rfl rfl)) rfl ?_ | refine st_y (y_loadb 0 tabs rfl rfl rfl rfl) rfl ?_ | refine st_y (y_loadb 1 tabs rfl rfl rfl rfl) rfl ?_ | refine st_y (y_loadb 2 tabs rfl rfl rfl rfl) rfl ?_ | refine st_y (y_load tabs rfl rfl (hc_rd (by assumption) (by omega))) rfl ?_)
             | (show AT _ _ _ (wpList _ _ _ (⟨_, Op.indexAddr _ _ _, _, _, _, _⟩ :: _)); first | refine st_y (y_ix1 tabs (j := k) rfl rfl rfl .mk rfl hkR) rfl ?_ | refine st_y (y_ix1 tabs rfl rfl rfl (by first | assumption | exact .mk) rfl (by omega)) rfl ?_ | refine st_y (y_ixi tabs rfl rfl rfl (by first | assumption | exact .mk) (by omega) (by omega)) rfl ?_ | refine st_y (y_ixa tabs rfl rfl rfl (by first | assumption | exact .mk) (by omega) (by omega)) rfl ?_)
             | (show AT _ _ _ (wpList _ _ _ (⟨_, Op.binOp _ _ _ _ _, _, _, _, _⟩ :: _)); first | refine st_y (y_add rfl rfl (by omega)) rfl ?_ | refine st_y (y_lss rfl rfl) rfl ?_ | refine st_y (y_neq rfl rfl) rfl ?_ | refine st_y (y_neqb_same Try.underlying4 rfl rfl) rfl ?_)
             | (show AT _ _ _ (wpList _ _ _ (⟨_, Op.unOp _ _ _, _, _, _, _⟩ :: _)); first | refine st_y (y_notd rfl) rfl ?_ | refine st_y (y_not rfl) rfl ?_)
             | (show AT _ _ _ (wpList _ _ _ (⟨_, Op.call _, _, _, _, _⟩ :: _)); (refine m_call (ent_of Try.func81 (by kernel_rfl) rfl) rfl rfl (fun w c => l4Solve_ok (v := unitV R k) (c.rd hr) (by have := c.own_rd (i := 0) rfl; simp only [mkv_zero, mkv_set] at this; exact this) hF (by omega) (by omega) hin (inP_unit hp.1) (by simp [unitV])) ?_; rintro v H' ⟨ax, cx, rfl, hsx, rfl⟩))
             | (show AT _ _ _ (wpList _ _ _ (⟨_, Op.extract _ _, _, _, _, _⟩ :: _)); refine st_y (y_ext rfl rfl) rfl ?_)
             | (show AT _ _ _ (wpList _ _ _ (⟨_, Op.store _ _ _, _, _, _, _⟩ :: _)); first | refine m_storeo 0 tabs rfl rfl rfl rfl (by rw [List.length_replicate]; exact hkR) ?_ | refine m_storef 0 tabs rfl rfl rfl rfl rfl rfl ?_ | refine m_storef 1 tabs rfl rfl rfl rfl rfl rfl ?_ | refine m_storef 2 tabs rfl rfl rfl rfl rfl rfl ?_ | refine m_storef 3 tabs rfl rfl rfl rfl rfl rfl ?_ | refine m_storeb 0 tabs rfl rfl rfl rfl rfl rfl rfl ?_ | refine m_storeb 1 tabs rfl rfl rfl rfl rfl rfl rfl ?_ | refine m_storeb 2 tabs rfl rfl rfl rfl rfl rfl rfl ?_ | refine m_storeb 3 tabs rfl rfl rfl rfl rfl rfl rfl ?_)
             | (show AT _ _ _ (wpList _ _ _ (⟨_, Op.box _ _, _, _, _, _⟩ :: _)); refine m_box rfl rfl (fun bq hbq => ?_))
             | (show AT _ _ _ (wpList _ _ _ (⟨_, Op.alloc _, _, _, _, _⟩ :: _)); refine m_alloc tabs rfl rfl (fun bq hbq => ?_))
             | (show AT _ _ _ (wpList _ _ _ (⟨_, Op.makeSlice _ _ _, _, _, _, _⟩ :: _)); first | refine m_maken tabs (m := R) rfl rfl rfl rfl (by omega) rfl (fun gg hgg => ?_) | refine m_makei tabs rfl rfl rfl (by omega) (by omega) rfl (fun g hg => ?_)))
          | (show AT _ _ _ (wpList _ _ _ []); first | refine c_nil (x_then ?_) | refine c_nil (x_qn ?_) | refine c_nil ?_)
          | (show AT _ _ _ (Code.wp _ _ _); first | refine c_seq ?_ | refine c_region ?_ | refine c_skip (x_then ?_) | refine c_skip (x_blk ?_) | refine c_skip ?_ | refine c_block ?_ | refine c_ret ?_ | refine c_exit ?_ | refine c_true rfl ?_ | refine c_false rfl ?_ | refine c_ift rfl (by first | assumption | omega) ?_ | refine c_iff rfl (by first | assumption | exact not_not_intro (by assumption) | omega) ?_ | refine c_ifnd rfl (fun h => ?_) (fun h => ?_) | refine c_if rfl (fun h => ?_) (fun h => ?_) | refine c_ifn rfl (fun h => ?_) (fun h => ?_))
          | (show QT _ _ _ _ _ _ (_ :: _); first
             | (show QT _ _ _ _ _ _ (⟨_, Op.move _, _, _, _, _⟩ :: _); refine q_y (y_move rfl) rfl ?_)
             | (show QT _ _ _ _ _ _ (⟨_, Op.assign _, _, _, _, _⟩ :: _); refine q_y (y_assign rfl) rfl ?_)
             | (show QT _ _ _ _ _ _ (⟨_, Op.fieldAddr _ _ _, _, _, _, _⟩ :: _); refine q_y (y_field tabs rfl rfl rfl) rfl ?_)
             | (show QT _ _ _ _ _ _ (⟨_, Op.load _ _, _, _, _, _⟩ :: _); first | refine q_y (y_load tabs rfl rfl (hc_blk 3 rfl rfl)) rfl ?_ | refine q_y (y_loadb 3 tabs rfl rfl rfl rfl) rfl ?_ | refine q_y (y_loadb 4 tabs rfl rfl rfl rfl) rfl ?_ | refine q_y (y_load tabs rfl rfl (hc_blk 0 rfl rfl)) rfl ?_ | refine q_y (y_load tabs rfl rfl (hc_blk 1 rfl rfl)) rfl ?_ | refine q_y (y_load tabs rfl rfl (hc_blk 2 rfl rfl)) rfl ?_ | refine q_y (y_load tabs rfl rfl (hc_blk 4 rfl rfl)) rfl ?_ | refine q_y (y_load tabs rfl rfl (hc_blk 5 rfl rfl)) rfl ?_ | refine q_y (y_loadb 0 tabs rfl rfl rfl rfl) rfl ?_ | refine q_y (y_loadb 1 tabs rfl rfl rfl rfl) rfl ?_ | refine q_y (y_loadb 2 tabs rfl rfl rfl rfl) rfl ?_ | refine q_y (y_load tabs rfl rfl (hc_rd (by assumption) (by omega))) rfl ?_)
             | (show QT _ _ _ _ _ _ (⟨_, Op.indexAddr _ _ _, _, _, _, _⟩ :: _); first | refine q_y (y_ix1 tabs (j := k) rfl rfl rfl .mk rfl hkR) rfl ?_ | refine q_y (y_ix1 tabs rfl rfl rfl (by first | assumption | exact .mk) rfl (by omega)) rfl ?_ | refine q_y (y_ixi tabs rfl rfl rfl (by first | assumption | exact .mk) (by omega) (by omega)) rfl ?_ | refine q_y (y_ixa tabs rfl rfl rfl (by first | assumption | exact .mk) (by omega) (by omega)) rfl ?_)
             | (show QT _ _ _ _ _ _ (⟨_, Op.binOp _ _ _ _ _, _, _, _, _⟩ :: _); first | refine q_y (y_add rfl rfl (by omega)) rfl ?_ | refine q_y (y_lss rfl rfl) rfl ?_ | refine q_y (y_neq rfl rfl) rfl ?_ | refine q_y (y_neqb_same Try.underlying4 rfl rfl) rfl ?_)
             | (show QT _ _ _ _ _ _ (⟨_, Op.unOp _ _ _, _, _, _, _⟩ :: _); first | refine q_y (y_notd rfl) rfl ?_ | refine q_y (y_not rfl) rfl ?_)
             | (show QT _ _ _ _ _ _ (⟨_, Op.extract _ _, _, _, _, _⟩ :: _); refine q_y (y_ext rfl rfl) rfl ?_))
          | (show QT _ _ _ _ _ _ []; first | refine q_nil (x_then ?_) | refine q_nil ?_)
          | (show AT _ _ _ (Qk _ _ _); refine x_one ?_)
          | (show AT _ _ _ _; first | refine x_then ?_ | refine x_qn ?_ | refine x_then_ret ?_ | refine x_blk_ret ?_ | refine x_then_exit ?_ | refine x_blk_exit rfl ?_ | refine x_blk_other rfl ?_ | refine x_blk ?_))
        by_cases hB : (R : Int) ∈ (redTo p R (sysF R f (unitV R k)) (R + 1)).2
        · have eB : solB p R R f (unitV R k) = false := by rw [solB, decide_eq_true hB]; rfl
          have hno : ¬ (R = R ∧ (redTo p R f R).2.length = R) := fun h => (full_unit hF hin h.2 hkR).1 hB
          rw [eB, ivM, if_neg hno, decide_eq_false (fun h => hno ⟨rfl, h⟩)]
          repeat' (first
            | (show AT _ _ _ (wpList _ _ _ (_ :: _)); first
               | (show AT _ _ _ (wpList _ _ _ (⟨_, Op.move _, _, _, _, _⟩ :: _)); refine st_y (y_move rfl) rfl ?_)
               | (show AT _ _ _ (wpList _ _ _ (⟨_, Op.assign _, _, _, _, _⟩ :: _)); refine st_y (y_assign rfl) rfl ?_)
               | (show AT _ _ _ (wpList _ _ _ (⟨_, Op.fieldAddr _ _ _, _, _, _, _⟩ :: _)); refine st_y (y_field tabs rfl rfl rfl) rfl ?_)
               | (show AT _ _ _ (wpList _ _ _ (⟨_, Op.load _ _, _, _, _, _⟩ :: _)); first | refine st_y (y_load tabs rfl rfl (hc_blk 0 rfl rfl)) rfl ?_ | refine st_y (y_load tabs rfl rfl (hc_blk 1 rfl rfl)) rfl ?_ | refine st_y (y_load tabs rfl rfl (hc_blk 2 rfl rfl)) rfl ?_ | refine st_y (y_load tabs rfl rfl (hc_blk 3 rfl rfl)) rfl ?_ | refine st_y (y_load tabs rfl rfl (hc_blk 4 rfl rfl)) rfl ?_ | refine st_y (y_load tabs rfl rfl (hc_blk 5 rfl rfl)) rfl ?_ | refine st_y (y_loadb 0 tabs rfl rfl rfl rfl) rfl ?_ | refine st_y (y_loadb 1 tabs rfl rfl rfl rfl) rfl ?_ | refine st_y (y_loadb 2 tabs rfl rfl rfl rfl) rfl ?_ | refine st_y (y_loadb 3 tabs rfl rfl rfl rfl) rfl ?_ | refine st_y (y_load tabs rfl rfl (hc_rd (by assumption) (by omega))) rfl ?_)
               | (show AT _ _ _ (wpList _ _ _ (⟨_, Op.indexAddr _ _ _, _, _, _, _⟩ :: _)); first | refine st_y (y_ix1 tabs rfl rfl rfl (by first | assumption | exact .mk) rfl (by omega)) rfl ?_ | refine st_y (y_ixi tabs rfl rfl rfl (by first | assumption | exact .mk) (by omega) (by omega)) rfl ?_ | refine st_y (y_ixa tabs rfl rfl rfl (by first | assumption | exact .mk) (by omega) (by omega)) rfl ?_)
               | (show AT _ _ _ (wpList _ _ _ (⟨_, Op.binOp _ _ _ _ _, _, _, _, _⟩ :: _)); first | refine st_y (y_add rfl rfl (by omega)) rfl ?_ | refine st_y (y_lss rfl rfl) rfl ?_ | refine st_y (y_neq rfl rfl) rfl ?_ | refine st_y (y_neqb_same Try.underlying4 rfl rfl) rfl ?_)
               | (show AT _ _ _ (wpList _ _ _ (⟨_, Op.unOp _ _ _, _, _, _, _⟩ :: _)); first | refine st_y (y_notd rfl) rfl ?_ | refine st_y (y_not rfl) rfl ?_)
               | (show AT _ _ _ (wpList _ _ _ (⟨_, Op.extract _ _, _, _, _, _⟩ :: _)); refine st_y (y_ext rfl rfl) rfl ?_)
               | (show AT _ _ _ (wpList _ _ _ (⟨_, Op.store _ _ _, _, _, _, _⟩ :: _)); first | refine m_storeb 4 tabs rfl rfl rfl rfl rfl rfl rfl ?_ | refine m_storef 0 tabs rfl rfl rfl rfl rfl rfl ?_ | refine m_storef 1 tabs rfl rfl rfl rfl rfl rfl ?_ | refine m_storef 2 tabs rfl rfl rfl rfl rfl rfl ?_ | refine m_storef 3 tabs rfl rfl rfl rfl rfl rfl ?_ | refine m_storeb 0 tabs rfl rfl rfl rfl rfl rfl rfl ?_ | refine m_storeb 1 tabs rfl rfl rfl rfl rfl rfl rfl ?_ | refine m_storeb 2 tabs rfl rfl rfl rfl rfl rfl rfl ?_ | refine m_storeb 3 tabs rfl rfl rfl rfl rfl rfl rfl ?_)
               | (show AT _ _ _ (wpList _ _ _ (⟨_, Op.box _ _, _, _, _, _⟩ :: _)); refine m_box rfl rfl (fun bq hbq => ?_))
               | (show AT _ _ _ (wpList _ _ _ (⟨_, Op.alloc _, _, _, _, _⟩ :: _)); refine m_alloc tabs rfl rfl (fun bq hbq => ?_))
               | (show AT _ _ _ (wpList _ _ _ (⟨_, Op.makeSlice _ _ _, _, _, _, _⟩ :: _)); refine m_makei tabs rfl rfl rfl (by omega) (by omega) rfl (fun g hg => ?_))
               | (show AT _ _ _ (wpList _ _ _ (⟨_, Op.build _ _, _, _, _, _⟩ :: _)); refine st_y (y_bld0 bld_mat0) rfl ?_))
            | (show AT _ _ _ (wpList _ _ _ []); first | refine c_nil (x_then ?_) | refine c_nil (x_qn ?_) | refine c_nil ?_)
            | (show AT _ _ _ (Code.wp _ _ _); first | refine c_seq ?_ | refine c_region ?_ | refine c_skip (x_then ?_) | refine c_skip (x_blk ?_) | refine c_skip ?_ | refine c_block ?_ | refine c_ret ?_ | refine c_exit ?_ | refine c_true rfl ?_ | refine c_false rfl ?_ | refine c_ift rfl (by first | assumption | omega) ?_ | refine c_iff rfl (by first | assumption | exact not_not_intro (by assumption) | omega) ?_ | refine c_ifnd rfl (fun h => ?_) (fun h => ?_) | refine c_if rfl (fun h => ?_) (fun h => ?_) | refine c_ifn rfl (fun h => ?_) (fun h => ?_))
            | (show QT _ _ _ _ _ _ (_ :: _); first
               | (show QT _ _ _ _ _ _ (⟨_, Op.move _, _, _, _, _⟩ :: _); refine q_y (y_move rfl) rfl ?_)
               | (show QT _ _ _ _ _ _ (⟨_, Op.assign _, _, _, _, _⟩ :: _); refine q_y (y_assign rfl) rfl ?_)
               | (show QT _ _ _ _ _ _ (⟨_, Op.fieldAddr _ _ _, _, _, _, _⟩ :: _); refine q_y (y_field tabs rfl rfl rfl) rfl ?_)
               | (show QT _ _ _ _ _ _ (⟨_, Op.load _ _, _, _, _, _⟩ :: _); first | refine q_y (y_load tabs rfl rfl (hc_blk 0 rfl rfl)) rfl ?_ | refine q_y (y_load tabs rfl rfl (hc_blk 1 rfl rfl)) rfl ?_ | refine q_y (y_load tabs rfl rfl (hc_blk 2 rfl rfl)) rfl ?_ | refine q_y (y_load tabs rfl rfl (hc_blk 3 rfl rfl)) rfl ?_ | refine q_y (y_load tabs rfl rfl (hc_blk 4 rfl rfl)) rfl ?_ | refine q_y (y_load tabs rfl rfl (hc_blk 5 rfl rfl)) rfl ?_ | refine q_y (y_loadb 0 tabs rfl rfl rfl rfl) rfl ?_ | refine q_y (y_loadb 1 tabs rfl rfl rfl rfl) rfl ?_ | refine q_y (y_loadb 2 tabs rfl rfl rfl rfl) rfl ?_ | refine q_y (y_loadb 3 tabs rfl rfl rfl rfl) rfl ?_ | refine q_y (y_load tabs rfl rfl (hc_rd (by assumption) (by omega))) rfl ?_)
               | (show QT _ _ _ _ _ _ (⟨_, Op.indexAddr _ _ _, _, _, _, _⟩ :: _); first | refine q_y (y_ix1 tabs rfl rfl rfl (by first | assumption | exact .mk) rfl (by omega)) rfl ?_ | refine q_y (y_ixi tabs rfl rfl rfl (by first | assumption | exact .mk) (by omega) (by omega)) rfl ?_ | refine q_y (y_ixa tabs rfl rfl rfl (by first | assumption | exact .mk) (by omega) (by omega)) rfl ?_)
               | (show QT _ _ _ _ _ _ (⟨_, Op.binOp _ _ _ _ _, _, _, _, _⟩ :: _); first | refine q_y (y_add rfl rfl (by omega)) rfl ?_ | refine q_y (y_lss rfl rfl) rfl ?_ | refine q_y (y_neq rfl rfl) rfl ?_ | refine q_y (y_neqb_same Try.underlying4 rfl rfl) rfl ?_)
               | (show QT _ _ _ _ _ _ (⟨_, Op.unOp _ _ _, _, _, _, _⟩ :: _); first | refine q_y (y_notd rfl) rfl ?_ | refine q_y (y_not rfl) rfl ?_)
               | (show QT _ _ _ _ _ _ (⟨_, Op.extract _ _, _, _, _, _⟩ :: _); refine q_y (y_ext rfl rfl) rfl ?_)
               | (show QT _ _ _ _ _ _ (⟨_, Op.build _ _, _, _, _, _⟩ :: _); refine q_y (y_bld0 bld_mat0) rfl ?_))
            | (show QT _ _ _ _ _ _ []; first | refine q_nil (x_then ?_) | refine q_nil ?_)
            | (show AT _ _ _ (Qk _ _ _); refine x_one ?_)
            | (show AT _ _ _ _; first | refine x_then ?_ | refine x_qn ?_ | refine x_then_ret ?_ | refine x_blk_ret ?_ | refine x_then_exit ?_ | refine x_blk_exit rfl ?_ | refine x_blk_other rfl ?_ | refine x_blk ?_))
          exact x_ret2 Try.results84 (res_cellb 4 tabs rfl rfl rfl rfl) (res_tmp rfl) (fun w' c' => ⟨_, _, rfl, ⟨none, 0, rfl, .inl rfl, rfl⟩, Hp.nilp _ _ (c'.sub (List.nil_sublist _))⟩)
        · have eB : solB p R R f (unitV R k) = true := by rw [solB, decide_eq_false hB]; rfl
          have hxl : (solX p R R f (unitV R k)).length = R := by rw [solX, if_neg hB, mkv_length]
          have hxe : (redTo p R f R).2.length = R → ∀ i, i < R → (solX p R R f (unitV R k)).getD i 0 = invF p R f i k := fun h i hi => by rw [(full_unit hF hin h hkR).2, mkv_get hi]
          rw [eB]
          repeat' (first
            | (show AT _ _ _ (wpList _ _ _ (_ :: _)); first
               | (show AT _ _ _ (wpList _ _ _ (⟨_, Op.move _, _, _, _, _⟩ :: _)); refine st_y (y_move rfl) rfl ?_)
               | (show AT _ _ _ (wpList _ _ _ (⟨_, Op.assign _, _, _, _, _⟩ :: _)); refine st_y (y_assign rfl) rfl ?_)
               | (show AT _ _ _ (wpList _ _ _ (⟨_, Op.fieldAddr _ _ _, _, _, _, _⟩ :: _)); refine st_y (y_field tabs rfl rfl rfl) rfl ?_)
               | (show AT _ _ _ (wpList _ _ _ (⟨_, Op.load _ _, _, _, _, _⟩ :: _)); first | refine st_y (y_load tabs rfl rfl (hc_blk 0 rfl rfl)) rfl ?_ | refine st_y (y_load tabs rfl rfl (hc_blk 1 rfl rfl)) rfl ?_ | refine st_y (y_load tabs rfl rfl (hc_blk 2 rfl rfl)) rfl ?_ | refine st_y (y_load tabs rfl rfl (hc_blk 3 rfl rfl)) rfl ?_ | refine st_y (y_load tabs rfl rfl (hc_blk 4 rfl rfl)) rfl ?_ | refine st_y (y_load tabs rfl rfl (hc_blk 5 rfl rfl)) rfl ?_ | refine st_y (y_loadb 0 tabs rfl rfl rfl rfl) rfl ?_ | refine st_y (y_loadb 1 tabs rfl rfl rfl rfl) rfl ?_ | refine st_y (y_loadb 2 tabs rfl rfl rfl rfl) rfl ?_ | refine st_y (y_loadb 3 tabs rfl rfl rfl rfl) rfl ?_ | refine st_y (y_load tabs rfl rfl (hc_rd (by assumption) (by omega))) rfl ?_)
               | (show AT _ _ _ (wpList _ _ _ (⟨_, Op.indexAddr _ _ _, _, _, _, _⟩ :: _)); first | refine st_y (y_ix1 tabs rfl rfl rfl (by first | assumption | exact .mk) rfl (by omega)) rfl ?_ | refine st_y (y_ixi tabs rfl rfl rfl (by first | assumption | exact .mk) (by omega) (by omega)) rfl ?_ | refine st_y (y_ixa tabs rfl rfl rfl (by first | assumption | exact .mk) (by omega) (by omega)) rfl ?_)
               | (show AT _ _ _ (wpList _ _ _ (⟨_, Op.binOp _ _ _ _ _, _, _, _, _⟩ :: _)); first | refine st_y (y_add rfl rfl (by omega)) rfl ?_ | refine st_y (y_lss rfl rfl) rfl ?_ | refine st_y (y_neq rfl rfl) rfl ?_ | refine st_y (y_neqb_same Try.underlying4 rfl rfl) rfl ?_)
               | (show AT _ _ _ (wpList _ _ _ (⟨_, Op.unOp _ _ _, _, _, _, _⟩ :: _)); first | refine st_y (y_notd rfl) rfl ?_ | refine st_y (y_not rfl) rfl ?_)
               | (show AT _ _ _ (wpList _ _ _ (⟨_, Op.extract _ _, _, _, _, _⟩ :: _)); refine st_y (y_ext rfl rfl) rfl ?_)
               | (show AT _ _ _ (wpList _ _ _ (⟨_, Op.store _ _ _, _, _, _, _⟩ :: _)); first | refine m_storef 0 tabs rfl rfl rfl rfl rfl rfl ?_ | refine m_storef 1 tabs rfl rfl rfl rfl rfl rfl ?_ | refine m_storef 2 tabs rfl rfl rfl rfl rfl rfl ?_ | refine m_storef 3 tabs rfl rfl rfl rfl rfl rfl ?_ | refine m_storeb 0 tabs rfl rfl rfl rfl rfl rfl rfl ?_ | refine m_storeb 1 tabs rfl rfl rfl rfl rfl rfl rfl ?_ | refine m_storeb 2 tabs rfl rfl rfl rfl rfl rfl rfl ?_ | refine m_storeb 3 tabs rfl rfl rfl rfl rfl rfl rfl ?_)
               | (show AT _ _ _ (wpList _ _ _ (⟨_, Op.box _ _, _, _, _, _⟩ :: _)); refine m_box rfl rfl (fun bq hbq => ?_))
               | (show AT _ _ _ (wpList _ _ _ (⟨_, Op.alloc _, _, _, _, _⟩ :: _)); refine m_alloc tabs rfl rfl (fun bq hbq => ?_))
               | (show AT _ _ _ (wpList _ _ _ (⟨_, Op.makeSlice _ _ _, _, _, _, _⟩ :: _)); refine m_makei tabs rfl rfl rfl (by omega) (by omega) rfl (fun g hg => ?_)))
            | (show AT _ _ _ (wpList _ _ _ []); first | refine c_nil (x_then ?_) | refine c_nil (x_qn ?_) | refine c_nil ?_)
            | (show AT _ _ _ (Code.wp _ _ _); first | refine c_seq ?_ | refine c_region ?_ | refine c_skip (x_then ?_) | refine c_skip (x_blk ?_) | refine c_skip ?_ | refine c_block ?_ | refine c_ret ?_ | refine c_exit ?_ | refine c_true rfl ?_ | refine c_false rfl ?_ | refine c_ift rfl (by first | assumption | omega) ?_ | refine c_iff rfl (by first | assumption | exact not_not_intro (by assumption) | omega) ?_ | refine c_ifnd rfl (fun h => ?_) (fun h => ?_) | refine c_if rfl (fun h => ?_) (fun h => ?_) | refine c_ifn rfl (fun h => ?_) (fun h => ?_))
            | (show QT _ _ _ _ _ _ (_ :: _); first
               | (show QT _ _ _ _ _ _ (⟨_, Op.move _, _, _, _, _⟩ :: _); refine q_y (y_move rfl) rfl ?_)
               | (show QT _ _ _ _ _ _ (⟨_, Op.assign _, _, _, _, _⟩ :: _); refine q_y (y_assign rfl) rfl ?_)
               | (show QT _ _ _ _ _ _ (⟨_, Op.fieldAddr _ _ _, _, _, _, _⟩ :: _); refine q_y (y_field tabs rfl rfl rfl) rfl ?_)
               | (show QT _ _ _ _ _ _ (⟨_, Op.load _ _, _, _, _, _⟩ :: _); first | refine q_y (y_load tabs rfl rfl (hc_blk 0 rfl rfl)) rfl ?_ | refine q_y (y_load tabs rfl rfl (hc_blk 1 rfl rfl)) rfl ?_ | refine q_y (y_load tabs rfl rfl (hc_blk 2 rfl rfl)) rfl ?_ | refine q_y (y_load tabs rfl rfl (hc_blk 3 rfl rfl)) rfl ?_ | refine q_y (y_load tabs rfl rfl (hc_blk 4 rfl rfl)) rfl ?_ | refine q_y (y_load tabs rfl rfl (hc_blk 5 rfl rfl)) rfl ?_ | refine q_y (y_loadb 0 tabs rfl rfl rfl rfl) rfl ?_ | refine q_y (y_loadb 1 tabs rfl rfl rfl rfl) rfl ?_ | refine q_y (y_loadb 2 tabs rfl rfl rfl rfl) rfl ?_ | refine q_y (y_loadb 3 tabs rfl rfl rfl rfl) rfl ?_ | refine q_y (y_load tabs rfl rfl (hc_rd (by assumption) (by omega))) rfl ?_)
               | (show QT _ _ _ _ _ _ (⟨_, Op.indexAddr _ _ _, _, _, _, _⟩ :: _); first | refine q_y (y_ix1 tabs rfl rfl rfl (by first | assumption | exact .mk) rfl (by omega)) rfl ?_ | refine q_y (y_ixi tabs rfl rfl rfl (by first | assumption | exact .mk) (by omega) (by omega)) rfl ?_ | refine q_y (y_ixa tabs rfl rfl rfl (by first | assumption | exact .mk) (by omega) (by omega)) rfl ?_)
               | (show QT _ _ _ _ _ _ (⟨_, Op.binOp _ _ _ _ _, _, _, _, _⟩ :: _); first | refine q_y (y_add rfl rfl (by omega)) rfl ?_ | refine q_y (y_lss rfl rfl) rfl ?_ | refine q_y (y_neq rfl rfl) rfl ?_ | refine q_y (y_neqb_same Try.underlying4 rfl rfl) rfl ?_)
               | (show QT _ _ _ _ _ _ (⟨_, Op.unOp _ _ _, _, _, _, _⟩ :: _); first | refine q_y (y_notd rfl) rfl ?_ | refine q_y (y_not rfl) rfl ?_)
               | (show QT _ _ _ _ _ _ (⟨_, Op.extract _ _, _, _, _, _⟩ :: _); refine q_y (y_ext rfl rfl) rfl ?_))
            | (show QT _ _ _ _ _ _ []; first | refine q_nil (x_then ?_) | refine q_nil ?_)
            | (show AT _ _ _ (Qk _ _ _); refine x_one ?_)
            | (show AT _ _ _ _; first | refine x_then ?_ | refine x_qn ?_ | refine x_then_ret ?_ | refine x_blk_ret ?_ | refine x_then_exit ?_ | refine x_blk_exit rfl ?_ | refine x_blk_other rfl ?_ | refine x_blk ?_))
          generalize solX p R R f (unitV R k) = X at *
          refine c_loopH (α := Nat × (Nat → Nat → Int)) [0, 3, 4, 6, 7, 9] (fun s => [(11, .int .i64 s.1)]) (fun s => s.1 ≤ R ∧ ((redTo p R f R).2.length = R → mk R R s.2 = mk R R (invTo p R f k s.1))) (fun s => [.own (iT X) (.slice ax X.length cx), .blk b6 #[iV R, iV R, .slice a (R * R) c] 46, .own (iT (mk R R s.2)) (.slice a (R * R) c), .blk b4 #[iV 0, iV 0, .slice none 0 0] 46, .blk b3 #[iV R, iV R, .slice am (R * R) cm] 46]) (fun s => R - s.1) (0, g) rfl (by repeat' (first | exact Sub.nil | refine Sub.cons rfl ?_ | refine Sub.consi rfl (by omega) ?_)) ?_ ?_ ?_
          · exact ⟨Nat.zero_le _, hgi⟩
          · exact fun w' c' => c'.sub (by repeat' first | exact List.Sublist.refl _ | exact List.nil_sublist _ | apply List.Sublist.cons_cons | apply List.Sublist.cons)
          · rintro ⟨i, g2⟩ ⟨hi, hgi2⟩
            simp only at hi hgi2 ⊢
            by_cases hiR : i < R
            · have hcl := cell_lt hiR hkR
              have hiX : i < X.length := by omega
              repeat' (first
                | (show AT _ _ _ (wpList _ _ _ (_ :: _)); first
                   | (show AT _ _ _ (wpList _ _ _ (⟨_, Op.move _, _, _, _, _⟩ :: _)); refine st_y (y_move rfl) rfl ?_)
                   | (show AT _ _ _ (wpList _ _ _ (⟨_, Op.assign _, _, _, _, _⟩ :: _)); refine st_y (y_assign rfl) rfl ?_)
                   | (show AT _ _ _ (wpList _ _ _ (⟨_, Op.fieldAddr _ _ _, _, _, _, _⟩ :: _)); refine st_y (y_field tabs rfl rfl rfl) rfl ?_)
                   | (show AT _ _ _ (wpList _ _ _ (⟨_, Op.load _ _, _, _, _, _⟩ :: _)); first | refine st_y (y_load tabs rfl rfl (hc_blk 4 rfl rfl)) rfl ?_ | refine st_y (y_load tabs rfl rfl (hc_own 0 rfl hiX)) rfl ?_ | refine st_y (y_load tabs rfl rfl (hc_blk 0 rfl rfl)) rfl ?_ | refine st_y (y_load tabs rfl rfl (hc_blk 1 rfl rfl)) rfl ?_ | refine st_y (y_load tabs rfl rfl (hc_blk 2 rfl rfl)) rfl ?_ | refine st_y (y_load tabs rfl rfl (hc_blk 3 rfl rfl)) rfl ?_ | refine st_y (y_load tabs rfl rfl (hc_blk 5 rfl rfl)) rfl ?_ | refine st_y (y_loadb 0 tabs rfl rfl rfl rfl) rfl ?_ | refine st_y (y_loadb 1 tabs rfl rfl rfl rfl) rfl ?_ | refine st_y (y_loadb 2 tabs rfl rfl rfl rfl) rfl ?_ | refine st_y (y_loadb 3 tabs rfl rfl rfl rfl) rfl ?_ | refine st_y (y_load tabs rfl rfl (hc_rd (by assumption) (by omega))) rfl ?_)
                   | (show AT _ _ _ (wpList _ _ _ (⟨_, Op.indexAddr _ _ _, _, _, _, _⟩ :: _)); first | refine st_y (y_ix1 tabs (j := i * R + k) rfl rfl rfl hs rfl hcl) rfl ?_ | refine st_y (y_ix1 tabs (j := i) rfl rfl rfl hsx rfl hiX) rfl ?_ | refine st_y (y_ix1 tabs rfl rfl rfl (by first | assumption | exact .mk) rfl (by omega)) rfl ?_ | refine st_y (y_ixi tabs rfl rfl rfl (by first | assumption | exact .mk) (by omega) (by omega)) rfl ?_ | refine st_y (y_ixa tabs rfl rfl rfl (by first | assumption | exact .mk) (by omega) (by omega)) rfl ?_)
                   | (show AT _ _ _ (wpList _ _ _ (⟨_, Op.binOp _ _ _ _ _, _, _, _, _⟩ :: _)); first | refine st_y (y_muln rfl rfl rfl rfl (by omega)) rfl ?_ | refine st_y (y_addn (b := k) rfl rfl rfl rfl (by omega)) rfl ?_ | refine st_y (y_add rfl rfl (by omega)) rfl ?_ | refine st_y (y_lss rfl rfl) rfl ?_ | refine st_y (y_neq rfl rfl) rfl ?_ | refine st_y (y_neqb_same Try.underlying4 rfl rfl) rfl ?_)
                   | (show AT _ _ _ (wpList _ _ _ (⟨_, Op.unOp _ _ _, _, _, _, _⟩ :: _)); first | refine st_y (y_notd rfl) rfl ?_ | refine st_y (y_not rfl) rfl ?_)
                   | (show AT _ _ _ (wpList _ _ _ (⟨_, Op.extract _ _, _, _, _, _⟩ :: _)); refine st_y (y_ext rfl rfl) rfl ?_)
                   | (show AT _ _ _ (wpList _ _ _ (⟨_, Op.store _ _ _, _, _, _, _⟩ :: _)); first | refine m_storeo 2 tabs rfl rfl rfl rfl (by rw [mk_length]; exact hcl) ?_ | refine m_storef 0 tabs rfl rfl rfl rfl rfl rfl ?_ | refine m_storef 1 tabs rfl rfl rfl rfl rfl rfl ?_ | refine m_storef 2 tabs rfl rfl rfl rfl rfl rfl ?_ | refine m_storef 3 tabs rfl rfl rfl rfl rfl rfl ?_ | refine m_storeb 0 tabs rfl rfl rfl rfl rfl rfl rfl ?_ | refine m_storeb 1 tabs rfl rfl rfl rfl rfl rfl rfl ?_ | refine m_storeb 2 tabs rfl rfl rfl rfl rfl rfl rfl ?_ | refine m_storeb 3 tabs rfl rfl rfl rfl rfl rfl rfl ?_)
                   | (show AT _ _ _ (wpList _ _ _ (⟨_, Op.box _ _, _, _, _, _⟩ :: _)); refine m_box rfl rfl (fun bq hbq => ?_))
                   | (show AT _ _ _ (wpList _ _ _ (⟨_, Op.alloc _, _, _, _, _⟩ :: _)); refine m_alloc tabs rfl rfl (fun bq hbq => ?_))
                   | (show AT _ _ _ (wpList _ _ _ (⟨_, Op.makeSlice _ _ _, _, _, _, _⟩ :: _)); refine m_makei tabs rfl rfl rfl (by omega) (by omega) rfl (fun g hg => ?_)))
                | (show AT _ _ _ (wpList _ _ _ []); first | refine c_nil (x_then ?_) | refine c_nil (x_qn ?_) | refine c_nil ?_)
                | (show AT _ _ _ (Code.wp _ _ _); first | refine c_tailR 12 (by kernel_rfl) (by kernel_rfl) (by kernel_rfl) (by kernel_rfl) (by kernel_rfl) (by kernel_rfl) (fun _ c => Hp.drew c) ?_ | refine c_seq ?_ | refine c_region ?_ | refine c_skip (x_then ?_) | refine c_skip (x_blk ?_) | refine c_skip ?_ | refine c_block ?_ | refine c_ret ?_ | refine c_exit ?_ | refine c_draw (by kernel_rfl) (by kernel_rfl) (fun _ c => Hp.drew c) ?_ | refine c_true rfl ?_ | refine c_false rfl ?_ | refine c_ift rfl (by first | assumption | omega) ?_ | refine c_iff rfl (by first | assumption | exact not_not_intro (by assumption) | omega) ?_ | refine c_ifnd rfl (fun h => ?_) (fun h => ?_) | refine c_if rfl (fun h => ?_) (fun h => ?_) | refine c_ifn rfl (fun h => ?_) (fun h => ?_))
                | (show QT _ _ _ _ _ _ (_ :: _); first
                   | (show QT _ _ _ _ _ _ (⟨_, Op.move _, _, _, _, _⟩ :: _); refine q_y (y_move rfl) rfl ?_)
                   | (show QT _ _ _ _ _ _ (⟨_, Op.assign _, _, _, _, _⟩ :: _); refine q_y (y_assign rfl) rfl ?_)
                   | (show QT _ _ _ _ _ _ (⟨_, Op.fieldAddr _ _ _, _, _, _, _⟩ :: _); refine q_y (y_field tabs rfl rfl rfl) rfl ?_)
                   | (show QT _ _ _ _ _ _ (⟨_, Op.load _ _, _, _, _, _⟩ :: _); first | refine q_y (y_load tabs rfl rfl (hc_blk 4 rfl rfl)) rfl ?_ | refine q_y (y_load tabs rfl rfl (hc_own 0 rfl hiX)) rfl ?_ | refine q_y (y_load tabs rfl rfl (hc_blk 0 rfl rfl)) rfl ?_ | refine q_y (y_load tabs rfl rfl (hc_blk 1 rfl rfl)) rfl ?_ | refine q_y (y_load tabs rfl rfl (hc_blk 2 rfl rfl)) rfl ?_ | refine q_y (y_load tabs rfl rfl (hc_blk 3 rfl rfl)) rfl ?_ | refine q_y (y_load tabs rfl rfl (hc_blk 5 rfl rfl)) rfl ?_ | refine q_y (y_loadb 0 tabs rfl rfl rfl rfl) rfl ?_ | refine q_y (y_loadb 1 tabs rfl rfl rfl rfl) rfl ?_ | refine q_y (y_loadb 2 tabs rfl rfl rfl rfl) rfl ?_ | refine q_y (y_loadb 3 tabs rfl rfl rfl rfl) rfl ?_ | refine q_y (y_load tabs rfl rfl (hc_rd (by assumption) (by omega))) rfl ?_)
                   | (show QT _ _ _ _ _ _ (⟨_, Op.indexAddr _ _ _, _, _, _, _⟩ :: _); first | refine q_y (y_ix1 tabs (j := i * R + k) rfl rfl rfl hs rfl hcl) rfl ?_ | refine q_y (y_ix1 tabs (j := i) rfl rfl rfl hsx rfl hiX) rfl ?_ | refine q_y (y_ix1 tabs rfl rfl rfl (by first | assumption | exact .mk) rfl (by omega)) rfl ?_ | refine q_y (y_ixi tabs rfl rfl rfl (by first | assumption | exact .mk) (by omega) (by omega)) rfl ?_ | refine q_y (y_ixa tabs rfl rfl rfl (by first | assumption | exact .mk) (by omega) (by omega)) rfl ?_)
                   | (show QT _ _ _ _ _ _ (⟨_, Op.binOp _ _ _ _ _, _, _, _, _⟩ :: _); first | refine q_y (y_muln rfl rfl rfl rfl (by omega)) rfl ?_ | refine q_y (y_addn (b := k) rfl rfl rfl rfl (by omega)) rfl ?_ | refine q_y (y_add rfl rfl (by omega)) rfl ?_ | refine q_y (y_lss rfl rfl) rfl ?_ | refine q_y (y_neq rfl rfl) rfl ?_ | refine q_y (y_neqb_same Try.underlying4 rfl rfl) rfl ?_)
                   | (show QT _ _ _ _ _ _ (⟨_, Op.unOp _ _ _, _, _, _, _⟩ :: _); first | refine q_y (y_notd rfl) rfl ?_ | refine q_y (y_not rfl) rfl ?_)
                   | (show QT _ _ _ _ _ _ (⟨_, Op.extract _ _, _, _, _, _⟩ :: _); refine q_y (y_ext rfl rfl) rfl ?_))
                | (show QT _ _ _ _ _ _ []; first | refine q_nil (x_then ?_) | refine q_nil ?_)
                | (show AT _ _ _ (Qk _ _ _); refine x_one ?_)
                | (show AT _ _ _ _; first | refine x_then ?_ | refine x_qn ?_ | refine x_then_ret ?_ | refine x_blk_ret ?_ | refine x_then_exit ?_ | refine x_blk_exit rfl ?_ | refine x_blk_other rfl ?_ | refine x_blk ?_))
              refine x_nx (i + 1, upd g2 i k (X.getD i 0)) (by repeat' (first | exact Sub.nil | refine Sub.cons rfl ?_ | refine Sub.consi rfl (by omega) ?_)) ⟨by simp only; omega, fun h => ?_⟩ (fun w' c' => ?_) (by simp only; omega)
              · rw [← mk_set hiR hkR, hgi2 h, mk_set hiR hkR, hxe h i hiR, invTo_next]
              · simp only [List.set_cons_succ, List.set_cons_zero] at c'
                rw [mk_set hiR hkR] at c'
                exact c'
            · have : i = R := by omega
              subst this
              repeat' (first
                | (show AT _ _ _ (wpList _ _ _ (_ :: _)); first
                   | (show AT _ _ _ (wpList _ _ _ (⟨_, Op.move _, _, _, _, _⟩ :: _)); refine st_y (y_move rfl) rfl ?_)
                   | (show AT _ _ _ (wpList _ _ _ (⟨_, Op.assign _, _, _, _, _⟩ :: _)); refine st_y (y_assign rfl) rfl ?_)
                   | (show AT _ _ _ (wpList _ _ _ (⟨_, Op.fieldAddr _ _ _, _, _, _, _⟩ :: _)); refine st_y (y_field tabs rfl rfl rfl) rfl ?_)
                   | (show AT _ _ _ (wpList _ _ _ (⟨_, Op.load _ _, _, _, _, _⟩ :: _)); first | refine st_y (y_load tabs rfl rfl (hc_blk 4 rfl rfl)) rfl ?_ | refine st_y (y_load tabs rfl rfl (hc_blk 0 rfl rfl)) rfl ?_ | refine st_y (y_load tabs rfl rfl (hc_blk 1 rfl rfl)) rfl ?_ | refine st_y (y_load tabs rfl rfl (hc_blk 2 rfl rfl)) rfl ?_ | refine st_y (y_load tabs rfl rfl (hc_blk 3 rfl rfl)) rfl ?_ | refine st_y (y_load tabs rfl rfl (hc_blk 5 rfl rfl)) rfl ?_ | refine st_y (y_loadb 0 tabs rfl rfl rfl rfl) rfl ?_ | refine st_y (y_loadb 1 tabs rfl rfl rfl rfl) rfl ?_ | refine st_y (y_loadb 2 tabs rfl rfl rfl rfl) rfl ?_ | refine st_y (y_loadb 3 tabs rfl rfl rfl rfl) rfl ?_ | refine st_y (y_load tabs rfl rfl (hc_rd (by assumption) (by omega))) rfl ?_)
                   | (show AT _ _ _ (wpList _ _ _ (⟨_, Op.indexAddr _ _ _, _, _, _, _⟩ :: _)); first | refine st_y (y_ix1 tabs rfl rfl rfl (by first | assumption | exact .mk) rfl (by omega)) rfl ?_ | refine st_y (y_ixi tabs rfl rfl rfl (by first | assumption | exact .mk) (by omega) (by omega)) rfl ?_ | refine st_y (y_ixa tabs rfl rfl rfl (by first | assumption | exact .mk) (by omega) (by omega)) rfl ?_)
                   | (show AT _ _ _ (wpList _ _ _ (⟨_, Op.binOp _ _ _ _ _, _, _, _, _⟩ :: _)); first | refine st_y (y_add rfl rfl (by omega)) rfl ?_ | refine st_y (y_lss rfl rfl) rfl ?_ | refine st_y (y_neq rfl rfl) rfl ?_ | refine st_y (y_neqb_same Try.underlying4 rfl rfl) rfl ?_)
                   | (show AT _ _ _ (wpList _ _ _ (⟨_, Op.unOp _ _ _, _, _, _, _⟩ :: _)); first | refine st_y (y_notd rfl) rfl ?_ | refine st_y (y_not rfl) rfl ?_)
                   | (show AT _ _ _ (wpList _ _ _ (⟨_, Op.extract _ _, _, _, _, _⟩ :: _)); refine st_y (y_ext rfl rfl) rfl ?_)
                   | (show AT _ _ _ (wpList _ _ _ (⟨_, Op.store _ _ _, _, _, _, _⟩ :: _)); first | refine m_storef 0 tabs rfl rfl rfl rfl rfl rfl ?_ | refine m_storef 1 tabs rfl rfl rfl rfl rfl rfl ?_ | refine m_storef 2 tabs rfl rfl rfl rfl rfl rfl ?_ | refine m_storef 3 tabs rfl rfl rfl rfl rfl rfl ?_ | refine m_storeb 0 tabs rfl rfl rfl rfl rfl rfl rfl ?_ | refine m_storeb 1 tabs rfl rfl rfl rfl rfl rfl rfl ?_ | refine m_storeb 2 tabs rfl rfl rfl rfl rfl rfl rfl ?_ | refine m_storeb 3 tabs rfl rfl rfl rfl rfl rfl rfl ?_)
                   | (show AT _ _ _ (wpList _ _ _ (⟨_, Op.box _ _, _, _, _, _⟩ :: _)); refine m_box rfl rfl (fun bq hbq => ?_))
                   | (show AT _ _ _ (wpList _ _ _ (⟨_, Op.alloc _, _, _, _, _⟩ :: _)); refine m_alloc tabs rfl rfl (fun bq hbq => ?_))
                   | (show AT _ _ _ (wpList _ _ _ (⟨_, Op.makeSlice _ _ _, _, _, _, _⟩ :: _)); refine m_makei tabs rfl rfl rfl (by omega) (by omega) rfl (fun g hg => ?_)))
                | (show AT _ _ _ (wpList _ _ _ []); first | refine c_nil (x_then ?_) | refine c_nil (x_qn ?_) | refine c_nil ?_)
                | (show AT _ _ _ (Code.wp _ _ _); first | refine c_seq ?_ | refine c_region ?_ | refine c_skip (x_then ?_) | refine c_skip (x_blk ?_) | refine c_skip ?_ | refine c_block ?_ | refine c_ret ?_ | refine c_exit ?_ | refine c_true rfl ?_ | refine c_false rfl ?_ | refine c_ift rfl (by first | assumption | omega) ?_ | refine c_iff rfl (by first | assumption | exact not_not_intro (by assumption) | omega) ?_ | refine c_ifnd rfl (fun h => ?_) (fun h => ?_) | refine c_if rfl (fun h => ?_) (fun h => ?_) | refine c_ifn rfl (fun h => ?_) (fun h => ?_))
                | (show QT _ _ _ _ _ _ (_ :: _); first
                   | (show QT _ _ _ _ _ _ (⟨_, Op.move _, _, _, _, _⟩ :: _); refine q_y (y_move rfl) rfl ?_)
                   | (show QT _ _ _ _ _ _ (⟨_, Op.assign _, _, _, _, _⟩ :: _); refine q_y (y_assign rfl) rfl ?_)
                   | (show QT _ _ _ _ _ _ (⟨_, Op.fieldAddr _ _ _, _, _, _, _⟩ :: _); refine q_y (y_field tabs rfl rfl rfl) rfl ?_)
                   | (show QT _ _ _ _ _ _ (⟨_, Op.load _ _, _, _, _, _⟩ :: _); first | refine q_y (y_load tabs rfl rfl (hc_blk 4 rfl rfl)) rfl ?_ | refine q_y (y_load tabs rfl rfl (hc_blk 0 rfl rfl)) rfl ?_ | refine q_y (y_load tabs rfl rfl (hc_blk 1 rfl rfl)) rfl ?_ | refine q_y (y_load tabs rfl rfl (hc_blk 2 rfl rfl)) rfl ?_ | refine q_y (y_load tabs rfl rfl (hc_blk 3 rfl rfl)) rfl ?_ | refine q_y (y_load tabs rfl rfl (hc_blk 5 rfl rfl)) rfl ?_ | refine q_y (y_loadb 0 tabs rfl rfl rfl rfl) rfl ?_ | refine q_y (y_loadb 1 tabs rfl rfl rfl rfl) rfl ?_ | refine q_y (y_loadb 2 tabs rfl rfl rfl rfl) rfl ?_ | refine q_y (y_loadb 3 tabs rfl rfl rfl rfl) rfl ?_ | refine q_y (y_load tabs rfl rfl (hc_rd (by assumption) (by omega))) rfl ?_)
                   | (show QT _ _ _ _ _ _ (⟨_, Op.indexAddr _ _ _, _, _, _, _⟩ :: _); first | refine q_y (y_ix1 tabs rfl rfl rfl (by first | assumption | exact .mk) rfl (by omega)) rfl ?_ | refine q_y (y_ixi tabs rfl rfl rfl (by first | assumption | exact .mk) (by omega) (by omega)) rfl ?_ | refine q_y (y_ixa tabs rfl rfl rfl (by first | assumption | exact .mk) (by omega) (by omega)) rfl ?_)
                   | (show QT _ _ _ _ _ _ (⟨_, Op.binOp _ _ _ _ _, _, _, _, _⟩ :: _); first | refine q_y (y_add rfl rfl (by omega)) rfl ?_ | refine q_y (y_lss rfl rfl) rfl ?_ | refine q_y (y_neq rfl rfl) rfl ?_ | refine q_y (y_neqb_same Try.underlying4 rfl rfl) rfl ?_)
                   | (show QT _ _ _ _ _ _ (⟨_, Op.unOp _ _ _, _, _, _, _⟩ :: _); first | refine q_y (y_notd rfl) rfl ?_ | refine q_y (y_not rfl) rfl ?_)
                   | (show QT _ _ _ _ _ _ (⟨_, Op.extract _ _, _, _, _, _⟩ :: _); refine q_y (y_ext rfl rfl) rfl ?_))
                | (show QT _ _ _ _ _ _ []; first | refine q_nil (x_then ?_) | refine q_nil ?_)
                | (show AT _ _ _ (Qk _ _ _); refine x_one ?_)
                | (show AT _ _ _ _; first | refine x_then ?_ | refine x_qn ?_ | refine x_then_ret ?_ | refine x_blk_ret ?_ | refine x_then_exit ?_ | refine x_blk_exit rfl ?_ | refine x_blk_other rfl ?_ | refine x_blk ?_))
              refine x_nx (k + 1, g2) (by repeat' (first | exact Sub.nil | refine Sub.cons rfl ?_ | refine Sub.consi rfl (by omega) ?_)) ⟨by simp only; omega, fun j hj => ?_, fun h => ?_⟩ (fun w' c' => c'.sub (by repeat' first | exact List.Sublist.refl _ | exact List.nil_sublist _ | apply List.Sublist.cons_cons | apply List.Sublist.cons)) (by simp only; omega)
              · by_cases hjk : j = k
                · subst hjk; exact hB
                · exact hpre j (by simp only at hj; omega)
              · simp only
                rw [hgi2 h, invTo_col]
      · have : k = R := by omega
        subst this
        have hfull : (redTo p k f k).2.length = k := Decidable.byContradiction (fun hn => by
          obtain ⟨q, hq, hm⟩ := sing_unit hF hin (by omega)
          exact hpre q hq hm)
        rw [ivM, if_pos ⟨rfl, hfull⟩, decide_eq_true hfull, ← invTo_end, ← hgi hfull]
        repeat' (first
          | (show AT _ _ _ (wpList _ _ _ (_ :: _)); first
             | (show AT _ _ _ (wpList _ _ _ (⟨_, Op.move _, _, _, _, _⟩ :: _)); refine st_y (y_move rfl) rfl ?_)
             | (show AT _ _ _ (wpList _ _ _ (⟨_, Op.assign _, _, _, _, _⟩ :: _)); refine st_y (y_assign rfl) rfl ?_)
             | (show AT _ _ _ (wpList _ _ _ (⟨_, Op.fieldAddr _ _ _, _, _, _, _⟩ :: _)); refine st_y (y_field tabs rfl rfl rfl) rfl ?_)
             | (show AT _ _ _ (wpList _ _ _ (⟨_, Op.load _ _, _, _, _, _⟩ :: _)); first | refine st_y (y_load tabs rfl rfl (hc_blk 3 rfl rfl)) rfl ?_ | refine st_y (y_loadb 0 tabs rfl rfl rfl rfl) rfl ?_ | refine st_y (y_load tabs rfl rfl (hc_blk 0 rfl rfl)) rfl ?_ | refine st_y (y_load tabs rfl rfl (hc_blk 1 rfl rfl)) rfl ?_ | refine st_y (y_load tabs rfl rfl (hc_blk 2 rfl rfl)) rfl ?_ | refine st_y (y_load tabs rfl rfl (hc_blk 4 rfl rfl)) rfl ?_ | refine st_y (y_load tabs rfl rfl (hc_blk 5 rfl rfl)) rfl ?_ | refine st_y (y_loadb 1 tabs rfl rfl rfl rfl) rfl ?_ | refine st_y (y_loadb 2 tabs rfl rfl rfl rfl) rfl ?_ | refine st_y (y_loadb 3 tabs rfl rfl rfl rfl) rfl ?_ | refine st_y (y_load tabs rfl rfl (hc_rd (by assumption) (by omega))) rfl ?_)
             | (show AT _ _ _ (wpList _ _ _ (⟨_, Op.indexAddr _ _ _, _, _, _, _⟩ :: _)); first | refine st_y (y_ix1 tabs rfl rfl rfl (by first | assumption | exact .mk) rfl (by omega)) rfl ?_ | refine st_y (y_ixi tabs rfl rfl rfl (by first | assumption | exact .mk) (by omega) (by omega)) rfl ?_ | refine st_y (y_ixa tabs rfl rfl rfl (by first | assumption | exact .mk) (by omega) (by omega)) rfl ?_)
             | (show AT _ _ _ (wpList _ _ _ (⟨_, Op.binOp _ _ _ _ _, _, _, _, _⟩ :: _)); first | refine st_y (y_add rfl rfl (by omega)) rfl ?_ | refine st_y (y_lss rfl rfl) rfl ?_ | refine st_y (y_neq rfl rfl) rfl ?_ | refine st_y (y_neqb_same Try.underlying4 rfl rfl) rfl ?_)
             | (show AT _ _ _ (wpList _ _ _ (⟨_, Op.unOp _ _ _, _, _, _, _⟩ :: _)); first | refine st_y (y_notd rfl) rfl ?_ | refine st_y (y_not rfl) rfl ?_)
             | (show AT _ _ _ (wpList _ _ _ (⟨_, Op.extract _ _, _, _, _, _⟩ :: _)); refine st_y (y_ext rfl rfl) rfl ?_)
             | (show AT _ _ _ (wpList _ _ _ (⟨_, Op.store _ _ _, _, _, _, _⟩ :: _)); first | refine m_storeb 2 tabs rfl rfl rfl rfl rfl rfl rfl ?_ | refine m_storef 0 tabs rfl rfl rfl rfl rfl rfl ?_ | refine m_storef 1 tabs rfl rfl rfl rfl rfl rfl ?_ | refine m_storef 2 tabs rfl rfl rfl rfl rfl rfl ?_ | refine m_storef 3 tabs rfl rfl rfl rfl rfl rfl ?_ | refine m_storeb 0 tabs rfl rfl rfl rfl rfl rfl rfl ?_ | refine m_storeb 1 tabs rfl rfl rfl rfl rfl rfl rfl ?_ | refine m_storeb 3 tabs rfl rfl rfl rfl rfl rfl rfl ?_)
             | (show AT _ _ _ (wpList _ _ _ (⟨_, Op.box _ _, _, _, _, _⟩ :: _)); refine m_box rfl rfl (fun bq hbq => ?_))
             | (show AT _ _ _ (wpList _ _ _ (⟨_, Op.alloc _, _, _, _, _⟩ :: _)); refine m_alloc tabs rfl rfl (fun bq hbq => ?_))
             | (show AT _ _ _ (wpList _ _ _ (⟨_, Op.makeSlice _ _ _, _, _, _, _⟩ :: _)); refine m_makei tabs rfl rfl rfl (by omega) (by omega) rfl (fun g hg => ?_)))
          | (show AT _ _ _ (wpList _ _ _ []); first | refine c_nil (x_then ?_) | refine c_nil (x_qn ?_) | refine c_nil ?_)
          | (show AT _ _ _ (Code.wp _ _ _); first | refine c_seq ?_ | refine c_region ?_ | refine c_skip (x_then ?_) | refine c_skip (x_blk ?_) | refine c_skip ?_ | refine c_block ?_ | refine c_ret ?_ | refine c_exit ?_ | refine c_true rfl ?_ | refine c_false rfl ?_ | refine c_ift rfl (by first | assumption | omega) ?_ | refine c_iff rfl (by first | assumption | exact not_not_intro (by assumption) | omega) ?_ | refine c_ifnd rfl (fun h => ?_) (fun h => ?_) | refine c_if rfl (fun h => ?_) (fun h => ?_) | refine c_ifn rfl (fun h => ?_) (fun h => ?_))
          | (show QT _ _ _ _ _ _ (_ :: _); first
             | (show QT _ _ _ _ _ _ (⟨_, Op.move _, _, _, _, _⟩ :: _); refine q_y (y_move rfl) rfl ?_)
             | (show QT _ _ _ _ _ _ (⟨_, Op.assign _, _, _, _, _⟩ :: _); refine q_y (y_assign rfl) rfl ?_)
             | (show QT _ _ _ _ _ _ (⟨_, Op.fieldAddr _ _ _, _, _, _, _⟩ :: _); refine q_y (y_field tabs rfl rfl rfl) rfl ?_)
             | (show QT _ _ _ _ _ _ (⟨_, Op.load _ _, _, _, _, _⟩ :: _); first | refine q_y (y_load tabs rfl rfl (hc_blk 3 rfl rfl)) rfl ?_ | refine q_y (y_loadb 0 tabs rfl rfl rfl rfl) rfl ?_ | refine q_y (y_load tabs rfl rfl (hc_blk 0 rfl rfl)) rfl ?_ | refine q_y (y_load tabs rfl rfl (hc_blk 1 rfl rfl)) rfl ?_ | refine q_y (y_load tabs rfl rfl (hc_blk 2 rfl rfl)) rfl ?_ | refine q_y (y_load tabs rfl rfl (hc_blk 4 rfl rfl)) rfl ?_ | refine q_y (y_load tabs rfl rfl (hc_blk 5 rfl rfl)) rfl ?_ | refine q_y (y_loadb 1 tabs rfl rfl rfl rfl) rfl ?_ | refine q_y (y_loadb 2 tabs rfl rfl rfl rfl) rfl ?_ | refine q_y (y_loadb 3 tabs rfl rfl rfl rfl) rfl ?_ | refine q_y (y_load tabs rfl rfl (hc_rd (by assumption) (by omega))) rfl ?_)
             | (show QT _ _ _ _ _ _ (⟨_, Op.indexAddr _ _ _, _, _, _, _⟩ :: _); first | refine q_y (y_ix1 tabs rfl rfl rfl (by first | assumption | exact .mk) rfl (by omega)) rfl ?_ | refine q_y (y_ixi tabs rfl rfl rfl (by first | assumption | exact .mk) (by omega) (by omega)) rfl ?_ | refine q_y (y_ixa tabs rfl rfl rfl (by first | assumption | exact .mk) (by omega) (by omega)) rfl ?_)
             | (show QT _ _ _ _ _ _ (⟨_, Op.binOp _ _ _ _ _, _, _, _, _⟩ :: _); first | refine q_y (y_add rfl rfl (by omega)) rfl ?_ | refine q_y (y_lss rfl rfl) rfl ?_ | refine q_y (y_neq rfl rfl) rfl ?_ | refine q_y (y_neqb_same Try.underlying4 rfl rfl) rfl ?_)
             | (show QT _ _ _ _ _ _ (⟨_, Op.unOp _ _ _, _, _, _, _⟩ :: _); first | refine q_y (y_notd rfl) rfl ?_ | refine q_y (y_not rfl) rfl ?_)
             | (show QT _ _ _ _ _ _ (⟨_, Op.extract _ _, _, _, _, _⟩ :: _); refine q_y (y_ext rfl rfl) rfl ?_))
          | (show QT _ _ _ _ _ _ []; first | refine q_nil (x_then ?_) | refine q_nil ?_)
          | (show AT _ _ _ (Qk _ _ _); refine x_one ?_)
          | (show AT _ _ _ _; first | refine x_then ?_ | refine x_qn ?_ | refine x_then_ret ?_ | refine x_blk_ret ?_ | refine x_then_exit ?_ | refine x_blk_exit rfl ?_ | refine x_blk_other rfl ?_ | refine x_blk ?_))
        exact x_ret2 Try.results84 (res_cellb 2 tabs rfl rfl rfl rfl) (res_tmp rfl) (fun w' c' => ⟨.tuple #[.agg #[iV k, iV k, .slice a (k * k) c], .bool true], [.own (iT (mk k k g)) (.slice a (k * k) c)], rfl, ⟨a, c, by simp, by simpa using hs, by simp⟩, c'.sub (.cons _ (.cons_cons _ (List.nil_sublist _)))⟩)
  · rw [ivM, if_neg (fun h => hsq h.1), decide_eq_false (fun h => hsq h.1)]
    obtain ⟨am, cm, rfl, hsm, _⟩ := rd_mk hr
    refine fn_enter Try.func84 rfl Try.ntmps84 rfl ?_
    repeat' (first
      | (show AT _ _ _ (wpList _ _ _ (_ :: _)); first
         | (show AT _ _ _ (wpList _ _ _ (⟨_, Op.move _, _, _, _, _⟩ :: _)); refine st_y (y_move rfl) rfl ?_)
         | (show AT _ _ _ (wpList _ _ _ (⟨_, Op.assign _, _, _, _, _⟩ :: _)); refine st_y (y_assign rfl) rfl ?_)
         | (show AT _ _ _ (wpList _ _ _ (⟨_, Op.fieldAddr _ _ _, _, _, _, _⟩ :: _)); refine st_y (y_field tabs rfl rfl rfl) rfl ?_)
         | (show AT _ _ _ (wpList _ _ _ (⟨_, Op.load _ _, _, _, _, _⟩ :: _)); first | refine st_y (y_loadb 0 tabs rfl rfl rfl rfl) rfl ?_ | refine st_y (y_loadb 1 tabs rfl rfl rfl rfl) rfl ?_ | refine st_y (y_load tabs rfl rfl (hc_blk 0 rfl rfl)) rfl ?_ | refine st_y (y_load tabs rfl rfl (hc_blk 1 rfl rfl)) rfl ?_ | refine st_y (y_load tabs rfl rfl (hc_blk 2 rfl rfl)) rfl ?_ | refine st_y (y_load tabs rfl rfl (hc_blk 3 rfl rfl)) rfl ?_ | refine st_y (y_load tabs rfl rfl (hc_blk 4 rfl rfl)) rfl ?_ | refine st_y (y_load tabs rfl rfl (hc_blk 5 rfl rfl)) rfl ?_ | refine st_y (y_loadb 2 tabs rfl rfl rfl rfl) rfl ?_ | refine st_y (y_loadb 3 tabs rfl rfl rfl rfl) rfl ?_ | refine st_y (y_load tabs rfl rfl (hc_rd (by assumption) (by omega))) rfl ?_)
         | (show AT _ _ _ (wpList _ _ _ (⟨_, Op.indexAddr _ _ _, _, _, _, _⟩ :: _)); first | refine st_y (y_ix1 tabs rfl rfl rfl (by first | assumption | exact .mk) rfl (by omega)) rfl ?_ | refine st_y (y_ixi tabs rfl rfl rfl (by first | assumption | exact .mk) (by omega) (by omega)) rfl ?_ | refine st_y (y_ixa tabs rfl rfl rfl (by first | assumption | exact .mk) (by omega) (by omega)) rfl ?_)
         | (show AT _ _ _ (wpList _ _ _ (⟨_, Op.binOp _ _ _ _ _, _, _, _, _⟩ :: _)); first | refine st_y (y_add rfl rfl (by omega)) rfl ?_ | refine st_y (y_lss rfl rfl) rfl ?_ | refine st_y (y_neq rfl rfl) rfl ?_ | refine st_y (y_neqb_same Try.underlying4 rfl rfl) rfl ?_)
         | (show AT _ _ _ (wpList _ _ _ (⟨_, Op.unOp _ _ _, _, _, _, _⟩ :: _)); first | refine st_y (y_notd rfl) rfl ?_ | refine st_y (y_not rfl) rfl ?_)
         | (show AT _ _ _ (wpList _ _ _ (⟨_, Op.call _, _, _, _, _⟩ :: _)); (refine m_call (ent_of Try.func94 (by kernel_rfl) rfl) rfl rfl (fun w c => l3Zero_ok (R := R) (C := R) (by omega) (by omega)) ?_; rintro v H' ⟨a, c, rfl, hs, rfl⟩))
         | (show AT _ _ _ (wpList _ _ _ (⟨_, Op.extract _ _, _, _, _, _⟩ :: _)); refine st_y (y_ext rfl rfl) rfl ?_)
         | (show AT _ _ _ (wpList _ _ _ (⟨_, Op.store _ _ _, _, _, _, _⟩ :: _)); first | refine m_storef 0 tabs rfl rfl rfl rfl rfl rfl ?_ | refine m_storef 1 tabs rfl rfl rfl rfl rfl rfl ?_ | refine m_storef 2 tabs rfl rfl rfl rfl rfl rfl ?_ | refine m_storef 3 tabs rfl rfl rfl rfl rfl rfl ?_ | refine m_storeb 0 tabs rfl rfl rfl rfl rfl rfl rfl ?_ | refine m_storeb 1 tabs rfl rfl rfl rfl rfl rfl rfl ?_ | refine m_storeb 2 tabs rfl rfl rfl rfl rfl rfl rfl ?_ | refine m_storeb 3 tabs rfl rfl rfl rfl rfl rfl rfl ?_)
         | (show AT _ _ _ (wpList _ _ _ (⟨_, Op.box _ _, _, _, _, _⟩ :: _)); first | refine m_box rfl rfl (fun b3 hb3 => ?_) | refine m_box rfl rfl (fun bq hbq => ?_))
         | (show AT _ _ _ (wpList _ _ _ (⟨_, Op.alloc _, _, _, _, _⟩ :: _)); first | refine m_alloc tabs rfl rfl (fun b6 hb6 => ?_) | refine m_alloc tabs rfl rfl (fun bq hbq => ?_))
         | (show AT _ _ _ (wpList _ _ _ (⟨_, Op.makeSlice _ _ _, _, _, _, _⟩ :: _)); refine m_makei tabs rfl rfl rfl (by omega) (by omega) rfl (fun g hg => ?_))
         | (show AT _ _ _ (wpList _ _ _ (⟨_, Op.build _ _, _, _, _, _⟩ :: _)); refine st_y (y_bld0 bld_mat0) rfl ?_))
      | (show AT _ _ _ (wpList _ _ _ []); first | refine c_nil (x_then ?_) | refine c_nil (x_qn ?_) | refine c_nil ?_)
      | (show AT _ _ _ (Code.wp _ _ _); first | refine c_seq ?_ | refine c_region ?_ | refine c_skip (x_then ?_) | refine c_skip (x_blk ?_) | refine c_skip ?_ | refine c_block ?_ | refine c_ret ?_ | refine c_exit ?_ | refine c_true rfl ?_ | refine c_false rfl ?_ | refine c_ift rfl (by first | assumption | omega) ?_ | refine c_iff rfl (by first | assumption | exact not_not_intro (by assumption) | omega) ?_ | refine c_ifnd rfl (fun h => ?_) (fun h => ?_) | refine c_if rfl (fun h => ?_) (fun h => ?_) | refine c_ifn rfl (fun h => ?_) (fun h => ?_))
      | (show QT _ _ _ _ _ _ (_ :: _); first
         | (show QT _ _ _ _ _ _ (⟨_, Op.move _, _, _, _, _⟩ :: _); refine q_y (y_move rfl) rfl ?_)
         | (show QT _ _ _ _ _ _ (⟨_, Op.assign _, _, _, _, _⟩ :: _); refine q_y (y_assign rfl) rfl ?_)
         | (show QT _ _ _ _ _ _ (⟨_, Op.fieldAddr _ _ _, _, _, _, _⟩ :: _); refine q_y (y_field tabs rfl rfl rfl) rfl ?_)
         | (show QT _ _ _ _ _ _ (⟨_, Op.load _ _, _, _, _, _⟩ :: _); first | refine q_y (y_loadb 0 tabs rfl rfl rfl rfl) rfl ?_ | refine q_y (y_loadb 1 tabs rfl rfl rfl rfl) rfl ?_ | refine q_y (y_load tabs rfl rfl (hc_blk 0 rfl rfl)) rfl ?_ | refine q_y (y_load tabs rfl rfl (hc_blk 1 rfl rfl)) rfl ?_ | refine q_y (y_load tabs rfl rfl (hc_blk 2 rfl rfl)) rfl ?_ | refine q_y (y_load tabs rfl rfl (hc_blk 3 rfl rfl)) rfl ?_ | refine q_y (y_load tabs rfl rfl (hc_blk 4 rfl rfl)) rfl ?_ | refine q_y (y_load tabs rfl rfl (hc_blk 5 rfl rfl)) rfl ?_ | refine q_y (y_loadb 2 tabs rfl rfl rfl rfl) rfl ?_ | refine q_y (y_loadb 3 tabs rfl rfl rfl rfl) rfl ?_ | refine q_y (y_load tabs rfl rfl (hc_rd (by assumption) (by omega))) rfl ?_)
         | (show QT _ _ _ _ _ _ (⟨_, Op.indexAddr _ _ _, _, _, _, _⟩ :: _); first | refine q_y (y_ix1 tabs rfl rfl rfl (by first | assumption | exact .mk) rfl (by omega)) rfl ?_ | refine q_y (y_ixi tabs rfl rfl rfl (by first | assumption | exact .mk) (by omega) (by omega)) rfl ?_ | refine q_y (y_ixa tabs rfl rfl rfl (by first | assumption | exact .mk) (by omega) (by omega)) rfl ?_)
         | (show QT _ _ _ _ _ _ (⟨_, Op.binOp _ _ _ _ _, _, _, _, _⟩ :: _); first | refine q_y (y_add rfl rfl (by omega)) rfl ?_ | refine q_y (y_lss rfl rfl) rfl ?_ | refine q_y (y_neq rfl rfl) rfl ?_ | refine q_y (y_neqb_same Try.underlying4 rfl rfl) rfl ?_)
         | (show QT _ _ _ _ _ _ (⟨_, Op.unOp _ _ _, _, _, _, _⟩ :: _); first | refine q_y (y_notd rfl) rfl ?_ | refine q_y (y_not rfl) rfl ?_)
         | (show QT _ _ _ _ _ _ (⟨_, Op.extract _ _, _, _, _, _⟩ :: _); refine q_y (y_ext rfl rfl) rfl ?_)
         | (show QT _ _ _ _ _ _ (⟨_, Op.build _ _, _, _, _, _⟩ :: _); refine q_y (y_bld0 bld_mat0) rfl ?_))
      | (show QT _ _ _ _ _ _ []; first | refine q_nil (x_then ?_) | refine q_nil ?_)
      | (show AT _ _ _ (Qk _ _ _); refine x_one ?_)
      | (show AT _ _ _ _; first | refine x_then ?_ | refine x_qn ?_ | refine x_then_ret ?_ | refine x_blk_ret ?_ | refine x_then_exit ?_ | refine x_blk_exit rfl ?_ | refine x_blk_other rfl ?_ | refine x_blk ?_))
    all_goals first | exact absurd (by omega) hsq | skip
    exact x_ret2 Try.results84 (res_cellb 2 tabs rfl rfl rfl rfl) (res_tmp rfl) (fun w' c' => ⟨_, _, rfl, ⟨none, 0, rfl, .inl rfl, rfl⟩, Hp.nilp _ _ (c'.sub (List.nil_sublist _))⟩)
theorem spec_InverseOf_ok {w : World} {p : Int} {m : Mat} {u : Value} (hr : Rd w (iT m.2.2) u) :
    Does Try.prog 33 [iV p, .agg #[iV m.1, iV m.2.1, u]] w (GivesMB (invM2 p m) (decide (InvP p m))) := by
  by_cases hM : MatP p m
  · obtain ⟨R, C, f, rfl, hR, hC, hF, hin⟩ := matP_mk hM
    have hi : InvP p (↑R, ↑C, mk R C f) ↔ (R = C ∧ (redTo p R f C).2.length = R) := by
      unfold InvP
      rw [redL_mk]
      simp only
      exact ⟨fun ⟨_, h1, h2⟩ => ⟨by omega, by omega⟩, fun ⟨h1, h2⟩ => ⟨hM, by omega, by omega⟩⟩
    have e1 : invM2 p (↑R, ↑C, mk R C f) = ivM p R C f := by
      unfold invM2 ivM
      by_cases h : R = C ∧ (redTo p R f C).2.length = R
      · rw [if_pos (hi.2 h), if_pos h]
        obtain ⟨rfl, _⟩ := h
        simp only [Int.toNat_natCast]
        rw [invF_congr]
      · rw [if_neg (fun x => h (hi.1 x)), if_neg h]
    rw [e1, decide_eq_decide.2 hi]
    simp only at hr ⊢
    refine fn_enter Try.func33 rfl Try.ntmps33 rfl ?_
    repeat' (first
      | (show AT _ _ _ (wpList _ _ _ (_ :: _)); first
         | (show AT _ _ _ (wpList _ _ _ (⟨_, Op.move _, _, _, _, _⟩ :: _)); refine st_y (y_move rfl) rfl ?_)
         | (show AT _ _ _ (wpList _ _ _ (⟨_, Op.assign _, _, _, _, _⟩ :: _)); refine st_y (y_assign rfl) rfl ?_)
         | (show AT _ _ _ (wpList _ _ _ (⟨_, Op.load _ _, _, _, _, _⟩ :: _)); first | refine st_y (y_loadb 0 tabs rfl rfl rfl rfl) rfl ?_ | refine st_y (y_load tabs rfl rfl (hc_blk 0 rfl rfl)) rfl ?_ | refine st_y (y_load tabs rfl rfl (hc_blk 1 rfl rfl)) rfl ?_ | refine st_y (y_load tabs rfl rfl (hc_blk 2 rfl rfl)) rfl ?_ | refine st_y (y_load tabs rfl rfl (hc_blk 3 rfl rfl)) rfl ?_ | refine st_y (y_load tabs rfl rfl (hc_blk 4 rfl rfl)) rfl ?_ | refine st_y (y_load tabs rfl rfl (hc_blk 5 rfl rfl)) rfl ?_ | refine st_y (y_loadb 1 tabs rfl rfl rfl rfl) rfl ?_ | refine st_y (y_loadb 2 tabs rfl rfl rfl rfl) rfl ?_ | refine st_y (y_loadb 3 tabs rfl rfl rfl rfl) rfl ?_ | refine st_y (y_load tabs rfl rfl (hc_rd (by assumption) (by omega))) rfl ?_)
         | (show AT _ _ _ (wpList _ _ _ (⟨_, Op.unOp _ _ _, _, _, _, _⟩ :: _)); first | refine st_y (y_notd rfl) rfl ?_ | refine st_y (y_not rfl) rfl ?_)
         | (show AT _ _ _ (wpList _ _ _ (⟨_, Op.call _, _, _, _, _⟩ :: _)); first | (refine m_call (ent_of Try.func65 (by kernel_rfl) rfl) rfl rfl (fun w c => spec_IsMatrix_ok (m := (↑R, ↑C, mk R C f)) (c.rd hr)) ?_; rintro v H' ⟨rfl, rfl⟩) | (refine m_call (ent_of Try.func84 (by kernel_rfl) rfl) rfl rfl (fun w c => l4Inverse_ok (c.rd hr) hF (by omega) (by omega) hin) ?_; rintro v H' ⟨a, c, rfl, hs, rfl⟩))
         | (show AT _ _ _ (wpList _ _ _ (⟨_, Op.extract _ _, _, _, _, _⟩ :: _)); refine st_y (y_ext rfl rfl) rfl ?_)
         | (show AT _ _ _ (wpList _ _ _ (⟨_, Op.store _ _ _, _, _, _, _⟩ :: _)); first | refine m_storeb 2 tabs rfl rfl rfl rfl rfl rfl rfl ?_ | refine m_storeb 0 tabs rfl rfl rfl rfl rfl rfl rfl ?_ | refine m_storef 0 tabs rfl rfl rfl rfl rfl rfl ?_ | refine m_storef 1 tabs rfl rfl rfl rfl rfl rfl ?_ | refine m_storef 2 tabs rfl rfl rfl rfl rfl rfl ?_ | refine m_storef 3 tabs rfl rfl rfl rfl rfl rfl ?_ | refine m_storeb 1 tabs rfl rfl rfl rfl rfl rfl rfl ?_ | refine m_storeb 3 tabs rfl rfl rfl rfl rfl rfl rfl ?_)
         | (show AT _ _ _ (wpList _ _ _ (⟨_, Op.box _ _, _, _, _, _⟩ :: _)); refine m_box rfl rfl (fun bq hbq => ?_))
         | (show AT _ _ _ (wpList _ _ _ (⟨_, Op.alloc _, _, _, _, _⟩ :: _)); refine m_alloc tabs rfl rfl (fun bq hbq => ?_)))
      | (show AT _ _ _ (wpList _ _ _ []); first | refine c_nil (x_then ?_) | refine c_nil (x_qn ?_) | refine c_nil ?_)
      | (show AT _ _ _ (Code.wp _ _ _); first | refine c_seq ?_ | refine c_region ?_ | refine c_skip (x_then ?_) | refine c_skip (x_blk ?_) | refine c_skip ?_ | refine c_ret ?_ | refine c_exit ?_ | refine c_true rfl ?_ | refine c_false rfl ?_ | refine c_ift rfl (by first | assumption | omega) ?_ | refine c_iff rfl (by first | assumption | exact not_not_intro (by assumption) | omega) ?_ | refine c_ifnd rfl (fun h => ?_) (fun h => ?_) | refine c_if rfl (fun h => ?_) (fun h => ?_) | refine c_ifn rfl (fun h => ?_) (fun h => ?_))
      | (show AT _ _ _ _; first | refine x_then ?_ | refine x_qn ?_ | refine x_then_ret ?_ | refine x_blk_ret ?_ | refine x_then_exit ?_ | refine x_blk_exit rfl ?_ | refine x_blk_other rfl ?_ | refine x_blk ?_))
    all_goals first | exact absurd hM (by assumption) | skip
    exact x_ret2 Try.results33 (res_cellb 2 tabs rfl rfl rfl rfl) (res_tmp rfl) (fun w' c' => ⟨_, _, rfl, ⟨a, c, rfl, hs, rfl⟩, c'.sub (.cons _ (.cons_cons _ (List.nil_sublist _)))⟩)
  · have hi : ¬ InvP p m := fun h => hM h.1
    rw [invM2, if_neg hi, decide_eq_false hi]
    refine fn_enter Try.func33 rfl Try.ntmps33 rfl ?_
    repeat' (first
      | (show AT _ _ _ (wpList _ _ _ (_ :: _)); first
         | (show AT _ _ _ (wpList _ _ _ (⟨_, Op.move _, _, _, _, _⟩ :: _)); refine st_y (y_move rfl) rfl ?_)
         | (show AT _ _ _ (wpList _ _ _ (⟨_, Op.assign _, _, _, _, _⟩ :: _)); refine st_y (y_assign rfl) rfl ?_)
         | (show AT _ _ _ (wpList _ _ _ (⟨_, Op.load _ _, _, _, _, _⟩ :: _)); first | refine st_y (y_load tabs rfl rfl (hc_blk 0 rfl rfl)) rfl ?_ | refine st_y (y_load tabs rfl rfl (hc_blk 1 rfl rfl)) rfl ?_ | refine st_y (y_load tabs rfl rfl (hc_blk 2 rfl rfl)) rfl ?_ | refine st_y (y_load tabs rfl rfl (hc_blk 3 rfl rfl)) rfl ?_ | refine st_y (y_load tabs rfl rfl (hc_blk 4 rfl rfl)) rfl ?_ | refine st_y (y_load tabs rfl rfl (hc_blk 5 rfl rfl)) rfl ?_ | refine st_y (y_loadb 0 tabs rfl rfl rfl rfl) rfl ?_ | refine st_y (y_loadb 1 tabs rfl rfl rfl rfl) rfl ?_ | refine st_y (y_loadb 2 tabs rfl rfl rfl rfl) rfl ?_ | refine st_y (y_loadb 3 tabs rfl rfl rfl rfl) rfl ?_ | refine st_y (y_load tabs rfl rfl (hc_rd (by assumption) (by omega))) rfl ?_)
         | (show AT _ _ _ (wpList _ _ _ (⟨_, Op.unOp _ _ _, _, _, _, _⟩ :: _)); first | refine st_y (y_notd rfl) rfl ?_ | refine st_y (y_not rfl) rfl ?_)
         | (show AT _ _ _ (wpList _ _ _ (⟨_, Op.call _, _, _, _, _⟩ :: _)); (refine m_call (ent_of Try.func65 (by kernel_rfl) rfl) rfl rfl (fun w c => spec_IsMatrix_ok (m := m) (c.rd hr)) ?_; rintro v H' ⟨rfl, rfl⟩))
         | (show AT _ _ _ (wpList _ _ _ (⟨_, Op.extract _ _, _, _, _, _⟩ :: _)); refine st_y (y_ext rfl rfl) rfl ?_)
         | (show AT _ _ _ (wpList _ _ _ (⟨_, Op.store _ _ _, _, _, _, _⟩ :: _)); first | refine m_storef 0 tabs rfl rfl rfl rfl rfl rfl ?_ | refine m_storef 1 tabs rfl rfl rfl rfl rfl rfl ?_ | refine m_storef 2 tabs rfl rfl rfl rfl rfl rfl ?_ | refine m_storef 3 tabs rfl rfl rfl rfl rfl rfl ?_ | refine m_storeb 0 tabs rfl rfl rfl rfl rfl rfl rfl ?_ | refine m_storeb 1 tabs rfl rfl rfl rfl rfl rfl rfl ?_ | refine m_storeb 2 tabs rfl rfl rfl rfl rfl rfl rfl ?_ | refine m_storeb 3 tabs rfl rfl rfl rfl rfl rfl rfl ?_)
         | (show AT _ _ _ (wpList _ _ _ (⟨_, Op.box _ _, _, _, _, _⟩ :: _)); refine m_box rfl rfl (fun bq hbq => ?_))
         | (show AT _ _ _ (wpList _ _ _ (⟨_, Op.alloc _, _, _, _, _⟩ :: _)); refine m_alloc tabs rfl rfl (fun bq hbq => ?_))
         | (show AT _ _ _ (wpList _ _ _ (⟨_, Op.build _ _, _, _, _, _⟩ :: _)); refine st_y (y_bld0 bld_mat0) rfl ?_))
      | (show AT _ _ _ (wpList _ _ _ []); first | refine c_nil (x_then ?_) | refine c_nil (x_qn ?_) | refine c_nil ?_)
      | (show AT _ _ _ (Code.wp _ _ _); first | refine c_seq ?_ | refine c_region ?_ | refine c_skip (x_then ?_) | refine c_skip (x_blk ?_) | refine c_skip ?_ | refine c_ret ?_ | refine c_exit ?_ | refine c_true rfl ?_ | refine c_false rfl ?_ | refine c_ift rfl (by first | assumption | omega) ?_ | refine c_iff rfl (by first | assumption | exact not_not_intro (by assumption) | omega) ?_ | refine c_ifnd rfl (fun h => ?_) (fun h => ?_) | refine c_if rfl (fun h => ?_) (fun h => ?_) | refine c_ifn rfl (fun h => ?_) (fun h => ?_))
      | (show AT _ _ _ _; first | refine x_then ?_ | refine x_qn ?_ | refine x_then_ret ?_ | refine x_blk_ret ?_ | refine x_then_exit ?_ | refine x_blk_exit rfl ?_ | refine x_blk_other rfl ?_ | refine x_blk ?_))
    all_goals first | exact absurd (Decidable.not_not.1 (by assumption)) hM | skip
    exact x_ret2 Try.results33 (res_cellb 0 tabs rfl rfl rfl rfl) (res_tmp rfl) (fun w' c' => ⟨_, _, rfl, ⟨none, 0, rfl, .inl rfl, rfl⟩, Hp.nilp _ _ (c'.sub (List.nil_sublist _))⟩)
end Go.Proofs.Ytljgmmmgnfgbhaa
