import Derived.Test.YtijjkfbkihgfgaaGreatRrfqsu
import Derived.Test.YtijjkfbkihgfgaaGreatSolqsu
import Derived.Test.YtijjkfbkihgfgaaGreatSpbqsu
namespace Go.Proofs.YtijjkfbkihgfgaaGreat
open Go.Lg Go.Proofs Go.RowKit
attribute [local irreducible] Code.wp wpList bodyPost Exit.then Exit.inBlock Hp Again Calls Y AT ResV QT Qn QI wpAny wpAnyQ
set_option maxRecDepth 20000
set_option maxHeartbeats 4000000

theorem ind_id {p : Int} {n : Nat} {f : Nat → Nat → Int} : Ind p n (augF n f) n (n + n) := fun c hc i hi => by
  have := hc (n + i) om om
  rw [sumN_one hi, sumN_congr (g := fun _ => 0) (fun q hq => ?_), sumN_zero] at this
  · simp only [augF, besF, idF] at this
    rw [if_neg (show ¬ n + i < n by omega), Nat.add_sub_cancel_left, if_pos rfl] at this
    simpa using this
  · split
    · rfl
    · simp only [augF, besF, idF]
      rw [if_neg om, if_neg om, Int.mul_zero]
def unitV (n k : Nat) : List Int := mkv n (fun q => if q = k then 1 else 0)
theorem unit_col {n k : Nat} {f : Nat → Nat → Int} (_hk : k < n) : ∀ i, i < n → augF n f i (n + k) = sysF n f (unitV n k) i n := fun i hi => by
  simp only [augF, sysF, besF, idF, vF, unitV]
  rw [if_neg (show ¬ n + k < n by omega), if_neg (show ¬ n < n by omega), mkv_get hi, Nat.add_sub_cancel_left]
theorem unit_cols {p : Int} {n k : Nat} {f : Nat → Nat → Int} (hk : k < n) : (redTo p n (augF n f) n).2 = (redTo p n (sysF n f (unitV n k)) n).2 ∧
    (∀ i, i < n → (redTo p n (augF n f) n).1 i (n + k) = (redTo p n (sysF n f (unitV n k)) n).1 i n) ∧ (redTo p n f n).2 = (redTo p n (augF n f) n).2 := by
  have h := redTo_cols (p := p) (R := n) (f := augF n f) (f' := sysF n f (unitV n k)) n (fun i j hi hj => by simp only [augF, sysF, besF]; rw [if_pos hj, if_pos hj])
  refine ⟨h.1, h.2 _ _ (unit_col hk), ?_⟩
  exact (redTo_cols (p := p) (R := n) (f := f) (f' := augF n f) n (fun i j hi hj => by simp only [augF, besF]; rw [if_pos hj])).1
theorem sing_unit {p : Int} {n : Nat} {f : Nat → Nat → Int} (hF : FieldP p) (hin : inF p n n f) (h : (redTo p n f n).2.length < n) : ∃ k, k < n ∧ (n : Int) ∈ (redTo p n (sysF n f (unitV n k)) (n + 1)).2 := by
  have hp := fieldP_pos hF
  have hau : inF p n (n + n) (augF n f) := inF_bes hin (inF_id om)
  have hI := ind_red hF hau (ind_id (p := p) (f := f)) n om
  have hl := (unit_cols (p := p) (n := n) (k := (redTo p n f n).2.length) (f := f) h).2.2
  have hex : ∃ k, k < n ∧ (redTo p n (augF n f) n).1 (redTo p n f n).2.length (n + k) ≠ 0 := by
    apply Classical.byContradiction
    intro hno
    have := hI (fun i => if i = (redTo p n f n).2.length then 1 else 0) (fun j hj hj2 => by
      rw [sumN_congr (g := fun _ => 0) (fun q hq => ?_), sumN_zero]
      · exact ⟨0, by omega⟩
      · by_cases hq2 : q = (redTo p n f n).2.length
        · rw [if_pos hq2, hq2, Int.one_mul]
          apply Classical.byContradiction
          intro hne
          exact hno ⟨j - n, by omega, by rwa [show n + (j - n) = j by omega]⟩
        · rw [if_neg hq2, Int.zero_mul]) _ h
    rw [if_pos rfl] at this
    have := Int.le_of_dvd om this
    omega
  obtain ⟨k, hk, hne⟩ := hex
  obtain ⟨u1, u2, u3⟩ := unit_cols (p := p) (f := f) hk
  refine ⟨k, hk, ?_⟩
  rw [u2 _ h, u3, u1] at hne
  rw [u3, u1] at h
  have := findAt_min (f := (redTo p n (sysF n f (unitV n k)) n).1) (k := n) (R := n) (r := (redTo p n (sysF n f (unitV n k)) n).2.length) h (Nat.le_refl _) hne
  rw [redTo_next om]
  simp
theorem full_piv {R k : Nat} {g : Nat → Nat → Int} {l : List Int} (h : RR R g l k) (hk : l.length = k) : ∀ t, t < k → l.getD t 0 = t := by
  obtain ⟨_, h1, h2, _⟩ := h
  have up : ∀ t, t < k → (t : Int) ≤ l.getD t 0 := fun t => by
    induction t with
    | zero => intro ht; exact (h1 0 om).1
    | succ t ih =>
      intro ht
      have := ih om
      have := h2 t (t + 1) om om
      omega
  have down : ∀ d t, t + d + 1 = k → l.getD t 0 ≤ t := fun d => by
    induction d with
    | zero => intro t ht; have := h1 t om; omega
    | succ d ih =>
      intro t ht
      have := ih (t + 1) om
      have := h2 t (t + 1) om om
      omega
  intro t ht
  have := up t ht
  have := down (k - t - 1) t om
  omega
theorem full_unit {p : Int} {n k : Nat} {f : Nat → Nat → Int} (hF : FieldP p) (hin : inF p n n f) (h : (redTo p n f n).2.length = n) (hk : k < n) :
    ¬ (n : Int) ∈ (redTo p n (sysF n f (unitV n k)) (n + 1)).2 ∧ solX p n n f (unitV n k) = mkv n (fun i => invF p n f i k) := by
  obtain ⟨u1, u2, u3⟩ := unit_cols (p := p) (f := f) hk
  have hfull := redTo_full (p := p) (R := n) (f := sysF n f (unitV n k)) (k := n) (by rw [← u1, ← u3]; omega) 1
  have hfa := redTo_full (p := p) (R := n) (f := augF n f) (k := n) (by rw [← u3]; omega) n
  have hp := fieldP_pos hF
  have hau : inF p n (n + n) (augF n f) := inF_bes hin (inF_id om)
  have hrr := redTo_rr hF hau n om
  have hnot : ¬ (n : Int) ∈ (redTo p n (sysF n f (unitV n k)) (n + 1)).2 := by
    rw [hfull, ← u1]
    intro hm
    have := redTo_piv n _ hm
    omega
  refine ⟨hnot, ?_⟩
  rw [solX, if_neg hnot, hfull, ← u1, ← u3, h]
  have hpv := full_piv hrr (by rw [← u3]; exact h)
  rw [← u3] at hpv
  refine mkv_ext (fun i hi => ?_)
  have key : ∀ m, m ≤ n → ∀ q, q < m → solG (redTo p n (sysF n f (unitV n k)) n).1 n (redTo p n f n).2 m q = (redTo p n (sysF n f (unitV n k)) n).1 q n := fun m => by
    induction m with
    | zero => intro _ q hq; omega
    | succ m ih =>
      intro hm q hq
      have e := hpv m om
      simp only [solG, e, Int.toNat_natCast]
      by_cases hqm : q = m
      · rw [if_pos hqm, hqm]
      · rw [if_neg hqm]; exact ih om q om
  rw [key n (Nat.le_refl _) i hi, ← u2 i hi, invF, hfa]
def invTo (p : Int) (n : Nat) (f : Nat → Nat → Int) (k i : Nat) : Nat → Nat → Int := fun a b => if b < k ∨ (b = k ∧ a < i) then invF p n f a b else 0
theorem invTo_next {p : Int} {n k i : Nat} {f : Nat → Nat → Int} : upd (invTo p n f k i) i k (invF p n f i k) = invTo p n f k (i + 1) := by
  funext a b
  unfold upd invTo
  grind
theorem invTo_col {p : Int} {n k : Nat} {f : Nat → Nat → Int} : mk n n (invTo p n f k n) = mk n n (invTo p n f (k + 1) 0) := mk_ext (fun a b ha hb => by
  unfold invTo
  grind)
theorem invTo_end {p : Int} {n : Nat} {f : Nat → Nat → Int} : mk n n (invTo p n f n 0) = mk n n (invF p n f) := mk_ext (fun a b ha hb => by
  unfold invTo
  grind)
theorem inP_unit {p : Int} {n k : Nat} (hp : 2 ≤ p) : InP 0 (p - 1) (unitV n k) := fun x hx => by
  simp only [unitV, mkv, List.mem_map] at hx
  obtain ⟨q, _, rfl⟩ := hx
  split <;> omega
def ivM (p : Int) (R C : Nat) (f : Nat → Nat → Int) : Mat := if R = C ∧ (redTo p R f C).2.length = R then ((R : Int), (R : Int), mk R R (invF p R f)) else mat0
theorem l4Inverse_ok {w : World} {p : Int} {R C : Nat} {f : Nat → Nat → Int} {u : Value} (hr : Rd w (iT (mk R C f)) u) (hF : FieldP p) (hR : R ≤ 64) (hC : C ≤ 64) (hin : inF p R C f) :
    Does Tryz.prog 160 [iV p, .agg #[iV R, iV C, u]] w (GivesMB (ivM p R C f) (decide (R = C ∧ (redTo p R f C).2.length = R))) := by
  have hp := fieldP_pos hF
  have hRC := rc_le (R := R) (C := R) om om
  by_cases hsq : R = C
  · subst hsq
    obtain ⟨am, cm, rfl, hsm, _⟩ := rd_mk hr
    have hle := (redTo_in (p := p) om hin R).2
    have e1 : decide (R = R ∧ (redTo p R f R).2.length = R) = decide ((redTo p R f R).2.length = R) := by simp
    rw [e1]
    refine fn_enter Tryz.func160 rfl Tryz.ntmps160 rfl ?_
    repeat' (first | (show oL; first | refine sAs rfl rfl ?_ | refine sFd tabs rfl rfl rfl rfl ?_ | (show oA (.load _ _); first | refine sLd 1 tabs rfl rfl rfl rfl rfl ?_ | refine sLd 3 tabs rfl rfl rfl rfl rfl ?_) | (show oA (.binOp _ _ _ _ _); refine st_y (y_neq rfl rfl) rfl ?_) | (show oA (.call _); (refine m_call (ent_of Tryz.func172 kr rfl) rfl rfl (fun w c => l3Zero_ok (R := R) (C := R) om om) ?_; rintro v H' ⟨a, c, rfl, hs, rfl⟩)) | (show oA (.store _ _ _); refine m_storeb 0 tabs rfl rfl rfl rfl rfl rfl rfl ?_) | (show oA (.box _ _); refine m_box rfl rfl (fun b3 hb3 => ?_)) | (show oA (.alloc _); refine m_alloc tabs rfl rfl (fun b6 hb6 => ?_))) | refine xNt ?_ | (show oC; first | refine c_seq ?_ | refine c_region ?_ | refine c_skip (x_then ?_) | refine c_block ?_ | refine c_iff rfl nN ?_))
    rename_i b4 hb4
    refine c_loopH (α := Nat × (Nat → Nat → Int)) [0, 3, 4, 6] (fun s => [(7, .int .i64 s.1)]) (fun s => s.1 ≤ R ∧ (∀ j, j < s.1 → ¬ (R : Int) ∈ (redTo p R (sysF R f (unitV R j)) (R + 1)).2) ∧ ((redTo p R f R).2.length = R → mk R R s.2 = mk R R (invTo p R f s.1 0))) (fun s => [.blk b6 #[iV R, iV R, .slice a (R * R) c] 47, .own (iT (mk R R s.2)) (.slice a (R * R) c), .blk b4 #[iV 0, iV 0, .slice none 0 0] 47, .blk b3 #[iV R, iV R, .slice am (R * R) cm] 47]) (fun s => R - s.1) (0, fun _ _ => 0) rfl sB ?_ ?_ ?_
    · exact ⟨Nat.zero_le _, fun j hj => absurd hj (by simp), fun _ => mk_ext (fun a b _ _ => by simp [invTo])⟩
    · exact fun w' c' => c'
    · rintro ⟨k, g⟩ ⟨hk, hpre, hgi⟩
      simp only at hk hpre hgi ⊢
      by_cases hkR : k < R
      · repeat' (first | (show oL; first | refine sMv rfl rfl ?_ | refine sAs rfl rfl ?_ | refine sFd tabs rfl rfl rfl rfl ?_ | (show oA (.load _ _); first | refine sLd 3 tabs rfl rfl rfl rfl rfl ?_ | refine sLb 4 tabs rfl rfl rfl rfl rfl ?_) | (show oA (.indexAddr _ _ _); refine st_y (y_ix1 tabs (j := k) rfl rfl rfl .mk rfl hkR) rfl ?_) | refine sLs rfl rfl rfl ?_ | (show oA (.unOp _ _ _); refine st_y (y_not rfl) rfl ?_) | (show oA (.call _); (refine m_call (ent_of Tryz.func211 kr rfl) rfl rfl (fun w c => l4Solve_ok (v := unitV R k) (c.rd hr) (by have := c.own_rd (i := 0) rfl; simp only [mkv_zero, mkv_set] at this; exact this) hF om om hin (inP_unit hp.1) (by simp [unitV])) ?_; rintro v H' ⟨ax, cx, rfl, hsx, rfl⟩)) | (show oA (.extract _ _); refine st_y (y_ext rfl rfl) rfl ?_) | (show oA (.store _ _ _); refine m_storeo 0 tabs rfl rfl rfl rfl (by rw [List.length_replicate]; exact hkR) ?_) | (show oA (.makeSlice _ _ _); refine m_maken tabs (m := R) rfl rfl rfl rfl om rfl (fun gg hgg => ?_))) | refine xNt ?_ | (show oC; first | refine c_seq ?_ | refine c_region ?_ | refine c_skip (x_then ?_) | refine c_block ?_ | refine c_ift rfl aO ?_))
        by_cases hB : (R : Int) ∈ (redTo p R (sysF R f (unitV R k)) (R + 1)).2
        · have eB : solB p R R f (unitV R k) = false := by rw [solB, decide_eq_true hB]; rfl
          have hno : ¬ (R = R ∧ (redTo p R f R).2.length = R) := fun h => (full_unit hF hin h.2 hkR).1 hB
          rw [eB, ivM, if_neg hno, decide_eq_false (fun h => hno ⟨rfl, h⟩)]
          repeat' (first | (show oL; first | refine sAs rfl rfl ?_ | (show oA (.store _ _ _); refine m_storeb 4 tabs rfl rfl rfl rfl rfl rfl rfl ?_) | (show oA (.build _ _); refine st_y (y_bld0 bld_mat0) rfl ?_)) | refine xNt ?_ | (show oC; first | refine c_seq ?_ | refine c_region ?_ | refine c_ret ?_ | refine c_true rfl ?_) | (show AT _ _ _ _; first | refine x_then_ret ?_ | refine x_blk_ret ?_))
          exact x_ret2 Tryz.results160 (res_cellb 4 tabs rfl rfl rfl rfl) (res_tmp rfl) (fun w' c' => ⟨_, _, rfl, ⟨none, 0, rfl, .inl rfl, rfl⟩, Hp.nilp _ _ (c'.sub (List.nil_sublist _))⟩)
        · have eB : solB p R R f (unitV R k) = true := by rw [solB, decide_eq_false hB]; rfl
          have hxl : (solX p R R f (unitV R k)).length = R := by rw [solX, if_neg hB, mkv_length]
          have hxe : (redTo p R f R).2.length = R → ∀ i, i < R → (solX p R R f (unitV R k)).getD i 0 = invF p R f i k := fun h i hi => by rw [(full_unit hF hin h hkR).2, mkv_get hi]
          rw [eB]
          repeat' (first | (show oL; first | refine sAs rfl rfl ?_) | refine xNt ?_ | (show oC; first | refine c_seq ?_ | refine c_region ?_ | refine c_skip (x_then ?_) | refine c_block ?_ | refine c_false rfl ?_))
          generalize solX p R R f (unitV R k) = X at *
          refine c_loopH (α := Nat × (Nat → Nat → Int)) [0, 3, 4, 6, 7, 9] (fun s => [(11, .int .i64 s.1)]) (fun s => s.1 ≤ R ∧ ((redTo p R f R).2.length = R → mk R R s.2 = mk R R (invTo p R f k s.1))) (fun s => [.own (iT X) (.slice ax X.length cx), .blk b6 #[iV R, iV R, .slice a (R * R) c] 47, .own (iT (mk R R s.2)) (.slice a (R * R) c), .blk b4 #[iV 0, iV 0, .slice none 0 0] 47, .blk b3 #[iV R, iV R, .slice am (R * R) cm] 47]) (fun s => R - s.1) (0, g) rfl sB ?_ ?_ ?_
          · exact ⟨Nat.zero_le _, hgi⟩
          · exact fun w' c' => c'.sub sL
          · rintro ⟨i, g2⟩ ⟨hi, hgi2⟩
            simp only at hi hgi2 ⊢
            by_cases hiR : i < R
            · have hcl := cell_lt hiR hkR
              have hiX : i < X.length := by omega
              repeat' (first | (show oL; first | refine sMv rfl rfl ?_ | refine sAs rfl rfl ?_ | refine sFd tabs rfl rfl rfl rfl ?_ | refine sLd 4 tabs rfl rfl rfl rfl rfl ?_ | (show oA (.indexAddr _ _ _); refine st_y (y_ix1 tabs (j := i * R + k) rfl rfl rfl hs rfl hcl) rfl ?_) | (show oA (.binOp _ _ _ _ _); first | refine sAd rfl rfl om rfl ?_ | refine sLs rfl rfl rfl ?_) | (show oA (.store _ _ _); refine m_storeo 2 tabs rfl rfl rfl rfl (by rw [mk_length]; exact hcl) ?_)) | (show oN; first | refine c_nil (x_then ?_) | refine c_nil ?_) | (show oC; first | refine c_tailR 12 kr kr kr kr kr kr (fun _ c => Hp.drew c) ?_ | refine c_seq ?_ | refine c_region ?_ | refine c_skip (x_then ?_) | refine c_block ?_ | refine c_ift rfl aO ?_) | (show QT _ _ _ _ _ _ (_ :: _); first | refine qMv rfl rfl ?_ | refine qFd tabs rfl rfl rfl rfl ?_ | (show qA (.load _ _); first | refine qLd 4 tabs rfl rfl rfl rfl rfl ?_ | refine q_y (y_load tabs rfl rfl (hc_own 0 rfl hiX)) rfl ?_ | refine qLd 1 tabs rfl rfl rfl rfl rfl ?_) | (show qA (.indexAddr _ _ _); refine q_y (y_ix1 tabs (j := i) rfl rfl rfl hsx rfl hiX) rfl ?_) | (show qA (.binOp _ _ _ _ _); first | refine q_y (y_muln rfl rfl rfl rfl om) rfl ?_ | refine q_y (y_addn (b := k) rfl rfl rfl rfl om) rfl ?_)) | (show QT _ _ _ _ _ _ []; refine q_nil ?_) | (show AT _ _ _ _; first | refine x_then ?_ | refine x_blk ?_))
              refine x_nx (i + 1, upd g2 i k (X.getD i 0)) sB ⟨by simp only; omega, fun h => ?_⟩ (fun w' c' => ?_) (by simp only; omega)
              · rw [← mk_set hiR hkR, hgi2 h, mk_set hiR hkR, hxe h i hiR, invTo_next]
              · simp only [List.set_cons_succ, List.set_cons_zero] at c'
                rw [mk_set hiR hkR] at c'
                exact c'
            · have : i = R := by omega
              subst this
              repeat' (first | (show oL; first | refine sMv rfl rfl ?_ | refine sAs rfl rfl ?_ | refine sFd tabs rfl rfl rfl rfl ?_ | refine sLd 4 tabs rfl rfl rfl rfl rfl ?_ | (show oA (.binOp _ _ _ _ _); first | refine sAd rfl rfl om rfl ?_ | refine sLs rfl rfl rfl ?_)) | refine xNt ?_ | (show oC; first | refine c_seq ?_ | refine c_region ?_ | refine c_exit ?_ | refine c_iff rfl nN ?_) | (show AT _ _ _ _; first | refine x_then ?_ | refine x_then_exit ?_ | refine x_blk_exit rfl ?_ | refine x_blk ?_))
              refine x_nx (k + 1, g2) sB ⟨by simp only; omega, fun j hj => ?_, fun h => ?_⟩ (fun w' c' => c'.sub sL) (by simp only; omega)
              · by_cases hjk : j = k
                · subst hjk; exact hB
                · exact hpre j (by simp only at hj; omega)
              · simp only
                rw [hgi2 h, invTo_col]
      · have : k = R := by omega
        subst this
        have hfull : (redTo p k f k).2.length = k := Decidable.byContradiction (fun hn => by
          obtain ⟨q, hq, hm⟩ := sing_unit hF hin om
          exact hpre q hq hm)
        rw [ivM, if_pos ⟨rfl, hfull⟩, decide_eq_true hfull, ← invTo_end, ← hgi hfull]
        repeat' (first | (show oL; first | refine sMv rfl rfl ?_ | refine sAs rfl rfl ?_ | refine sFd tabs rfl rfl rfl rfl ?_ | (show oA (.load _ _); first | refine sLd 3 tabs rfl rfl rfl rfl rfl ?_ | refine sLb 0 tabs rfl rfl rfl rfl rfl ?_) | refine sLs rfl rfl rfl ?_ | (show oA (.store _ _ _); refine m_storeb 2 tabs rfl rfl rfl rfl rfl rfl rfl ?_)) | refine xNt ?_ | (show oC; first | refine c_seq ?_ | refine c_region ?_ | refine c_ret ?_ | refine c_exit ?_ | refine c_iff rfl nN ?_) | (show AT _ _ _ _; first | refine x_then ?_ | refine x_then_exit ?_ | refine x_blk_exit rfl ?_))
        exact x_ret2 Tryz.results160 (res_cellb 2 tabs rfl rfl rfl rfl) (res_tmp rfl) (fun w' c' => ⟨.tuple #[.agg #[iV k, iV k, .slice a (k * k) c], .bool true], [.own (iT (mk k k g)) (.slice a (k * k) c)], rfl, ⟨a, c, by simp, by simpa using hs, by simp⟩, c'.sub (.cons _ (.cons_cons _ (List.nil_sublist _)))⟩)
  · rw [ivM, if_neg (fun h => hsq h.1), decide_eq_false (fun h => hsq h.1)]
    obtain ⟨am, cm, rfl, hsm, _⟩ := rd_mk hr
    refine fn_enter Tryz.func160 rfl Tryz.ntmps160 rfl ?_
    repeat' (first | (show oL; first | refine sAs rfl rfl ?_ | refine sFd tabs rfl rfl rfl rfl ?_ | (show oA (.load _ _); first | refine sLd 1 tabs rfl rfl rfl rfl rfl ?_ | refine sLd 3 tabs rfl rfl rfl rfl rfl ?_) | (show oA (.binOp _ _ _ _ _); refine st_y (y_neq rfl rfl) rfl ?_) | (show oA (.call _); (refine m_call (ent_of Tryz.func172 kr rfl) rfl rfl (fun w c => l3Zero_ok (R := R) (C := R) om om) ?_; rintro v H' ⟨a, c, rfl, hs, rfl⟩)) | (show oA (.store _ _ _); first | refine m_storeb 0 tabs rfl rfl rfl rfl rfl rfl rfl ?_ | refine m_storeb 2 tabs rfl rfl rfl rfl rfl rfl rfl ?_) | (show oA (.box _ _); refine m_box rfl rfl (fun b3 hb3 => ?_)) | (show oA (.alloc _); refine m_alloc tabs rfl rfl (fun b6 hb6 => ?_)) | (show oA (.build _ _); refine st_y (y_bld0 bld_mat0) rfl ?_)) | refine xNt ?_ | (show oC; first | refine c_seq ?_ | refine c_region ?_ | refine c_ret ?_ | refine c_ift rfl aO ?_) | (show AT _ _ _ _; refine x_then_ret ?_))
    all_goals first | exact absurd om hsq | skip
    exact x_ret2 Tryz.results160 (res_cellb 2 tabs rfl rfl rfl rfl) (res_tmp rfl) (fun w' c' => ⟨_, _, rfl, ⟨none, 0, rfl, .inl rfl, rfl⟩, Hp.nilp _ _ (c'.sub (List.nil_sublist _))⟩)
end Go.Proofs.YtijjkfbkihgfgaaGreat
