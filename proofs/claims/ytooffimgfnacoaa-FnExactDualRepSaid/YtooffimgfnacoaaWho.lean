import Derived.Test.YtooffimgfnacoaaWth
import Derived.Test.YtooffimgfnacoaaMul
import Derived.Test.YtooffimgfnacoaaZsb
namespace Go.Proofs.Ytooffimgfnacoaa
open Go.Lg Go.Proofs Go.RowKit
attribute [local irreducible] Code.wp wpList bodyPost Exit.then Exit.inBlock Hp Again Calls Y AT ResV QT Qn QI wpAny wpAnyQ
set_option maxRecDepth 20000
set_option maxHeartbeats 4000000

/-! ### whole spaces -/
theorem rows_ok {w : World} {R C : Nat} {f : Nat → Nat → Int} {u : Value} (hr : Rd w (iT (mk R C f)) u) (hR : R ≤ 64) (hC : C ≤ 64) : Does Try.prog 127 [.agg #[iV R, iV C, u]] w (GivesRows (rowL C f R)) := by
  obtain ⟨a, c, rfl, hs, hc⟩ := rd_mk hr
  refine fn_enter Try.func127 rfl Try.ntmps127 rfl ?_
  repeat' (first
    | (show AT _ _ _ (wpList _ _ _ (_ :: _)); first
       | (show AT _ _ _ (wpList _ _ _ (⟨_, Op.move _, _, _, _, _⟩ :: _)); refine st_y (y_move rfl) rfl ?_)
       | (show AT _ _ _ (wpList _ _ _ (⟨_, Op.assign _, _, _, _, _⟩ :: _)); refine st_y (y_assign rfl) rfl ?_)
       | (show AT _ _ _ (wpList _ _ _ (⟨_, Op.fieldAddr _ _ _, _, _, _, _⟩ :: _)); refine st_y (y_field tabs rfl rfl rfl) rfl ?_)
       | (show AT _ _ _ (wpList _ _ _ (⟨_, Op.load _ _, _, _, _, _⟩ :: _)); refine st_y (y_load tabs rfl rfl (hc_blk 0 rfl rfl)) rfl ?_)
       | (show AT _ _ _ (wpList _ _ _ (⟨_, Op.box _ _, _, _, _, _⟩ :: _)); refine m_box rfl rfl (fun b hb => ?_)))
    | (show AT _ _ _ (wpList _ _ _ []); refine c_nil (x_then ?_))
    | (show AT _ _ _ (Code.wp _ _ _); first | refine c_seq ?_ | refine c_region ?_ | refine c_block ?_))
  refine c_loopH (α := Nat × Option Addr × Nat) [1, 6] (fun q => [(3, .slice q.2.1 q.1 q.2.2), (7, .int .i64 q.1)]) (fun q => q.1 ≤ R) (fun q => [.own (rowsT 38 (rowL C f q.1)) (.slice q.2.1 q.1 q.2.2), .blk b #[iV R, iV C, .slice a (R * C) c] 80]) (fun q => R - q.1) (0, none, 0) rfl (by repeat' (first | exact Sub.nil | refine Sub.cons rfl ?_ | refine Sub.consi rfl (by omega) ?_)) ?_ ?_ ?_
  · exact Nat.zero_le _
  · exact fun w' c' => Hp.nilp _ _ c'
  · rintro ⟨i, al, cl⟩ hi
    simp only at hi ⊢
    by_cases hiR : i < R
    · repeat' (first
        | (show AT _ _ _ (wpList _ _ _ (_ :: _)); first
           | (show AT _ _ _ (wpList _ _ _ (⟨_, Op.move _, _, _, _, _⟩ :: _)); refine st_y (y_move rfl) rfl ?_)
           | (show AT _ _ _ (wpList _ _ _ (⟨_, Op.assign _, _, _, _, _⟩ :: _)); refine st_y (y_assign rfl) rfl ?_)
           | (show AT _ _ _ (wpList _ _ _ (⟨_, Op.load _ _, _, _, _, _⟩ :: _)); refine st_y (y_loadb 1 tabs rfl rfl rfl rfl) rfl ?_)
           | (show AT _ _ _ (wpList _ _ _ (⟨_, Op.binOp _ _ _ _ _, _, _, _, _⟩ :: _)); first | refine st_y (y_add rfl rfl (by omega)) rfl ?_ | refine st_y (y_lss rfl rfl) rfl ?_)
           | (show AT _ _ _ (wpList _ _ _ (⟨_, Op.call _, _, _, _, _⟩ :: _)); first | (refine m_call (ent_of Try.func158 (by kernel_rfl) rfl) rfl rfl (fun w c => rowg_ok (by omega) (by omega) hiR hc) ?_; rintro v H' ⟨rfl, rfl⟩) | (refine m_call (ent_of Try.func125 (by kernel_rfl) rfl) rfl rfl (fun w c => Clone_ok (row_rds (c.rd hr) hiR) (by rw [mkv_length]; omega)) ?_; rw [mkv_length]; rintro v H' ⟨az, cz, rfl, hsz, rfl⟩) | refine m_push1 [] 0 0 tabs (m' := i) rfl rfl rfl rfl rfl rfl rfl (by simp [rowT_map]) (by simp [rowT_map]; omega) (by decide) rfl rfl (fun a4 c4 => ?_))
           | (show AT _ _ _ (wpList _ _ _ (⟨_, Op.buildSlice _ _ _, _, _, _, _⟩ :: _)); refine m_build1 tabs (us := [.slice az C cz]) rfl rfl rfl rfl (by decide) rfl (fun g2 hg2 => ?_)))
        | (show AT _ _ _ (wpList _ _ _ []); first | refine c_nil (x_then ?_) | refine c_nil ?_)
        | (show AT _ _ _ (Code.wp _ _ _); first | refine c_seq ?_ | refine c_region ?_ | refine c_skip (x_then ?_) | refine c_block ?_ | refine c_ift rfl (by first | assumption | omega) ?_)
        | (show AT _ _ _ _; first | refine x_then ?_ | refine x_blk ?_))
      refine x_nx (i + 1, a4, c4) (by repeat' (first | exact Sub.nil | refine Sub.cons rfl ?_ | refine Sub.consi rfl (by omega) ?_)) (by simp only; omega) (fun w' c' => ?_) (by simp only; omega)
      have e0 : (rowL C f i).flatMap rowT ++ (List.map T.c [] ++ [iT (mkv C (f i))]) = (rowL C f (i + 1)).flatMap rowT := by rw [rowL_next, List.flatMap_append]; rfl
      rw [e0] at c'
      exact c'
    · have : i = R := by omega
      subst this
      refine AT.fact (rows_sl 0 rfl) (fun hsl => ?_)
      rw [rowL_length] at hsl
      repeat' (first
        | (show AT _ _ _ (wpList _ _ _ (_ :: _)); first
           | (show AT _ _ _ (wpList _ _ _ (⟨_, Op.move _, _, _, _, _⟩ :: _)); refine st_y (y_move rfl) rfl ?_)
           | (show AT _ _ _ (wpList _ _ _ (⟨_, Op.assign _, _, _, _, _⟩ :: _)); refine st_y (y_assign rfl) rfl ?_)
           | (show AT _ _ _ (wpList _ _ _ (⟨_, Op.binOp _ _ _ _ _, _, _, _, _⟩ :: _)); refine st_y (y_lss rfl rfl) rfl ?_))
        | (show AT _ _ _ (wpList _ _ _ []); refine c_nil (x_then ?_))
        | (show AT _ _ _ (Code.wp _ _ _); first | refine c_seq ?_ | refine c_region ?_ | refine c_ret ?_ | refine c_exit ?_ | refine c_iff rfl (by first | assumption | exact not_not_intro (by assumption) | omega) ?_)
        | (show AT _ _ _ _; first | refine x_then ?_ | refine x_then_exit ?_ | refine x_blk_exit rfl ?_))
      exact x_ret1 Try.results127 (res_tmp rfl) (fun w' c' => ⟨_, _, rfl, ⟨al, cl, by rw [rowL_length], by rw [rowL_length]; exact hsl, by rw [rowL_length]⟩, c'.sub (.cons_cons _ (List.nil_sublist _))⟩)
theorem fullSpace_ok {w : World} {n : Nat} (hn : n ≤ 64) : Does Try.prog 147 [iV n] w (GivesSp (↑n, rowL n idF n)) := by
  refine fn_enter Try.func147 rfl Try.ntmps147 rfl ?_
  repeat' (first
    | (show AT _ _ _ (wpList _ _ _ (_ :: _)); first
       | (show AT _ _ _ (wpList _ _ _ (⟨_, Op.move _, _, _, _, _⟩ :: _)); refine st_y (y_move rfl) rfl ?_)
       | (show AT _ _ _ (wpList _ _ _ (⟨_, Op.call _, _, _, _, _⟩ :: _)); first | (refine m_call (ent_of Try.func183 (by kernel_rfl) rfl) rfl rfl (fun w c => identity_ok (by omega)) ?_; rintro v H' ⟨a0, c0, rfl, hs0, rfl⟩) | (refine m_call (ent_of Try.func127 (by kernel_rfl) rfl) rfl rfl (fun w c => rows_ok (c.own_rd (i := 0) rfl) hn hn) ?_; rintro v H' ⟨a, c, rfl, hs, rfl⟩))
       | (show AT _ _ _ (wpList _ _ _ (⟨_, Op.store _ _ _, _, _, _, _⟩ :: _)); refine m_storeb 2 tabs rfl rfl rfl rfl rfl rfl rfl ?_)
       | (show AT _ _ _ (wpList _ _ _ (⟨_, Op.alloc _, _, _, _, _⟩ :: _)); refine m_alloc tabs rfl rfl (fun b5 hb5 => ?_))
       | (show AT _ _ _ (wpList _ _ _ (⟨_, Op.build _ _, _, _, _, _⟩ :: _)); refine st_y (y_bld2 (bld_sp _ _ _ _) rfl rfl) rfl ?_))
    | (show AT _ _ _ (wpList _ _ _ []); refine c_nil (x_then ?_))
    | (show AT _ _ _ (Code.wp _ _ _); first | refine c_seq ?_ | refine c_region ?_ | refine c_ret ?_))
  exact x_ret1 Try.results147 (res_cellb 2 tabs rfl rfl rfl rfl) (fun w' c' => ⟨_, _, rfl, ⟨a, c, rfl, hs, rfl⟩, c'.sub (.cons_cons _ (List.nil_sublist _))⟩)
theorem inF_idn {p : Int} {n : Nat} (hp : 2 ≤ p) : inF p n n idF := fun i j _ _ => by unfold idF; split <;> omega
theorem rr_id {n : Nat} : RR n idF ((List.range n).map (fun (i : Nat) => (i : Int))) n := by
  have hg : ∀ t, t < n → ((List.range n).map (fun (i : Nat) => (i : Int))).getD t 0 = t := fun t ht => by simp [List.getD, ht]
  have hl : ((List.range n).map (fun (i : Nat) => (i : Int))).length = n := by simp
  refine ⟨by omega, fun t ht => ?_, fun t s hts hs => ?_, fun t i ht hi => ?_, fun i j hi hi2 _ => by omega, fun t j ht hj => ?_⟩
  · rw [hg t (by omega)]; omega
  · rw [hg t (by omega), hg s (by omega)]; omega
  · unfold pv; rw [hg t (by omega)]; simp [idF]
  · unfold pv at hj; rw [hg t (by omega)] at hj
    unfold idF
    rw [if_neg (by omega)]
theorem basL_id {p : Int} {n : Nat} (hF : FieldP p) : basL p n (rowL n idF n) = rowL n idF n := by
  have hp := fieldP_pos hF
  have hfe : ∀ i j, i < n → j < n → rowsF (rowL n idF n) i j = idF i j := fun i j hi hj => by
    unfold rowsF rowL
    have : ((List.range n).map (fun i => mkv n (idF i))).getD i [] = mkv n (idF i) := by simp [List.getD, hi]
    rw [this, mkv_get hj]
  have hin : inF p n n (rowsF (rowL n idF n)) := fun i j hi hj => by rw [hfe i j hi hj]; exact inF_idn hp.1 i j hi hj
  have r1 := redTo_rr hF hin n (Nat.le_refl _)
  have s1 := redTo_spn hF hin n (Nat.le_refl _)
  have i1 := (redTo_in (by omega) hin n).1
  have same : ∀ i, i < n → Spn p n n idF (rowsF (rowL n idF n) i) := fun i hi => (Spn.row hi).congr (fun j hj => by rw [hfe i j hi hj, Int.sub_self]; exact Int.dvd_zero p)
  have same' : ∀ i, i < n → Spn p n n (rowsF (rowL n idF n)) (idF i) := fun i hi => (Spn.row hi).congr (fun j hj => by rw [hfe i j hi hj, Int.sub_self]; exact Int.dvd_zero p)
  have hll : ((List.range n).map (fun (i : Nat) => (i : Int))).length = n := by simp
  have u1 := rr_sub hp.1 r1 rr_id i1 (inF_idn hp.1) (fun i hi => (s1.1 i (by have := r1.1; omega)).mono same)
  have u2 := rr_sub hp.1 rr_id r1 (inF_idn hp.1) i1 (fun i hi => (same' i (by omega)).mono s1.2)
  rw [hll] at u1 u2
  have hlen : (redTo p n (rowsF (rowL n idF n)) n).2.length = n := Nat.le_antisymm u1.1 u2.1
  unfold basL
  rw [rowL_length, hlen]
  exact rowL_congr (fun i j hi hj => (u1.2 hlen).2 i j (by omega) hj)
theorem rowsP_id {p : Int} {n : Nat} (hp : 2 ≤ p) : RowsP p n (rowL n idF n) := fun xs hx => by
  simp only [rowL, List.mem_map, List.mem_range] at hx
  obtain ⟨i, hi, rfl⟩ := hx
  refine ⟨mkv_length, fun x hx => ?_⟩
  simp only [mkv, List.mem_map, List.mem_range] at hx
  obtain ⟨j, hj, rfl⟩ := hx
  have := inF_idn hp (n := n) i j hi hj
  omega
theorem mk_id {n : Nat} : mk n n (rowsF (rowL n idF n)) = mk n n idF := mk_ext (fun i j hi hj => by
  unfold rowsF rowL
  have : ((List.range n).map (fun i => mkv n (idF i))).getD i [] = mkv n (idF i) := by simp [List.getD, hi]
  rw [this, mkv_get hj])
theorem l5BasisId_ok {w : World} {p : Int} {n : Nat} {u : Value} (hr : Rd w (iT (mk n n idF)) u) (hF : FieldP p) (hn : n ≤ 64) : Does Try.prog 92 [iV p, .agg #[iV n, iV n, u]] w (GivesRows (rowL n idF n)) := by
  have h := l5Basis_ok (w := w) (p := p) (C := n) (rs := rowL n idF n) (u := u) (by rw [rowL_length, mk_id]; exact hr) hF (rowsP_id (fieldP_pos hF).1) (by rw [rowL_length]; exact hn) hn
  rw [rowL_length, basL_id hF] at h
  exact h
def fsN (d : List Int) : Nat → List Sp
  | 0 => []
  | n + 1 => fsN d n ++ [(d.getD n 0, rowL (d.getD n 0).toNat idF (d.getD n 0).toNat)]
theorem fsN_len (d : List Int) : ∀ n, (fsN d n).length = n
  | 0 => rfl
  | n + 1 => by rw [fsN, List.length_append, fsN_len d n]; rfl
theorem fsN_next {d : List Int} {i n : Nat} (h : d.getD i 0 = n) : (fsN d i).flatMap spT ++ (List.map T.c [iV n] ++ [rowsT 38 (rowL n idF n)]) = (fsN d (i + 1)).flatMap spT := by
  rw [fsN, List.flatMap_append, h]; rfl
def fsL (r : Rp) : List Sp := if RepP r then fsN r.d r.d.length else []
theorem fsL_sz (r : Rp) : szL (fun s : Sp => szRows s.2) (fsL r) ≤ 256 := by
  have key : ∀ (d : List Int), (∀ n, 0 ≤ d.getD n 0 ∧ d.getD n 0 ≤ 4) → ∀ n, ((fsN d n).map (fun s : Sp => szRows s.2)).sum ≤ 20 * n := fun d hd n => by
    induction n with
    | zero => simp [fsN]
    | succ n ih =>
      rw [fsN, List.map_append, List.sum_append]
      have h4 := hd n
      have h5 : szRows (rowL (d.getD n 0).toNat idF (d.getD n 0).toNat) ≤ 20 := by
        rw [rowL_sz]
        have := Nat.mul_le_mul (show (d.getD n 0).toNat ≤ 4 by omega) (show (d.getD n 0).toNat ≤ 4 by omega)
        omega
      simp only [List.map_cons, List.map_nil, List.sum_cons, List.sum_nil]
      omega
  unfold fsL
  split
  · rename_i h
    have h1 := key r.d (RepP.dd h).1 r.d.length
    have h2 := (RepP.dd h).2
    unfold szL
    rw [fsN_len]
    omega
  · simp [szL]
theorem impl_WholeSub_ok {w : World} {r : Rp} {e : Nat} {u0 u1 u2 u3 : Value} (h0 : Rd w (iT r.q.2.1) u0) (h1 : Rd w (iT r.q.2.2) u1) (h2 : Rd w (iT r.d) u2) (h3 : Rd w (matsT e r.m) u3) :
    Does Try.prog 79 [.agg #[iV r.p, iV r.q.1, u0, u1, u2, u3]] w (GivesSpsB (fsL r) (decide (RepP r))) := by
  obtain ⟨a2, c2, rfl, hs2, hc2, hd2, hg2⟩ := h2.ints
  by_cases hR : RepP r
  · have hdd := RepP.dd hR
    have hd5 := hdd.2
    rw [fsL, if_pos hR, decide_eq_true hR]
    refine fn_enter Try.func79 rfl Try.ntmps79 rfl ?_
    repeat' (first
      | (show AT _ _ _ (wpList _ _ _ (_ :: _)); first
         | (show AT _ _ _ (wpList _ _ _ (⟨_, Op.move _, _, _, _, _⟩ :: _)); refine st_y (y_move rfl) rfl ?_)
         | (show AT _ _ _ (wpList _ _ _ (⟨_, Op.assign _, _, _, _, _⟩ :: _)); refine st_y (y_assign rfl) rfl ?_)
         | (show AT _ _ _ (wpList _ _ _ (⟨_, Op.fieldAddr _ _ _, _, _, _, _⟩ :: _)); refine st_y (y_field tabs rfl rfl rfl) rfl ?_)
         | (show AT _ _ _ (wpList _ _ _ (⟨_, Op.load _ _, _, _, _, _⟩ :: _)); first | refine st_y (y_load tabs rfl rfl (hc_blk 0 rfl rfl)) rfl ?_ | refine st_y (y_loadb 0 tabs rfl rfl rfl rfl) rfl ?_)
         | (show AT _ _ _ (wpList _ _ _ (⟨_, Op.unOp _ _ _, _, _, _, _⟩ :: _)); refine st_y (y_notd rfl) rfl ?_)
         | (show AT _ _ _ (wpList _ _ _ (⟨_, Op.call _, _, _, _, _⟩ :: _)); first | (refine m_call (ent_of Try.func105 (by kernel_rfl) rfl) rfl rfl (fun w c => impl_IsRep_ok (r := r) (c.rd h0) (c.rd h1) (c.rd h2) (c.rd h3)) ?_; rintro v H' ⟨rfl, rfl⟩) | refine st_y (y_len tabs rfl rfl) rfl ?_)
         | (show AT _ _ _ (wpList _ _ _ (⟨_, Op.box _ _, _, _, _, _⟩ :: _)); refine m_box rfl rfl (fun b hb => ?_)))
      | (show AT _ _ _ (wpList _ _ _ []); refine c_nil (x_then ?_))
      | (show AT _ _ _ (Code.wp _ _ _); first | refine c_seq ?_ | refine c_region ?_ | refine c_skip (x_then ?_) | refine c_block ?_ | refine c_iff rfl (by first | assumption | exact not_not_intro (by assumption) | omega) ?_))
    refine c_loopH (α := Nat × Option Addr × Nat) [11, 12] (fun s => [(4, .slice s.2.1 s.1 s.2.2), (13, .int .i64 s.1)]) (fun s => s.1 ≤ r.d.length) (fun s => [.own (spsT 25 (fsN r.d s.1)) (.slice s.2.1 s.1 s.2.2), .blk b #[iV r.p, iV r.q.1, u0, u1, .slice a2 r.d.length c2, u3] 50]) (fun s => r.d.length - s.1) (0, none, 0) rfl (by repeat' (first | exact Sub.nil | refine Sub.cons rfl ?_ | refine Sub.consi rfl (by omega) ?_)) ?_ ?_ ?_
    · exact Nat.zero_le _
    · exact fun w' c' => Hp.nilp _ _ c'
    · rintro ⟨i, al, cl⟩ hi
      simp only at hi ⊢
      by_cases hin : i < r.d.length
      · have hdi := hdd.1 i
        obtain ⟨n, hn⟩ : ∃ n : Nat, r.d.getD i 0 = n := ⟨(r.d.getD i 0).toNat, by omega⟩
        have gd := hg2 i hin
        rw [hn] at gd
        repeat' (first
          | (show AT _ _ _ (wpList _ _ _ (_ :: _)); first
             | (show AT _ _ _ (wpList _ _ _ (⟨_, Op.move _, _, _, _, _⟩ :: _)); refine st_y (y_move rfl) rfl ?_)
             | (show AT _ _ _ (wpList _ _ _ (⟨_, Op.assign _, _, _, _, _⟩ :: _)); refine st_y (y_assign rfl) rfl ?_)
             | (show AT _ _ _ (wpList _ _ _ (⟨_, Op.load _ _, _, _, _, _⟩ :: _)); refine st_y (y_load tabs rfl rfl (hc_w0 gd)) rfl ?_)
             | (show AT _ _ _ (wpList _ _ _ (⟨_, Op.indexAddr _ _ _, _, _, _, _⟩ :: _)); refine st_y (y_ix1 tabs (j := i) rfl rfl rfl hs2 rfl hin) rfl ?_)
             | (show AT _ _ _ (wpList _ _ _ (⟨_, Op.binOp _ _ _ _ _, _, _, _, _⟩ :: _)); refine st_y (y_lss rfl rfl) rfl ?_)
             | (show AT _ _ _ (wpList _ _ _ (⟨_, Op.call _, _, _, _, _⟩ :: _)); (refine m_call (ent_of Try.func147 (by kernel_rfl) rfl) rfl rfl (fun w c => fullSpace_ok (n := n) (by omega)) ?_; rintro v H' ⟨a5, c5, rfl, hs5, rfl⟩)))
          | (show AT _ _ _ (wpList _ _ _ []); refine c_nil (x_then ?_))
          | (show AT _ _ _ (Code.wp _ _ _); first | refine c_seq ?_ | refine c_region ?_ | refine c_skip (x_then ?_) | refine c_block ?_ | refine c_ift rfl (by first | assumption | omega) ?_))
        simp only [rowL_length]
        repeat' (first
          | (show AT _ _ _ (wpList _ _ _ (_ :: _)); first
             | (show AT _ _ _ (wpList _ _ _ (⟨_, Op.move _, _, _, _, _⟩ :: _)); refine st_y (y_move rfl) rfl ?_)
             | (show AT _ _ _ (wpList _ _ _ (⟨_, Op.assign _, _, _, _, _⟩ :: _)); refine st_y (y_assign rfl) rfl ?_)
             | (show AT _ _ _ (wpList _ _ _ (⟨_, Op.binOp _ _ _ _ _, _, _, _, _⟩ :: _)); refine st_y (y_add rfl rfl (by omega)) rfl ?_)
             | (show AT _ _ _ (wpList _ _ _ (⟨_, Op.call _, _, _, _, _⟩ :: _)); refine m_push1 [iV n] 0 0 tabs (m' := i) rfl rfl rfl rfl rfl rfl rfl (by rw [flatMap_length spT_length, fsN_len]) (by rw [flatMap_length spT_length, fsN_len]; omega) (by decide) rfl rfl (fun a3 c3 => ?_))
             | (show AT _ _ _ (wpList _ _ _ (⟨_, Op.buildSlice _ _ _, _, _, _, _⟩ :: _)); refine m_build1 tabs (us := [iV n, .slice a5 n c5]) rfl rfl rfl rfl (by decide) rfl (fun g2 hg2 => ?_)))
          | (show AT _ _ _ (wpList _ _ _ []); first | refine c_nil (x_then ?_) | refine c_nil ?_)
          | (show AT _ _ _ (Code.wp _ _ _); refine c_region ?_)
          | (show AT _ _ _ _; first | refine x_then ?_ | refine x_blk ?_))
        refine x_nx (i + 1, a3, c3) (by repeat' (first | exact Sub.nil | refine Sub.cons rfl ?_ | refine Sub.consi rfl (by omega) ?_)) (by simp only; omega) (fun w' c' => ?_) (by simp only; omega)
        rw [fsN_next hn] at c'
        exact c'
      · have : i = r.d.length := by omega
        subst this
        refine AT.fact (sps_sl 0 rfl) (fun hsl => ?_)
        rw [fsN_len] at hsl
        repeat' (first
          | (show AT _ _ _ (wpList _ _ _ (_ :: _)); first
             | (show AT _ _ _ (wpList _ _ _ (⟨_, Op.move _, _, _, _, _⟩ :: _)); refine st_y (y_move rfl) rfl ?_)
             | (show AT _ _ _ (wpList _ _ _ (⟨_, Op.assign _, _, _, _, _⟩ :: _)); refine st_y (y_assign rfl) rfl ?_)
             | (show AT _ _ _ (wpList _ _ _ (⟨_, Op.binOp _ _ _ _ _, _, _, _, _⟩ :: _)); refine st_y (y_lss rfl rfl) rfl ?_))
          | (show AT _ _ _ (wpList _ _ _ []); refine c_nil (x_then ?_))
          | (show AT _ _ _ (Code.wp _ _ _); first | refine c_seq ?_ | refine c_region ?_ | refine c_ret ?_ | refine c_exit ?_ | refine c_iff rfl (by first | assumption | exact not_not_intro (by assumption) | omega) ?_)
          | (show AT _ _ _ _; first | refine x_then ?_ | refine x_then_exit ?_ | refine x_blk_exit rfl ?_))
        exact x_ret2 Try.results79 (res_tmp rfl) (res_tmp rfl) (fun w' c' => ⟨_, _, rfl, ⟨al, cl, by rw [fsN_len], by rw [fsN_len]; exact hsl, by rw [fsN_len]⟩, c'.sub (.cons_cons _ (List.nil_sublist _))⟩)
  · rw [fsL, if_neg hR, decide_eq_false hR]
    refine fn_enter Try.func79 rfl Try.ntmps79 rfl ?_
    repeat' (first
      | (show AT _ _ _ (wpList _ _ _ (_ :: _)); first
         | (show AT _ _ _ (wpList _ _ _ (⟨_, Op.assign _, _, _, _, _⟩ :: _)); refine st_y (y_assign rfl) rfl ?_)
         | (show AT _ _ _ (wpList _ _ _ (⟨_, Op.load _ _, _, _, _, _⟩ :: _)); refine st_y (y_loadb 0 tabs rfl rfl rfl rfl) rfl ?_)
         | (show AT _ _ _ (wpList _ _ _ (⟨_, Op.unOp _ _ _, _, _, _, _⟩ :: _)); refine st_y (y_notd rfl) rfl ?_)
         | (show AT _ _ _ (wpList _ _ _ (⟨_, Op.call _, _, _, _, _⟩ :: _)); (refine m_call (ent_of Try.func105 (by kernel_rfl) rfl) rfl rfl (fun w c => impl_IsRep_ok (r := r) (c.rd h0) (c.rd h1) (c.rd h2) (c.rd h3)) ?_; rintro v H' ⟨rfl, rfl⟩))
         | (show AT _ _ _ (wpList _ _ _ (⟨_, Op.box _ _, _, _, _, _⟩ :: _)); refine m_box rfl rfl (fun b hb => ?_)))
      | (show AT _ _ _ (wpList _ _ _ []); refine c_nil (x_then ?_))
      | (show AT _ _ _ (Code.wp _ _ _); first | refine c_seq ?_ | refine c_region ?_ | refine c_ret ?_ | refine c_ift rfl (by first | assumption | omega) ?_)
      | (show AT _ _ _ _; refine x_then_ret ?_))
    exact x_ret2 Try.results79 (res_tmp rfl) (res_tmp rfl) (fun w' c' => ⟨_, _, rfl, ⟨none, 0, rfl, .inl rfl, rfl⟩, Hp.nilp _ _ (c'.sub (List.nil_sublist _))⟩)
theorem spec_WholeSub_ok {w : World} {r : Rp} {e : Nat} {u0 u1 u2 u3 : Value} (h0 : Rd w (iT r.q.2.1) u0) (h1 : Rd w (iT r.q.2.2) u1) (h2 : Rd w (iT r.d) u2) (h3 : Rd w (matsT e r.m) u3) :
    Does Try.prog 78 [.agg #[iV r.p, iV r.q.1, u0, u1, u2, u3]] w (GivesSpsB (fsL r) (decide (RepP r))) := by
  obtain ⟨a2, c2, rfl, hs2, hc2, hd2, hg2⟩ := h2.ints
  unfold maxLen at hd2
  refine fn_enter Try.func78 rfl Try.ntmps78 rfl ?_
  repeat' (first
    | (show AT _ _ _ (wpList _ _ _ (_ :: _)); first
       | (show AT _ _ _ (wpList _ _ _ (⟨_, Op.assign _, _, _, _, _⟩ :: _)); refine st_y (y_assign rfl) rfl ?_)
       | (show AT _ _ _ (wpList _ _ _ (⟨_, Op.box _ _, _, _, _, _⟩ :: _)); refine m_box rfl rfl (fun b hb => ?_))
       | (show AT _ _ _ (wpList _ _ _ (⟨_, Op.buildSlice _ _ _, _, _, _, _⟩ :: _)); refine m_build0 tabs rfl rfl (fun g hg => ?_)))
    | (show AT _ _ _ (wpList _ _ _ []); refine c_nil (x_then ?_))
    | (show AT _ _ _ (Code.wp _ _ _); first | refine c_seq ?_ | refine c_region ?_ | refine c_block ?_))
  refine c_loopH (α := Nat × Option Addr × Nat) [1] (fun s => [(4, .slice s.2.1 s.1 s.2.2), (5, .int .i64 s.1)]) (fun s => s.1 ≤ r.d.length ∧ (s.1 = 0 ∨ RepP r)) (fun s => [.own (spsT 25 (fsN r.d s.1)) (.slice s.2.1 s.1 s.2.2), .blk b #[iV r.p, iV r.q.1, u0, u1, .slice a2 r.d.length c2, u3] 50]) (fun s => r.d.length - s.1) (0, some ⟨g, 0, none⟩, 0) rfl (by repeat' (first | exact Sub.nil | refine Sub.cons rfl ?_ | refine Sub.consi rfl (by omega) ?_)) ?_ ?_ ?_
  · exact ⟨Nat.zero_le _, .inl rfl⟩
  · exact fun w' c' => c'
  · rintro ⟨i, al, cl⟩ ⟨hi, hz0⟩
    simp only at hi hz0 ⊢
    refine AT.fact (sps_sl 0 rfl) (fun hsl => ?_)
    rw [fsN_len] at hsl
    by_cases hR : RepP r
    · have hdd := RepP.dd hR
      have hd5 := hdd.2
      have hF := hR.1
      by_cases hin : i < r.d.length
      · have hdi := hdd.1 i
        obtain ⟨n, hn⟩ : ∃ n : Nat, r.d.getD i 0 = n := ⟨(r.d.getD i 0).toNat, by omega⟩
        have gd := hg2 i hin
        rw [hn] at gd
        repeat' (first
          | (show AT _ _ _ (wpList _ _ _ (_ :: _)); first
             | (show AT _ _ _ (wpList _ _ _ (⟨_, Op.move _, _, _, _, _⟩ :: _)); refine st_y (y_move rfl) rfl ?_)
             | (show AT _ _ _ (wpList _ _ _ (⟨_, Op.fieldAddr _ _ _, _, _, _, _⟩ :: _)); refine st_y (y_field tabs rfl rfl rfl) rfl ?_)
             | (show AT _ _ _ (wpList _ _ _ (⟨_, Op.load _ _, _, _, _, _⟩ :: _)); first | refine st_y (y_loadb 1 tabs rfl rfl rfl rfl) rfl ?_ | refine st_y (y_load tabs rfl rfl (hc_blk 1 rfl rfl)) rfl ?_)
             | (show AT _ _ _ (wpList _ _ _ (⟨_, Op.binOp _ _ _ _ _, _, _, _, _⟩ :: _)); refine st_y (y_lss rfl rfl) rfl ?_)
             | (show AT _ _ _ (wpList _ _ _ (⟨_, Op.call _, _, _, _, _⟩ :: _)); first | (refine m_call (ent_of Try.func103 (by kernel_rfl) rfl) rfl rfl (fun w c => spec_IsRep_ok (r := r) (c.rd h0) (c.rd h1) (c.rd h2) (c.rd h3)) ?_; rintro v H' ⟨rfl, rfl⟩) | refine st_y (y_len tabs rfl rfl) rfl ?_)
             | (show AT _ _ _ (wpList _ _ _ (⟨_, Op.pick _ _ _, _, _, _, _⟩ :: _)); refine st_y (y_pickt rfl (by first | assumption | omega) rfl) rfl ?_)
             | refine st_gdy rfl rfl (by first | assumption | omega) ?_)
          | (show AT _ _ _ (wpList _ _ _ []); refine c_nil (x_then ?_))
          | (show AT _ _ _ (Code.wp _ _ _); first | refine c_seq ?_ | refine c_region ?_ | refine c_skip (x_then ?_) | refine c_block ?_ | refine c_ift rfl (by first | assumption | omega) ?_))
        refine c_all (Hp [] w [.blk b #[iV r.p, iV r.q.1, u0, u1, .slice a2 r.d.length c2, u3] 50]) (by kernel_rfl) (fun _ c => Hp.drew c) ?_
        refine h_take 0 rfl (by kernel_rfl) (by kernel_rfl) (by kernel_rfl) (by exact y_move rfl) rfl (fun w c => by exact c.drop) ?_
        refine h_take 1 rfl (by kernel_rfl) (by kernel_rfl) (by kernel_rfl) (by exact y_field tabs rfl rfl rfl) rfl (fun w c => by exact c.drop) ?_
        refine h_take 2 rfl (by kernel_rfl) (by kernel_rfl) (by kernel_rfl) (by exact y_load tabs rfl rfl (hc_blk 0 rfl rfl)) rfl (fun w c => by exact c.drop) ?_
        refine h_take 3 rfl (by kernel_rfl) (by kernel_rfl) (by kernel_rfl) (by exact y_move rfl) rfl (fun w c => by exact c.drop) ?_
        refine h_take 4 rfl (by kernel_rfl) (by kernel_rfl) (by kernel_rfl) (by exact y_ix1 tabs (j := i) rfl rfl rfl hs2 rfl hin) rfl (fun w c => by exact c.drop) ?_
        refine h_take 5 rfl (by kernel_rfl) (by kernel_rfl) (by kernel_rfl) (by exact y_load tabs rfl rfl (hc_w0 gd)) rfl (fun w c => by exact c.drop) ?_
        refine h_take 6 rfl (by kernel_rfl) (by kernel_rfl) (by kernel_rfl) (by exact y_field tabs rfl rfl rfl) rfl (fun w c => by exact c.drop) ?_
        refine h_take 7 rfl (by kernel_rfl) (by kernel_rfl) (by kernel_rfl) (by exact y_load tabs rfl rfl (hc_blk 0 rfl rfl)) rfl (fun w c => by exact c.drop) ?_
        refine h_take 8 rfl (by kernel_rfl) (by kernel_rfl) (by kernel_rfl) (by exact y_field tabs rfl rfl rfl) rfl (fun w c => by exact c.drop) ?_
        refine h_take 9 rfl (by kernel_rfl) (by kernel_rfl) (by kernel_rfl) (by exact y_load tabs rfl rfl (hc_blk 0 rfl rfl)) rfl (fun w c => by exact c.drop) ?_
        refine h_take 10 rfl (by kernel_rfl) (by kernel_rfl) (by kernel_rfl) (by exact y_move rfl) rfl (fun w c => by exact c.drop) ?_
        refine h_take 11 rfl (by kernel_rfl) (by kernel_rfl) (by kernel_rfl) (by exact y_ix1 tabs (j := i) rfl rfl rfl hs2 rfl hin) rfl (fun w c => by exact c.drop) ?_
        refine h_take 12 rfl (by kernel_rfl) (by kernel_rfl) (by kernel_rfl) (by exact y_load tabs rfl rfl (hc_w0 gd)) rfl (fun w c => by exact c.drop) ?_
        refine h_only 13 rfl (by kernel_rfl) ?_
        first | (refine m_build1 tabs (us := [iV n, .slice a5 n c5]) rfl rfl rfl rfl (by decide) rfl (fun g2 hg2 => ?_)) | (refine m_call (ent_of Try.func131 (by kernel_rfl) rfl) rfl rfl (fun w c => l3Identity_ok (n := n) (by omega)) ?_; rintro v H' ⟨az, cz, rfl, hsz, rfl⟩) | (refine m_call (ent_of Try.func92 (by kernel_rfl) rfl) rfl rfl (fun w c => l5BasisId_ok (n := n) (c.own_rd (i := 0) rfl) hF (by omega)) ?_; simp only [GivesRows, rowL_length]; rintro v H' ⟨a5, c5, rfl, hs5, rfl⟩) | (refine m_push1 [iV n] 1 0 tabs (m' := i) rfl rfl rfl rfl rfl rfl rfl (by rw [flatMap_length spT_length, fsN_len]) (by rw [flatMap_length spT_length, fsN_len]; omega) (by decide) rfl rfl (fun a3 c3 => ?_))
        refine c_nil (x_one (h_keep (fun w c => by exact c.drop.drop) ?_))
        refine h_only 14 rfl (by kernel_rfl) ?_
        first | (refine m_build1 tabs (us := [iV n, .slice a5 n c5]) rfl rfl rfl rfl (by decide) rfl (fun g2 hg2 => ?_)) | (refine m_call (ent_of Try.func131 (by kernel_rfl) rfl) rfl rfl (fun w c => l3Identity_ok (n := n) (by omega)) ?_; rintro v H' ⟨az, cz, rfl, hsz, rfl⟩) | (refine m_call (ent_of Try.func92 (by kernel_rfl) rfl) rfl rfl (fun w c => l5BasisId_ok (n := n) (c.own_rd (i := 0) rfl) hF (by omega)) ?_; simp only [GivesRows, rowL_length]; rintro v H' ⟨a5, c5, rfl, hs5, rfl⟩) | (refine m_push1 [iV n] 1 0 tabs (m' := i) rfl rfl rfl rfl rfl rfl rfl (by rw [flatMap_length spT_length, fsN_len]) (by rw [flatMap_length spT_length, fsN_len]; omega) (by decide) rfl rfl (fun a3 c3 => ?_))
        refine c_nil (x_one (h_keep (fun w c => by exact c.sub (by repeat' first | exact List.Sublist.refl _ | exact List.nil_sublist _ | apply List.Sublist.cons_cons | apply List.Sublist.cons)) ?_))
        refine h_take 15 rfl (by kernel_rfl) (by kernel_rfl) (by kernel_rfl) (by exact y_bld2 (bld_sp _ _ _ _) rfl rfl) rfl (fun w c => by exact c.sub (by repeat' first | exact List.Sublist.refl _ | exact List.nil_sublist _ | apply List.Sublist.cons_cons | apply List.Sublist.cons)) ?_
        refine h_only 16 rfl (by kernel_rfl) ?_
        first | (refine m_build1 tabs (us := [iV n, .slice a5 n c5]) rfl rfl rfl rfl (by decide) rfl (fun g2 hg2 => ?_)) | (refine m_call (ent_of Try.func131 (by kernel_rfl) rfl) rfl rfl (fun w c => l3Identity_ok (n := n) (by omega)) ?_; rintro v H' ⟨az, cz, rfl, hsz, rfl⟩) | (refine m_call (ent_of Try.func92 (by kernel_rfl) rfl) rfl rfl (fun w c => l5BasisId_ok (n := n) (c.own_rd (i := 0) rfl) hF (by omega)) ?_; simp only [GivesRows, rowL_length]; rintro v H' ⟨a5, c5, rfl, hs5, rfl⟩) | (refine m_push1 [iV n] 1 0 tabs (m' := i) rfl rfl rfl rfl rfl rfl rfl (by rw [flatMap_length spT_length, fsN_len]) (by rw [flatMap_length spT_length, fsN_len]; omega) (by decide) rfl rfl (fun a3 c3 => ?_))
        refine c_nil (x_one (h_keep (fun w c => by exact c.sub (by repeat' first | exact List.Sublist.refl _ | exact List.nil_sublist _ | apply List.Sublist.cons_cons | apply List.Sublist.cons)) ?_))
        refine h_only 17 rfl (by kernel_rfl) ?_
        first | (refine m_build1 tabs (us := [iV n, .slice a5 n c5]) rfl rfl rfl rfl (by decide) rfl (fun g2 hg2 => ?_)) | (refine m_call (ent_of Try.func131 (by kernel_rfl) rfl) rfl rfl (fun w c => l3Identity_ok (n := n) (by omega)) ?_; rintro v H' ⟨az, cz, rfl, hsz, rfl⟩) | (refine m_call (ent_of Try.func92 (by kernel_rfl) rfl) rfl rfl (fun w c => l5BasisId_ok (n := n) (c.own_rd (i := 0) rfl) hF (by omega)) ?_; simp only [GivesRows, rowL_length]; rintro v H' ⟨a5, c5, rfl, hs5, rfl⟩) | (refine m_push1 [iV n] 1 0 tabs (m' := i) rfl rfl rfl rfl rfl rfl rfl (by rw [flatMap_length spT_length, fsN_len]) (by rw [flatMap_length spT_length, fsN_len]; omega) (by decide) rfl rfl (fun a3 c3 => ?_))
        refine c_nil (x_one (h_keep (fun w c => by exact c.drop.drop) ?_))
        refine h_take 18 rfl (by kernel_rfl) (by kernel_rfl) (by kernel_rfl) (by exact y_assign rfl) rfl (fun w c => by exact c.drop.drop) ?_
        refine h_end (by kernel_rfl) ?_
        repeat' (first
          | (show AT _ _ _ (wpList _ _ _ (_ :: _)); first
             | (show AT _ _ _ (wpList _ _ _ (⟨_, Op.move _, _, _, _, _⟩ :: _)); refine st_y (y_move rfl) rfl ?_)
             | (show AT _ _ _ (wpList _ _ _ (⟨_, Op.assign _, _, _, _, _⟩ :: _)); refine st_y (y_assign rfl) rfl ?_)
             | (show AT _ _ _ (wpList _ _ _ (⟨_, Op.binOp _ _ _ _ _, _, _, _, _⟩ :: _)); refine st_y (y_add rfl rfl (by omega)) rfl ?_))
          | (show AT _ _ _ (wpList _ _ _ []); refine c_nil (x_then ?_))
          | (show AT _ _ _ (Code.wp _ _ _); refine c_region ?_)
          | (show AT _ _ _ _; first | refine x_then ?_ | refine x_blk ?_))
        refine x_nx (i + 1, a3, c3) (by repeat' (first | exact Sub.nil | refine Sub.cons rfl ?_ | refine Sub.consi rfl (by omega) ?_)) ⟨by simp only; omega, .inr hR⟩ (fun w' c' => ?_) (by simp only; omega)
        rw [fsN_next hn] at c'
        exact c'.sub (by repeat' first | exact List.Sublist.refl _ | exact List.nil_sublist _ | apply List.Sublist.cons_cons | apply List.Sublist.cons)
      · have : i = r.d.length := by omega
        subst this
        repeat' (first
          | (show AT _ _ _ (wpList _ _ _ (_ :: _)); first
             | (show AT _ _ _ (wpList _ _ _ (⟨_, Op.move _, _, _, _, _⟩ :: _)); refine st_y (y_move rfl) rfl ?_)
             | (show AT _ _ _ (wpList _ _ _ (⟨_, Op.assign _, _, _, _, _⟩ :: _)); refine st_y (y_assign rfl) rfl ?_)
             | (show AT _ _ _ (wpList _ _ _ (⟨_, Op.fieldAddr _ _ _, _, _, _, _⟩ :: _)); refine st_y (y_field tabs rfl rfl rfl) rfl ?_)
             | (show AT _ _ _ (wpList _ _ _ (⟨_, Op.load _ _, _, _, _, _⟩ :: _)); first | refine st_y (y_loadb 1 tabs rfl rfl rfl rfl) rfl ?_ | refine st_y (y_load tabs rfl rfl (hc_blk 1 rfl rfl)) rfl ?_)
             | (show AT _ _ _ (wpList _ _ _ (⟨_, Op.binOp _ _ _ _ _, _, _, _, _⟩ :: _)); refine st_y (y_lss rfl rfl) rfl ?_)
             | (show AT _ _ _ (wpList _ _ _ (⟨_, Op.call _, _, _, _, _⟩ :: _)); first | (refine m_call (ent_of Try.func103 (by kernel_rfl) rfl) rfl rfl (fun w c => spec_IsRep_ok (r := r) (c.rd h0) (c.rd h1) (c.rd h2) (c.rd h3)) ?_; rintro v H' ⟨rfl, rfl⟩) | refine st_y (y_len tabs rfl rfl) rfl ?_)
             | (show AT _ _ _ (wpList _ _ _ (⟨_, Op.pick _ _ _, _, _, _, _⟩ :: _)); refine st_y (y_pickf rfl (by first | assumption | omega) rfl) rfl ?_)
             | refine st_gdn rfl rfl (by first | assumption | omega) rfl ?_)
          | (show AT _ _ _ (wpList _ _ _ []); refine c_nil (x_then ?_))
          | (show AT _ _ _ (Code.wp _ _ _); first | refine c_seq ?_ | refine c_region ?_ | refine c_ret ?_ | refine c_exit ?_ | refine c_false rfl ?_)
          | (show AT _ _ _ _; first | refine x_then ?_ | refine x_then_exit ?_ | refine x_blk_exit rfl ?_))
        rw [fsL, if_pos hR]
        exact x_ret2 Try.results78 (res_tmp rfl) (res_tmp rfl) (fun w' c' => ⟨_, _, rfl, ⟨al, cl, by rw [fsN_len], by rw [fsN_len]; exact hsl, by rw [fsN_len]⟩, c'.sub (.cons_cons _ (List.nil_sublist _))⟩)
    · have hi0 : i = 0 := by rcases hz0 with h | h; · exact h
                             · exact absurd h hR
      subst hi0
      have e0 : fsL r = fsN r.d 0 := by rw [fsL, if_neg hR]; rfl
      repeat' (first
        | (show AT _ _ _ (wpList _ _ _ (_ :: _)); first
           | (show AT _ _ _ (wpList _ _ _ (⟨_, Op.move _, _, _, _, _⟩ :: _)); refine st_y (y_move rfl) rfl ?_)
           | (show AT _ _ _ (wpList _ _ _ (⟨_, Op.assign _, _, _, _, _⟩ :: _)); refine st_y (y_assign rfl) rfl ?_)
           | (show AT _ _ _ (wpList _ _ _ (⟨_, Op.fieldAddr _ _ _, _, _, _, _⟩ :: _)); refine st_y (y_field tabs rfl rfl rfl) rfl ?_)
           | (show AT _ _ _ (wpList _ _ _ (⟨_, Op.load _ _, _, _, _, _⟩ :: _)); first | refine st_y (y_loadb 1 tabs rfl rfl rfl rfl) rfl ?_ | refine st_y (y_load tabs rfl rfl (hc_blk 1 rfl rfl)) rfl ?_)
           | (show AT _ _ _ (wpList _ _ _ (⟨_, Op.binOp _ _ _ _ _, _, _, _, _⟩ :: _)); refine st_y (y_lss rfl rfl) rfl ?_)
           | (show AT _ _ _ (wpList _ _ _ (⟨_, Op.call _, _, _, _, _⟩ :: _)); first | (refine m_call (ent_of Try.func103 (by kernel_rfl) rfl) rfl rfl (fun w c => spec_IsRep_ok (r := r) (c.rd h0) (c.rd h1) (c.rd h2) (c.rd h3)) ?_; rintro v H' ⟨rfl, rfl⟩) | refine st_y (y_len tabs rfl rfl) rfl ?_)
           | (show AT _ _ _ (wpList _ _ _ (⟨_, Op.pick _ _ _, _, _, _, _⟩ :: _)); first | refine st_y (y_pickt rfl (by first | assumption | omega) rfl) rfl ?_ | refine st_y (y_pickf rfl (by first | assumption | omega) rfl) rfl ?_)
           | refine st_gdy rfl rfl (by first | assumption | omega) ?_ | refine st_gdn rfl rfl (by first | assumption | omega) rfl ?_ | refine st_gd rfl rfl (fun h => ?_) (fun h => ?_))
        | (show AT _ _ _ (wpList _ _ _ []); refine c_nil (x_then ?_))
        | (show AT _ _ _ (Code.wp _ _ _); first | refine c_seq ?_ | refine c_region ?_ | refine c_ret ?_ | refine c_exit ?_ | refine c_false rfl ?_ | refine c_iff rfl (by first | assumption | exact not_not_intro (by assumption) | omega) ?_)
        | (show AT _ _ _ _; first | refine x_then ?_ | refine x_then_exit ?_ | refine x_blk_exit rfl ?_))
      all_goals rw [e0]
      all_goals exact x_ret2 Try.results78 (res_tmp rfl) (res_tmp rfl) (fun w' c' => ⟨_, _, rfl, ⟨al, cl, by rw [fsN_len], by rw [fsN_len]; exact hsl, by rw [fsN_len]⟩, c'.sub (.cons_cons _ (List.nil_sublist _))⟩)
end Go.Proofs.Ytooffimgfnacoaa
