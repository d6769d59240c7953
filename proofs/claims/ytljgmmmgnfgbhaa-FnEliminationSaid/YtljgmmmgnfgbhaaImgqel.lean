import Derived.Test.YtljgmmmgnfgbhaaInvqel
namespace Go.Proofs.Ytljgmmmgnfgbhaa
open Go.Lg Go.Proofs Go.RowKit
attribute [local irreducible] Code.wp wpList bodyPost Exit.then Exit.inBlock Hp Again Calls Y AT ResV QT Qn QI wpAny wpAnyQ
set_option maxRecDepth 20000
set_option maxHeartbeats 4000000

theorem redTo_piv {p : Int} {R : Nat} {f : Nat → Nat → Int} : ∀ k, ∀ x ∈ (redTo p R f k).2, 0 ≤ x ∧ x < (k : Int)
  | 0, x, h => by simp [redTo] at h
  | k + 1, x, h => by
    simp only [redTo, colStep] at h
    split at h
    · rcases List.mem_append.1 h with h | h
      · have := redTo_piv k x h; omega
      · simp at h; omega
    · have := redTo_piv k x h; omega
/-- some columns of a matrix -/
def pickC (R : Nat) (f : Nat → Nat → Int) (l : List Int) : List (List Int) := l.map (fun k => mkv R (fun i => f i k.toNat))
@[simp] theorem pickC_length {R : Nat} {f : Nat → Nat → Int} {l : List Int} : (pickC R f l).length = l.length := by simp [pickC]
theorem pickC_next {R : Nat} {f : Nat → Nat → Int} {l : List Int} {i : Nat} (h : i < l.length) : pickC R f (l.take (i + 1)) = pickC R f (l.take i) ++ [mkv R (fun a => f a (l.getD i 0).toNat)] := by
  rw [take_next (z := 0) h]; simp [pickC]
def imgL (p : Int) (m : Mat) : List (List Int) := if MatP p m then pickC m.1.toNat (matF m) (redL p m) else []
abbrev GivesRows (l : List (List Int)) (v : Value) (H : List HE) : Prop := ∃ a c, v = .slice a l.length c ∧ SA a l.length ∧ H = [.own (rowsT 22 l) (.slice a l.length c)]
abbrev GivesRowsB (rs : List (List Int)) (b : Bool) (v : Value) (H : List HE) : Prop := ∃ a c, v = .tuple #[.slice a rs.length c, .bool b] ∧ SA a rs.length ∧ H = [.own (rowsT 22 rs) (.slice a rs.length c)]
theorem pickC_congr {R C : Nat} {f g : Nat → Nat → Int} {l : List Int} (h : ∀ i j, i < R → j < C → f i j = g i j) (hl : ∀ x ∈ l, 0 ≤ x ∧ x < (C : Int)) : pickC R f l = pickC R g l := List.map_congr_left (fun k hk => mkv_ext (fun i hi => h i _ hi (by have := hl k hk; omega)))
theorem imgL_mk {p : Int} {R C : Nat} {f : Nat → Nat → Int} (h : MatP p (↑R, ↑C, mk R C f)) : imgL p (↑R, ↑C, mk R C f) = pickC R f (redTo p R f C).2 := by
  rw [imgL, if_pos h, redL_mk]
  simp only [Int.toNat_natCast]
  exact pickC_congr (C := C) (fun i j hi hj => matF_mk hi hj) (redTo_piv C)
theorem impl_ImageBasis_ok {w : World} {p : Int} {m : Mat} {u : Value} (hr : Rd w (iT m.2.2) u) :
    Does Try.prog 21 [iV p, .agg #[iV m.1, iV m.2.1, u]] w (GivesRowsB (imgL p m) (decide (MatP p m))) := by
  by_cases hM : MatP p m
  · obtain ⟨R, C, f, rfl, hR, hC, hF, hin⟩ := matP_mk hM
    rw [imgL_mk hM, decide_eq_true hM]
    simp only at hr ⊢
    have hpv := redTo_piv (p := p) (R := R) (f := f) C
    have hpl := redL_length (p := p) (R := R) (f := f) C
    refine fn_enter Try.func21 rfl Try.ntmps21 rfl ?_
    repeat' (first
      | (show AT _ _ _ (wpList _ _ _ (_ :: _)); first
         | (show AT _ _ _ (wpList _ _ _ (⟨_, Op.move _, _, _, _, _⟩ :: _)); refine st_y (y_move rfl) rfl ?_)
         | (show AT _ _ _ (wpList _ _ _ (⟨_, Op.assign _, _, _, _, _⟩ :: _)); refine st_y (y_assign rfl) rfl ?_)
         | (show AT _ _ _ (wpList _ _ _ (⟨_, Op.load _ _, _, _, _, _⟩ :: _)); refine st_y (y_loadb 0 tabs rfl rfl rfl rfl) rfl ?_)
         | (show AT _ _ _ (wpList _ _ _ (⟨_, Op.unOp _ _ _, _, _, _, _⟩ :: _)); refine st_y (y_notd rfl) rfl ?_)
         | (show AT _ _ _ (wpList _ _ _ (⟨_, Op.call _, _, _, _, _⟩ :: _)); first | (refine m_call (ent_of Try.func63 (by kernel_rfl) rfl) rfl rfl (fun w c => impl_IsMatrix_ok (m := (↑R, ↑C, mk R C f)) (c.rd hr)) ?_; rintro v H' ⟨rfl, rfl⟩) | (refine m_call (ent_of Try.func68 (by kernel_rfl) rfl) rfl rfl (fun w c => reduceK_ok (c.rd hr) hF (by omega) (by omega) hin) ?_; rintro v H' ⟨a, c, a', c', rfl, hs, hs', rfl⟩) | refine st_y (y_len tabs rfl rfl) rfl ?_)
         | (show AT _ _ _ (wpList _ _ _ (⟨_, Op.extract _ _, _, _, _, _⟩ :: _)); refine st_y (y_ext rfl rfl) rfl ?_)
         | (show AT _ _ _ (wpList _ _ _ (⟨_, Op.store _ _ _, _, _, _, _⟩ :: _)); refine m_storeb 0 tabs rfl rfl rfl rfl rfl rfl rfl ?_)
         | (show AT _ _ _ (wpList _ _ _ (⟨_, Op.box _ _, _, _, _, _⟩ :: _)); refine m_box rfl rfl (fun b hb => ?_))
         | (show AT _ _ _ (wpList _ _ _ (⟨_, Op.alloc _, _, _, _, _⟩ :: _)); refine m_alloc tabs rfl rfl (fun bq hbq => ?_)))
      | (show AT _ _ _ (wpList _ _ _ []); refine c_nil (x_then ?_))
      | (show AT _ _ _ (Code.wp _ _ _); first | refine c_seq ?_ | refine c_region ?_ | refine c_skip (x_then ?_) | refine c_block ?_ | refine c_iff rfl (by first | assumption | exact not_not_intro (by assumption) | omega) ?_))
    generalize hpe : (redTo p R f C).2 = piv at *
    refine c_loopH (α := Nat × Option Addr × Nat) [3, 21, 22] (fun q => [(8, .slice q.2.1 q.1 q.2.2), (23, .int .i64 q.1)]) (fun q => q.1 ≤ piv.length) (fun q => [.own (rowsT 22 (pickC R f (piv.take q.1))) (.slice q.2.1 q.1 q.2.2), .own (iT piv) (.slice a' piv.length c'), .blk b #[iV R, iV C, u] 46]) (fun q => piv.length - q.1) (0, none, 0) rfl (by repeat' (first | exact Sub.nil | refine Sub.cons rfl ?_ | refine Sub.consi rfl (by omega) ?_)) ?_ ?_ ?_
    · exact Nat.zero_le _
    · exact fun w' c' => Hp.nilp _ _ (c'.sub (.cons _ (.cons_cons _ (.cons _ (.cons_cons _ (List.nil_sublist _))))))
    · rintro ⟨i, al, cl⟩ hi
      simp only at hi ⊢
      by_cases hin' : i < piv.length
      · have hx : piv[i]? = some (piv.getD i 0) := getD_some hin'
        have hb := hpv _ (List.mem_of_getElem? hx)
        have ek : piv.getD i 0 = (((piv.getD i 0).toNat : Nat) : Int) := by omega
        repeat' (first
          | (show AT _ _ _ (wpList _ _ _ (_ :: _)); first
             | (show AT _ _ _ (wpList _ _ _ (⟨_, Op.move _, _, _, _, _⟩ :: _)); refine st_y (y_move rfl) rfl ?_)
             | (show AT _ _ _ (wpList _ _ _ (⟨_, Op.assign _, _, _, _, _⟩ :: _)); refine st_y (y_assign rfl) rfl ?_)
             | (show AT _ _ _ (wpList _ _ _ (⟨_, Op.load _ _, _, _, _, _⟩ :: _)); first | refine st_y (y_load tabs rfl rfl (hc_own 1 rfl hin')) rfl ?_ | refine st_y (y_loadb 2 tabs rfl rfl rfl rfl) rfl ?_)
             | (show AT _ _ _ (wpList _ _ _ (⟨_, Op.indexAddr _ _ _, _, _, _, _⟩ :: _)); refine st_y (y_ix1 tabs (j := i) rfl rfl rfl hs' rfl hin') rfl ?_)
             | (show AT _ _ _ (wpList _ _ _ (⟨_, Op.binOp _ _ _ _ _, _, _, _, _⟩ :: _)); first | refine st_y (y_add rfl rfl (by omega)) rfl ?_ | refine st_y (y_lss rfl rfl) rfl ?_)
             | (show AT _ _ _ (wpList _ _ _ (⟨_, Op.call _, _, _, _, _⟩ :: _)); first | (refine m_call (ent_of Try.func69 (by kernel_rfl) rfl) rfl rfl (fun w c => (by rw [ek]; exact column_ok (k := (piv.getD i 0).toNat) (c.rd hr) (by omega) (by omega) (by omega))) ?_; rintro v H' ⟨a2, c2, rfl, hs2, rfl⟩) | refine m_push1 [] 0 0 tabs (m' := i) rfl rfl rfl rfl rfl rfl rfl (by simp [rowT_map]; omega) (by simp [rowT_map]; omega) (by decide) rfl rfl (fun a3 c3 => ?_))
             | (show AT _ _ _ (wpList _ _ _ (⟨_, Op.buildSlice _ _ _, _, _, _, _⟩ :: _)); refine m_build1 tabs (us := [.slice a2 R c2]) rfl rfl rfl rfl (by decide) rfl (fun g2 hg2 => ?_)))
          | (show AT _ _ _ (wpList _ _ _ []); first | refine c_nil (x_then ?_) | refine c_nil ?_)
          | (show AT _ _ _ (Code.wp _ _ _); first | refine c_seq ?_ | refine c_region ?_ | refine c_skip (x_then ?_) | refine c_block ?_ | refine c_ift rfl (by first | assumption | omega) ?_)
          | (show AT _ _ _ _; first | refine x_then ?_ | refine x_blk ?_))
        refine x_nx (i + 1, a3, c3) (by repeat' (first | exact Sub.nil | refine Sub.cons rfl ?_ | refine Sub.consi rfl (by omega) ?_)) (by simp only; omega) (fun w' c' => ?_) (by simp only; omega)
        have e0 : (pickC R f (piv.take i)).flatMap rowT ++ (List.map T.c [] ++ [iT (mkv R (fun a => f a (piv.getD i 0).toNat))]) = (pickC R f (piv.take (i + 1))).flatMap rowT := by rw [pickC_next hin', List.flatMap_append]; rfl
        rw [e0] at c'
        exact c'
      · have : i = piv.length := by omega
        subst this
        rw [take_end (Nat.le_refl _)]
        refine AT.fact (rows_sl 0 rfl) (fun hsl => ?_)
        repeat' (first
          | (show AT _ _ _ (wpList _ _ _ (_ :: _)); first
             | (show AT _ _ _ (wpList _ _ _ (⟨_, Op.move _, _, _, _, _⟩ :: _)); refine st_y (y_move rfl) rfl ?_)
             | (show AT _ _ _ (wpList _ _ _ (⟨_, Op.assign _, _, _, _, _⟩ :: _)); refine st_y (y_assign rfl) rfl ?_)
             | (show AT _ _ _ (wpList _ _ _ (⟨_, Op.binOp _ _ _ _ _, _, _, _, _⟩ :: _)); refine st_y (y_lss rfl rfl) rfl ?_))
          | (show AT _ _ _ (wpList _ _ _ []); refine c_nil (x_then ?_))
          | (show AT _ _ _ (Code.wp _ _ _); first | refine c_seq ?_ | refine c_region ?_ | refine c_ret ?_ | refine c_exit ?_ | refine c_iff rfl (by first | assumption | exact not_not_intro (by assumption) | omega) ?_)
          | (show AT _ _ _ _; first | refine x_then ?_ | refine x_then_exit ?_ | refine x_blk_exit rfl ?_))
        exact x_ret2 Try.results21 (res_tmp rfl) (res_tmp rfl) (fun w' c' => ⟨_, _, rfl, ⟨al, cl, by rw [pickC_length], hsl, by rw [pickC_length]⟩, c'.sub (.cons_cons _ (List.nil_sublist _))⟩)
  · rw [imgL, if_neg hM, decide_eq_false hM]
    refine fn_enter Try.func21 rfl Try.ntmps21 rfl ?_
    repeat' (first
      | (show AT _ _ _ (wpList _ _ _ (_ :: _)); first
         | (show AT _ _ _ (wpList _ _ _ (⟨_, Op.move _, _, _, _, _⟩ :: _)); refine st_y (y_move rfl) rfl ?_)
         | (show AT _ _ _ (wpList _ _ _ (⟨_, Op.assign _, _, _, _, _⟩ :: _)); refine st_y (y_assign rfl) rfl ?_)
         | (show AT _ _ _ (wpList _ _ _ (⟨_, Op.load _ _, _, _, _, _⟩ :: _)); refine st_y (y_loadb 0 tabs rfl rfl rfl rfl) rfl ?_)
         | (show AT _ _ _ (wpList _ _ _ (⟨_, Op.unOp _ _ _, _, _, _, _⟩ :: _)); refine st_y (y_notd rfl) rfl ?_)
         | (show AT _ _ _ (wpList _ _ _ (⟨_, Op.call _, _, _, _, _⟩ :: _)); (refine m_call (ent_of Try.func63 (by kernel_rfl) rfl) rfl rfl (fun w c => impl_IsMatrix_ok (m := m) (c.rd hr)) ?_; rintro v H' ⟨rfl, rfl⟩))
         | (show AT _ _ _ (wpList _ _ _ (⟨_, Op.box _ _, _, _, _, _⟩ :: _)); refine m_box rfl rfl (fun bq hbq => ?_)))
      | (show AT _ _ _ (wpList _ _ _ []); refine c_nil (x_then ?_))
      | (show AT _ _ _ (Code.wp _ _ _); first | refine c_seq ?_ | refine c_region ?_ | refine c_ret ?_ | refine c_ift rfl (by first | assumption | omega) ?_)
      | (show AT _ _ _ _; refine x_then_ret ?_))
    exact x_ret2 Try.results21 (res_tmp rfl) (res_tmp rfl) (fun w' c' => ⟨_, _, rfl, ⟨none, 0, rfl, .inl rfl, rfl⟩, Hp.nilp _ _ (c'.sub (List.nil_sublist _))⟩)
theorem l4Image_ok {w : World} {p : Int} {R C : Nat} {f : Nat → Nat → Int} {u : Value} (hr : Rd w (iT (mk R C f)) u) (hF : FieldP p) (hR : R ≤ 1024) (hC : C ≤ 1024) (hin : inF p R C f) :
    Does Try.prog 70 [iV p, .agg #[iV R, iV C, u]] w (Gives (rowsT 22 (pickC R f (redTo p R f C).2)) (redTo p R f C).2.length) := by
  have hpv := redTo_piv (p := p) (R := R) (f := f) C
  have hpl := redL_length (p := p) (R := R) (f := f) C
  have hRC := rc_le hR hC
  obtain ⟨ac, cc, rfl, hsc, _⟩ := rd_mk hr
  refine fn_enter Try.func70 rfl Try.ntmps70 rfl ?_
  repeat' (first
    | (show AT _ _ _ (wpList _ _ _ (_ :: _)); first
       | (show AT _ _ _ (wpList _ _ _ (⟨_, Op.move _, _, _, _, _⟩ :: _)); refine st_y (y_move rfl) rfl ?_)
       | (show AT _ _ _ (wpList _ _ _ (⟨_, Op.assign _, _, _, _, _⟩ :: _)); refine st_y (y_assign rfl) rfl ?_)
       | (show AT _ _ _ (wpList _ _ _ (⟨_, Op.load _ _, _, _, _, _⟩ :: _)); refine st_y (y_loadb 0 tabs rfl rfl rfl rfl) rfl ?_)
       | (show AT _ _ _ (wpList _ _ _ (⟨_, Op.call _, _, _, _, _⟩ :: _)); (refine m_call (ent_of Try.func90 (by kernel_rfl) rfl) rfl rfl (fun w c => l4ReduceK_ok (c.rd hr) hF (by omega) (by omega) hin) ?_; rintro v H' ⟨a, c, a', c', rfl, hs, hs', rfl⟩))
       | (show AT _ _ _ (wpList _ _ _ (⟨_, Op.extract _ _, _, _, _, _⟩ :: _)); refine st_y (y_ext rfl rfl) rfl ?_)
       | (show AT _ _ _ (wpList _ _ _ (⟨_, Op.store _ _ _, _, _, _, _⟩ :: _)); refine m_storeb 0 tabs rfl rfl rfl rfl rfl rfl rfl ?_)
       | (show AT _ _ _ (wpList _ _ _ (⟨_, Op.box _ _, _, _, _, _⟩ :: _)); refine m_box rfl rfl (fun b hb => ?_))
       | (show AT _ _ _ (wpList _ _ _ (⟨_, Op.alloc _, _, _, _, _⟩ :: _)); refine m_alloc tabs rfl rfl (fun bq hbq => ?_))
       | (show AT _ _ _ (wpList _ _ _ (⟨_, Op.buildSlice _ _ _, _, _, _, _⟩ :: _)); refine m_build0 tabs rfl rfl (fun g hg => ?_)))
    | (show AT _ _ _ (wpList _ _ _ []); refine c_nil (x_then ?_))
    | (show AT _ _ _ (Code.wp _ _ _); first | refine c_seq ?_ | refine c_region ?_ | refine c_block ?_))
  generalize hpe : (redTo p R f C).2 = piv at *
  refine c_loopH (α := Nat × Option Addr × Nat) [3, 6] (fun q => [(7, .slice q.2.1 q.1 q.2.2), (8, .int .i64 q.1)]) (fun q => q.1 ≤ piv.length) (fun q => [.own (rowsT 22 (pickC R f (piv.take q.1))) (.slice q.2.1 q.1 q.2.2), .own (iT piv) (.slice a' piv.length c'), .blk b #[iV R, iV C, .slice ac (R * C) cc] 46]) (fun q => piv.length - q.1) (0, some ⟨g, 0, none⟩, 0) rfl (by repeat' (first | exact Sub.nil | refine Sub.cons rfl ?_ | refine Sub.consi rfl (by omega) ?_)) ?_ ?_ ?_
  · exact Nat.zero_le _
  · exact fun w' c' => c'.sub (.cons_cons _ (.cons _ (.cons_cons _ (.cons _ (.cons_cons _ (List.nil_sublist _))))))
  · rintro ⟨i, al, cl⟩ hi
    simp only at hi ⊢
    by_cases hin' : i < piv.length
    · have hx : piv[i]? = some (piv.getD i 0) := getD_some hin'
      have hb := hpv _ (List.mem_of_getElem? hx)
      generalize hke : piv.getD i 0 = k0 at *
      obtain ⟨k, rfl⟩ := Int.eq_ofNat_of_zero_le hb.1
      have hkC : k < C := by omega
      repeat' (first
        | (show AT _ _ _ (wpList _ _ _ (_ :: _)); first
           | (show AT _ _ _ (wpList _ _ _ (⟨_, Op.move _, _, _, _, _⟩ :: _)); refine st_y (y_move rfl) rfl ?_)
           | (show AT _ _ _ (wpList _ _ _ (⟨_, Op.assign _, _, _, _, _⟩ :: _)); refine st_y (y_assign rfl) rfl ?_)
           | (show AT _ _ _ (wpList _ _ _ (⟨_, Op.binOp _ _ _ _ _, _, _, _, _⟩ :: _)); refine st_y (y_lss rfl rfl) rfl ?_)
           | (show AT _ _ _ (wpList _ _ _ (⟨_, Op.call _, _, _, _, _⟩ :: _)); refine st_y (y_len tabs rfl rfl) rfl ?_)
           | (show AT _ _ _ (wpList _ _ _ (⟨_, Op.buildSlice _ _ _, _, _, _, _⟩ :: _)); refine m_build0 tabs rfl rfl (fun g hg => ?_)))
        | (show AT _ _ _ (wpList _ _ _ []); refine c_nil (x_then ?_))
        | (show AT _ _ _ (Code.wp _ _ _); first | refine c_seq ?_ | refine c_region ?_ | refine c_skip (x_then ?_) | refine c_block ?_ | refine c_ift rfl (by first | assumption | omega) ?_))
      refine c_loopH (α := Nat × Option Addr × Nat) [3, 6, 7, 8] (fun q => [(9, .slice q.2.1 q.1 q.2.2), (10, .int .i64 q.1)]) (fun q => q.1 ≤ R) (fun q => [.own (iT (mkv q.1 (fun a => f a k))) (.slice q.2.1 q.1 q.2.2), .own (rowsT 22 (pickC R f (piv.take i))) (.slice al i cl), .own (iT piv) (.slice a' piv.length c'), .blk b #[iV R, iV C, .slice ac (R * C) cc] 46]) (fun q => R - q.1) (0, some ⟨g, 0, none⟩, 0) rfl (by repeat' (first | exact Sub.nil | refine Sub.cons rfl ?_ | refine Sub.consi rfl (by omega) ?_)) ?_ ?_ ?_
      · exact Nat.zero_le _
      · exact fun w' c' => c'
      · rintro ⟨j, av, cv⟩ hj
        simp only at hj ⊢
        by_cases hjR : j < R
        · have hcl := cell_lt hjR hkC
          have hcl0 := Nat.mul_le_mul_right C hj
          repeat' (first
            | (show AT _ _ _ (wpList _ _ _ (_ :: _)); first
               | (show AT _ _ _ (wpList _ _ _ (⟨_, Op.move _, _, _, _, _⟩ :: _)); refine st_y (y_move rfl) rfl ?_)
               | (show AT _ _ _ (wpList _ _ _ (⟨_, Op.fieldAddr _ _ _, _, _, _, _⟩ :: _)); refine st_y (y_field tabs rfl rfl rfl) rfl ?_)
               | (show AT _ _ _ (wpList _ _ _ (⟨_, Op.load _ _, _, _, _, _⟩ :: _)); refine st_y (y_load tabs rfl rfl (hc_blk 3 rfl rfl)) rfl ?_)
               | (show AT _ _ _ (wpList _ _ _ (⟨_, Op.binOp _ _ _ _ _, _, _, _, _⟩ :: _)); refine st_y (y_lss rfl rfl) rfl ?_))
            | (show AT _ _ _ (wpList _ _ _ []); refine c_nil (x_then ?_))
            | (show AT _ _ _ (Code.wp _ _ _); first | refine c_seq ?_ | refine c_region ?_ | refine c_skip (x_then ?_) | refine c_block ?_ | refine c_ift rfl (by first | assumption | omega) ?_))
          refine c_all (Hp [] w [.own (iT piv) (.slice a' piv.length c'), .blk b #[iV R, iV C, .slice ac (R * C) cc] 46]) (by kernel_rfl) (fun _ c => Hp.drew c) ?_
          refine h_take 0 rfl (by kernel_rfl) (by kernel_rfl) (by kernel_rfl) (by exact y_move rfl) rfl (fun w c => by exact c.drop.drop) ?_
          refine h_take 1 rfl (by kernel_rfl) (by kernel_rfl) (by kernel_rfl) (by exact y_field tabs rfl rfl rfl) rfl (fun w c => by exact c.drop.drop) ?_
          refine h_take 2 rfl (by kernel_rfl) (by kernel_rfl) (by kernel_rfl) (by exact y_load tabs rfl rfl (hc_blk 1 rfl rfl)) rfl (fun w c => by exact c.drop.drop) ?_
          refine h_take 3 rfl (by kernel_rfl) (by kernel_rfl) (by kernel_rfl) (by exact y_move rfl) rfl (fun w c => by exact c.drop.drop) ?_
          refine h_take 4 rfl (by kernel_rfl) (by kernel_rfl) (by kernel_rfl) (by exact y_field tabs rfl rfl rfl) rfl (fun w c => by exact c.drop.drop) ?_
          refine h_take 5 rfl (by kernel_rfl) (by kernel_rfl) (by kernel_rfl) (by exact y_load tabs rfl rfl (hc_blk 1 rfl rfl)) rfl (fun w c => by exact c.drop.drop) ?_
          refine h_take 6 rfl (by kernel_rfl) (by kernel_rfl) (by kernel_rfl) (by exact y_muln rfl rfl rfl rfl (by omega)) rfl (fun w c => by exact c.drop.drop) ?_
          refine h_take 7 rfl (by kernel_rfl) (by kernel_rfl) (by kernel_rfl) (by exact y_move rfl) rfl (fun w c => by exact c.drop.drop) ?_
          refine h_take 8 rfl (by kernel_rfl) (by kernel_rfl) (by kernel_rfl) (by exact y_move rfl) rfl (fun w c => by exact c.drop.drop) ?_
          refine h_take 9 rfl (by kernel_rfl) (by kernel_rfl) (by kernel_rfl) (by exact y_ix1 tabs (j := i) rfl rfl rfl hs' rfl hin') rfl (fun w c => by exact c.drop.drop) ?_
          refine h_take 10 rfl (by kernel_rfl) (by kernel_rfl) (by kernel_rfl) (by exact y_load (v := iV k) tabs rfl rfl (fun w' c' => by have := hc_own (M := []) (w0 := w) 0 rfl hin' w' c'; rw [hke] at this; exact this)) rfl (fun w c => by exact c.drop.drop) ?_
          refine h_take 11 rfl (by kernel_rfl) (by kernel_rfl) (by kernel_rfl) (by exact y_addn (b := k) rfl rfl rfl rfl (by omega)) rfl (fun w c => by exact c.drop.drop) ?_
          refine h_take 12 rfl (by kernel_rfl) (by kernel_rfl) (by kernel_rfl) (by exact y_ix1 tabs (j := j * C + k) rfl rfl rfl hsc rfl hcl) rfl (fun w c => by exact c.drop.drop) ?_
          refine h_take 13 rfl (by kernel_rfl) (by kernel_rfl) (by kernel_rfl) (by exact y_load tabs rfl rfl (hc_rdk (RdOut.of_rd hr) hjR hkC)) rfl (fun w c => by exact c.drop.drop) ?_
          refine h_only 14 rfl (by kernel_rfl) ?_
          first | (refine m_build1 tabs (us := [iV (f j k)]) rfl rfl rfl rfl (by decide) rfl (fun g2 hg2 => ?_)) | (refine m_pushn 0 tabs (k := f j k) (m := j) rfl rfl rfl rfl rfl (by simp) (by omega) (fun a3 c3 => ?_))
          refine c_nil (x_one (h_keep (fun w c => by exact c.sub (by repeat' first | exact List.Sublist.refl _ | exact List.nil_sublist _ | apply List.Sublist.cons_cons | apply List.Sublist.cons)) ?_))
          refine h_only 15 rfl (by kernel_rfl) ?_
          first | (refine m_build1 tabs (us := [iV (f j k)]) rfl rfl rfl rfl (by decide) rfl (fun g2 hg2 => ?_)) | (refine m_pushn 0 tabs (k := f j k) (m := j) rfl rfl rfl rfl rfl (by simp) (by omega) (fun a3 c3 => ?_))
          refine c_nil (x_one (h_keep (fun w c => by exact c.drop.drop) ?_))
          refine h_take 16 rfl (by kernel_rfl) (by kernel_rfl) (by kernel_rfl) (by exact y_assign rfl) rfl (fun w c => by exact c.drop.drop) ?_
          refine h_end (by kernel_rfl) ?_
          repeat' (first
            | (show AT _ _ _ (wpList _ _ _ (_ :: _)); first
               | (show AT _ _ _ (wpList _ _ _ (⟨_, Op.move _, _, _, _, _⟩ :: _)); refine st_y (y_move rfl) rfl ?_)
               | (show AT _ _ _ (wpList _ _ _ (⟨_, Op.assign _, _, _, _, _⟩ :: _)); refine st_y (y_assign rfl) rfl ?_)
               | (show AT _ _ _ (wpList _ _ _ (⟨_, Op.binOp _ _ _ _ _, _, _, _, _⟩ :: _)); refine st_y (y_add rfl rfl (by omega)) rfl ?_))
            | (show AT _ _ _ (wpList _ _ _ []); refine c_nil (x_then ?_))
            | (show AT _ _ _ (Code.wp _ _ _); refine c_region ?_)
            | (show AT _ _ _ _; first | refine x_then ?_ | refine x_blk ?_))
          refine x_nx (j + 1, a3, c3) (by repeat' (first | exact Sub.nil | refine Sub.cons rfl ?_ | refine Sub.consi rfl (by omega) ?_)) (by simp only; omega) (fun w' c' => ?_) (by simp only; omega)
          have e0 : mkv j (fun a => f a k) ++ [f j k] = mkv (j + 1) (fun a => f a k) := by simp [mkv, List.range_succ]
          rw [e0] at c'
          exact c'
        · have : j = R := by omega
          subst this
          refine AT.fact (own_sl 0 rfl) (fun hsl => ?_)
          obtain ⟨a3, c3, e3, hs3⟩ := hsl
          rw [mkv_length] at e3 hs3
          cases e3
          repeat' (first
            | (show AT _ _ _ (wpList _ _ _ (_ :: _)); first
               | (show AT _ _ _ (wpList _ _ _ (⟨_, Op.move _, _, _, _, _⟩ :: _)); refine st_y (y_move rfl) rfl ?_)
               | (show AT _ _ _ (wpList _ _ _ (⟨_, Op.assign _, _, _, _, _⟩ :: _)); refine st_y (y_assign rfl) rfl ?_)
               | (show AT _ _ _ (wpList _ _ _ (⟨_, Op.fieldAddr _ _ _, _, _, _, _⟩ :: _)); refine st_y (y_field tabs rfl rfl rfl) rfl ?_)
               | (show AT _ _ _ (wpList _ _ _ (⟨_, Op.load _ _, _, _, _, _⟩ :: _)); refine st_y (y_load tabs rfl rfl (hc_blk 3 rfl rfl)) rfl ?_)
               | (show AT _ _ _ (wpList _ _ _ (⟨_, Op.binOp _ _ _ _ _, _, _, _, _⟩ :: _)); first | refine st_y (y_add rfl rfl (by omega)) rfl ?_ | refine st_y (y_lss rfl rfl) rfl ?_)
               | (show AT _ _ _ (wpList _ _ _ (⟨_, Op.call _, _, _, _, _⟩ :: _)); refine m_push1 [] 0 0 tabs (m' := i) rfl rfl rfl rfl rfl rfl rfl (by simp [rowT_map]; omega) (by simp [rowT_map]; omega) (by decide) rfl rfl (fun a4 c4 => ?_))
               | (show AT _ _ _ (wpList _ _ _ (⟨_, Op.buildSlice _ _ _, _, _, _, _⟩ :: _)); refine m_build1 tabs (us := [.slice av j cv]) rfl rfl rfl rfl (by decide) rfl (fun g2 hg2 => ?_)))
            | (show AT _ _ _ (wpList _ _ _ []); first | refine c_nil (x_then ?_) | refine c_nil ?_)
            | (show AT _ _ _ (Code.wp _ _ _); first | refine c_seq ?_ | refine c_region ?_ | refine c_exit ?_ | refine c_iff rfl (by first | assumption | exact not_not_intro (by assumption) | omega) ?_)
            | (show AT _ _ _ _; first | refine x_then ?_ | refine x_then_exit ?_ | refine x_blk_exit rfl ?_ | refine x_blk ?_))
          refine x_nx (i + 1, a4, c4) (by repeat' (first | exact Sub.nil | refine Sub.cons rfl ?_ | refine Sub.consi rfl (by omega) ?_)) (by simp only; omega) (fun w' c' => ?_) (by simp only; omega)
          have e0 : (pickC j f (piv.take i)).flatMap rowT ++ (List.map T.c [] ++ [iT (mkv j (fun a => f a k))]) = (pickC j f (piv.take (i + 1))).flatMap rowT := by rw [pickC_next hin', List.flatMap_append, hke]; rfl
          rw [e0] at c'
          exact c'
    · have : i = piv.length := by omega
      subst this
      rw [take_end (Nat.le_refl _)]
      refine AT.fact (rows_sl 0 rfl) (fun hsl => ?_)
      rw [pickC_length] at hsl
      repeat' (first
        | (show AT _ _ _ (wpList _ _ _ (_ :: _)); first
           | (show AT _ _ _ (wpList _ _ _ (⟨_, Op.move _, _, _, _, _⟩ :: _)); refine st_y (y_move rfl) rfl ?_)
           | (show AT _ _ _ (wpList _ _ _ (⟨_, Op.assign _, _, _, _, _⟩ :: _)); refine st_y (y_assign rfl) rfl ?_)
           | (show AT _ _ _ (wpList _ _ _ (⟨_, Op.binOp _ _ _ _ _, _, _, _, _⟩ :: _)); refine st_y (y_lss rfl rfl) rfl ?_)
           | (show AT _ _ _ (wpList _ _ _ (⟨_, Op.call _, _, _, _, _⟩ :: _)); refine st_y (y_len tabs rfl rfl) rfl ?_))
        | (show AT _ _ _ (wpList _ _ _ []); refine c_nil (x_then ?_))
        | (show AT _ _ _ (Code.wp _ _ _); first | refine c_seq ?_ | refine c_region ?_ | refine c_ret ?_ | refine c_exit ?_ | refine c_iff rfl (by first | assumption | exact not_not_intro (by assumption) | omega) ?_)
        | (show AT _ _ _ _; first | refine x_then ?_ | refine x_then_exit ?_ | refine x_blk_exit rfl ?_))
      exact x_ret1 Try.results70 (res_tmp rfl) (fun w' c' => ⟨_, _, rfl, ⟨al, cl, rfl, hsl, rfl⟩, c'.sub (.cons_cons _ (List.nil_sublist _))⟩)
theorem spec_ImageBasis_ok {w : World} {p : Int} {m : Mat} {u : Value} (hr : Rd w (iT m.2.2) u) :
    Does Try.prog 22 [iV p, .agg #[iV m.1, iV m.2.1, u]] w (GivesRowsB (imgL p m) (decide (MatP p m))) := by
  by_cases hM : MatP p m
  · obtain ⟨R, C, f, rfl, hR, hC, hF, hin⟩ := matP_mk hM
    rw [imgL_mk hM, decide_eq_true hM]
    simp only at hr ⊢
    refine fn_enter Try.func22 rfl Try.ntmps22 rfl ?_
    repeat' (first
      | (show AT _ _ _ (wpList _ _ _ (_ :: _)); first
         | (show AT _ _ _ (wpList _ _ _ (⟨_, Op.move _, _, _, _, _⟩ :: _)); refine st_y (y_move rfl) rfl ?_)
         | (show AT _ _ _ (wpList _ _ _ (⟨_, Op.assign _, _, _, _, _⟩ :: _)); refine st_y (y_assign rfl) rfl ?_)
         | (show AT _ _ _ (wpList _ _ _ (⟨_, Op.load _ _, _, _, _, _⟩ :: _)); refine st_y (y_loadb 0 tabs rfl rfl rfl rfl) rfl ?_)
         | (show AT _ _ _ (wpList _ _ _ (⟨_, Op.unOp _ _ _, _, _, _, _⟩ :: _)); refine st_y (y_notd rfl) rfl ?_)
         | (show AT _ _ _ (wpList _ _ _ (⟨_, Op.call _, _, _, _, _⟩ :: _)); first | (refine m_call (ent_of Try.func65 (by kernel_rfl) rfl) rfl rfl (fun w c => spec_IsMatrix_ok (m := (↑R, ↑C, mk R C f)) (c.rd hr)) ?_; rintro v H' ⟨rfl, rfl⟩) | (refine m_call (ent_of Try.func70 (by kernel_rfl) rfl) rfl rfl (fun w c => l4Image_ok (c.rd hr) hF (by omega) (by omega) hin) ?_; rintro v H' ⟨a, c, rfl, hs, rfl⟩))
         | (show AT _ _ _ (wpList _ _ _ (⟨_, Op.box _ _, _, _, _, _⟩ :: _)); refine m_box rfl rfl (fun bq hbq => ?_)))
      | (show AT _ _ _ (wpList _ _ _ []); refine c_nil (x_then ?_))
      | (show AT _ _ _ (Code.wp _ _ _); first | refine c_seq ?_ | refine c_region ?_ | refine c_skip (x_then ?_) | refine c_ret ?_ | refine c_iff rfl (by first | assumption | exact not_not_intro (by assumption) | omega) ?_))
    exact x_ret2 Try.results22 (res_tmp rfl) (res_tmp rfl) (fun w' c' => ⟨_, _, rfl, ⟨a, c, by rw [pickC_length], by rw [pickC_length]; exact hs, by rw [pickC_length]⟩, c'.sub (.cons_cons _ (List.nil_sublist _))⟩)
  · rw [imgL, if_neg hM, decide_eq_false hM]
    refine fn_enter Try.func22 rfl Try.ntmps22 rfl ?_
    repeat' (first
      | (show AT _ _ _ (wpList _ _ _ (_ :: _)); first
         | (show AT _ _ _ (wpList _ _ _ (⟨_, Op.move _, _, _, _, _⟩ :: _)); refine st_y (y_move rfl) rfl ?_)
         | (show AT _ _ _ (wpList _ _ _ (⟨_, Op.assign _, _, _, _, _⟩ :: _)); refine st_y (y_assign rfl) rfl ?_)
         | (show AT _ _ _ (wpList _ _ _ (⟨_, Op.load _ _, _, _, _, _⟩ :: _)); refine st_y (y_loadb 0 tabs rfl rfl rfl rfl) rfl ?_)
         | (show AT _ _ _ (wpList _ _ _ (⟨_, Op.unOp _ _ _, _, _, _, _⟩ :: _)); refine st_y (y_notd rfl) rfl ?_)
         | (show AT _ _ _ (wpList _ _ _ (⟨_, Op.call _, _, _, _, _⟩ :: _)); (refine m_call (ent_of Try.func65 (by kernel_rfl) rfl) rfl rfl (fun w c => spec_IsMatrix_ok (m := m) (c.rd hr)) ?_; rintro v H' ⟨rfl, rfl⟩))
         | (show AT _ _ _ (wpList _ _ _ (⟨_, Op.box _ _, _, _, _, _⟩ :: _)); refine m_box rfl rfl (fun bq hbq => ?_))
         | (show AT _ _ _ (wpList _ _ _ (⟨_, Op.buildSlice _ _ _, _, _, _, _⟩ :: _)); refine m_build0 tabs rfl rfl (fun g hg => ?_)))
      | (show AT _ _ _ (wpList _ _ _ []); refine c_nil (x_then ?_))
      | (show AT _ _ _ (Code.wp _ _ _); first | refine c_seq ?_ | refine c_region ?_ | refine c_ret ?_ | refine c_ift rfl (by first | assumption | omega) ?_)
      | (show AT _ _ _ _; refine x_then_ret ?_))
    exact x_ret2 Try.results22 (res_tmp rfl) (res_tmp rfl) (fun w' c' => ⟨_, _, rfl, ⟨_, 0, rfl, .inl rfl, rfl⟩, c'.sub (.cons_cons _ (List.nil_sublist _))⟩)
end Go.Proofs.Ytljgmmmgnfgbhaa
