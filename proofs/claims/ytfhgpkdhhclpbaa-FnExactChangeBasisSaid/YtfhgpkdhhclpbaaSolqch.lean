import Derived.Test.YtfhgpkdhhclpbaaImgqch
import Derived.Test.YtfhgpkdhhclpbaaLCqch
namespace Go.Proofs.Ytfhgpkdhhclpbaa
open Go.Lg Go.Proofs Go.RowKit
attribute [local irreducible] Code.wp wpList bodyPost Exit.then Exit.inBlock Hp Again Calls Y AT ResV QT Qn QI wpAny wpAnyQ
set_option maxRecDepth 20000
set_option maxHeartbeats 4000000

/-! ### systems -/
def vF (v : List Int) : Nat → Nat → Int := fun i _ => v.getD i 0
/-- the matrix of a system with its right side -/
abbrev sysF (C : Nat) (f : Nat → Nat → Int) (v : List Int) : Nat → Nat → Int := besF C f (vF v)
/-- the solution, midway: the numbers at the first n leading ones -/
def solG (g : Nat → Nat → Int) (C : Nat) (piv : List Int) : Nat → Nat → Int
  | 0 => fun _ => 0
  | n + 1 => fun q => if q = (piv.getD n 0).toNat then g n C else solG g C piv n q
def solX (p : Int) (R C : Nat) (f : Nat → Nat → Int) (v : List Int) : List Int :=
  if (C : Int) ∈ (redTo p R (sysF C f v) (C + 1)).2 then [] else mkv C (solG (redTo p R (sysF C f v) (C + 1)).1 C (redTo p R (sysF C f v) (C + 1)).2 (redTo p R (sysF C f v) (C + 1)).2.length)
def solB (p : Int) (R C : Nat) (f : Nat → Nat → Int) (v : List Int) : Bool := !decide ((C : Int) ∈ (redTo p R (sysF C f v) (C + 1)).2)
abbrev GivesIB (x : List Int) (b : Bool) (r : Value) (H : List HE) : Prop := ∃ a c, r = .tuple #[.slice a x.length c, .bool b] ∧ SA a x.length ∧ H = [.own (iT x) (.slice a x.length c)]
theorem inF_sys {p : Int} {R C : Nat} {f : Nat → Nat → Int} {v : List Int} (hf : inF p R C f) (hv : InP 0 (p - 1) v) (hl : v.length = R) : inF p R (C + 1) (sysF C f v) := inF_bes hf (fun i j hi _ => by
  have := inP_get hv (i := i) (by omega)
  unfold vF; omega)
/-- the system's matrix, midway: row i is under way, j numbers of it are there -/
def fillF (C : Nat) (f h : Nat → Nat → Int) (i j : Nat) : Nat → Nat → Int := fun a b => if a < i then besF C f h a b else if a = i ∧ b < j then f a b else 0
theorem fillF_next {C i j : Nat} {f h : Nat → Nat → Int} : upd (fillF C f h i j) i j (f i j) = fillF C f h i (j + 1) := by
  funext a b
  unfold upd fillF
  grind
theorem fillF_row {R C i : Nat} {f h : Nat → Nat → Int} {v : Int} (hv : v = h i 0) : mk R (C + 1) (upd (fillF C f h i C) i C v) = mk R (C + 1) (fillF C f h (i + 1) 0) := mk_ext (fun a b ha hb => by
  unfold upd fillF besF
  subst hv
  by_cases h1 : a < i
  · grind
  · by_cases h2 : a = i
    · subst h2
      by_cases h3 : b = C
      · subst h3; simp
      · have : b < C := by omega
        simp [h3, this]
    · have h3 : ¬ a < i + 1 := by omega
      simp [h1, h2, h3])
theorem l4Solve_ok {w : World} {p : Int} {R C : Nat} {f : Nat → Nat → Int} {u u' : Value} {v : List Int} (hr : Rd w (iT (mk R C f)) u) (hr' : Rd w (iT v) u') (hF : FieldP p) (hR : R ≤ 512) (hC : C ≤ 512) (hin : inF p R C f) (hv : InP 0 (p - 1) v) (hl : v.length = R) :
    Does Try.prog 87 [iV p, .agg #[iV R, iV C, u], u'] w (GivesIB (solX p R C f v) (solB p R C f v)) := by
  have hsy := inF_sys hin hv hl
  have hpv := redTo_piv (p := p) (R := R) (f := sysF C f v) (C + 1)
  have hpl := redTo_in (f := sysF C f v) (p := p) (R := R) (C := C + 1) (by have := fieldP_pos hF; omega) hsy (C + 1)
  obtain ⟨av, cv, rfl, hsv, _, _, hgv⟩ := hr'.ints
  obtain ⟨am, cm, rfl, hsm, _⟩ := rd_mk hr
  rw [hl] at hsv hgv ⊢
  have hRC := rc_le (R := R) (C := C + 1) (by omega) (by omega)
  have hRC0 := rc_le (R := R) (C := C) (by omega) (by omega)
  refine fn_enter Try.func87 rfl Try.ntmps87 rfl ?_
  repeat' (first
    | (show AT _ _ _ (wpList _ _ _ (_ :: _)); first
       | (show AT _ _ _ (wpList _ _ _ (⟨_, Op.assign _, _, _, _, _⟩ :: _)); refine st_y (y_assign rfl) rfl ?_)
       | (show AT _ _ _ (wpList _ _ _ (⟨_, Op.fieldAddr _ _ _, _, _, _, _⟩ :: _)); refine st_y (y_field tabs rfl rfl rfl) rfl ?_)
       | (show AT _ _ _ (wpList _ _ _ (⟨_, Op.load _ _, _, _, _, _⟩ :: _)); refine st_y (y_load tabs rfl rfl (hc_blk 0 rfl rfl)) rfl ?_)
       | (show AT _ _ _ (wpList _ _ _ (⟨_, Op.binOp _ _ _ _ _, _, _, _, _⟩ :: _)); refine st_y (y_addn (a := C) (b := 1) rfl rfl rfl rfl (by omega)) rfl ?_)
       | (show AT _ _ _ (wpList _ _ _ (⟨_, Op.call _, _, _, _, _⟩ :: _)); (refine m_call (ent_of Try.func114 (by kernel_rfl) rfl) rfl rfl (fun w c => l3Zero_ok (R := R) (C := C + 1) (by omega) (by omega)) ?_; rintro v H' ⟨a, c, rfl, hs, rfl⟩))
       | (show AT _ _ _ (wpList _ _ _ (⟨_, Op.store _ _ _, _, _, _, _⟩ :: _)); refine m_storeb 0 tabs rfl rfl rfl rfl rfl rfl rfl ?_)
       | (show AT _ _ _ (wpList _ _ _ (⟨_, Op.box _ _, _, _, _, _⟩ :: _)); refine m_box rfl rfl (fun b4 hb4 => ?_))
       | (show AT _ _ _ (wpList _ _ _ (⟨_, Op.alloc _, _, _, _, _⟩ :: _)); refine m_alloc tabs rfl rfl (fun b8 hb8 => ?_)))
    | (show AT _ _ _ (wpList _ _ _ []); refine c_nil (x_then ?_))
    | (show AT _ _ _ (Code.wp _ _ _); first | refine c_seq ?_ | refine c_region ?_ | refine c_block ?_))
  refine c_loopH (α := Nat) [0, 2, 4, 8] (fun i => [(9, .int .i64 i)]) (fun i => i ≤ R) (fun i => [.blk b8 #[iV R, iV (C + 1 : Nat), .slice a (R * (C + 1)) c] 81, .own (iT (mk R (C + 1) (fillF C f (vF v) i 0))) (.slice a (R * (C + 1)) c), .blk b4 #[iV R, iV C, .slice am (R * C) cm] 81]) (fun i => R - i) 0 rfl (by repeat' (first | exact Sub.nil | refine Sub.cons rfl ?_ | refine Sub.consi rfl (by omega) ?_)) ?_ ?_ ?_
  · omega
  · intro w' c'
    have e0 : fillF C f (vF v) 0 0 = (fun _ _ => 0) := by funext a b; simp [fillF]
    rw [e0]
    exact c'
  · intro i hi
    by_cases hiR : i < R
    · repeat' (first
        | (show AT _ _ _ (wpList _ _ _ (_ :: _)); first
           | (show AT _ _ _ (wpList _ _ _ (⟨_, Op.move _, _, _, _, _⟩ :: _)); refine st_y (y_move rfl) rfl ?_)
           | (show AT _ _ _ (wpList _ _ _ (⟨_, Op.assign _, _, _, _, _⟩ :: _)); refine st_y (y_assign rfl) rfl ?_)
           | (show AT _ _ _ (wpList _ _ _ (⟨_, Op.fieldAddr _ _ _, _, _, _, _⟩ :: _)); refine st_y (y_field tabs rfl rfl rfl) rfl ?_)
           | (show AT _ _ _ (wpList _ _ _ (⟨_, Op.load _ _, _, _, _, _⟩ :: _)); refine st_y (y_load tabs rfl rfl (hc_blk 2 rfl rfl)) rfl ?_)
           | (show AT _ _ _ (wpList _ _ _ (⟨_, Op.binOp _ _ _ _ _, _, _, _, _⟩ :: _)); refine st_y (y_lss rfl rfl) rfl ?_))
        | (show AT _ _ _ (wpList _ _ _ []); refine c_nil (x_then ?_))
        | (show AT _ _ _ (Code.wp _ _ _); first | refine c_seq ?_ | refine c_region ?_ | refine c_skip (x_then ?_) | refine c_block ?_ | refine c_ift rfl (by first | assumption | omega) ?_))
      refine c_loopH (α := Nat) [0, 2, 4, 8, 9] (fun j => [(10, .int .i64 j)]) (fun j => j ≤ C) (fun j => [.blk b8 #[iV R, iV (C + 1 : Nat), .slice a (R * (C + 1)) c] 81, .own (iT (mk R (C + 1) (fillF C f (vF v) i j))) (.slice a (R * (C + 1)) c), .blk b4 #[iV R, iV C, .slice am (R * C) cm] 81]) (fun j => C - j) 0 rfl (by repeat' (first | exact Sub.nil | refine Sub.cons rfl ?_ | refine Sub.consi rfl (by omega) ?_)) ?_ ?_ ?_
      · omega
      · exact fun w' c' => c'
      · intro j hj
        by_cases hjC : j < C
        · have hc1 := cell_lt (C := C + 1) hiR (show j < C + 1 by omega)
          have hc2 := cell_lt (C := C) hiR hjC
          repeat' (first
            | (show AT _ _ _ (wpList _ _ _ (_ :: _)); first
               | (show AT _ _ _ (wpList _ _ _ (⟨_, Op.move _, _, _, _, _⟩ :: _)); refine st_y (y_move rfl) rfl ?_)
               | (show AT _ _ _ (wpList _ _ _ (⟨_, Op.assign _, _, _, _, _⟩ :: _)); refine st_y (y_assign rfl) rfl ?_)
               | (show AT _ _ _ (wpList _ _ _ (⟨_, Op.fieldAddr _ _ _, _, _, _, _⟩ :: _)); refine st_y (y_field tabs rfl rfl rfl) rfl ?_)
               | (show AT _ _ _ (wpList _ _ _ (⟨_, Op.load _ _, _, _, _, _⟩ :: _)); refine st_y (y_load tabs rfl rfl (hc_blk 2 rfl rfl)) rfl ?_)
               | (show AT _ _ _ (wpList _ _ _ (⟨_, Op.indexAddr _ _ _, _, _, _, _⟩ :: _)); refine st_y (y_ix1 tabs (j := i * (C + 1) + j) rfl rfl rfl hs rfl hc1) rfl ?_)
               | (show AT _ _ _ (wpList _ _ _ (⟨_, Op.binOp _ _ _ _ _, _, _, _, _⟩ :: _)); first | refine st_y (y_add rfl rfl (by omega)) rfl ?_ | refine st_y (y_lss rfl rfl) rfl ?_)
               | (show AT _ _ _ (wpList _ _ _ (⟨_, Op.store _ _ _, _, _, _, _⟩ :: _)); refine m_storeo 1 tabs rfl rfl rfl rfl (by rw [mk_length]; exact hc1) ?_))
            | (show AT _ _ _ (wpList _ _ _ []); first | refine c_nil (x_then ?_) | refine c_nil ?_)
            | (show AT _ _ _ (Code.wp _ _ _); first | refine c_tailR 18 (by kernel_rfl) (by kernel_rfl) (by kernel_rfl) (by kernel_rfl) (by kernel_rfl) (by kernel_rfl) (fun _ c => Hp.drew c) ?_ | refine c_seq ?_ | refine c_region ?_ | refine c_skip (x_then ?_) | refine c_block ?_ | refine c_ift rfl (by first | assumption | omega) ?_)
            | (show QT _ _ _ _ _ _ (_ :: _); first
               | (show QT _ _ _ _ _ _ (⟨_, Op.move _, _, _, _, _⟩ :: _); refine q_y (y_move rfl) rfl ?_)
               | (show QT _ _ _ _ _ _ (⟨_, Op.fieldAddr _ _ _, _, _, _, _⟩ :: _); refine q_y (y_field tabs rfl rfl rfl) rfl ?_)
               | (show QT _ _ _ _ _ _ (⟨_, Op.load _ _, _, _, _, _⟩ :: _); first | refine q_y (y_load tabs rfl rfl (hc_rdk (RdOut.of_rd hr) hiR hjC)) rfl ?_ | refine q_y (y_load tabs rfl rfl (hc_blk 0 rfl rfl)) rfl ?_ | refine q_y (y_load tabs rfl rfl (hc_blk 2 rfl rfl)) rfl ?_)
               | (show QT _ _ _ _ _ _ (⟨_, Op.indexAddr _ _ _, _, _, _, _⟩ :: _); refine q_y (y_ix1 tabs (j := i * C + j) rfl rfl rfl hsm rfl hc2) rfl ?_)
               | (show QT _ _ _ _ _ _ (⟨_, Op.binOp _ _ _ _ _, _, _, _, _⟩ :: _); first | refine q_y (y_muln rfl rfl rfl rfl (by omega)) rfl ?_ | refine q_y (y_addn (b := j) rfl rfl rfl rfl (by omega)) rfl ?_))
            | (show QT _ _ _ _ _ _ []; refine q_nil ?_)
            | (show AT _ _ _ _; first | refine x_then ?_ | refine x_blk ?_))
          refine x_nx (j + 1) (by repeat' (first | exact Sub.nil | refine Sub.cons rfl ?_ | refine Sub.consi rfl (by omega) ?_)) (by omega) (fun w' c' => ?_) (by omega)
          simp only [List.set_cons_succ, List.set_cons_zero] at c'
          rw [mk_set hiR (by omega), fillF_next] at c'
          exact c'
        · have : j = C := by omega
          subst this
          have hc1 := cell_lt (C := j + 1) hiR (show j < j + 1 by omega)
          repeat' (first
            | (show AT _ _ _ (wpList _ _ _ (_ :: _)); first
               | (show AT _ _ _ (wpList _ _ _ (⟨_, Op.move _, _, _, _, _⟩ :: _)); refine st_y (y_move rfl) rfl ?_)
               | (show AT _ _ _ (wpList _ _ _ (⟨_, Op.assign _, _, _, _, _⟩ :: _)); refine st_y (y_assign rfl) rfl ?_)
               | (show AT _ _ _ (wpList _ _ _ (⟨_, Op.fieldAddr _ _ _, _, _, _, _⟩ :: _)); refine st_y (y_field tabs rfl rfl rfl) rfl ?_)
               | (show AT _ _ _ (wpList _ _ _ (⟨_, Op.load _ _, _, _, _, _⟩ :: _)); refine st_y (y_load tabs rfl rfl (hc_blk 2 rfl rfl)) rfl ?_)
               | (show AT _ _ _ (wpList _ _ _ (⟨_, Op.indexAddr _ _ _, _, _, _, _⟩ :: _)); refine st_y (y_ix1 tabs (j := i * (j + 1) + j) rfl rfl rfl hs rfl hc1) rfl ?_)
               | (show AT _ _ _ (wpList _ _ _ (⟨_, Op.binOp _ _ _ _ _, _, _, _, _⟩ :: _)); first | refine st_y (y_add rfl rfl (by omega)) rfl ?_ | refine st_y (y_lss rfl rfl) rfl ?_)
               | (show AT _ _ _ (wpList _ _ _ (⟨_, Op.store _ _ _, _, _, _, _⟩ :: _)); refine m_storeo 1 tabs rfl rfl rfl rfl (by rw [mk_length]; exact hc1) ?_))
            | (show AT _ _ _ (wpList _ _ _ []); first | refine c_nil (x_then ?_) | refine c_nil ?_)
            | (show AT _ _ _ (Code.wp _ _ _); first | refine c_tailR 13 (by kernel_rfl) (by kernel_rfl) (by kernel_rfl) (by kernel_rfl) (by kernel_rfl) (by kernel_rfl) (fun _ c => Hp.drew c) ?_ | refine c_seq ?_ | refine c_region ?_ | refine c_exit ?_ | refine c_iff rfl (by first | assumption | exact not_not_intro (by assumption) | omega) ?_)
            | (show QT _ _ _ _ _ _ (_ :: _); first
               | (show QT _ _ _ _ _ _ (⟨_, Op.move _, _, _, _, _⟩ :: _); refine q_y (y_move rfl) rfl ?_)
               | (show QT _ _ _ _ _ _ (⟨_, Op.fieldAddr _ _ _, _, _, _, _⟩ :: _); refine q_y (y_field tabs rfl rfl rfl) rfl ?_)
               | (show QT _ _ _ _ _ _ (⟨_, Op.load _ _, _, _, _, _⟩ :: _); first | refine q_y (y_load tabs rfl rfl (hc_w0 (hgv i hiR))) rfl ?_ | refine q_y (y_load tabs rfl rfl (hc_blk 0 rfl rfl)) rfl ?_ | refine q_y (y_load tabs rfl rfl (hc_blk 2 rfl rfl)) rfl ?_)
               | (show QT _ _ _ _ _ _ (⟨_, Op.indexAddr _ _ _, _, _, _, _⟩ :: _); refine q_y (y_ix1 tabs (j := i) rfl rfl rfl hsv rfl hiR) rfl ?_)
               | (show QT _ _ _ _ _ _ (⟨_, Op.binOp _ _ _ _ _, _, _, _, _⟩ :: _); first | refine q_y (y_muln rfl rfl rfl rfl (by omega)) rfl ?_ | refine q_y (y_addn (b := j) rfl rfl rfl rfl (by omega)) rfl ?_))
            | (show QT _ _ _ _ _ _ []; refine q_nil ?_)
            | (show AT _ _ _ _; first | refine x_then ?_ | refine x_then_exit ?_ | refine x_blk_exit rfl ?_ | refine x_blk ?_))
          refine x_nx (i + 1) (by repeat' (first | exact Sub.nil | refine Sub.cons rfl ?_ | refine Sub.consi rfl (by omega) ?_)) (by omega) (fun w' c' => ?_) (by omega)
          simp only [List.set_cons_succ, List.set_cons_zero] at c'
          rw [mk_set hiR (by omega), fillF_row (v := v.getD i 0) rfl] at c'
          exact c'
    · have : i = R := by omega
      subst this
      have e0 : mk i (C + 1) (fillF C f (vF v) i 0) = mk i (C + 1) (sysF C f v) := mk_ext (fun a b ha hb => by unfold fillF; rw [if_pos ha])
      rw [e0]
      repeat' (first
        | (show AT _ _ _ (wpList _ _ _ (_ :: _)); first
           | (show AT _ _ _ (wpList _ _ _ (⟨_, Op.move _, _, _, _, _⟩ :: _)); refine st_y (y_move rfl) rfl ?_)
           | (show AT _ _ _ (wpList _ _ _ (⟨_, Op.assign _, _, _, _, _⟩ :: _)); refine st_y (y_assign rfl) rfl ?_)
           | (show AT _ _ _ (wpList _ _ _ (⟨_, Op.fieldAddr _ _ _, _, _, _, _⟩ :: _)); refine st_y (y_field tabs rfl rfl rfl) rfl ?_)
           | (show AT _ _ _ (wpList _ _ _ (⟨_, Op.load _ _, _, _, _, _⟩ :: _)); first | refine st_y (y_load tabs rfl rfl (hc_blk 2 rfl rfl)) rfl ?_ | refine st_y (y_load tabs rfl rfl (hc_blk 5 rfl rfl)) rfl ?_ | refine st_y (y_loadb 0 tabs rfl rfl rfl rfl) rfl ?_)
           | (show AT _ _ _ (wpList _ _ _ (⟨_, Op.binOp _ _ _ _ _, _, _, _, _⟩ :: _)); refine st_y (y_lss rfl rfl) rfl ?_)
           | (show AT _ _ _ (wpList _ _ _ (⟨_, Op.call _, _, _, _, _⟩ :: _)); first | (refine m_call (ent_of Try.func139 (by kernel_rfl) rfl) rfl rfl (fun w c => l4ReduceK_ok (c.own_rd (i := 1) rfl) hF (by omega) (by omega) hsy) ?_; rintro v H' ⟨a2, c2, a', c', rfl, hs2, hs', rfl⟩) | (refine m_call (ent_of Try.func140 (by kernel_rfl) rfl) rfl rfl (fun w c => l4Has_ok (c.own_rd (i := 1) rfl)) ?_; rintro v H' ⟨rfl, rfl⟩))
           | (show AT _ _ _ (wpList _ _ _ (⟨_, Op.extract _ _, _, _, _, _⟩ :: _)); refine st_y (y_ext rfl rfl) rfl ?_)
           | (show AT _ _ _ (wpList _ _ _ (⟨_, Op.store _ _ _, _, _, _, _⟩ :: _)); refine m_storeb 0 tabs rfl rfl rfl rfl rfl rfl rfl ?_)
           | (show AT _ _ _ (wpList _ _ _ (⟨_, Op.alloc _, _, _, _, _⟩ :: _)); refine m_alloc tabs rfl rfl (fun b11 hb11 => ?_))
           | (show AT _ _ _ (wpList _ _ _ (⟨_, Op.makeSlice _ _ _, _, _, _, _⟩ :: _)); refine m_maken tabs (m := C) rfl rfl rfl rfl (by omega) rfl (fun gg hgg => ?_))
           | (show AT _ _ _ (wpList _ _ _ (⟨_, Op.buildSlice _ _ _, _, _, _, _⟩ :: _)); refine m_build0 tabs rfl rfl (fun g hg => ?_)))
        | (show AT _ _ _ (wpList _ _ _ []); refine c_nil (x_then ?_))
        | (show AT _ _ _ (Code.wp _ _ _); first | refine c_seq ?_ | refine c_region ?_ | refine c_skip (x_then ?_) | refine c_block ?_ | refine c_ret ?_ | refine c_exit ?_ | refine c_iff rfl (by first | assumption | exact not_not_intro (by assumption) | omega) ?_ | refine c_if rfl (fun h => ?_) (fun h => ?_))
        | (show AT _ _ _ _; first | refine x_then ?_ | refine x_then_ret ?_ | refine x_then_exit ?_ | refine x_blk_exit rfl ?_))
      · rw [solX, if_pos (by assumption), solB, decide_eq_true (by assumption)]
        exact x_ret2 Try.results87 (res_tmp rfl) (res_tmp rfl) (fun w' c' => ⟨_, _, rfl, ⟨_, 0, rfl, .inl rfl, rfl⟩, c'.sub (.cons_cons _ (List.nil_sublist _))⟩)
      · generalize hre : redTo p i (sysF C f v) (C + 1) = red at *
        obtain ⟨g, piv⟩ := red
        obtain ⟨hgi, hpl⟩ := hpl
        simp only at hpv hpl hs2 hs' hgi h ⊢
        have hX : solX p i C f v = mkv C (solG g C piv piv.length) := by rw [solX, hre, if_neg h]
        have hB : solB p i C f v = true := by rw [solB, hre, decide_eq_false h]; rfl
        rw [hX, hB, mkv_zero]
        refine c_loopH (α := Nat) [4, 11, 12, 13] (fun n => [(14, .int .i64 n)]) (fun n => n ≤ piv.length) (fun n => [.own (iT (mkv C (solG g C piv n))) (.slice (some ⟨gg, 0, none⟩) C C), .blk b11 #[iV i, iV (C + 1 : Nat), .slice a2 (i * (C + 1)) c2] 81, .own (iT piv) (.slice a' piv.length c'), .own (iT (mk i (C + 1) g)) (.slice a2 (i * (C + 1)) c2), .blk b4 #[iV i, iV C, .slice am (i * C) cm] 81]) (fun n => piv.length - n) 0 rfl (by repeat' (first | exact Sub.nil | refine Sub.cons rfl ?_ | refine Sub.consi rfl (by omega) ?_)) ?_ ?_ ?_
        · omega
        · exact fun w' c' => c'.sub (by repeat' first | exact List.Sublist.refl _ | exact List.nil_sublist _ | apply List.Sublist.cons_cons | apply List.Sublist.cons)
        · intro n hn
          by_cases hin' : n < piv.length
          · have hx : piv[n]? = some (piv.getD n 0) := getD_some hin'
            have hb := hpv _ (List.mem_of_getElem? hx)
            have hkC : piv.getD n 0 ≠ (C : Int) := fun e => h (by rw [← e]; exact List.mem_of_getElem? hx)
            have hk0 : (piv.getD n 0).toNat < C := by omega
            have ek : piv.getD n 0 = (((piv.getD n 0).toNat : Nat) : Int) := by omega
            have hnR : n < i := by omega
            have hC1 : C < C + 1 := by omega
            have hc1 := cell_lt (C := C + 1) hnR hC1
            repeat' (first
              | (show AT _ _ _ (wpList _ _ _ (_ :: _)); first
                 | (show AT _ _ _ (wpList _ _ _ (⟨_, Op.move _, _, _, _, _⟩ :: _)); refine st_y (y_move rfl) rfl ?_)
                 | (show AT _ _ _ (wpList _ _ _ (⟨_, Op.assign _, _, _, _, _⟩ :: _)); refine st_y (y_assign rfl) rfl ?_)
                 | (show AT _ _ _ (wpList _ _ _ (⟨_, Op.indexAddr _ _ _, _, _, _, _⟩ :: _)); refine st_y (y_ix1 tabs (j := (piv.getD n 0).toNat) rfl rfl rfl .mk ek hk0) rfl ?_)
                 | (show AT _ _ _ (wpList _ _ _ (⟨_, Op.binOp _ _ _ _ _, _, _, _, _⟩ :: _)); first | refine st_y (y_add rfl rfl (by omega)) rfl ?_ | refine st_y (y_lss rfl rfl) rfl ?_)
                 | (show AT _ _ _ (wpList _ _ _ (⟨_, Op.call _, _, _, _, _⟩ :: _)); refine st_y (y_len tabs rfl rfl) rfl ?_)
                 | (show AT _ _ _ (wpList _ _ _ (⟨_, Op.store _ _ _, _, _, _, _⟩ :: _)); refine m_storeo 0 tabs rfl rfl rfl rfl (by rw [mkv_length]; exact hk0) ?_))
              | (show AT _ _ _ (wpList _ _ _ []); first | refine c_nil (x_then ?_) | refine c_nil ?_)
              | (show AT _ _ _ (Code.wp _ _ _); first | refine c_tailR 16 (by kernel_rfl) (by kernel_rfl) (by kernel_rfl) (by kernel_rfl) (by kernel_rfl) (by kernel_rfl) (fun _ c => Hp.drew c) ?_ | refine c_seq ?_ | refine c_region ?_ | refine c_skip (x_then ?_) | refine c_block ?_ | refine c_ift rfl (by first | assumption | omega) ?_)
              | (show QT _ _ _ _ _ _ (_ :: _); first
                 | (show QT _ _ _ _ _ _ (⟨_, Op.move _, _, _, _, _⟩ :: _); refine q_y (y_move rfl) rfl ?_)
                 | (show QT _ _ _ _ _ _ (⟨_, Op.fieldAddr _ _ _, _, _, _, _⟩ :: _); refine q_y (y_field tabs rfl rfl rfl) rfl ?_)
                 | (show QT _ _ _ _ _ _ (⟨_, Op.load _ _, _, _, _, _⟩ :: _); first | refine q_y (y_load tabs rfl rfl (hc_own 2 rfl hin')) rfl ?_ | refine q_y (y_load tabs rfl rfl (hc_mk 3 rfl hnR hC1)) rfl ?_ | refine q_y (y_load tabs rfl rfl (hc_blk 1 rfl rfl)) rfl ?_ | refine q_y (y_load tabs rfl rfl (hc_blk 4 rfl rfl)) rfl ?_)
                 | (show QT _ _ _ _ _ _ (⟨_, Op.indexAddr _ _ _, _, _, _, _⟩ :: _); first | refine q_y (y_ix1 tabs (j := n * (C + 1) + C) rfl rfl rfl hs2 rfl hc1) rfl ?_ | refine q_y (y_ix1 tabs (j := n) rfl rfl rfl hs' rfl hin') rfl ?_)
                 | (show QT _ _ _ _ _ _ (⟨_, Op.binOp _ _ _ _ _, _, _, _, _⟩ :: _); first | refine q_y (y_muln rfl rfl rfl rfl (by omega)) rfl ?_ | refine q_y (y_addn (b := C) rfl rfl rfl rfl (by omega)) rfl ?_))
              | (show QT _ _ _ _ _ _ []; refine q_nil ?_)
              | (show AT _ _ _ _; first | refine x_then ?_ | refine x_blk ?_))
            refine x_nx (n + 1) (by repeat' (first | exact Sub.nil | refine Sub.cons rfl ?_ | refine Sub.consi rfl (by omega) ?_)) (by omega) (fun w' c' => ?_) (by omega)
            simp only [List.set_cons_zero, mkv_set] at c'
            exact c'
          · have : n = piv.length := by omega
            subst this
            repeat' (first
              | (show AT _ _ _ (wpList _ _ _ (_ :: _)); first
                 | (show AT _ _ _ (wpList _ _ _ (⟨_, Op.move _, _, _, _, _⟩ :: _)); refine st_y (y_move rfl) rfl ?_)
                 | (show AT _ _ _ (wpList _ _ _ (⟨_, Op.assign _, _, _, _, _⟩ :: _)); refine st_y (y_assign rfl) rfl ?_)
                 | (show AT _ _ _ (wpList _ _ _ (⟨_, Op.binOp _ _ _ _ _, _, _, _, _⟩ :: _)); refine st_y (y_lss rfl rfl) rfl ?_)
                 | (show AT _ _ _ (wpList _ _ _ (⟨_, Op.call _, _, _, _, _⟩ :: _)); refine st_y (y_len tabs rfl rfl) rfl ?_))
              | (show AT _ _ _ (wpList _ _ _ []); refine c_nil (x_then ?_))
              | (show AT _ _ _ (Code.wp _ _ _); first | refine c_seq ?_ | refine c_region ?_ | refine c_ret ?_ | refine c_exit ?_ | refine c_iff rfl (by first | assumption | exact not_not_intro (by assumption) | omega) ?_)
              | (show AT _ _ _ _; first | refine x_then ?_ | refine x_then_exit ?_ | refine x_blk_exit rfl ?_))
            refine x_ret2 Try.results87 (res_tmp rfl) (res_tmp rfl) (fun w' c' => ⟨.tuple #[.slice (some ⟨gg, 0, none⟩) C C, .bool true], [.own (iT (mkv C (solG g C piv piv.length))) (.slice (some ⟨gg, 0, none⟩) C C)], rfl, ⟨_, C, by rw [mkv_length], .mk, by rw [mkv_length]⟩, c'.sub (.cons_cons _ (List.nil_sublist _))⟩)
end Go.Proofs.Ytfhgpkdhhclpbaa
