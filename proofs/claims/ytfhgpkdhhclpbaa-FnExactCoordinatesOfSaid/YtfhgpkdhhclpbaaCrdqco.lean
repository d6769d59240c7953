import Derived.Test.YtfhgpkdhhclpbaaHbsqco
import Derived.Test.YtfhgpkdhhclpbaaImgqco
import Derived.Test.YtfhgpkdhhclpbaaInvqco
import Derived.Test.YtfhgpkdhhclpbaaLCqco
import Derived.Test.YtfhgpkdhhclpbaaRrfqco
import Derived.Test.YtfhgpkdhhclpbaaSpmqco
namespace Go.Proofs.Ytfhgpkdhhclpbaa
open Go.Lg Go.Proofs Go.RowKit
attribute [local irreducible] Code.wp wpList bodyPost Exit.then Exit.inBlock Hp Again Calls Y AT ResV QT Qn QI wpAny wpAnyQ
set_option maxRecDepth 20000
set_option maxHeartbeats 4000000

/-! ### systems -/
def vF (v : List Int) : Nat → Nat → Int := fun i _ => v.getD i 0
/-- the matrix of a system with its right side -/
abbrev sysF (C : Nat) (f : Nat → Nat → Int) (v : List Int) : Nat → Nat → Int := besF C f (vF v)
/-- the solution, midway: the numbers at the first n leading ones -/
def solG (g : Nat → Nat → Int) (C : Nat) (piv : List Int) : Nat → Nat → Int
  | 0 => fun _ => 0
  | n + 1 => fun q => if q = (piv.getD n 0).toNat then g n C else solG g C piv n q
def solX (p : Int) (R C : Nat) (f : Nat → Nat → Int) (v : List Int) : List Int :=
  if (C : Int) ∈ (redTo p R (sysF C f v) (C + 1)).2 then [] else mkv C (solG (redTo p R (sysF C f v) (C + 1)).1 C (redTo p R (sysF C f v) (C + 1)).2 (redTo p R (sysF C f v) (C + 1)).2.length)
def solB (p : Int) (R C : Nat) (f : Nat → Nat → Int) (v : List Int) : Bool := !decide ((C : Int) ∈ (redTo p R (sysF C f v) (C + 1)).2)
abbrev GivesIB (x : List Int) (b : Bool) (r : Value) (H : List HE) : Prop := ∃ a c, r = .tuple #[.slice a x.length c, .bool b] ∧ SA a x.length ∧ H = [.own (iT x) (.slice a x.length c)]
theorem inF_sys {p : Int} {R C : Nat} {f : Nat → Nat → Int} {v : List Int} (hf : inF p R C f) (hv : InP 0 (p - 1) v) (hl : v.length = R) : inF p R (C + 1) (sysF C f v) := inF_bes hf (fun i j hi _ => by
  have := inP_get hv (i := i) (by omega)
  unfold vF; omega)
/-- the system's matrix, midway: row i is under way, j numbers of it are there -/
def fillF (C : Nat) (f h : Nat → Nat → Int) (i j : Nat) : Nat → Nat → Int := fun a b => if a < i then besF C f h a b else if a = i ∧ b < j then f a b else 0
theorem fillF_next {C i j : Nat} {f h : Nat → Nat → Int} : upd (fillF C f h i j) i j (f i j) = fillF C f h i (j + 1) := by
  funext a b
  unfold upd fillF
  grind
theorem fillF_row {R C i : Nat} {f h : Nat → Nat → Int} {v : Int} (hv : v = h i 0) : mk R (C + 1) (upd (fillF C f h i C) i C v) = mk R (C + 1) (fillF C f h (i + 1) 0) := mk_ext (fun a b ha hb => by
  unfold upd fillF besF
  subst hv
  by_cases h1 : a < i
  · grind
  · by_cases h2 : a = i
    · subst h2
      by_cases h3 : b = C
      · subst h3; simp
      · have : b < C := by omega
        simp [h3, this]
    · have h3 : ¬ a < i + 1 := by omega
      simp [h1, h2, h3])
theorem l4Solve_ok {w : World} {p : Int} {R C : Nat} {f : Nat → Nat → Int} {u u' : Value} {v : List Int} (hr : Rd w (iT (mk R C f)) u) (hr' : Rd w (iT v) u') (hF : FieldP p) (hR : R ≤ 512) (hC : C ≤ 512) (hin : inF p R C f) (hv : InP 0 (p - 1) v) (hl : v.length = R) :
    Does Try.prog 87 [iV p, .agg #[iV R, iV C, u], u'] w (GivesIB (solX p R C f v) (solB p R C f v)) := by
  have hsy := inF_sys hin hv hl
  have hpv := redTo_piv (p := p) (R := R) (f := sysF C f v) (C + 1)
  have hpl := redTo_in (f := sysF C f v) (p := p) (R := R) (C := C + 1) (by have := fieldP_pos hF; omega) hsy (C + 1)
  obtain ⟨av, cv, rfl, hsv, _, _, hgv⟩ := hr'.ints
  obtain ⟨am, cm, rfl, hsm, _⟩ := rd_mk hr
  rw [hl] at hsv hgv ⊢
  have hRC := rc_le (R := R) (C := C + 1) (by omega) (by omega)
  have hRC0 := rc_le (R := R) (C := C) (by omega) (by omega)
  refine fn_enter Try.func87 rfl Try.ntmps87 rfl ?_
  repeat' (first
    | (show AT _ _ _ (wpList _ _ _ (_ :: _)); first
       | (show AT _ _ _ (wpList _ _ _ (⟨_, Op.assign _, _, _, _, _⟩ :: _)); refine st_y (y_assign rfl) rfl ?_)
       | (show AT _ _ _ (wpList _ _ _ (⟨_, Op.fieldAddr _ _ _, _, _, _, _⟩ :: _)); refine st_y (y_field tabs rfl rfl rfl) rfl ?_)
       | (show AT _ _ _ (wpList _ _ _ (⟨_, Op.load _ _, _, _, _, _⟩ :: _)); refine st_y (y_load tabs rfl rfl (hc_blk 0 rfl rfl)) rfl ?_)
       | (show AT _ _ _ (wpList _ _ _ (⟨_, Op.binOp _ _ _ _ _, _, _, _, _⟩ :: _)); refine st_y (y_addn (a := C) (b := 1) rfl rfl rfl rfl (by omega)) rfl ?_)
       | (show AT _ _ _ (wpList _ _ _ (⟨_, Op.call _, _, _, _, _⟩ :: _)); (refine m_call (ent_of Try.func114 (by kernel_rfl) rfl) rfl rfl (fun w c => l3Zero_ok (R := R) (C := C + 1) (by omega) (by omega)) ?_; rintro v H' ⟨a, c, rfl, hs, rfl⟩))
       | (show AT _ _ _ (wpList _ _ _ (⟨_, Op.store _ _ _, _, _, _, _⟩ :: _)); refine m_storeb 0 tabs rfl rfl rfl rfl rfl rfl rfl ?_)
       | (show AT _ _ _ (wpList _ _ _ (⟨_, Op.box _ _, _, _, _, _⟩ :: _)); refine m_box rfl rfl (fun b4 hb4 => ?_))
       | (show AT _ _ _ (wpList _ _ _ (⟨_, Op.alloc _, _, _, _, _⟩ :: _)); refine m_alloc tabs rfl rfl (fun b8 hb8 => ?_)))
    | (show AT _ _ _ (wpList _ _ _ []); refine c_nil (x_then ?_))
    | (show AT _ _ _ (Code.wp _ _ _); first | refine c_seq ?_ | refine c_region ?_ | refine c_block ?_))
  refine c_loopH (α := Nat) [0, 2, 4, 8] (fun i => [(9, .int .i64 i)]) (fun i => i ≤ R) (fun i => [.blk b8 #[iV R, iV (C + 1 : Nat), .slice a (R * (C + 1)) c] 81, .own (iT (mk R (C + 1) (fillF C f (vF v) i 0))) (.slice a (R * (C + 1)) c), .blk b4 #[iV R, iV C, .slice am (R * C) cm] 81]) (fun i => R - i) 0 rfl (by repeat' (first | exact Sub.nil | refine Sub.cons rfl ?_ | refine Sub.consi rfl (by omega) ?_)) ?_ ?_ ?_
  · omega
  · intro w' c'
    have e0 : fillF C f (vF v) 0 0 = (fun _ _ => 0) := by funext a b; simp [fillF]
    rw [e0]
    exact c'
  · intro i hi
    by_cases hiR : i < R
    · repeat' (first
        | (show AT _ _ _ (wpList _ _ _ (_ :: _)); first
           | (show AT _ _ _ (wpList _ _ _ (⟨_, Op.move _, _, _, _, _⟩ :: _)); refine st_y (y_move rfl) rfl ?_)
           | (show AT _ _ _ (wpList _ _ _ (⟨_, Op.assign _, _, _, _, _⟩ :: _)); refine st_y (y_assign rfl) rfl ?_)
           | (show AT _ _ _ (wpList _ _ _ (⟨_, Op.fieldAddr _ _ _, _, _, _, _⟩ :: _)); refine st_y (y_field tabs rfl rfl rfl) rfl ?_)
           | (show AT _ _ _ (wpList _ _ _ (⟨_, Op.load _ _, _, _, _, _⟩ :: _)); refine st_y (y_load tabs rfl rfl (hc_blk 2 rfl rfl)) rfl ?_)
           | (show AT _ _ _ (wpList _ _ _ (⟨_, Op.binOp _ _ _ _ _, _, _, _, _⟩ :: _)); refine st_y (y_lss rfl rfl) rfl ?_))
        | (show AT _ _ _ (wpList _ _ _ []); refine c_nil (x_then ?_))
        | (show AT _ _ _ (Code.wp _ _ _); first | refine c_seq ?_ | refine c_region ?_ | refine c_skip (x_then ?_) | refine c_block ?_ | refine c_ift rfl (by first | assumption | omega) ?_))
      refine c_loopH (α := Nat) [0, 2, 4, 8, 9] (fun j => [(10, .int .i64 j)]) (fun j => j ≤ C) (fun j => [.blk b8 #[iV R, iV (C + 1 : Nat), .slice a (R * (C + 1)) c] 81, .own (iT (mk R (C + 1) (fillF C f (vF v) i j))) (.slice a (R * (C + 1)) c), .blk b4 #[iV R, iV C, .slice am (R * C) cm] 81]) (fun j => C - j) 0 rfl (by repeat' (first | exact Sub.nil | refine Sub.cons rfl ?_ | refine Sub.consi rfl (by omega) ?_)) ?_ ?_ ?_
      · omega
      · exact fun w' c' => c'
      · intro j hj
        by_cases hjC : j < C
        · have hc1 := cell_lt (C := C + 1) hiR (show j < C + 1 by omega)
          have hc2 := cell_lt (C := C) hiR hjC
          repeat' (first
            | (show AT _ _ _ (wpList _ _ _ (_ :: _)); first
               | (show AT _ _ _ (wpList _ _ _ (⟨_, Op.move _, _, _, _, _⟩ :: _)); refine st_y (y_move rfl) rfl ?_)
               | (show AT _ _ _ (wpList _ _ _ (⟨_, Op.assign _, _, _, _, _⟩ :: _)); refine st_y (y_assign rfl) rfl ?_)
               | (show AT _ _ _ (wpList _ _ _ (⟨_, Op.fieldAddr _ _ _, _, _, _, _⟩ :: _)); refine st_y (y_field tabs rfl rfl rfl) rfl ?_)
               | (show AT _ _ _ (wpList _ _ _ (⟨_, Op.load _ _, _, _, _, _⟩ :: _)); refine st_y (y_load tabs rfl rfl (hc_blk 2 rfl rfl)) rfl ?_)
               | (show AT _ _ _ (wpList _ _ _ (⟨_, Op.indexAddr _ _ _, _, _, _, _⟩ :: _)); refine st_y (y_ix1 tabs (j := i * (C + 1) + j) rfl rfl rfl hs rfl hc1) rfl ?_)
               | (show AT _ _ _ (wpList _ _ _ (⟨_, Op.binOp _ _ _ _ _, _, _, _, _⟩ :: _)); first | refine st_y (y_add rfl rfl (by omega)) rfl ?_ | refine st_y (y_lss rfl rfl) rfl ?_)
               | (show AT _ _ _ (wpList _ _ _ (⟨_, Op.store _ _ _, _, _, _, _⟩ :: _)); refine m_storeo 1 tabs rfl rfl rfl rfl (by rw [mk_length]; exact hc1) ?_))
            | (show AT _ _ _ (wpList _ _ _ []); first | refine c_nil (x_then ?_) | refine c_nil ?_)
            | (show AT _ _ _ (Code.wp _ _ _); first | refine c_tailR 18 (by kernel_rfl) (by kernel_rfl) (by kernel_rfl) (by kernel_rfl) (by kernel_rfl) (by kernel_rfl) (fun _ c => Hp.drew c) ?_ | refine c_seq ?_ | refine c_region ?_ | refine c_skip (x_then ?_) | refine c_block ?_ | refine c_ift rfl (by first | assumption | omega) ?_)
            | (show QT _ _ _ _ _ _ (_ :: _); first
               | (show QT _ _ _ _ _ _ (⟨_, Op.move _, _, _, _, _⟩ :: _); refine q_y (y_move rfl) rfl ?_)
               | (show QT _ _ _ _ _ _ (⟨_, Op.fieldAddr _ _ _, _, _, _, _⟩ :: _); refine q_y (y_field tabs rfl rfl rfl) rfl ?_)
               | (show QT _ _ _ _ _ _ (⟨_, Op.load _ _, _, _, _, _⟩ :: _); first | refine q_y (y_load tabs rfl rfl (hc_rdk (RdOut.of_rd hr) hiR hjC)) rfl ?_ | refine q_y (y_load tabs rfl rfl (hc_blk 0 rfl rfl)) rfl ?_ | refine q_y (y_load tabs rfl rfl (hc_blk 2 rfl rfl)) rfl ?_)
               | (show QT _ _ _ _ _ _ (⟨_, Op.indexAddr _ _ _, _, _, _, _⟩ :: _); refine q_y (y_ix1 tabs (j := i * C + j) rfl rfl rfl hsm rfl hc2) rfl ?_)
               | (show QT _ _ _ _ _ _ (⟨_, Op.binOp _ _ _ _ _, _, _, _, _⟩ :: _); first | refine q_y (y_muln rfl rfl rfl rfl (by omega)) rfl ?_ | refine q_y (y_addn (b := j) rfl rfl rfl rfl (by omega)) rfl ?_))
            | (show QT _ _ _ _ _ _ []; refine q_nil ?_)
            | (show AT _ _ _ _; first | refine x_then ?_ | refine x_blk ?_))
          refine x_nx (j + 1) (by repeat' (first | exact Sub.nil | refine Sub.cons rfl ?_ | refine Sub.consi rfl (by omega) ?_)) (by omega) (fun w' c' => ?_) (by omega)
          simp only [List.set_cons_succ, List.set_cons_zero] at c'
          rw [mk_set hiR (by omega), fillF_next] at c'
          exact c'
        · have : j = C := by omega
          subst this
          have hc1 := cell_lt (C := j + 1) hiR (show j < j + 1 by omega)
          repeat' (first
            | (show AT _ _ _ (wpList _ _ _ (_ :: _)); first
               | (show AT _ _ _ (wpList _ _ _ (⟨_, Op.move _, _, _, _, _⟩ :: _)); refine st_y (y_move rfl) rfl ?_)
               | (show AT _ _ _ (wpList _ _ _ (⟨_, Op.assign _, _, _, _, _⟩ :: _)); refine st_y (y_assign rfl) rfl ?_)
               | (show AT _ _ _ (wpList _ _ _ (⟨_, Op.fieldAddr _ _ _, _, _, _, _⟩ :: _)); refine st_y (y_field tabs rfl rfl rfl) rfl ?_)
               | (show AT _ _ _ (wpList _ _ _ (⟨_, Op.load _ _, _, _, _, _⟩ :: _)); refine st_y (y_load tabs rfl rfl (hc_blk 2 rfl rfl)) rfl ?_)
               | (show AT _ _ _ (wpList _ _ _ (⟨_, Op.indexAddr _ _ _, _, _, _, _⟩ :: _)); refine st_y (y_ix1 tabs (j := i * (j + 1) + j) rfl rfl rfl hs rfl hc1) rfl ?_)
               | (show AT _ _ _ (wpList _ _ _ (⟨_, Op.binOp _ _ _ _ _, _, _, _, _⟩ :: _)); first | refine st_y (y_add rfl rfl (by omega)) rfl ?_ | refine st_y (y_lss rfl rfl) rfl ?_)
               | (show AT _ _ _ (wpList _ _ _ (⟨_, Op.store _ _ _, _, _, _, _⟩ :: _)); refine m_storeo 1 tabs rfl rfl rfl rfl (by rw [mk_length]; exact hc1) ?_))
            | (show AT _ _ _ (wpList _ _ _ []); first | refine c_nil (x_then ?_) | refine c_nil ?_)
            | (show AT _ _ _ (Code.wp _ _ _); first | refine c_tailR 13 (by kernel_rfl) (by kernel_rfl) (by kernel_rfl) (by kernel_rfl) (by kernel_rfl) (by kernel_rfl) (fun _ c => Hp.drew c) ?_ | refine c_seq ?_ | refine c_region ?_ | refine c_exit ?_ | refine c_iff rfl (by first | assumption | exact not_not_intro (by assumption) | omega) ?_)
            | (show QT _ _ _ _ _ _ (_ :: _); first
               | (show QT _ _ _ _ _ _ (⟨_, Op.move _, _, _, _, _⟩ :: _); refine q_y (y_move rfl) rfl ?_)
               | (show QT _ _ _ _ _ _ (⟨_, Op.fieldAddr _ _ _, _, _, _, _⟩ :: _); refine q_y (y_field tabs rfl rfl rfl) rfl ?_)
               | (show QT _ _ _ _ _ _ (⟨_, Op.load _ _, _, _, _, _⟩ :: _); first | refine q_y (y_load tabs rfl rfl (hc_w0 (hgv i hiR))) rfl ?_ | refine q_y (y_load tabs rfl rfl (hc_blk 0 rfl rfl)) rfl ?_ | refine q_y (y_load tabs rfl rfl (hc_blk 2 rfl rfl)) rfl ?_)
               | (show QT _ _ _ _ _ _ (⟨_, Op.indexAddr _ _ _, _, _, _, _⟩ :: _); refine q_y (y_ix1 tabs (j := i) rfl rfl rfl hsv rfl hiR) rfl ?_)
               | (show QT _ _ _ _ _ _ (⟨_, Op.binOp _ _ _ _ _, _, _, _, _⟩ :: _); first | refine q_y (y_muln rfl rfl rfl rfl (by omega)) rfl ?_ | refine q_y (y_addn (b := j) rfl rfl rfl rfl (by omega)) rfl ?_))
            | (show QT _ _ _ _ _ _ []; refine q_nil ?_)
            | (show AT _ _ _ _; first | refine x_then ?_ | refine x_then_exit ?_ | refine x_blk_exit rfl ?_ | refine x_blk ?_))
          refine x_nx (i + 1) (by repeat' (first | exact Sub.nil | refine Sub.cons rfl ?_ | refine Sub.consi rfl (by omega) ?_)) (by omega) (fun w' c' => ?_) (by omega)
          simp only [List.set_cons_succ, List.set_cons_zero] at c'
          rw [mk_set hiR (by omega), fillF_row (v := v.getD i 0) rfl] at c'
          exact c'
    · have : i = R := by omega
      subst this
      have e0 : mk i (C + 1) (fillF C f (vF v) i 0) = mk i (C + 1) (sysF C f v) := mk_ext (fun a b ha hb => by unfold fillF; rw [if_pos ha])
      rw [e0]
      repeat' (first
        | (show AT _ _ _ (wpList _ _ _ (_ :: _)); first
           | (show AT _ _ _ (wpList _ _ _ (⟨_, Op.move _, _, _, _, _⟩ :: _)); refine st_y (y_move rfl) rfl ?_)
           | (show AT _ _ _ (wpList _ _ _ (⟨_, Op.assign _, _, _, _, _⟩ :: _)); refine st_y (y_assign rfl) rfl ?_)
           | (show AT _ _ _ (wpList _ _ _ (⟨_, Op.fieldAddr _ _ _, _, _, _, _⟩ :: _)); refine st_y (y_field tabs rfl rfl rfl) rfl ?_)
           | (show AT _ _ _ (wpList _ _ _ (⟨_, Op.load _ _, _, _, _, _⟩ :: _)); first | refine st_y (y_load tabs rfl rfl (hc_blk 2 rfl rfl)) rfl ?_ | refine st_y (y_load tabs rfl rfl (hc_blk 5 rfl rfl)) rfl ?_ | refine st_y (y_loadb 0 tabs rfl rfl rfl rfl) rfl ?_)
           | (show AT _ _ _ (wpList _ _ _ (⟨_, Op.binOp _ _ _ _ _, _, _, _, _⟩ :: _)); refine st_y (y_lss rfl rfl) rfl ?_)
           | (show AT _ _ _ (wpList _ _ _ (⟨_, Op.call _, _, _, _, _⟩ :: _)); first | (refine m_call (ent_of Try.func139 (by kernel_rfl) rfl) rfl rfl (fun w c => l4ReduceK_ok (c.own_rd (i := 1) rfl) hF (by omega) (by omega) hsy) ?_; rintro v H' ⟨a2, c2, a', c', rfl, hs2, hs', rfl⟩) | (refine m_call (ent_of Try.func140 (by kernel_rfl) rfl) rfl rfl (fun w c => l4Has_ok (c.own_rd (i := 1) rfl)) ?_; rintro v H' ⟨rfl, rfl⟩))
           | (show AT _ _ _ (wpList _ _ _ (⟨_, Op.extract _ _, _, _, _, _⟩ :: _)); refine st_y (y_ext rfl rfl) rfl ?_)
           | (show AT _ _ _ (wpList _ _ _ (⟨_, Op.store _ _ _, _, _, _, _⟩ :: _)); refine m_storeb 0 tabs rfl rfl rfl rfl rfl rfl rfl ?_)
           | (show AT _ _ _ (wpList _ _ _ (⟨_, Op.alloc _, _, _, _, _⟩ :: _)); refine m_alloc tabs rfl rfl (fun b11 hb11 => ?_))
           | (show AT _ _ _ (wpList _ _ _ (⟨_, Op.makeSlice _ _ _, _, _, _, _⟩ :: _)); refine m_maken tabs (m := C) rfl rfl rfl rfl (by omega) rfl (fun gg hgg => ?_))
           | (show AT _ _ _ (wpList _ _ _ (⟨_, Op.buildSlice _ _ _, _, _, _, _⟩ :: _)); refine m_build0 tabs rfl rfl (fun g hg => ?_)))
        | (show AT _ _ _ (wpList _ _ _ []); refine c_nil (x_then ?_))
        | (show AT _ _ _ (Code.wp _ _ _); first | refine c_seq ?_ | refine c_region ?_ | refine c_skip (x_then ?_) | refine c_block ?_ | refine c_ret ?_ | refine c_exit ?_ | refine c_iff rfl (by first | assumption | exact not_not_intro (by assumption) | omega) ?_ | refine c_if rfl (fun h => ?_) (fun h => ?_))
        | (show AT _ _ _ _; first | refine x_then ?_ | refine x_then_ret ?_ | refine x_then_exit ?_ | refine x_blk_exit rfl ?_))
      · rw [solX, if_pos (by assumption), solB, decide_eq_true (by assumption)]
        exact x_ret2 Try.results87 (res_tmp rfl) (res_tmp rfl) (fun w' c' => ⟨_, _, rfl, ⟨_, 0, rfl, .inl rfl, rfl⟩, c'.sub (.cons_cons _ (List.nil_sublist _))⟩)
      · generalize hre : redTo p i (sysF C f v) (C + 1) = red at *
        obtain ⟨g, piv⟩ := red
        obtain ⟨hgi, hpl⟩ := hpl
        simp only at hpv hpl hs2 hs' hgi h ⊢
        have hX : solX p i C f v = mkv C (solG g C piv piv.length) := by rw [solX, hre, if_neg h]
        have hB : solB p i C f v = true := by rw [solB, hre, decide_eq_false h]; rfl
        rw [hX, hB, mkv_zero]
        refine c_loopH (α := Nat) [4, 11, 12, 13] (fun n => [(14, .int .i64 n)]) (fun n => n ≤ piv.length) (fun n => [.own (iT (mkv C (solG g C piv n))) (.slice (some ⟨gg, 0, none⟩) C C), .blk b11 #[iV i, iV (C + 1 : Nat), .slice a2 (i * (C + 1)) c2] 81, .own (iT piv) (.slice a' piv.length c'), .own (iT (mk i (C + 1) g)) (.slice a2 (i * (C + 1)) c2), .blk b4 #[iV i, iV C, .slice am (i * C) cm] 81]) (fun n => piv.length - n) 0 rfl (by repeat' (first | exact Sub.nil | refine Sub.cons rfl ?_ | refine Sub.consi rfl (by omega) ?_)) ?_ ?_ ?_
        · omega
        · exact fun w' c' => c'.sub (by repeat' first | exact List.Sublist.refl _ | exact List.nil_sublist _ | apply List.Sublist.cons_cons | apply List.Sublist.cons)
        · intro n hn
          by_cases hin' : n < piv.length
          · have hx : piv[n]? = some (piv.getD n 0) := getD_some hin'
            have hb := hpv _ (List.mem_of_getElem? hx)
            have hkC : piv.getD n 0 ≠ (C : Int) := fun e => h (by rw [← e]; exact List.mem_of_getElem? hx)
            have hk0 : (piv.getD n 0).toNat < C := by omega
            have ek : piv.getD n 0 = (((piv.getD n 0).toNat : Nat) : Int) := by omega
            have hnR : n < i := by omega
            have hC1 : C < C + 1 := by omega
            have hc1 := cell_lt (C := C + 1) hnR hC1
            repeat' (first
              | (show AT _ _ _ (wpList _ _ _ (_ :: _)); first
                 | (show AT _ _ _ (wpList _ _ _ (⟨_, Op.move _, _, _, _, _⟩ :: _)); refine st_y (y_move rfl) rfl ?_)
                 | (show AT _ _ _ (wpList _ _ _ (⟨_, Op.assign _, _, _, _, _⟩ :: _)); refine st_y (y_assign rfl) rfl ?_)
                 | (show AT _ _ _ (wpList _ _ _ (⟨_, Op.indexAddr _ _ _, _, _, _, _⟩ :: _)); refine st_y (y_ix1 tabs (j := (piv.getD n 0).toNat) rfl rfl rfl .mk ek hk0) rfl ?_)
                 | (show AT _ _ _ (wpList _ _ _ (⟨_, Op.binOp _ _ _ _ _, _, _, _, _⟩ :: _)); first | refine st_y (y_add rfl rfl (by omega)) rfl ?_ | refine st_y (y_lss rfl rfl) rfl ?_)
                 | (show AT _ _ _ (wpList _ _ _ (⟨_, Op.call _, _, _, _, _⟩ :: _)); refine st_y (y_len tabs rfl rfl) rfl ?_)
                 | (show AT _ _ _ (wpList _ _ _ (⟨_, Op.store _ _ _, _, _, _, _⟩ :: _)); refine m_storeo 0 tabs rfl rfl rfl rfl (by rw [mkv_length]; exact hk0) ?_))
              | (show AT _ _ _ (wpList _ _ _ []); first | refine c_nil (x_then ?_) | refine c_nil ?_)
              | (show AT _ _ _ (Code.wp _ _ _); first | refine c_tailR 16 (by kernel_rfl) (by kernel_rfl) (by kernel_rfl) (by kernel_rfl) (by kernel_rfl) (by kernel_rfl) (fun _ c => Hp.drew c) ?_ | refine c_seq ?_ | refine c_region ?_ | refine c_skip (x_then ?_) | refine c_block ?_ | refine c_ift rfl (by first | assumption | omega) ?_)
              | (show QT _ _ _ _ _ _ (_ :: _); first
                 | (show QT _ _ _ _ _ _ (⟨_, Op.move _, _, _, _, _⟩ :: _); refine q_y (y_move rfl) rfl ?_)
                 | (show QT _ _ _ _ _ _ (⟨_, Op.fieldAddr _ _ _, _, _, _, _⟩ :: _); refine q_y (y_field tabs rfl rfl rfl) rfl ?_)
                 | (show QT _ _ _ _ _ _ (⟨_, Op.load _ _, _, _, _, _⟩ :: _); first | refine q_y (y_load tabs rfl rfl (hc_own 2 rfl hin')) rfl ?_ | refine q_y (y_load tabs rfl rfl (hc_mk 3 rfl hnR hC1)) rfl ?_ | refine q_y (y_load tabs rfl rfl (hc_blk 1 rfl rfl)) rfl ?_ | refine q_y (y_load tabs rfl rfl (hc_blk 4 rfl rfl)) rfl ?_)
                 | (show QT _ _ _ _ _ _ (⟨_, Op.indexAddr _ _ _, _, _, _, _⟩ :: _); first | refine q_y (y_ix1 tabs (j := n * (C + 1) + C) rfl rfl rfl hs2 rfl hc1) rfl ?_ | refine q_y (y_ix1 tabs (j := n) rfl rfl rfl hs' rfl hin') rfl ?_)
                 | (show QT _ _ _ _ _ _ (⟨_, Op.binOp _ _ _ _ _, _, _, _, _⟩ :: _); first | refine q_y (y_muln rfl rfl rfl rfl (by omega)) rfl ?_ | refine q_y (y_addn (b := C) rfl rfl rfl rfl (by omega)) rfl ?_))
              | (show QT _ _ _ _ _ _ []; refine q_nil ?_)
              | (show AT _ _ _ _; first | refine x_then ?_ | refine x_blk ?_))
            refine x_nx (n + 1) (by repeat' (first | exact Sub.nil | refine Sub.cons rfl ?_ | refine Sub.consi rfl (by omega) ?_)) (by omega) (fun w' c' => ?_) (by omega)
            simp only [List.set_cons_zero, mkv_set] at c'
            exact c'
          · have : n = piv.length := by omega
            subst this
            repeat' (first
              | (show AT _ _ _ (wpList _ _ _ (_ :: _)); first
                 | (show AT _ _ _ (wpList _ _ _ (⟨_, Op.move _, _, _, _, _⟩ :: _)); refine st_y (y_move rfl) rfl ?_)
                 | (show AT _ _ _ (wpList _ _ _ (⟨_, Op.assign _, _, _, _, _⟩ :: _)); refine st_y (y_assign rfl) rfl ?_)
                 | (show AT _ _ _ (wpList _ _ _ (⟨_, Op.binOp _ _ _ _ _, _, _, _, _⟩ :: _)); refine st_y (y_lss rfl rfl) rfl ?_)
                 | (show AT _ _ _ (wpList _ _ _ (⟨_, Op.call _, _, _, _, _⟩ :: _)); refine st_y (y_len tabs rfl rfl) rfl ?_))
              | (show AT _ _ _ (wpList _ _ _ []); refine c_nil (x_then ?_))
              | (show AT _ _ _ (Code.wp _ _ _); first | refine c_seq ?_ | refine c_region ?_ | refine c_ret ?_ | refine c_exit ?_ | refine c_iff rfl (by first | assumption | exact not_not_intro (by assumption) | omega) ?_)
              | (show AT _ _ _ _; first | refine x_then ?_ | refine x_then_exit ?_ | refine x_blk_exit rfl ?_))
            refine x_ret2 Try.results87 (res_tmp rfl) (res_tmp rfl) (fun w' c' => ⟨.tuple #[.slice (some ⟨gg, 0, none⟩) C C, .bool true], [.own (iT (mkv C (solG g C piv piv.length))) (.slice (some ⟨gg, 0, none⟩) C C)], rfl, ⟨_, C, by rw [mkv_length], .mk, by rw [mkv_length]⟩, c'.sub (.cons_cons _ (List.nil_sublist _))⟩)
end Go.Proofs.Ytfhgpkdhhclpbaa

namespace Go.Proofs.Ytfhgpkdhhclpbaa
open Go.Lg Go.Proofs Go.RowKit
attribute [local irreducible] Code.wp wpList bodyPost Exit.then Exit.inBlock Hp Again Calls Y AT ResV QT Qn QI wpAny wpAnyQ
set_option maxRecDepth 20000
set_option maxHeartbeats 4000000

/-! ### the inverse by its columns -/
theorem full_piv {R k : Nat} {g : Nat → Nat → Int} {l : List Int} (h : RR R g l k) (hk : l.length = k) : ∀ t, t < k → l.getD t 0 = t := by
  obtain ⟨_, h1, h2, _⟩ := h
  have up : ∀ t, t < k → (t : Int) ≤ l.getD t 0 := fun t => by
    induction t with
    | zero => intro ht; exact (h1 0 (by omega)).1
    | succ t ih =>
      intro ht
      have := ih (by omega)
      have := h2 t (t + 1) (by omega) (by omega)
      omega
  have down : ∀ d t, t + d + 1 = k → l.getD t 0 ≤ t := fun d => by
    induction d with
    | zero => intro t ht; have := h1 t (by omega); omega
    | succ d ih =>
      intro t ht
      have := ih (t + 1) (by omega)
      have := h2 t (t + 1) (by omega) (by omega)
      omega
  intro t ht
  have := up t ht
  have := down (k - t - 1) t (by omega)
  omega
end Go.Proofs.Ytfhgpkdhhclpbaa

namespace Go.Proofs.Ytfhgpkdhhclpbaa
open Go.Lg Go.Proofs Go.RowKit

/-! ### the kernel, in plain: its vectors, and systems with them as columns -/
theorem spn_ort {p : Int} {R C : Nat} {g : Nat → Nat → Int} {x v : Nat → Int} (h : ∀ i, i < R → p ∣ sumN (fun j => g i j * x j) C) (hv : Spn p R C g v) : p ∣ sumN (fun j => v j * x j) C := by
  induction hv with
  | nil h0 => exact dvd_sumN0 (fun j hj => Int.dvd_trans (h0 j hj) (Int.dvd_mul_right ..))
  | @add u v i c hi _ e ih =>
    have e1 : p ∣ sumN (fun j => v j * x j) C - sumN (fun j => u j * x j + g i j * x j * c) C := dvd_sumN (fun j hj => by
      obtain ⟨y, hy⟩ := e j hj
      exact ⟨y * x j, by grind⟩)
    rw [sumN_add, sumN_mul] at e1
    obtain ⟨a, ha⟩ := e1
    obtain ⟨b, hb⟩ := ih
    obtain ⟨d, hd⟩ := h i hi
    exact ⟨a + b + d * c, by grind⟩
theorem pv_ne {l : List Int} {k : Nat} (h : ¬ (k : Int) ∈ l) {R C : Nat} {g : Nat → Nat → Int} (hR : RR R g l C) : ∀ t, t < l.length → k ≠ pv l t := fun t ht e => by
  have := hR.2.1 t ht
  unfold pv at e
  have e2 : l.getD t 0 = (k : Int) := by omega
  exact h (by rw [← e2, getD_ix ht]; exact List.getElem_mem _)
theorem kerV_0 {p : Int} {g : Nat → Nat → Int} {l : List Int} {k q : Nat} : kerV p g l k 0 q = if q = k then 1 else 0 := rfl
theorem kerV_s {p : Int} {g : Nat → Nat → Int} {l : List Int} {k n q : Nat} : kerV p g l k (n + 1) q = if q = (l.getD n 0).toNat then (p - g n k) % p else kerV p g l k n q := rfl
theorem kerV_un {p : Int} {g : Nat → Nat → Int} {l : List Int} {k q : Nat} : ∀ n, (∀ t, t < n → q ≠ pv l t) → kerV p g l k n q = if q = k then 1 else 0
  | 0, _ => rfl
  | n + 1, h => by
    have := h n (by omega)
    unfold pv at this
    rw [kerV_s, if_neg this, kerV_un n (fun t ht => h t (by omega))]
theorem pv_inj {R C : Nat} {g : Nat → Nat → Int} {l : List Int} (hR : RR R g l C) {t s : Nat} (ht : t < l.length) (hs : s < l.length) (hts : t ≠ s) : pv l t ≠ pv l s := by
  rcases Nat.lt_or_gt_of_ne hts with h | h
  · have := pv_mono hR h hs; omega
  · have := pv_mono hR h ht; omega
theorem sum_two {f g : Nat → Int} {r n : Nat} (hr : r < n) (h : ∀ j, j < n → j ≠ r → f j = g j) : sumN f n = sumN g n + (f r - g r) := by
  rw [sumN_one hr, sumN_one (f := g) hr, sumN_congr (g := fun i => if i = r then 0 else g i) (fun i hi => by
    split
    · rfl
    · rename_i hn; exact h i hi hn)]
  omega
/-- the vectors of the kernel are orthogonal to the reduced rows -/
theorem ker_ort {p : Int} {R C k : Nat} {g : Nat → Nat → Int} {l : List Int} (hR : RR R g l C) (hk : k < C) (hf : ¬ (k : Int) ∈ l) {i : Nat} (hi : i < R) : p ∣ sumN (fun j => g i j * kerV p g l k l.length j) C := by
  have key : ∀ n, n ≤ l.length → p ∣ sumN (fun j => g i j * kerV p g l k n j) C - (if i < n then 0 else g i k) := fun n => by
    induction n with
    | zero =>
      intro _
      rw [if_neg (by omega), sumN_congr (g := fun j => if j = k then g i j else 0) (fun j _ => by
        rw [kerV_0]
        split
        · rw [Int.mul_one]
        · rw [Int.mul_zero]), sumN_pick (f := g i), if_pos hk, Int.sub_self]
      exact Int.dvd_zero p
    | succ n ih =>
      intro hn
      have h0 := ih (by omega)
      have hpn := pv_lt hR (t := n) (by omega)
      rw [sum_two (g := fun j => g i j * kerV p g l k n j) (r := pv l n) hpn (fun j _ hj => by
        unfold pv at hj
        rw [kerV_s, if_neg hj])]
      have hz : kerV p g l k n (pv l n) = 0 := by
        rw [kerV_un n (fun t ht => pv_inj hR (by omega) (by omega) (by omega)), if_neg (fun e => pv_ne hf hR n (by omega) e.symm)]
      have hv : kerV p g l k (n + 1) (pv l n) = (p - g n k) % p := by rw [kerV_s]; exact if_pos rfl
      have hg := hR.2.2.2.1 n i (by omega) hi
      rw [hz, hv, hg]
      by_cases hin : i = n
      · subst hin
        rw [if_neg (by omega)] at h0
        rw [if_pos rfl, if_pos (by omega)]
        have h1 := emod_sub (p := p) (x := p - g i k)
        obtain ⟨a, ha⟩ := h0
        obtain ⟨b, hb⟩ := h1
        exact ⟨a + b + 1, by grind⟩
      · rw [if_neg hin]
        by_cases hlt : i < n
        · rw [if_pos hlt] at h0
          rw [if_pos (by omega)]
          obtain ⟨a, ha⟩ := h0
          exact ⟨a, by omega⟩
        · rw [if_neg hlt] at h0
          rw [if_neg (by omega)]
          obtain ⟨a, ha⟩ := h0
          exact ⟨a, by omega⟩
  have := key l.length (Nat.le_refl _)
  by_cases hil : i < l.length
  · rwa [if_pos hil, Int.sub_zero] at this
  · rwa [if_neg hil, hR.2.2.2.2.1 i k (by omega) hi hk, Int.sub_zero] at this
theorem freeN_not {l : List Int} : ∀ {n : Nat} {x : Int}, x ∈ freeN l n → ¬ x ∈ l
  | 0, x, h => by simp [freeN] at h
  | n + 1, x, h => by
    rw [freeN] at h
    split at h
    · exact freeN_not h
    · rename_i hn
      rcases List.mem_append.1 h with h | h
      · exact freeN_not h
      · simp at h; subst h; exact hn
theorem freeN_of {l : List Int} : ∀ {n k : Nat}, k < n → ¬ (k : Int) ∈ l → (k : Int) ∈ freeN l n
  | 0, k, h, _ => absurd h (by omega)
  | n + 1, k, h, hn => by
    rw [freeN]
    by_cases e : k = n
    · subst e; rw [if_neg hn]; simp
    · have := freeN_of (n := n) (k := k) (by omega) hn
      split
      · exact this
      · exact List.mem_append_left _ this
theorem freeN_up {l : List Int} : ∀ (n : Nat), ∀ s t, s < t → t < (freeN l n).length → (freeN l n).getD s 0 < (freeN l n).getD t 0
  | 0, s, t, _, ht => absurd ht (by simp [freeN])
  | n + 1, s, t, hst, ht => by
    by_cases hm : (n : Int) ∈ l
    · rw [freeN_yes hm] at ht ⊢; exact freeN_up n s t hst ht
    · rw [freeN_no hm] at ht ⊢
      rw [List.length_append, List.length_singleton] at ht
      rw [getD_app, getD_app]
      rw [if_pos (show s < (freeN l n).length by omega)]
      by_cases h : t < (freeN l n).length
      · rw [if_pos h]; exact freeN_up n s t hst h
      · rw [if_neg h, if_pos (by omega)]
        have : (freeN l n).getD s 0 ∈ freeN l n := by rw [getD_ix (show s < (freeN l n).length by omega)]; exact List.getElem_mem _
        exact (freeN_mem this).2
/-- columns with unit rows are independent -/
theorem full_of {p : Int} {R K : Nat} {f : Nat → Nat → Int} (hF : FieldP p) (hin : inF p R K f) (h : ∀ c, c < K → ∃ i, i < R ∧ ∀ j, j < K → f i j = if j = c then 1 else 0) : (redTo p R f K).2.length = K := by
  have hr := redTo_rr hF hin K (Nat.le_refl _)
  have hl := freeN_len hr.2.1 hr.2.2.1
  refine Decidable.byContradiction (fun hne => ?_)
  obtain ⟨x, hx⟩ : ∃ x, x ∈ freeN (redTo p R f K).2 K := by
    cases hc : freeN (redTo p R f K).2 K with
    | nil => rw [hc] at hl; simp at hl; omega
    | cons x r => exact ⟨x, by simp⟩
  have h1 := freeN_mem hx
  have h2 := freeN_not hx
  obtain ⟨k, rfl⟩ : ∃ k : Nat, x = k := ⟨x.toNat, by omega⟩
  have hk : k < K := by omega
  obtain ⟨i, hi, hu⟩ := h k hk
  have h3 := spn_ort (x := kerV p (redTo p R f K).1 (redTo p R f K).2 k (redTo p R f K).2.length) (fun i hi => ker_ort hr hk h2 hi) ((redTo_spn hF hin K (Nat.le_refl _)).2 i hi)
  rw [sumN_congr (g := fun j => if j = k then kerV p (redTo p R f K).1 (redTo p R f K).2 k (redTo p R f K).2.length j else 0) (fun j hj => by
    rw [hu j hj]
    split
    · rw [Int.one_mul]
    · rw [Int.zero_mul]), sumN_pick, if_pos hk, kerV_un _ (pv_ne h2 hr), if_pos rfl] at h3
  exact not_dvd_one (by have := fieldP_pos hF; omega) h3
/-- the solution of a system whose columns have unit rows -/
theorem sol_unit {p : Int} {R K : Nat} {f : Nat → Nat → Int} {v : List Int} {y : Nat → Int} (hF : FieldP p) (hin : inF p R K f) (hv : InP 0 (p - 1) v) (hl : v.length = R)
    (h : ∀ c, c < K → ∃ i, i < R ∧ ∀ j, j < K → f i j = if j = c then 1 else 0) (hy : ∀ c, c < K → 0 ≤ y c ∧ y c < p) (he : ∀ i, i < R → p ∣ v.getD i 0 - sumN (fun c => f i c * y c) K) :
    solX p R K f v = mkv K y ∧ solB p R K f v = true := by
  have hfu := full_of hF hin h
  have hsy := inF_sys hin hv hl
  have hc := redTo_cols (p := p) (R := R) (f := f) (f' := sysF K f v) K (fun i j hi hj => by simp only [sysF, besF]; rw [if_pos hj])
  rw [hc.1] at hfu
  have hr := redTo_rr hF hsy K (by omega)
  have hgi := (redTo_in (p := p) (by have := fieldP_pos hF; omega) hsy K).1
  have hsp := (redTo_spn hF hsy K (by omega)).1
  have hskip : ∀ i, i < R → (redTo p R (sysF K f v) K).1 i K = if i < K then y i else 0 := fun i hi => by
    have h3 := spn_ort (x := fun j => if j < K then -(y j) else 1) (fun i hi => by
      rw [sumN, if_neg (Nat.lt_irrefl K), sumN_congr (g := fun c => (f i c * y c) * (-1)) (fun c hc => by
        rw [if_pos hc]; simp only [sysF, besF]; rw [if_pos hc]; grind), sumN_mul]
      simp only [sysF, besF, vF]
      rw [if_neg (Nat.lt_irrefl K)]
      obtain ⟨a, ha⟩ := he i hi
      exact ⟨a, by grind⟩) (hsp i hi)
    rw [sumN, if_neg (Nat.lt_irrefl K), Int.mul_one] at h3
    have hgj : ∀ j, j < K → (redTo p R (sysF K f v) K).1 i j = if i = j then 1 else 0 := fun j hj => by
      have e := hr.2.2.2.1 j i (by omega) hi
      unfold pv at e
      rw [full_piv hr hfu j hj, Int.toNat_natCast] at e
      exact e
    rw [sumN_congr (g := fun j => if j = i then -(y j) else 0) (fun j hj => by
      rw [hgj j hj, if_pos hj]
      by_cases e : i = j
      · rw [if_pos e, if_pos e.symm, Int.one_mul]
      · rw [if_neg e, if_neg (fun h => e h.symm), Int.zero_mul]), sumN_pick (f := fun j => -(y j))] at h3
    have hb := hgi i K hi (by omega)
    by_cases hiK : i < K
    · rw [if_pos hiK] at h3 ⊢
      exact dvd_eq (p := p) (by obtain ⟨a, ha⟩ := h3; exact ⟨a, by omega⟩) hb (hy i hiK)
    · rw [if_neg hiK] at h3 ⊢
      refine dvd_eq (p := p) (by obtain ⟨a, ha⟩ := h3; exact ⟨a, by omega⟩) hb ⟨Int.le_refl _, by have := fieldP_pos hF; omega⟩
  have hsk : redTo p R (sysF K f v) (K + 1) = redTo p R (sysF K f v) K := redTo_skip (findAt_none (fun i hi hiR => by
    rw [hskip i hiR, if_neg (by omega)]))
  have hnot : ¬ (K : Int) ∈ (redTo p R (sysF K f v) K).2 := fun hm => by
    have := redTo_piv K _ hm
    omega
  refine ⟨?_, ?_⟩
  · rw [solX, hsk, if_neg hnot, hfu]
    refine mkv_ext (fun q hq => ?_)
    have hKR : K ≤ R := by have := hr.1; omega
    have key : ∀ m, m ≤ K → ∀ q, q < m → solG (redTo p R (sysF K f v) K).1 K (redTo p R (sysF K f v) K).2 m q = y q := fun m => by
      induction m with
      | zero => intro _ q hq; omega
      | succ m ih =>
        intro hm q hq
        have e := full_piv hr hfu m (by omega)
        simp only [solG, e, Int.toNat_natCast]
        by_cases hqm : q = m
        · rw [if_pos hqm, hskip m (by omega), if_pos (by omega), hqm]
        · rw [if_neg hqm]; exact ih (by omega) q (by omega)
    exact key K (Nat.le_refl _) q hq
  · rw [solB, hsk, decide_eq_false hnot]; rfl
/-- what is orthogonal to the reduced rows is the sum of the kernel's vectors by its values at the free columns -/
theorem ker_span {p : Int} {R C : Nat} {g : Nat → Nat → Int} {l : List Int} {x : Nat → Int} (hR : RR R g l C) (hx : ∀ i, i < R → p ∣ sumN (fun j => g i j * x j) C) :
    ∀ q, q < C → p ∣ x q - sumN (fun s => kerV p g l ((freeN l C).getD s 0).toNat l.length q * x ((freeN l C).getD s 0).toNat) (freeN l C).length := by
  obtain ⟨F, hF⟩ : ∃ F, F = freeN l C := ⟨_, rfl⟩
  rw [← hF]
  have hfm : ∀ s, s < F.length → 0 ≤ F.getD s 0 ∧ F.getD s 0 < C ∧ ¬ F.getD s 0 ∈ l := fun s hs => by
    have hm : F.getD s 0 ∈ freeN l C := by rw [← hF, getD_ix hs]; exact List.getElem_mem _
    exact ⟨(freeN_mem hm).1, (freeN_mem hm).2, freeN_not hm⟩
  have hcast : ∀ s, s < F.length → ((F.getD s 0).toNat : Int) = F.getD s 0 := fun s hs => by have := hfm s hs; omega
  have ho : ∀ i, i < R → ∀ m, m ≤ F.length → p ∣ sumN (fun j => g i j * sumN (fun s => kerV p g l (F.getD s 0).toNat l.length j * x (F.getD s 0).toNat) m) C := fun i hi m => by
    induction m with
    | zero => intro _; exact dvd_sumN0 (fun j _ => by rw [sumN, Int.mul_zero]; exact Int.dvd_zero p)
    | succ m ih =>
      intro hm
      have h1 := ih (by omega)
      have hf := hfm m (by omega)
      have h2 := ker_ort (p := p) (k := (F.getD m 0).toNat) hR (by omega) (by rw [hcast m (by omega)]; exact hf.2.2) hi
      rw [sumN_congr (g := fun j => g i j * sumN (fun s => kerV p g l (F.getD s 0).toNat l.length j * x (F.getD s 0).toNat) m + g i j * kerV p g l (F.getD m 0).toNat l.length j * x (F.getD m 0).toNat) (fun j _ => by rw [sumN]; grind), sumN_add, sumN_mul]
      exact Int.dvd_add h1 (Int.dvd_trans h2 (Int.dvd_mul_right ..))
  -- at free columns
  have hfree : ∀ q, q < C → ¬ (q : Int) ∈ l → x q - sumN (fun s => kerV p g l (F.getD s 0).toNat l.length q * x (F.getD s 0).toNat) F.length = 0 := fun q hq hn => by
    have hm : (q : Int) ∈ F := by rw [hF]; exact freeN_of hq hn
    obtain ⟨r, hr, e⟩ := List.getElem_of_mem hm
    rw [← getD_ix hr] at e
    rw [sumN_congr (g := fun s => if s = r then x (F.getD s 0).toNat else 0) (fun s hs => by
      rw [kerV_un _ (pv_ne hn hR)]
      by_cases hsr : s = r
      · subst hsr
        rw [if_pos (by omega), if_pos rfl, Int.one_mul]
      · have : F.getD s 0 ≠ F.getD r 0 := by
          rw [hF] at hs hr ⊢
          rcases Nat.lt_or_gt_of_ne hsr with h | h
          · have := freeN_up (l := l) C s r h hr; omega
          · have := freeN_up (l := l) C r s h hs; omega
        have hfs := hfm s hs
        rw [if_neg (by omega), if_neg hsr, Int.zero_mul]), sumN_pick (f := fun s => x (F.getD s 0).toNat), if_pos hr, e, Int.toNat_natCast, Int.sub_self]
  intro q hq
  by_cases hn : (q : Int) ∈ l
  · obtain ⟨t, ht, e⟩ := List.getElem_of_mem hn
    rw [← getD_ix ht] at e
    have hpq : pv l t = q := by unfold pv; omega
    have htR : t < R := by have := hR.1; omega
    have h1 := ho t htR F.length (Nat.le_refl _)
    have h2 := hx t htR
    have h3 : p ∣ sumN (fun j => g t j * (x j - sumN (fun s => kerV p g l (F.getD s 0).toNat l.length j * x (F.getD s 0).toNat) F.length)) C := by
      rw [sumN_congr (g := fun j => g t j * x j + g t j * sumN (fun s => kerV p g l (F.getD s 0).toNat l.length j * x (F.getD s 0).toNat) F.length * (-1)) (fun j _ => by grind), sumN_add, sumN_mul]
      obtain ⟨a, ha⟩ := h1
      obtain ⟨b, hb⟩ := h2
      exact ⟨b - a, by grind⟩
    rw [sumN_congr (g := fun j => if j = q then x j - sumN (fun s => kerV p g l (F.getD s 0).toNat l.length j * x (F.getD s 0).toNat) F.length else 0) (fun j hj => by
      by_cases hjl : (j : Int) ∈ l
      · obtain ⟨t2, ht2, e2⟩ := List.getElem_of_mem hjl
        rw [← getD_ix ht2] at e2
        have hp2 : pv l t2 = j := by unfold pv; omega
        have hg := hR.2.2.2.1 t2 t ht2 htR
        rw [hp2] at hg
        rw [hg]
        by_cases htt : t = t2
        · subst htt
          rw [if_pos rfl, if_pos (by omega), Int.one_mul]
        · have := pv_inj hR ht ht2 htt
          rw [if_neg htt, if_neg (by omega), Int.zero_mul]
      · rw [hfree j hj hjl, Int.mul_zero]; split <;> rfl), sumN_pick (f := fun j => x j - sumN (fun s => kerV p g l (F.getD s 0).toNat l.length j * x (F.getD s 0).toNat) F.length), if_pos hq] at h3
    exact h3
  · rw [hfree q hq hn]; exact Int.dvd_zero p
end Go.Proofs.Ytfhgpkdhhclpbaa
