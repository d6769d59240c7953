import Derived.Test.YtljgmmmgnfgbhaaImgqel
import Derived.Test.YtljgmmmgnfgbhaaLCqel
namespace Go.Proofs.Ytljgmmmgnfgbhaa
open Go.Lg Go.Proofs Go.RowKit
attribute [local irreducible] Code.wp wpList bodyPost Exit.then Exit.inBlock Hp Again Calls Y AT ResV QT Qn QI wpAny wpAnyQ
set_option maxRecDepth 20000
set_option maxHeartbeats 4000000

/-! ### systems -/
def vF (v : List Int) : Nat → Nat → Int := fun i _ => v.getD i 0
/-- the matrix of a system with its right side -/
abbrev sysF (C : Nat) (f : Nat → Nat → Int) (v : List Int) : Nat → Nat → Int := besF C f (vF v)
/-- the solution, midway: the numbers at the first n leading ones -/
def solG (g : Nat → Nat → Int) (C : Nat) (piv : List Int) : Nat → Nat → Int
  | 0 => fun _ => 0
  | n + 1 => fun q => if q = (piv.getD n 0).toNat then g n C else solG g C piv n q
def solX (p : Int) (R C : Nat) (f : Nat → Nat → Int) (v : List Int) : List Int :=
  if (C : Int) ∈ (redTo p R (sysF C f v) (C + 1)).2 then [] else mkv C (solG (redTo p R (sysF C f v) (C + 1)).1 C (redTo p R (sysF C f v) (C + 1)).2 (redTo p R (sysF C f v) (C + 1)).2.length)
def solB (p : Int) (R C : Nat) (f : Nat → Nat → Int) (v : List Int) : Bool := !decide ((C : Int) ∈ (redTo p R (sysF C f v) (C + 1)).2)
abbrev GivesIB (x : List Int) (b : Bool) (r : Value) (H : List HE) : Prop := ∃ a c, r = .tuple #[.slice a x.length c, .bool b] ∧ SA a x.length ∧ H = [.own (iT x) (.slice a x.length c)]
theorem inF_sys {p : Int} {R C : Nat} {f : Nat → Nat → Int} {v : List Int} (hf : inF p R C f) (hv : InP 0 (p - 1) v) (hl : v.length = R) : inF p R (C + 1) (sysF C f v) := inF_bes hf (fun i j hi _ => by
  have := inP_get hv (i := i) (by omega)
  unfold vF; omega)
theorem rd_single {M : List Nat} {w0 w : World} {H : List HE} {g e e' c : Nat} {xs : List Int} {u : Value} (i : Nat) (hi : H[i]? = some (.blk g #[u] e')) (hr : Rd w (iT xs) u) (hc : c = 1) (cw : Hp M w0 H w) : Rd w (rowsT e [xs]) (.slice (some ⟨g, 0, none⟩) 1 c) := by
  subst hc
  have hb := cw.blk hi
  simp only [List.flatMap_cons, List.flatMap_nil, List.append_nil, Rd]
  refine ⟨_, 1, 1, rfl, Nat.le_refl _, by unfold maxLen; omega, rfl, ?_⟩
  simp only [RdL]
  exact ⟨⟨g, 0, u, rfl, by simp [World.cell?, hb], hr⟩, trivial⟩
theorem fromF_single {R : Nat} {v : List Int} : mk R 1 (fromF [v]) = mk R 1 (vF v) := mk_ext (fun i j hi hj => by
  have : j = 0 := by omega
  subst this; rfl)

theorem solve_ok {w : World} {p : Int} {R C : Nat} {f : Nat → Nat → Int} {u u' : Value} {v : List Int} (hr : Rd w (iT (mk R C f)) u) (hr' : Rd w (iT v) u') (hF : FieldP p) (hR : R ≤ 512) (hC : C ≤ 512) (hin : inF p R C f) (hv : InP 0 (p - 1) v) (hl : v.length = R) :
    Does Try.prog 79 [iV p, .agg #[iV R, iV C, u], u'] w (GivesIB (solX p R C f v) (solB p R C f v)) := by
  have hsy := inF_sys hin hv hl
  have hpv := redTo_piv (p := p) (R := R) (f := sysF C f v) (C + 1)
  have hpl := redTo_in (f := sysF C f v) (p := p) (R := R) (C := C + 1) (by have := fieldP_pos hF; omega) hsy (C + 1)
  obtain ⟨av, cv, rfl, hsv, _, _, _⟩ := hr'.ints
  refine fn_enter Try.func79 rfl Try.ntmps79 rfl ?_
  repeat' (first
    | (show AT _ _ _ (wpList _ _ _ (_ :: _)); first
       | (show AT _ _ _ (wpList _ _ _ (⟨_, Op.assign _, _, _, _, _⟩ :: _)); refine st_y (y_assign rfl) rfl ?_)
       | (show AT _ _ _ (wpList _ _ _ (⟨_, Op.box _ _, _, _, _, _⟩ :: _)); refine m_box rfl rfl (fun b4 hb4 => ?_)))
    | (show AT _ _ _ (wpList _ _ _ []); refine c_nil (x_then ?_))
    | (show AT _ _ _ (Code.wp _ _ _); first | refine c_seq ?_ | refine c_region ?_))
  refine c_all (Hp [] w [.blk b4 #[iV R, iV C, u] 46]) (by kernel_rfl) (fun _ c => Hp.drew c) ?_
  refine fl_begin 12 rfl tabs rfl rfl ?_
  refine fl_take 0 rfl (by kernel_rfl) (by kernel_rfl) (by kernel_rfl) (by kernel_rfl) (by kernel_rfl) (by kernel_rfl) (by exact y_move rfl) rfl (fun _ c => c) ?_
  refine fl_take 1 rfl (by kernel_rfl) (by kernel_rfl) (by kernel_rfl) (by kernel_rfl) (by kernel_rfl) (by kernel_rfl) (by exact y_loadb 0 tabs rfl rfl rfl rfl) rfl (fun _ c => c) ?_
  refine fl_take 2 rfl (by kernel_rfl) (by kernel_rfl) (by kernel_rfl) (by kernel_rfl) (by kernel_rfl) (by kernel_rfl) (by exact y_field tabs rfl rfl rfl) rfl (fun _ c => c) ?_
  refine fl_take 3 rfl (by kernel_rfl) (by kernel_rfl) (by kernel_rfl) (by kernel_rfl) (by kernel_rfl) (by kernel_rfl) (by exact y_load tabs rfl rfl (hc_blk 0 rfl rfl)) rfl (fun _ c => c) ?_
  refine fl_take 4 rfl (by kernel_rfl) (by kernel_rfl) (by kernel_rfl) (by kernel_rfl) (by kernel_rfl) (by kernel_rfl) (by exact y_move rfl) rfl (fun _ c => c) ?_
  (refine fl_build1 (us := [.slice av v.length cv]) 5 rfl rfl (by kernel_rfl) tabs rfl rfl rfl (by kernel_rfl) (by kernel_rfl) (by kernel_rfl) rfl rfl rfl rfl (by decide) rfl (fun w c => by first | exact c | exact c.drop | exact c.drop.drop | exact Hp.sub (List.sublist_append_right _ _) c | exact c.sub (by repeat' first | exact List.Sublist.refl _ | exact List.nil_sublist _ | apply List.Sublist.cons_cons | apply List.Sublist.cons)) (fun g2 hg2 => ?_))
  (refine fl_call 6 rfl rfl (by kernel_rfl) tabs rfl rfl rfl (by kernel_rfl) (by kernel_rfl) (by kernel_rfl) (ent_of Try.func108 (by kernel_rfl) rfl) rfl rfl (fun w c => fromColumns_ok (R := R) (C := 1) (cols := [v]) (e := 22) (rd_single 0 rfl (c.rd hr') rfl c) rfl (by omega) (by omega) (fun k xs h => by match k, h with | 0, h => simp at h; rw [← h]; exact hl | k + 1, h => simp at h)) (fun w c => by first | exact c | exact c.drop | exact c.drop.drop | exact Hp.sub (List.sublist_append_right _ _) c | exact c.sub (by repeat' first | exact List.Sublist.refl _ | exact List.nil_sublist _ | apply List.Sublist.cons_cons | apply List.Sublist.cons)) ?_; rintro v H' ⟨ai, ci, rfl, hsi, rfl⟩)
  (refine fl_call 7 rfl rfl (by kernel_rfl) tabs rfl rfl rfl (by kernel_rfl) (by kernel_rfl) (by kernel_rfl) (ent_of Try.func112 (by kernel_rfl) rfl) rfl rfl (fun w c => beside_ok (c.rd hr) (by have := c.own_rd (i := 0) rfl; rw [fromF_single] at this; exact this) (by omega) (by omega)) (fun w c => by first | exact c | exact c.drop | exact c.drop.drop | exact Hp.sub (List.sublist_append_right _ _) c | exact c.sub (by repeat' first | exact List.Sublist.refl _ | exact List.nil_sublist _ | apply List.Sublist.cons_cons | apply List.Sublist.cons)) ?_; rintro v H' ⟨ab1, cb1, rfl, hsb, rfl⟩)
  (refine fl_call 8 rfl rfl (by kernel_rfl) tabs rfl rfl rfl (by kernel_rfl) (by kernel_rfl) (by kernel_rfl) (ent_of Try.func68 (by kernel_rfl) rfl) rfl rfl (fun w c => reduceK_ok (c.own_rd (i := 0) rfl) hF (by omega) (by omega) hsy) (fun w c => by first | exact c | exact c.drop | exact c.drop.drop | exact Hp.sub (List.sublist_append_right _ _) c | exact c.sub (by repeat' first | exact List.Sublist.refl _ | exact List.nil_sublist _ | apply List.Sublist.cons_cons | apply List.Sublist.cons)) ?_; rintro v H' ⟨a, c, a', c', rfl, hs, hs', rfl⟩)
  refine fl_take 9 rfl (by kernel_rfl) (by kernel_rfl) (by kernel_rfl) (by kernel_rfl) (by kernel_rfl) (by kernel_rfl) (by exact y_move rfl) rfl (fun w c => by exact c.sub (by repeat' first | exact List.Sublist.refl _ | exact List.nil_sublist _ | apply List.Sublist.cons_cons | apply List.Sublist.cons)) ?_
  refine fl_take 10 rfl (by kernel_rfl) (by kernel_rfl) (by kernel_rfl) (by kernel_rfl) (by kernel_rfl) (by kernel_rfl) (by exact y_ext rfl rfl) rfl (fun w c => by exact c.sub (by repeat' first | exact List.Sublist.refl _ | exact List.nil_sublist _ | apply List.Sublist.cons_cons | apply List.Sublist.cons)) ?_
  refine fl_take 11 rfl (by kernel_rfl) (by kernel_rfl) (by kernel_rfl) (by kernel_rfl) (by kernel_rfl) (by kernel_rfl) (by exact y_ext rfl rfl) rfl (fun w c => by exact c.sub (by repeat' first | exact List.Sublist.refl _ | exact List.nil_sublist _ | apply List.Sublist.cons_cons | apply List.Sublist.cons)) ?_
  refine fl_end rfl tabs rfl rfl rfl (by kernel_rfl) (fun w c => by exact c.sub (by repeat' first | exact List.Sublist.refl _ | exact List.nil_sublist _ | apply List.Sublist.cons_cons | apply List.Sublist.cons)) (fun bf hbf => ?_)
  refine h_only 13 rfl (by kernel_rfl) ?_
  (refine m_storeb 0 tabs rfl rfl rfl rfl rfl rfl rfl ?_)
  refine c_nil (x_one (h_keep (fun w c => by exact c.sub (by repeat' first | exact List.Sublist.refl _ | exact List.nil_sublist _ | apply List.Sublist.cons_cons | apply List.Sublist.cons)) ?_))
  refine h_take 14 rfl (by kernel_rfl) (by kernel_rfl) (by kernel_rfl) (by exact y_assign rfl) rfl (fun w c => by exact c.sub (by repeat' first | exact List.Sublist.refl _ | exact List.nil_sublist _ | apply List.Sublist.cons_cons | apply List.Sublist.cons)) ?_
  refine h_end (by kernel_rfl) ?_
  generalize hre : redTo p R (sysF C f v) (C + 1) = red at *
  obtain ⟨g, piv⟩ := red
  simp only at hpv hpl hs hs' ⊢
  obtain ⟨hgi, hpl⟩ := hpl
  refine AT.fact (own_cap 2 rfl) (fun hcap => ?_)
  rw [mk_length] at hcap
  have hX : solX p R C f v = if (C : Int) ∈ piv then [] else mkv C (solG g C piv piv.length) := by rw [solX, hre]
  have hB : solB p R C f v = !decide ((C : Int) ∈ piv) := by rw [solB, hre]
  rw [hX, hB]
  refine AT.cls (C' := Hp _ _ [.blk bf #[iV R, iV (C + 1 : Nat), .slice a (R * (C + 1)) c] 46, .own (iT piv) (.slice a' piv.length c'), .own (iT (mk R (C + 1) g)) (.slice a (R * (C + 1)) c), .blk b4 #[iV R, iV C, u] 46]) (fun w' c' => c'.sub (by repeat' first | exact List.Sublist.refl _ | exact List.nil_sublist _ | apply List.Sublist.cons_cons | apply List.Sublist.cons)) ?_
  repeat' (first
    | (show AT _ _ _ (wpList _ _ _ (_ :: _)); first
       | (show AT _ _ _ (wpList _ _ _ (⟨_, Op.move _, _, _, _, _⟩ :: _)); refine st_y (y_move rfl) rfl ?_)
       | (show AT _ _ _ (wpList _ _ _ (⟨_, Op.assign _, _, _, _, _⟩ :: _)); refine st_y (y_assign rfl) rfl ?_)
       | (show AT _ _ _ (wpList _ _ _ (⟨_, Op.fieldAddr _ _ _, _, _, _, _⟩ :: _)); refine st_y (y_field tabs rfl rfl rfl) rfl ?_)
       | (show AT _ _ _ (wpList _ _ _ (⟨_, Op.load _ _, _, _, _, _⟩ :: _)); refine st_y (y_load tabs rfl rfl (hc_blk 3 rfl rfl)) rfl ?_)
       | (show AT _ _ _ (wpList _ _ _ (⟨_, Op.call _, _, _, _, _⟩ :: _)); refine st_y (y_len tabs rfl rfl) rfl ?_)
       | (show AT _ _ _ (wpList _ _ _ (⟨_, Op.makeSlice _ _ _, _, _, _, _⟩ :: _)); refine m_maken tabs (m := C) rfl rfl rfl rfl (by omega) rfl (fun gg hgg => ?_)))
    | (show AT _ _ _ (wpList _ _ _ []); refine c_nil (x_then ?_))
    | (show AT _ _ _ (Code.wp _ _ _); first | refine c_seq ?_ | refine c_region ?_ | refine c_block ?_)
    | (show AT _ _ _ _; refine x_then ?_))
  rw [mkv_zero]
  refine c_loopH (α := Nat) [4, 8, 10, 28, 29] (fun i => [(30, .int .i64 i)]) (fun i => i ≤ piv.length ∧ (C : Int) ∉ piv.take i) (fun i => [.own (iT (mkv C (solG g C piv i))) (.slice (some ⟨gg, 0, none⟩) C C), .own (iT piv) (.slice a' piv.length c'), .own (iT (mk R (C + 1) g)) (.slice a (R * (C + 1)) c), .blk bf #[iV R, iV (C + 1 : Nat), .slice a (R * (C + 1)) c] 46, .blk b4 #[iV R, iV C, u] 46]) (fun i => piv.length - i) 0 rfl (by repeat' (first | exact Sub.nil | refine Sub.cons rfl ?_ | refine Sub.consi rfl (by omega) ?_)) ?_ ?_ ?_
  · exact ⟨by omega, by simp⟩
  · exact fun w' c' => (((c'.front (i := 3) rfl).front (i := 3) rfl).front (i := 2) rfl).sub (by repeat' first | exact List.Sublist.refl _ | exact List.nil_sublist _ | apply List.Sublist.cons_cons | apply List.Sublist.cons)
  · rintro i ⟨hi, hnm⟩
    by_cases hin' : i < piv.length
    · have hx : piv[i]? = some (piv.getD i 0) := getD_some hin'
      have hb := hpv _ (List.mem_of_getElem? hx)
      by_cases hkC : piv.getD i 0 = (C : Int)
      · have hmem : (C : Int) ∈ piv := by rw [← hkC]; exact List.mem_of_getElem? hx
        repeat' (first
          | (show AT _ _ _ (wpList _ _ _ (_ :: _)); first
             | (show AT _ _ _ (wpList _ _ _ (⟨_, Op.move _, _, _, _, _⟩ :: _)); refine st_y (y_move rfl) rfl ?_)
             | (show AT _ _ _ (wpList _ _ _ (⟨_, Op.assign _, _, _, _, _⟩ :: _)); refine st_y (y_assign rfl) rfl ?_)
             | (show AT _ _ _ (wpList _ _ _ (⟨_, Op.fieldAddr _ _ _, _, _, _, _⟩ :: _)); refine st_y (y_field tabs rfl rfl rfl) rfl ?_)
             | (show AT _ _ _ (wpList _ _ _ (⟨_, Op.load _ _, _, _, _, _⟩ :: _)); first | refine st_y (y_load tabs rfl rfl (hc_own 1 rfl hin')) rfl ?_ | refine st_y (y_load tabs rfl rfl (hc_blk 4 rfl rfl)) rfl ?_)
             | (show AT _ _ _ (wpList _ _ _ (⟨_, Op.indexAddr _ _ _, _, _, _, _⟩ :: _)); refine st_y (y_ix1 tabs (j := i) rfl rfl rfl hs' rfl hin') rfl ?_)
             | (show AT _ _ _ (wpList _ _ _ (⟨_, Op.binOp _ _ _ _ _, _, _, _, _⟩ :: _)); first | refine st_y (y_lss rfl rfl) rfl ?_ | refine st_y (y_eql rfl rfl) rfl ?_))
          | (show AT _ _ _ (wpList _ _ _ []); refine c_nil (x_then ?_))
          | (show AT _ _ _ (Code.wp _ _ _); first | refine c_seq ?_ | refine c_region ?_ | refine c_skip (x_then ?_) | refine c_block ?_ | refine c_ret ?_ | refine c_ift rfl (by first | assumption | omega) ?_)
          | (show AT _ _ _ _; first | refine x_then_ret ?_ | refine x_blk_ret ?_))
        rw [if_pos hmem, decide_eq_true hmem]
        exact x_ret2 Try.results79 (res_tmp rfl) (res_tmp rfl) (fun w' c' => ⟨_, _, rfl, ⟨none, 0, rfl, .inl rfl, rfl⟩, Hp.nilp _ _ (c'.sub (List.nil_sublist _))⟩)
      · have hk0 : (piv.getD i 0).toNat < C := by omega
        have ek : piv.getD i 0 = (((piv.getD i 0).toNat : Nat) : Int) := by omega
        have hiR : i < R := by omega
        have hC1 : C < C + 1 := by omega
        repeat' (first
          | (show AT _ _ _ (wpList _ _ _ (_ :: _)); first
             | (show AT _ _ _ (wpList _ _ _ (⟨_, Op.move _, _, _, _, _⟩ :: _)); refine st_y (y_move rfl) rfl ?_)
             | (show AT _ _ _ (wpList _ _ _ (⟨_, Op.assign _, _, _, _, _⟩ :: _)); refine st_y (y_assign rfl) rfl ?_)
             | (show AT _ _ _ (wpList _ _ _ (⟨_, Op.fieldAddr _ _ _, _, _, _, _⟩ :: _)); refine st_y (y_field tabs rfl rfl rfl) rfl ?_)
             | (show AT _ _ _ (wpList _ _ _ (⟨_, Op.load _ _, _, _, _, _⟩ :: _)); first | refine st_y (y_load tabs rfl rfl (hc_own 1 rfl hin')) rfl ?_ | refine st_y (y_load tabs rfl rfl (hc_blk 4 rfl rfl)) rfl ?_)
             | (show AT _ _ _ (wpList _ _ _ (⟨_, Op.indexAddr _ _ _, _, _, _, _⟩ :: _)); refine st_y (y_ix1 tabs (j := i) rfl rfl rfl hs' rfl hin') rfl ?_)
             | (show AT _ _ _ (wpList _ _ _ (⟨_, Op.binOp _ _ _ _ _, _, _, _, _⟩ :: _)); first | refine st_y (y_lss rfl rfl) rfl ?_ | refine st_y (y_eql rfl rfl) rfl ?_))
          | (show AT _ _ _ (wpList _ _ _ []); refine c_nil (x_then ?_))
          | (show AT _ _ _ (Code.wp _ _ _); first | refine c_seq ?_ | refine c_region ?_ | refine c_skip (x_then ?_) | refine c_block ?_ | refine c_ift rfl (by first | assumption | omega) ?_ | refine c_iff rfl (by first | assumption | exact not_not_intro (by assumption) | omega) ?_))
        repeat' (first
          | (show AT _ _ _ (wpList _ _ _ (_ :: _)); first
             | (show AT _ _ _ (wpList _ _ _ (⟨_, Op.move _, _, _, _, _⟩ :: _)); refine st_y (y_move rfl) rfl ?_)
             | (show AT _ _ _ (wpList _ _ _ (⟨_, Op.indexAddr _ _ _, _, _, _, _⟩ :: _)); refine st_y (y_ix1 tabs (j := (piv.getD i 0).toNat) rfl rfl rfl .mk ek hk0) rfl ?_)
             | (show AT _ _ _ (wpList _ _ _ (⟨_, Op.binOp _ _ _ _ _, _, _, _, _⟩ :: _)); refine st_y (y_add rfl rfl (by omega)) rfl ?_)
             | (show AT _ _ _ (wpList _ _ _ (⟨_, Op.store _ _ _, _, _, _, _⟩ :: _)); refine m_storeo 0 tabs rfl rfl rfl rfl (by rw [mkv_length]; exact hk0) ?_))
          | (show AT _ _ _ (wpList _ _ _ []); first | refine c_nil (x_then ?_) | refine c_nil ?_)
          | (show AT _ _ _ (Code.wp _ _ _); first | refine c_tailR 9 (by kernel_rfl) (by kernel_rfl) (by kernel_rfl) (by kernel_rfl) (by kernel_rfl) (by kernel_rfl) (fun _ c => Hp.drew c) ?_ | refine c_region ?_)
          | (show QT _ _ _ _ _ _ (_ :: _); first
             | (show QT _ _ _ _ _ _ (⟨_, Op.move _, _, _, _, _⟩ :: _); refine q_y (y_move rfl) rfl ?_)
             | (show QT _ _ _ _ _ _ (⟨_, Op.fieldAddr _ _ _, _, _, _, _⟩ :: _); refine q_y (y_field tabs rfl rfl rfl) rfl ?_)
             | (show QT _ _ _ _ _ _ (⟨_, Op.load _ _, _, _, _, _⟩ :: _); first | refine q_y (y_loadb 3 tabs rfl rfl rfl rfl) rfl ?_ | refine q_y (y_load tabs rfl rfl (hc_mkr 2 rfl hiR hC1)) rfl ?_ | refine q_y (y_load tabs rfl rfl (hc_blk 4 rfl rfl)) rfl ?_)
             | (show QT _ _ _ _ _ _ (⟨_, Op.indexAddr _ _ _, _, _, _, _⟩ :: _); refine q_y (y_ixs tabs (j := C) rfl rfl rfl rfl hC1) rfl ?_)
             | (show QT _ _ _ _ _ _ (⟨_, Op.call _, _, _, _, _⟩ :: _); refine q_call (ent_of Try.func101 (by kernel_rfl) rfl) rfl rfl (fun w c => row_at hs (by omega) ⟨by omega, by omega⟩ hiR hcap) (fun u H' h => h.1) ?_))
          | (show QT _ _ _ _ _ _ []; refine q_nil ?_)
          | (show AT _ _ _ _; first | refine x_then ?_ | refine x_blk ?_))
        refine x_nx (i + 1) (by repeat' (first | exact Sub.nil | refine Sub.cons rfl ?_ | refine Sub.consi rfl (by omega) ?_)) ⟨by omega, ?_⟩ (fun w' c' => ?_) (by omega)
        · rw [List.take_add_one, hx]
          simp only [Option.toList_some, List.mem_append, List.mem_singleton, not_or]
          exact ⟨hnm, fun e => hkC e.symm⟩
        · simp only [List.set_cons_zero, mkv_set] at c'
          exact c'
    · have : i = piv.length := by omega
      subst this
      rw [take_end (Nat.le_refl _)] at hnm
      rw [if_neg hnm, decide_eq_false hnm]
      repeat' (first
        | (show AT _ _ _ (wpList _ _ _ (_ :: _)); first
           | (show AT _ _ _ (wpList _ _ _ (⟨_, Op.move _, _, _, _, _⟩ :: _)); refine st_y (y_move rfl) rfl ?_)
           | (show AT _ _ _ (wpList _ _ _ (⟨_, Op.assign _, _, _, _, _⟩ :: _)); refine st_y (y_assign rfl) rfl ?_)
           | (show AT _ _ _ (wpList _ _ _ (⟨_, Op.binOp _ _ _ _ _, _, _, _, _⟩ :: _)); refine st_y (y_lss rfl rfl) rfl ?_))
        | (show AT _ _ _ (wpList _ _ _ []); refine c_nil (x_then ?_))
        | (show AT _ _ _ (Code.wp _ _ _); first | refine c_seq ?_ | refine c_region ?_ | refine c_ret ?_ | refine c_exit ?_ | refine c_iff rfl (by first | assumption | exact not_not_intro (by assumption) | omega) ?_)
        | (show AT _ _ _ _; first | refine x_then ?_ | refine x_then_exit ?_ | refine x_blk_exit rfl ?_))
      refine x_ret2 Try.results79 (res_tmp rfl) (res_tmp rfl) (fun w' c' => ⟨.tuple #[.slice (some ⟨gg, 0, none⟩) C C, .bool true], [.own (iT (mkv C (solG g C piv piv.length))) (.slice (some ⟨gg, 0, none⟩) C C)], rfl, ⟨_, C, by rw [mkv_length]; rfl, .mk, by rw [mkv_length]⟩, c'.sub (.cons_cons _ (List.nil_sublist _))⟩)

/-- the system's matrix, midway: row i is under way, j numbers of it are there -/
def fillF (C : Nat) (f h : Nat → Nat → Int) (i j : Nat) : Nat → Nat → Int := fun a b => if a < i then besF C f h a b else if a = i ∧ b < j then f a b else 0
theorem fillF_next {C i j : Nat} {f h : Nat → Nat → Int} : upd (fillF C f h i j) i j (f i j) = fillF C f h i (j + 1) := by
  funext a b
  unfold upd fillF
  grind
theorem fillF_row {R C i : Nat} {f h : Nat → Nat → Int} {v : Int} (hv : v = h i 0) : mk R (C + 1) (upd (fillF C f h i C) i C v) = mk R (C + 1) (fillF C f h (i + 1) 0) := mk_ext (fun a b ha hb => by
  unfold upd fillF besF
  subst hv
  by_cases h1 : a < i
  · grind
  · by_cases h2 : a = i
    · subst h2
      by_cases h3 : b = C
      · subst h3; simp
      · have : b < C := by omega
        simp [h3, this]
    · have h3 : ¬ a < i + 1 := by omega
      simp [h1, h2, h3])
theorem l4Solve_ok {w : World} {p : Int} {R C : Nat} {f : Nat → Nat → Int} {u u' : Value} {v : List Int} (hr : Rd w (iT (mk R C f)) u) (hr' : Rd w (iT v) u') (hF : FieldP p) (hR : R ≤ 512) (hC : C ≤ 512) (hin : inF p R C f) (hv : InP 0 (p - 1) v) (hl : v.length = R) :
    Does Try.prog 81 [iV p, .agg #[iV R, iV C, u], u'] w (GivesIB (solX p R C f v) (solB p R C f v)) := by
  have hsy := inF_sys hin hv hl
  have hpv := redTo_piv (p := p) (R := R) (f := sysF C f v) (C + 1)
  have hpl := redTo_in (f := sysF C f v) (p := p) (R := R) (C := C + 1) (by have := fieldP_pos hF; omega) hsy (C + 1)
  obtain ⟨av, cv, rfl, hsv, _, _, hgv⟩ := hr'.ints
  obtain ⟨am, cm, rfl, hsm, _⟩ := rd_mk hr
  rw [hl] at hsv hgv ⊢
  have hRC := rc_le (R := R) (C := C + 1) (by omega) (by omega)
  have hRC0 := rc_le (R := R) (C := C) (by omega) (by omega)
  refine fn_enter Try.func81 rfl Try.ntmps81 rfl ?_
  repeat' (first
    | (show AT _ _ _ (wpList _ _ _ (_ :: _)); first
       | (show AT _ _ _ (wpList _ _ _ (⟨_, Op.assign _, _, _, _, _⟩ :: _)); refine st_y (y_assign rfl) rfl ?_)
       | (show AT _ _ _ (wpList _ _ _ (⟨_, Op.fieldAddr _ _ _, _, _, _, _⟩ :: _)); refine st_y (y_field tabs rfl rfl rfl) rfl ?_)
       | (show AT _ _ _ (wpList _ _ _ (⟨_, Op.load _ _, _, _, _, _⟩ :: _)); refine st_y (y_load tabs rfl rfl (hc_blk 0 rfl rfl)) rfl ?_)
       | (show AT _ _ _ (wpList _ _ _ (⟨_, Op.binOp _ _ _ _ _, _, _, _, _⟩ :: _)); refine st_y (y_addn (a := C) (b := 1) rfl rfl rfl rfl (by omega)) rfl ?_)
       | (show AT _ _ _ (wpList _ _ _ (⟨_, Op.call _, _, _, _, _⟩ :: _)); (refine m_call (ent_of Try.func94 (by kernel_rfl) rfl) rfl rfl (fun w c => l3Zero_ok (R := R) (C := C + 1) (by omega) (by omega)) ?_; rintro v H' ⟨a, c, rfl, hs, rfl⟩))
       | (show AT _ _ _ (wpList _ _ _ (⟨_, Op.store _ _ _, _, _, _, _⟩ :: _)); refine m_storeb 0 tabs rfl rfl rfl rfl rfl rfl rfl ?_)
       | (show AT _ _ _ (wpList _ _ _ (⟨_, Op.box _ _, _, _, _, _⟩ :: _)); refine m_box rfl rfl (fun b4 hb4 => ?_))
       | (show AT _ _ _ (wpList _ _ _ (⟨_, Op.alloc _, _, _, _, _⟩ :: _)); refine m_alloc tabs rfl rfl (fun b8 hb8 => ?_)))
    | (show AT _ _ _ (wpList _ _ _ []); refine c_nil (x_then ?_))
    | (show AT _ _ _ (Code.wp _ _ _); first | refine c_seq ?_ | refine c_region ?_ | refine c_block ?_))
  refine c_loopH (α := Nat) [0, 2, 4, 8] (fun i => [(9, .int .i64 i)]) (fun i => i ≤ R) (fun i => [.blk b8 #[iV R, iV (C + 1 : Nat), .slice a (R * (C + 1)) c] 46, .own (iT (mk R (C + 1) (fillF C f (vF v) i 0))) (.slice a (R * (C + 1)) c), .blk b4 #[iV R, iV C, .slice am (R * C) cm] 46]) (fun i => R - i) 0 rfl (by repeat' (first | exact Sub.nil | refine Sub.cons rfl ?_ | refine Sub.consi rfl (by omega) ?_)) ?_ ?_ ?_
  · omega
  · intro w' c'
    have e0 : fillF C f (vF v) 0 0 = (fun _ _ => 0) := by funext a b; simp [fillF]
    rw [e0]
    exact c'
  · intro i hi
    by_cases hiR : i < R
    · repeat' (first
        | (show AT _ _ _ (wpList _ _ _ (_ :: _)); first
           | (show AT _ _ _ (wpList _ _ _ (⟨_, Op.move _, _, _, _, _⟩ :: _)); refine st_y (y_move rfl) rfl ?_)
           | (show AT _ _ _ (wpList _ _ _ (⟨_, Op.assign _, _, _, _, _⟩ :: _)); refine st_y (y_assign rfl) rfl ?_)
           | (show AT _ _ _ (wpList _ _ _ (⟨_, Op.fieldAddr _ _ _, _, _, _, _⟩ :: _)); refine st_y (y_field tabs rfl rfl rfl) rfl ?_)
           | (show AT _ _ _ (wpList _ _ _ (⟨_, Op.load _ _, _, _, _, _⟩ :: _)); refine st_y (y_load tabs rfl rfl (hc_blk 2 rfl rfl)) rfl ?_)
           | (show AT _ _ _ (wpList _ _ _ (⟨_, Op.binOp _ _ _ _ _, _, _, _, _⟩ :: _)); refine st_y (y_lss rfl rfl) rfl ?_))
        | (show AT _ _ _ (wpList _ _ _ []); refine c_nil (x_then ?_))
        | (show AT _ _ _ (Code.wp _ _ _); first | refine c_seq ?_ | refine c_region ?_ | refine c_skip (x_then ?_) | refine c_block ?_ | refine c_ift rfl (by first | assumption | omega) ?_))
      refine c_loopH (α := Nat) [0, 2, 4, 8, 9] (fun j => [(10, .int .i64 j)]) (fun j => j ≤ C) (fun j => [.blk b8 #[iV R, iV (C + 1 : Nat), .slice a (R * (C + 1)) c] 46, .own (iT (mk R (C + 1) (fillF C f (vF v) i j))) (.slice a (R * (C + 1)) c), .blk b4 #[iV R, iV C, .slice am (R * C) cm] 46]) (fun j => C - j) 0 rfl (by repeat' (first | exact Sub.nil | refine Sub.cons rfl ?_ | refine Sub.consi rfl (by omega) ?_)) ?_ ?_ ?_
      · omega
      · exact fun w' c' => c'
      · intro j hj
        by_cases hjC : j < C
        · have hc1 := cell_lt (C := C + 1) hiR (show j < C + 1 by omega)
          have hc2 := cell_lt (C := C) hiR hjC
          repeat' (first
            | (show AT _ _ _ (wpList _ _ _ (_ :: _)); first
               | (show AT _ _ _ (wpList _ _ _ (⟨_, Op.move _, _, _, _, _⟩ :: _)); refine st_y (y_move rfl) rfl ?_)
               | (show AT _ _ _ (wpList _ _ _ (⟨_, Op.assign _, _, _, _, _⟩ :: _)); refine st_y (y_assign rfl) rfl ?_)
               | (show AT _ _ _ (wpList _ _ _ (⟨_, Op.fieldAddr _ _ _, _, _, _, _⟩ :: _)); refine st_y (y_field tabs rfl rfl rfl) rfl ?_)
               | (show AT _ _ _ (wpList _ _ _ (⟨_, Op.load _ _, _, _, _, _⟩ :: _)); refine st_y (y_load tabs rfl rfl (hc_blk 2 rfl rfl)) rfl ?_)
               | (show AT _ _ _ (wpList _ _ _ (⟨_, Op.indexAddr _ _ _, _, _, _, _⟩ :: _)); refine st_y (y_ix1 tabs (j := i * (C + 1) + j) rfl rfl rfl hs rfl hc1) rfl ?_)
               | (show AT _ _ _ (wpList _ _ _ (⟨_, Op.binOp _ _ _ _ _, _, _, _, _⟩ :: _)); first | refine st_y (y_add rfl rfl (by omega)) rfl ?_ | refine st_y (y_lss rfl rfl) rfl ?_)
               | (show AT _ _ _ (wpList _ _ _ (⟨_, Op.store _ _ _, _, _, _, _⟩ :: _)); refine m_storeo 1 tabs rfl rfl rfl rfl (by rw [mk_length]; exact hc1) ?_))
            | (show AT _ _ _ (wpList _ _ _ []); first | refine c_nil (x_then ?_) | refine c_nil ?_)
            | (show AT _ _ _ (Code.wp _ _ _); first | refine c_tailR 18 (by kernel_rfl) (by kernel_rfl) (by kernel_rfl) (by kernel_rfl) (by kernel_rfl) (by kernel_rfl) (fun _ c => Hp.drew c) ?_ | refine c_seq ?_ | refine c_region ?_ | refine c_skip (x_then ?_) | refine c_block ?_ | refine c_ift rfl (by first | assumption | omega) ?_)
            | (show QT _ _ _ _ _ _ (_ :: _); first
               | (show QT _ _ _ _ _ _ (⟨_, Op.move _, _, _, _, _⟩ :: _); refine q_y (y_move rfl) rfl ?_)
               | (show QT _ _ _ _ _ _ (⟨_, Op.fieldAddr _ _ _, _, _, _, _⟩ :: _); refine q_y (y_field tabs rfl rfl rfl) rfl ?_)
               | (show QT _ _ _ _ _ _ (⟨_, Op.load _ _, _, _, _, _⟩ :: _); first | refine q_y (y_load tabs rfl rfl (hc_rdk (RdOut.of_rd hr) hiR hjC)) rfl ?_ | refine q_y (y_load tabs rfl rfl (hc_blk 0 rfl rfl)) rfl ?_ | refine q_y (y_load tabs rfl rfl (hc_blk 2 rfl rfl)) rfl ?_)
               | (show QT _ _ _ _ _ _ (⟨_, Op.indexAddr _ _ _, _, _, _, _⟩ :: _); refine q_y (y_ix1 tabs (j := i * C + j) rfl rfl rfl hsm rfl hc2) rfl ?_)
               | (show QT _ _ _ _ _ _ (⟨_, Op.binOp _ _ _ _ _, _, _, _, _⟩ :: _); first | refine q_y (y_muln rfl rfl rfl rfl (by omega)) rfl ?_ | refine q_y (y_addn (b := j) rfl rfl rfl rfl (by omega)) rfl ?_))
            | (show QT _ _ _ _ _ _ []; refine q_nil ?_)
            | (show AT _ _ _ _; first | refine x_then ?_ | refine x_blk ?_))
          refine x_nx (j + 1) (by repeat' (first | exact Sub.nil | refine Sub.cons rfl ?_ | refine Sub.consi rfl (by omega) ?_)) (by omega) (fun w' c' => ?_) (by omega)
          simp only [List.set_cons_succ, List.set_cons_zero] at c'
          rw [mk_set hiR (by omega), fillF_next] at c'
          exact c'
        · have : j = C := by omega
          subst this
          have hc1 := cell_lt (C := j + 1) hiR (show j < j + 1 by omega)
          repeat' (first
            | (show AT _ _ _ (wpList _ _ _ (_ :: _)); first
               | (show AT _ _ _ (wpList _ _ _ (⟨_, Op.move _, _, _, _, _⟩ :: _)); refine st_y (y_move rfl) rfl ?_)
               | (show AT _ _ _ (wpList _ _ _ (⟨_, Op.assign _, _, _, _, _⟩ :: _)); refine st_y (y_assign rfl) rfl ?_)
               | (show AT _ _ _ (wpList _ _ _ (⟨_, Op.fieldAddr _ _ _, _, _, _, _⟩ :: _)); refine st_y (y_field tabs rfl rfl rfl) rfl ?_)
               | (show AT _ _ _ (wpList _ _ _ (⟨_, Op.load _ _, _, _, _, _⟩ :: _)); refine st_y (y_load tabs rfl rfl (hc_blk 2 rfl rfl)) rfl ?_)
               | (show AT _ _ _ (wpList _ _ _ (⟨_, Op.indexAddr _ _ _, _, _, _, _⟩ :: _)); refine st_y (y_ix1 tabs (j := i * (j + 1) + j) rfl rfl rfl hs rfl hc1) rfl ?_)
               | (show AT _ _ _ (wpList _ _ _ (⟨_, Op.binOp _ _ _ _ _, _, _, _, _⟩ :: _)); first | refine st_y (y_add rfl rfl (by omega)) rfl ?_ | refine st_y (y_lss rfl rfl) rfl ?_)
               | (show AT _ _ _ (wpList _ _ _ (⟨_, Op.store _ _ _, _, _, _, _⟩ :: _)); refine m_storeo 1 tabs rfl rfl rfl rfl (by rw [mk_length]; exact hc1) ?_))
            | (show AT _ _ _ (wpList _ _ _ []); first | refine c_nil (x_then ?_) | refine c_nil ?_)
            | (show AT _ _ _ (Code.wp _ _ _); first | refine c_tailR 13 (by kernel_rfl) (by kernel_rfl) (by kernel_rfl) (by kernel_rfl) (by kernel_rfl) (by kernel_rfl) (fun _ c => Hp.drew c) ?_ | refine c_seq ?_ | refine c_region ?_ | refine c_exit ?_ | refine c_iff rfl (by first | assumption | exact not_not_intro (by assumption) | omega) ?_)
            | (show QT _ _ _ _ _ _ (_ :: _); first
               | (show QT _ _ _ _ _ _ (⟨_, Op.move _, _, _, _, _⟩ :: _); refine q_y (y_move rfl) rfl ?_)
               | (show QT _ _ _ _ _ _ (⟨_, Op.fieldAddr _ _ _, _, _, _, _⟩ :: _); refine q_y (y_field tabs rfl rfl rfl) rfl ?_)
               | (show QT _ _ _ _ _ _ (⟨_, Op.load _ _, _, _, _, _⟩ :: _); first | refine q_y (y_load tabs rfl rfl (hc_w0 (hgv i hiR))) rfl ?_ | refine q_y (y_load tabs rfl rfl (hc_blk 0 rfl rfl)) rfl ?_ | refine q_y (y_load tabs rfl rfl (hc_blk 2 rfl rfl)) rfl ?_)
               | (show QT _ _ _ _ _ _ (⟨_, Op.indexAddr _ _ _, _, _, _, _⟩ :: _); refine q_y (y_ix1 tabs (j := i) rfl rfl rfl hsv rfl hiR) rfl ?_)
               | (show QT _ _ _ _ _ _ (⟨_, Op.binOp _ _ _ _ _, _, _, _, _⟩ :: _); first | refine q_y (y_muln rfl rfl rfl rfl (by omega)) rfl ?_ | refine q_y (y_addn (b := j) rfl rfl rfl rfl (by omega)) rfl ?_))
            | (show QT _ _ _ _ _ _ []; refine q_nil ?_)
            | (show AT _ _ _ _; first | refine x_then ?_ | refine x_then_exit ?_ | refine x_blk_exit rfl ?_ | refine x_blk ?_))
          refine x_nx (i + 1) (by repeat' (first | exact Sub.nil | refine Sub.cons rfl ?_ | refine Sub.consi rfl (by omega) ?_)) (by omega) (fun w' c' => ?_) (by omega)
          simp only [List.set_cons_succ, List.set_cons_zero] at c'
          rw [mk_set hiR (by omega), fillF_row (v := v.getD i 0) rfl] at c'
          exact c'
    · have : i = R := by omega
      subst this
      have e0 : mk i (C + 1) (fillF C f (vF v) i 0) = mk i (C + 1) (sysF C f v) := mk_ext (fun a b ha hb => by unfold fillF; rw [if_pos ha])
      rw [e0]
      repeat' (first
        | (show AT _ _ _ (wpList _ _ _ (_ :: _)); first
           | (show AT _ _ _ (wpList _ _ _ (⟨_, Op.move _, _, _, _, _⟩ :: _)); refine st_y (y_move rfl) rfl ?_)
           | (show AT _ _ _ (wpList _ _ _ (⟨_, Op.assign _, _, _, _, _⟩ :: _)); refine st_y (y_assign rfl) rfl ?_)
           | (show AT _ _ _ (wpList _ _ _ (⟨_, Op.fieldAddr _ _ _, _, _, _, _⟩ :: _)); refine st_y (y_field tabs rfl rfl rfl) rfl ?_)
           | (show AT _ _ _ (wpList _ _ _ (⟨_, Op.load _ _, _, _, _, _⟩ :: _)); first | refine st_y (y_load tabs rfl rfl (hc_blk 2 rfl rfl)) rfl ?_ | refine st_y (y_load tabs rfl rfl (hc_blk 5 rfl rfl)) rfl ?_ | refine st_y (y_loadb 0 tabs rfl rfl rfl rfl) rfl ?_)
           | (show AT _ _ _ (wpList _ _ _ (⟨_, Op.binOp _ _ _ _ _, _, _, _, _⟩ :: _)); refine st_y (y_lss rfl rfl) rfl ?_)
           | (show AT _ _ _ (wpList _ _ _ (⟨_, Op.call _, _, _, _, _⟩ :: _)); first | (refine m_call (ent_of Try.func90 (by kernel_rfl) rfl) rfl rfl (fun w c => l4ReduceK_ok (c.own_rd (i := 1) rfl) hF (by omega) (by omega) hsy) ?_; rintro v H' ⟨a2, c2, a', c', rfl, hs2, hs', rfl⟩) | (refine m_call (ent_of Try.func102 (by kernel_rfl) rfl) rfl rfl (fun w c => l4Has_ok (c.own_rd (i := 1) rfl)) ?_; rintro v H' ⟨rfl, rfl⟩))
           | (show AT _ _ _ (wpList _ _ _ (⟨_, Op.extract _ _, _, _, _, _⟩ :: _)); refine st_y (y_ext rfl rfl) rfl ?_)
           | (show AT _ _ _ (wpList _ _ _ (⟨_, Op.store _ _ _, _, _, _, _⟩ :: _)); refine m_storeb 0 tabs rfl rfl rfl rfl rfl rfl rfl ?_)
           | (show AT _ _ _ (wpList _ _ _ (⟨_, Op.alloc _, _, _, _, _⟩ :: _)); refine m_alloc tabs rfl rfl (fun b11 hb11 => ?_))
           | (show AT _ _ _ (wpList _ _ _ (⟨_, Op.makeSlice _ _ _, _, _, _, _⟩ :: _)); refine m_maken tabs (m := C) rfl rfl rfl rfl (by omega) rfl (fun gg hgg => ?_))
           | (show AT _ _ _ (wpList _ _ _ (⟨_, Op.buildSlice _ _ _, _, _, _, _⟩ :: _)); refine m_build0 tabs rfl rfl (fun g hg => ?_)))
        | (show AT _ _ _ (wpList _ _ _ []); refine c_nil (x_then ?_))
        | (show AT _ _ _ (Code.wp _ _ _); first | refine c_seq ?_ | refine c_region ?_ | refine c_skip (x_then ?_) | refine c_block ?_ | refine c_ret ?_ | refine c_exit ?_ | refine c_iff rfl (by first | assumption | exact not_not_intro (by assumption) | omega) ?_ | refine c_if rfl (fun h => ?_) (fun h => ?_))
        | (show AT _ _ _ _; first | refine x_then ?_ | refine x_then_ret ?_ | refine x_then_exit ?_ | refine x_blk_exit rfl ?_))
      · rw [solX, if_pos (by assumption), solB, decide_eq_true (by assumption)]
        exact x_ret2 Try.results81 (res_tmp rfl) (res_tmp rfl) (fun w' c' => ⟨_, _, rfl, ⟨_, 0, rfl, .inl rfl, rfl⟩, c'.sub (.cons_cons _ (List.nil_sublist _))⟩)
      · generalize hre : redTo p i (sysF C f v) (C + 1) = red at *
        obtain ⟨g, piv⟩ := red
        obtain ⟨hgi, hpl⟩ := hpl
        simp only at hpv hpl hs2 hs' hgi h ⊢
        have hX : solX p i C f v = mkv C (solG g C piv piv.length) := by rw [solX, hre, if_neg h]
        have hB : solB p i C f v = true := by rw [solB, hre, decide_eq_false h]; rfl
        rw [hX, hB, mkv_zero]
        refine c_loopH (α := Nat) [4, 11, 12, 13] (fun n => [(14, .int .i64 n)]) (fun n => n ≤ piv.length) (fun n => [.own (iT (mkv C (solG g C piv n))) (.slice (some ⟨gg, 0, none⟩) C C), .blk b11 #[iV i, iV (C + 1 : Nat), .slice a2 (i * (C + 1)) c2] 46, .own (iT piv) (.slice a' piv.length c'), .own (iT (mk i (C + 1) g)) (.slice a2 (i * (C + 1)) c2), .blk b4 #[iV i, iV C, .slice am (i * C) cm] 46]) (fun n => piv.length - n) 0 rfl (by repeat' (first | exact Sub.nil | refine Sub.cons rfl ?_ | refine Sub.consi rfl (by omega) ?_)) ?_ ?_ ?_
        · omega
        · exact fun w' c' => c'.sub (by repeat' first | exact List.Sublist.refl _ | exact List.nil_sublist _ | apply List.Sublist.cons_cons | apply List.Sublist.cons)
        · intro n hn
          by_cases hin' : n < piv.length
          · have hx : piv[n]? = some (piv.getD n 0) := getD_some hin'
            have hb := hpv _ (List.mem_of_getElem? hx)
            have hkC : piv.getD n 0 ≠ (C : Int) := fun e => h (by rw [← e]; exact List.mem_of_getElem? hx)
            have hk0 : (piv.getD n 0).toNat < C := by omega
            have ek : piv.getD n 0 = (((piv.getD n 0).toNat : Nat) : Int) := by omega
            have hnR : n < i := by omega
            have hC1 : C < C + 1 := by omega
            have hc1 := cell_lt (C := C + 1) hnR hC1
            repeat' (first
              | (show AT _ _ _ (wpList _ _ _ (_ :: _)); first
                 | (show AT _ _ _ (wpList _ _ _ (⟨_, Op.move _, _, _, _, _⟩ :: _)); refine st_y (y_move rfl) rfl ?_)
                 | (show AT _ _ _ (wpList _ _ _ (⟨_, Op.assign _, _, _, _, _⟩ :: _)); refine st_y (y_assign rfl) rfl ?_)
                 | (show AT _ _ _ (wpList _ _ _ (⟨_, Op.indexAddr _ _ _, _, _, _, _⟩ :: _)); refine st_y (y_ix1 tabs (j := (piv.getD n 0).toNat) rfl rfl rfl .mk ek hk0) rfl ?_)
                 | (show AT _ _ _ (wpList _ _ _ (⟨_, Op.binOp _ _ _ _ _, _, _, _, _⟩ :: _)); first | refine st_y (y_add rfl rfl (by omega)) rfl ?_ | refine st_y (y_lss rfl rfl) rfl ?_)
                 | (show AT _ _ _ (wpList _ _ _ (⟨_, Op.call _, _, _, _, _⟩ :: _)); refine st_y (y_len tabs rfl rfl) rfl ?_)
                 | (show AT _ _ _ (wpList _ _ _ (⟨_, Op.store _ _ _, _, _, _, _⟩ :: _)); refine m_storeo 0 tabs rfl rfl rfl rfl (by rw [mkv_length]; exact hk0) ?_))
              | (show AT _ _ _ (wpList _ _ _ []); first | refine c_nil (x_then ?_) | refine c_nil ?_)
              | (show AT _ _ _ (Code.wp _ _ _); first | refine c_tailR 16 (by kernel_rfl) (by kernel_rfl) (by kernel_rfl) (by kernel_rfl) (by kernel_rfl) (by kernel_rfl) (fun _ c => Hp.drew c) ?_ | refine c_seq ?_ | refine c_region ?_ | refine c_skip (x_then ?_) | refine c_block ?_ | refine c_ift rfl (by first | assumption | omega) ?_)
              | (show QT _ _ _ _ _ _ (_ :: _); first
                 | (show QT _ _ _ _ _ _ (⟨_, Op.move _, _, _, _, _⟩ :: _); refine q_y (y_move rfl) rfl ?_)
                 | (show QT _ _ _ _ _ _ (⟨_, Op.fieldAddr _ _ _, _, _, _, _⟩ :: _); refine q_y (y_field tabs rfl rfl rfl) rfl ?_)
                 | (show QT _ _ _ _ _ _ (⟨_, Op.load _ _, _, _, _, _⟩ :: _); first | refine q_y (y_load tabs rfl rfl (hc_own 2 rfl hin')) rfl ?_ | refine q_y (y_load tabs rfl rfl (hc_mk 3 rfl hnR hC1)) rfl ?_ | refine q_y (y_load tabs rfl rfl (hc_blk 1 rfl rfl)) rfl ?_ | refine q_y (y_load tabs rfl rfl (hc_blk 4 rfl rfl)) rfl ?_)
                 | (show QT _ _ _ _ _ _ (⟨_, Op.indexAddr _ _ _, _, _, _, _⟩ :: _); first | refine q_y (y_ix1 tabs (j := n * (C + 1) + C) rfl rfl rfl hs2 rfl hc1) rfl ?_ | refine q_y (y_ix1 tabs (j := n) rfl rfl rfl hs' rfl hin') rfl ?_)
                 | (show QT _ _ _ _ _ _ (⟨_, Op.binOp _ _ _ _ _, _, _, _, _⟩ :: _); first | refine q_y (y_muln rfl rfl rfl rfl (by omega)) rfl ?_ | refine q_y (y_addn (b := C) rfl rfl rfl rfl (by omega)) rfl ?_))
              | (show QT _ _ _ _ _ _ []; refine q_nil ?_)
              | (show AT _ _ _ _; first | refine x_then ?_ | refine x_blk ?_))
            refine x_nx (n + 1) (by repeat' (first | exact Sub.nil | refine Sub.cons rfl ?_ | refine Sub.consi rfl (by omega) ?_)) (by omega) (fun w' c' => ?_) (by omega)
            simp only [List.set_cons_zero, mkv_set] at c'
            exact c'
          · have : n = piv.length := by omega
            subst this
            repeat' (first
              | (show AT _ _ _ (wpList _ _ _ (_ :: _)); first
                 | (show AT _ _ _ (wpList _ _ _ (⟨_, Op.move _, _, _, _, _⟩ :: _)); refine st_y (y_move rfl) rfl ?_)
                 | (show AT _ _ _ (wpList _ _ _ (⟨_, Op.assign _, _, _, _, _⟩ :: _)); refine st_y (y_assign rfl) rfl ?_)
                 | (show AT _ _ _ (wpList _ _ _ (⟨_, Op.binOp _ _ _ _ _, _, _, _, _⟩ :: _)); refine st_y (y_lss rfl rfl) rfl ?_)
                 | (show AT _ _ _ (wpList _ _ _ (⟨_, Op.call _, _, _, _, _⟩ :: _)); refine st_y (y_len tabs rfl rfl) rfl ?_))
              | (show AT _ _ _ (wpList _ _ _ []); refine c_nil (x_then ?_))
              | (show AT _ _ _ (Code.wp _ _ _); first | refine c_seq ?_ | refine c_region ?_ | refine c_ret ?_ | refine c_exit ?_ | refine c_iff rfl (by first | assumption | exact not_not_intro (by assumption) | omega) ?_)
              | (show AT _ _ _ _; first | refine x_then ?_ | refine x_then_exit ?_ | refine x_blk_exit rfl ?_))
            refine x_ret2 Try.results81 (res_tmp rfl) (res_tmp rfl) (fun w' c' => ⟨.tuple #[.slice (some ⟨gg, 0, none⟩) C C, .bool true], [.own (iT (mkv C (solG g C piv piv.length))) (.slice (some ⟨gg, 0, none⟩) C C)], rfl, ⟨_, C, by rw [mkv_length], .mk, by rw [mkv_length]⟩, c'.sub (.cons_cons _ (List.nil_sublist _))⟩)
/-- SolveSystem -/
def SysP (p : Int) (m : Mat) (v : List Int) : Prop := MatP p m ∧ VecP p v ∧ (v.length : Int) = m.1
instance (p : Int) (m : Mat) (v : List Int) : Decidable (SysP p m v) := by unfold SysP; infer_instance
def sysX (p : Int) (m : Mat) (v : List Int) : List Int := if SysP p m v then solX p m.1.toNat m.2.1.toNat (matF m) v else []
def sysB (p : Int) (m : Mat) (v : List Int) : Bool := if SysP p m v then solB p m.1.toNat m.2.1.toNat (matF m) v else false
theorem sys_mk {p : Int} {R C : Nat} {f : Nat → Nat → Int} {v : List Int} : solX p R C (matF (↑R, ↑C, mk R C f)) v = solX p R C f v ∧ solB p R C (matF (↑R, ↑C, mk R C f)) v = solB p R C f v := by
  have hc : ∀ i j, i < R → j < C + 1 → sysF C (matF (↑R, ↑C, mk R C f)) v i j = sysF C f v i j := fun i j hi hj => by
    unfold sysF besF
    split
    · exact matF_mk hi (by assumption)
    · rfl
  obtain ⟨h1, h2, _⟩ := redTo_congr (p := p) (C := C + 1) hc (C + 1) (Nat.le_refl _)
  have hn := (redTo_congr (p := p) (R := R) (C := C + 1) (f := sysF C f v) (g := sysF C f v) (fun _ _ _ _ => rfl) (C + 1) (Nat.le_refl _)).2.2
  have hg : ∀ n q, n ≤ R → solG (redTo p R (sysF C (matF (↑R, ↑C, mk R C f)) v) (C + 1)).1 C (redTo p R (sysF C f v) (C + 1)).2 n q = solG (redTo p R (sysF C f v) (C + 1)).1 C (redTo p R (sysF C f v) (C + 1)).2 n q := by
    intro n
    induction n with
    | zero => intro q _; rfl
    | succ n ih =>
      intro q hq
      simp only [solG]
      rw [ih q (by omega), h1 n C (by omega) (by omega)]
  unfold solX solB
  rw [h2]
  refine ⟨?_, rfl⟩
  split
  · rfl
  · exact mkv_ext (fun i _ => hg _ i hn)
theorem impl_SolveSystem_ok {w : World} {p : Int} {m : Mat} {v : List Int} {u u' : Value} (hr : Rd w (iT m.2.2) u) (hr' : Rd w (iT v) u') :
    Does Try.prog 28 [iV p, .agg #[iV m.1, iV m.2.1, u], u'] w (GivesIB (sysX p m v) (sysB p m v)) := by
  obtain ⟨av, cv, rfl, hsv, hv1, hv2, _⟩ := hr'.ints
  unfold maxLen at hv2
  by_cases hS : SysP p m v
  · obtain ⟨hM, hV, hvl⟩ := hS
    obtain ⟨R, C, f, rfl, hR, hC, hF, hin⟩ := matP_mk hM
    have hS : SysP p (↑R, ↑C, mk R C f) v := ⟨hM, hV, hvl⟩
    have hvl' : v.length = R := by simp only at hvl; omega
    rw [sysX, if_pos hS, sysB, if_pos hS]
    simp only [Int.toNat_natCast]
    rw [sys_mk.1, sys_mk.2]
    simp only at hr ⊢
    refine fn_enter Try.func28 rfl Try.ntmps28 rfl ?_
    repeat' (first
      | (show AT _ _ _ (wpList _ _ _ (_ :: _)); first
         | (show AT _ _ _ (wpList _ _ _ (⟨_, Op.move _, _, _, _, _⟩ :: _)); refine st_y (y_move rfl) rfl ?_)
         | (show AT _ _ _ (wpList _ _ _ (⟨_, Op.assign _, _, _, _, _⟩ :: _)); refine st_y (y_assign rfl) rfl ?_)
         | (show AT _ _ _ (wpList _ _ _ (⟨_, Op.fieldAddr _ _ _, _, _, _, _⟩ :: _)); refine st_y (y_field tabs rfl rfl rfl) rfl ?_)
         | (show AT _ _ _ (wpList _ _ _ (⟨_, Op.load _ _, _, _, _, _⟩ :: _)); first | refine st_y (y_load tabs rfl rfl (hc_blk 0 rfl rfl)) rfl ?_ | refine st_y (y_loadb 0 tabs rfl rfl rfl rfl) rfl ?_)
         | (show AT _ _ _ (wpList _ _ _ (⟨_, Op.binOp _ _ _ _ _, _, _, _, _⟩ :: _)); refine st_y (y_neq rfl rfl) rfl ?_)
         | (show AT _ _ _ (wpList _ _ _ (⟨_, Op.unOp _ _ _, _, _, _, _⟩ :: _)); refine st_y (y_notd rfl) rfl ?_)
         | (show AT _ _ _ (wpList _ _ _ (⟨_, Op.call _, _, _, _, _⟩ :: _)); first | (refine m_call (ent_of Try.func63 (by kernel_rfl) rfl) rfl rfl (fun w c => impl_IsMatrix_ok (m := (↑R, ↑C, mk R C f)) (c.rd hr)) ?_; rintro v H' ⟨rfl, rfl⟩) | (refine m_call (ent_of Try.func71 (by kernel_rfl) rfl) rfl rfl (fun w c => impl_IsVector_ok (c.rd hr')) ?_; rintro v H' ⟨rfl, rfl⟩) | (refine m_call (ent_of Try.func79 (by kernel_rfl) rfl) rfl rfl (fun w c => solve_ok (c.rd hr) (c.rd hr') hF (by omega) (by omega) hin hV.2.2 hvl') ?_; rintro v H' ⟨a2, c2, rfl, hs2, rfl⟩) | refine st_y (y_len tabs rfl rfl) rfl ?_)
         | (show AT _ _ _ (wpList _ _ _ (⟨_, Op.extract _ _, _, _, _, _⟩ :: _)); refine st_y (y_ext rfl rfl) rfl ?_)
         | (show AT _ _ _ (wpList _ _ _ (⟨_, Op.pick _ _ _, _, _, _, _⟩ :: _)); first | refine st_y (y_pickt rfl (by first | assumption | omega) rfl) rfl ?_ | refine st_y (y_pickf rfl (by first | assumption | omega) rfl) rfl ?_ | refine st_y (y_pick rfl rfl rfl) rfl ?_)
         | (show AT _ _ _ (wpList _ _ _ (⟨_, Op.box _ _, _, _, _, _⟩ :: _)); refine m_box rfl rfl (fun bq hbq => ?_))
         | refine st_gn rfl rfl rfl ?_ | refine st_gfy rfl rfl (by first | assumption | omega) ?_ | refine st_gfn rfl rfl (by first | assumption | omega) rfl ?_ | refine st_gd rfl rfl (fun h => ?_) (fun h => ?_))
      | (show AT _ _ _ (wpList _ _ _ []); refine c_nil (x_then ?_))
      | (show AT _ _ _ (Code.wp _ _ _); first | refine c_seq ?_ | refine c_region ?_ | refine c_skip (x_then ?_) | refine c_ret ?_ | refine c_true rfl ?_ | refine c_iff rfl (by first | assumption | exact not_not_intro (by assumption) | omega) ?_)
      | (show AT _ _ _ _; refine x_then_ret ?_))
    all_goals first
      | exact x_ret2 Try.results28 (res_tmp rfl) (res_tmp rfl) (fun w' c' => ⟨_, _, rfl, ⟨a2, c2, rfl, hs2, rfl⟩, c'.sub (.cons_cons _ (List.nil_sublist _))⟩)
      | exact absurd hM (by assumption)
      | exact absurd hV (by assumption)
  · have e1 : sysX p m v = [] := by rw [sysX, if_neg hS]
    have e2 : sysB p m v = false := by rw [sysB, if_neg hS]
    rw [e1, e2]
    refine fn_enter Try.func28 rfl Try.ntmps28 rfl ?_
    repeat' (first
      | (show AT _ _ _ (wpList _ _ _ (_ :: _)); first
         | (show AT _ _ _ (wpList _ _ _ (⟨_, Op.move _, _, _, _, _⟩ :: _)); refine st_y (y_move rfl) rfl ?_)
         | (show AT _ _ _ (wpList _ _ _ (⟨_, Op.assign _, _, _, _, _⟩ :: _)); refine st_y (y_assign rfl) rfl ?_)
         | (show AT _ _ _ (wpList _ _ _ (⟨_, Op.fieldAddr _ _ _, _, _, _, _⟩ :: _)); refine st_y (y_field tabs rfl rfl rfl) rfl ?_)
         | (show AT _ _ _ (wpList _ _ _ (⟨_, Op.load _ _, _, _, _, _⟩ :: _)); first | refine st_y (y_load tabs rfl rfl (hc_blk 0 rfl rfl)) rfl ?_ | refine st_y (y_loadb 0 tabs rfl rfl rfl rfl) rfl ?_)
         | (show AT _ _ _ (wpList _ _ _ (⟨_, Op.binOp _ _ _ _ _, _, _, _, _⟩ :: _)); refine st_y (y_neq rfl rfl) rfl ?_)
         | (show AT _ _ _ (wpList _ _ _ (⟨_, Op.unOp _ _ _, _, _, _, _⟩ :: _)); refine st_y (y_notd rfl) rfl ?_)
         | (show AT _ _ _ (wpList _ _ _ (⟨_, Op.call _, _, _, _, _⟩ :: _)); first | (refine m_call (ent_of Try.func63 (by kernel_rfl) rfl) rfl rfl (fun w c => impl_IsMatrix_ok (m := m) (c.rd hr)) ?_; rintro v H' ⟨rfl, rfl⟩) | (refine m_call (ent_of Try.func71 (by kernel_rfl) rfl) rfl rfl (fun w c => impl_IsVector_ok (c.rd hr')) ?_; rintro v H' ⟨rfl, rfl⟩) | refine st_y (y_len tabs rfl rfl) rfl ?_)
         | (show AT _ _ _ (wpList _ _ _ (⟨_, Op.pick _ _ _, _, _, _, _⟩ :: _)); first | refine st_y (y_pickt rfl (by assumption) rfl) rfl ?_ | refine st_y (y_pickf rfl (by assumption) rfl) rfl ?_ | refine st_y (y_pick rfl rfl rfl) rfl ?_)
         | (show AT _ _ _ (wpList _ _ _ (⟨_, Op.box _ _, _, _, _, _⟩ :: _)); refine m_box rfl rfl (fun bq hbq => ?_))
         | refine st_gn rfl rfl rfl ?_ | refine st_gfy rfl rfl (by assumption) ?_ | refine st_gfn rfl rfl (by assumption) rfl ?_ | refine st_gd rfl rfl (fun h => ?_) (fun h => ?_))
      | (show AT _ _ _ (wpList _ _ _ []); refine c_nil (x_then ?_))
      | (show AT _ _ _ (Code.wp _ _ _); first | refine c_seq ?_ | refine c_region ?_ | refine c_skip (x_then ?_) | refine c_ret ?_ | refine c_true rfl ?_ | refine c_ifnd rfl (fun h => ?_) (fun h => ?_))
      | (show AT _ _ _ _; refine x_then_ret ?_))
    all_goals first
      | exact absurd ⟨Decidable.not_not.1 (by assumption), Decidable.not_not.1 (by assumption), by omega⟩ hS
      | exact absurd ⟨by first | assumption | exact Decidable.not_not.1 (by assumption), by first | assumption | exact Decidable.not_not.1 (by assumption), by omega⟩ hS
      | exact x_ret2 Try.results28 (res_tmp rfl) (res_tmp rfl) (fun w' c' => ⟨_, _, rfl, ⟨none, 0, rfl, .inl rfl, rfl⟩, by first | exact Hp.nilp _ _ (c'.sub (List.nil_sublist _)) | exact c'.sub (.cons_cons _ (List.nil_sublist _))⟩)

theorem spec_SolveSystem_ok {w : World} {p : Int} {m : Mat} {v : List Int} {u u' : Value} (hr : Rd w (iT m.2.2) u) (hr' : Rd w (iT v) u') :
    Does Try.prog 29 [iV p, .agg #[iV m.1, iV m.2.1, u], u'] w (GivesIB (sysX p m v) (sysB p m v)) := by
  obtain ⟨av, cv, rfl, hsv, hv1, hv2, _⟩ := hr'.ints
  unfold maxLen at hv2
  by_cases hS : SysP p m v
  · obtain ⟨hM, hV, hvl⟩ := hS
    obtain ⟨R, C, f, rfl, hR, hC, hF, hin⟩ := matP_mk hM
    have hS : SysP p (↑R, ↑C, mk R C f) v := ⟨hM, hV, hvl⟩
    have hvl' : v.length = R := by simp only at hvl; omega
    rw [sysX, if_pos hS, sysB, if_pos hS]
    simp only [Int.toNat_natCast]
    rw [sys_mk.1, sys_mk.2]
    simp only at hr ⊢
    refine fn_enter Try.func29 rfl Try.ntmps29 rfl ?_
    repeat' (first
      | (show AT _ _ _ (wpList _ _ _ (_ :: _)); first
         | (show AT _ _ _ (wpList _ _ _ (⟨_, Op.move _, _, _, _, _⟩ :: _)); refine st_y (y_move rfl) rfl ?_)
         | (show AT _ _ _ (wpList _ _ _ (⟨_, Op.assign _, _, _, _, _⟩ :: _)); refine st_y (y_assign rfl) rfl ?_)
         | (show AT _ _ _ (wpList _ _ _ (⟨_, Op.fieldAddr _ _ _, _, _, _, _⟩ :: _)); refine st_y (y_field tabs rfl rfl rfl) rfl ?_)
         | (show AT _ _ _ (wpList _ _ _ (⟨_, Op.load _ _, _, _, _, _⟩ :: _)); first | refine st_y (y_load tabs rfl rfl (hc_blk 0 rfl rfl)) rfl ?_ | refine st_y (y_loadb 0 tabs rfl rfl rfl rfl) rfl ?_)
         | (show AT _ _ _ (wpList _ _ _ (⟨_, Op.binOp _ _ _ _ _, _, _, _, _⟩ :: _)); refine st_y (y_neq rfl rfl) rfl ?_)
         | (show AT _ _ _ (wpList _ _ _ (⟨_, Op.unOp _ _ _, _, _, _, _⟩ :: _)); refine st_y (y_notd rfl) rfl ?_)
         | (show AT _ _ _ (wpList _ _ _ (⟨_, Op.call _, _, _, _, _⟩ :: _)); first | (refine m_call (ent_of Try.func65 (by kernel_rfl) rfl) rfl rfl (fun w c => spec_IsMatrix_ok (m := (↑R, ↑C, mk R C f)) (c.rd hr)) ?_; rintro v H' ⟨rfl, rfl⟩) | (refine m_call (ent_of Try.func80 (by kernel_rfl) rfl) rfl rfl (fun w c => spec_IsVector_ok (c.rd hr')) ?_; rintro v H' ⟨rfl, rfl⟩) | (refine m_call (ent_of Try.func81 (by kernel_rfl) rfl) rfl rfl (fun w c => l4Solve_ok (c.rd hr) (c.rd hr') hF (by omega) (by omega) hin hV.2.2 hvl') ?_; rintro v H' ⟨a2, c2, rfl, hs2, rfl⟩) | refine st_y (y_len tabs rfl rfl) rfl ?_)
         | (show AT _ _ _ (wpList _ _ _ (⟨_, Op.extract _ _, _, _, _, _⟩ :: _)); refine st_y (y_ext rfl rfl) rfl ?_)
         | (show AT _ _ _ (wpList _ _ _ (⟨_, Op.pick _ _ _, _, _, _, _⟩ :: _)); first | refine st_y (y_pickt rfl (by first | assumption | omega) rfl) rfl ?_ | refine st_y (y_pickf rfl (by first | assumption | omega) rfl) rfl ?_ | refine st_y (y_pick rfl rfl rfl) rfl ?_)
         | (show AT _ _ _ (wpList _ _ _ (⟨_, Op.box _ _, _, _, _, _⟩ :: _)); refine m_box rfl rfl (fun bq hbq => ?_))
         | (show AT _ _ _ (wpList _ _ _ (⟨_, Op.buildSlice _ _ _, _, _, _, _⟩ :: _)); refine m_build0 tabs rfl rfl (fun g hg => ?_))
         | refine st_gn rfl rfl rfl ?_ | refine st_gfy rfl rfl (by first | assumption | omega) ?_ | refine st_gfn rfl rfl (by first | assumption | omega) rfl ?_ | refine st_gd rfl rfl (fun h => ?_) (fun h => ?_))
      | (show AT _ _ _ (wpList _ _ _ []); refine c_nil (x_then ?_))
      | (show AT _ _ _ (Code.wp _ _ _); first | refine c_seq ?_ | refine c_region ?_ | refine c_skip (x_then ?_) | refine c_ret ?_ | refine c_true rfl ?_ | refine c_iff rfl (by first | assumption | exact not_not_intro (by assumption) | omega) ?_)
      | (show AT _ _ _ _; refine x_then_ret ?_))
    all_goals first
      | exact x_ret2 Try.results29 (res_tmp rfl) (res_tmp rfl) (fun w' c' => ⟨_, _, rfl, ⟨a2, c2, rfl, hs2, rfl⟩, c'.sub (.cons_cons _ (List.nil_sublist _))⟩)
      | exact absurd hM (by assumption)
      | exact absurd hV (by assumption)
  · have e1 : sysX p m v = [] := by rw [sysX, if_neg hS]
    have e2 : sysB p m v = false := by rw [sysB, if_neg hS]
    rw [e1, e2]
    refine fn_enter Try.func29 rfl Try.ntmps29 rfl ?_
    repeat' (first
      | (show AT _ _ _ (wpList _ _ _ (_ :: _)); first
         | (show AT _ _ _ (wpList _ _ _ (⟨_, Op.move _, _, _, _, _⟩ :: _)); refine st_y (y_move rfl) rfl ?_)
         | (show AT _ _ _ (wpList _ _ _ (⟨_, Op.assign _, _, _, _, _⟩ :: _)); refine st_y (y_assign rfl) rfl ?_)
         | (show AT _ _ _ (wpList _ _ _ (⟨_, Op.fieldAddr _ _ _, _, _, _, _⟩ :: _)); refine st_y (y_field tabs rfl rfl rfl) rfl ?_)
         | (show AT _ _ _ (wpList _ _ _ (⟨_, Op.load _ _, _, _, _, _⟩ :: _)); first | refine st_y (y_load tabs rfl rfl (hc_blk 0 rfl rfl)) rfl ?_ | refine st_y (y_loadb 0 tabs rfl rfl rfl rfl) rfl ?_)
         | (show AT _ _ _ (wpList _ _ _ (⟨_, Op.binOp _ _ _ _ _, _, _, _, _⟩ :: _)); refine st_y (y_neq rfl rfl) rfl ?_)
         | (show AT _ _ _ (wpList _ _ _ (⟨_, Op.unOp _ _ _, _, _, _, _⟩ :: _)); refine st_y (y_notd rfl) rfl ?_)
         | (show AT _ _ _ (wpList _ _ _ (⟨_, Op.call _, _, _, _, _⟩ :: _)); first | (refine m_call (ent_of Try.func65 (by kernel_rfl) rfl) rfl rfl (fun w c => spec_IsMatrix_ok (m := m) (c.rd hr)) ?_; rintro v H' ⟨rfl, rfl⟩) | (refine m_call (ent_of Try.func80 (by kernel_rfl) rfl) rfl rfl (fun w c => spec_IsVector_ok (c.rd hr')) ?_; rintro v H' ⟨rfl, rfl⟩) | refine st_y (y_len tabs rfl rfl) rfl ?_)
         | (show AT _ _ _ (wpList _ _ _ (⟨_, Op.pick _ _ _, _, _, _, _⟩ :: _)); first | refine st_y (y_pickt rfl (by assumption) rfl) rfl ?_ | refine st_y (y_pickf rfl (by assumption) rfl) rfl ?_ | refine st_y (y_pick rfl rfl rfl) rfl ?_)
         | (show AT _ _ _ (wpList _ _ _ (⟨_, Op.box _ _, _, _, _, _⟩ :: _)); refine m_box rfl rfl (fun bq hbq => ?_))
         | (show AT _ _ _ (wpList _ _ _ (⟨_, Op.buildSlice _ _ _, _, _, _, _⟩ :: _)); refine m_build0 tabs rfl rfl (fun g hg => ?_))
         | refine st_gn rfl rfl rfl ?_ | refine st_gfy rfl rfl (by assumption) ?_ | refine st_gfn rfl rfl (by assumption) rfl ?_ | refine st_gd rfl rfl (fun h => ?_) (fun h => ?_))
      | (show AT _ _ _ (wpList _ _ _ []); refine c_nil (x_then ?_))
      | (show AT _ _ _ (Code.wp _ _ _); first | refine c_seq ?_ | refine c_region ?_ | refine c_skip (x_then ?_) | refine c_ret ?_ | refine c_true rfl ?_ | refine c_ifnd rfl (fun h => ?_) (fun h => ?_))
      | (show AT _ _ _ _; refine x_then_ret ?_))
    all_goals first
      | exact absurd ⟨Decidable.not_not.1 (by assumption), Decidable.not_not.1 (by assumption), by omega⟩ hS
      | exact absurd ⟨by first | assumption | exact Decidable.not_not.1 (by assumption), by first | assumption | exact Decidable.not_not.1 (by assumption), by omega⟩ hS
      | exact x_ret2 Try.results29 (res_tmp rfl) (res_tmp rfl) (fun w' c' => ⟨_, _, rfl, ⟨_, 0, rfl, .inl rfl, rfl⟩, by first | exact Hp.nilp _ _ (c'.sub (List.nil_sublist _)) | exact c'.sub (.cons_cons _ (List.nil_sublist _))⟩)

end Go.Proofs.Ytljgmmmgnfgbhaa
