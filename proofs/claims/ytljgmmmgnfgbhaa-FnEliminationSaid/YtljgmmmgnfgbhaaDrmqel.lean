import Derived.Test.YtljgmmmgnfgbhaaDrwqel
import Derived.Test.YtljgmmmgnfgbhaaZerqel
namespace Go.Proofs.Ytljgmmmgnfgbhaa
open Go.Lg Go.Proofs Go.RowKit
attribute [local irreducible] Code.wp wpList bodyPost Exit.then Exit.inBlock Hp Again Calls Y AT ResV QT Qn QI wpAny wpAnyQ
set_option maxRecDepth 20000
set_option maxHeartbeats 4000000

/-! ### drawn vectors and matrices -/
abbrev GivesL (n : Nat) (v : Value) (H : List HE) : Prop := ∃ (xs : List Int) (a : Option Addr) (c : Nat), v = .slice a xs.length c ∧ xs.length = n ∧ H = [.own (iT xs) (.slice a xs.length c)]
theorem l2Vector_ok {w1 : World} {M1 : List Nat} {H1 : List HE} {w : World} {M' : List Nat} {u : Value} {b i : Nat} {h : Int} (p n : Int) (hl : Lent M1 w1 (cu u b i h) H1 M' w) (hc : CodeF w1 M1 u) (hi : i ≤ vlen u) (hn : n ≤ 1000) :
    DoesB Try.prog 76 [cuV b, iV p, iV n] w M' (Gcu u b (GivesL n.toNat)) := by
  have hc2 := lent_code hl hc
  refine fnb_lent Try.func76 rfl Try.ntmps76 rfl hl ?_
  repeat' (first
    | (show AT _ _ _ (wpList _ _ _ (_ :: _)); first
       | (show AT _ _ _ (wpList _ _ _ (⟨_, Op.assign _, _, _, _, _⟩ :: _)); refine st_y (y_assign rfl) rfl ?_)
       | (show AT _ _ _ (wpList _ _ _ (⟨_, Op.buildSlice _ _ _, _, _, _, _⟩ :: _)); refine m_build0 tabs rfl rfl (fun g hg => ?_)))
    | (show AT _ _ _ (wpList _ _ _ []); refine c_nil (x_then ?_))
    | (show AT _ _ _ (Code.wp _ _ _); first | refine c_seq ?_ | refine c_region ?_ | refine c_block ?_))
  refine c_loopH (α := List Int × Option Addr × Nat × Nat × Int) [0, 1, 2] (fun s => [(7, .slice s.2.1 s.1.length s.2.2.1), (8, iV s.1.length)]) (fun s => (s.1.length ≤ n.toNat) ∧ s.2.2.2.1 ≤ vlen u) (fun s => [.own (iT s.1) (.slice s.2.1 s.1.length s.2.2.1), cu u b s.2.2.2.1 s.2.2.2.2]) (fun s => n.toNat - s.1.length) ([], some ⟨g, 0, none⟩, 0, i, h) rfl (by repeat' (first | exact Sub.nil | refine Sub.cons rfl ?_ | refine Sub.consi rfl (by omega) ?_)) ?_ ?_ ?_
  · exact ⟨Nat.zero_le _, hi⟩
  · exact fun w' c' => c'
  · rintro ⟨xs, a, c, i, ch⟩ ⟨hx, hi⟩
    simp only at hx hi ⊢
    refine AT.fact (own_sl 0 rfl) (fun hsl => ?_)
    obtain ⟨_, _, e, hs⟩ := hsl
    cases e
    repeat' (first
      | (show AT _ _ _ (wpList _ _ _ (_ :: _)); first
         | (show AT _ _ _ (wpList _ _ _ (⟨_, Op.move _, _, _, _, _⟩ :: _)); refine st_y (y_move rfl) rfl ?_)
         | (show AT _ _ _ (wpList _ _ _ (⟨_, Op.assign _, _, _, _, _⟩ :: _)); refine st_y (y_assign rfl) rfl ?_)
         | (show AT _ _ _ (wpList _ _ _ (⟨_, Op.indexAddr _ _ _, _, _, _, _⟩ :: _)); refine st_y (y_ix1 tabs (j := 0) rfl rfl rfl hs rfl (by omega)) rfl ?_)
         | (show AT _ _ _ (wpList _ _ _ (⟨_, Op.binOp _ _ _ _ _, _, _, _, _⟩ :: _)); first | refine st_y (y_add rfl rfl (by omega)) rfl ?_ | refine st_y (y_lss rfl rfl) rfl ?_ | refine st_y (y_gtr rfl rfl) rfl ?_)
         | (show AT _ _ _ (wpList _ _ _ (⟨_, Op.call _, _, _, _, _⟩ :: _)); first | refine st_y (y_max rfl rfl) rfl ?_ | refine st_y (y_min rfl rfl) rfl ?_ | (refine m_callL 1 (ent_of Try.func110 (by kernel_rfl) rfl) rfl rfl rfl (fun w M' hl => l1Below_ok (max 1 (min 5 p)) hl hc2 hi) ?_; rintro v H' ⟨i, ch, _, hi, rfl, x, rfl, hx, rfl⟩) | refine m_pushi 1 tabs rfl rfl rfl rfl rfl (by omega) (fun a9 c9 => ?_) | (refine m_callL 1 (ent_of Try.func78 (by kernel_rfl) rfl) rfl rfl rfl (fun w M' hl => l1Once_ok 20 hl hc2 hi) ?_; rintro v H' ⟨i, ch, _, hi, rfl, (_ | _), rfl, rfl⟩) | (refine m_callL 1 (ent_of Try.func109 (by kernel_rfl) rfl) rfl rfl rfl (fun w M' hl => l1PickInt_ok hl hc2 hi (hl.own 0 rfl) (by decide)) ?_; rintro v H' ⟨i, ch, _, hi, rfl, x, rfl, hx, rfl⟩))
         | (show AT _ _ _ (wpList _ _ _ (⟨_, Op.pick _ _ _, _, _, _, _⟩ :: _)); first | refine st_y (y_pickt rfl (by first | assumption | omega) rfl) rfl ?_ | refine st_y (y_pickf rfl (by first | assumption | omega) rfl) rfl ?_)
         | (show AT _ _ _ (wpList _ _ _ (⟨_, Op.store _ _ _, _, _, _, _⟩ :: _)); refine m_storeo 2 (j := 0) tabs rfl rfl rfl rfl (by omega) ?_)
         | (show AT _ _ _ (wpList _ _ _ (⟨_, Op.buildSlice _ _ _, _, _, _, _⟩ :: _)); first | refine m_build1 tabs (us := [iV x]) rfl rfl rfl rfl (by decide) rfl (fun g5 hg5 => ?_) | refine m_buildi tabs [-1, 5, 9223372036854775807] rfl rfl rfl rfl rfl rfl rfl (fun g hg => ?_))
         | refine st_gdy rfl rfl (by first | assumption | omega) ?_ | refine st_gdn rfl rfl (by first | assumption | omega) rfl ?_ | refine st_gd rfl rfl (fun h => ?_) (fun h => ?_))
      | (show AT _ _ _ (wpList _ _ _ []); first | refine c_nil (x_then ?_) | refine c_nil ?_)
      | (show AT _ _ _ (Code.wp _ _ _); first | refine c_seq ?_ | refine c_region ?_ | refine c_skip (x_then ?_) | refine c_block ?_ | refine c_ret ?_ | refine c_exit ?_ | refine c_true rfl ?_ | refine c_false rfl ?_ | refine c_if rfl (fun h => ?_) (fun h => ?_))
      | (show AT _ _ _ _; first | refine x_then ?_ | refine x_then_exit ?_ | refine x_blk_exit rfl ?_ | refine x_blk ?_))
    · exact x_nx (xs ++ [x], a9, c9, i, ch) (by simp only [List.length_append, List.length_singleton]; repeat' (first | exact Sub.nil | refine Sub.cons rfl ?_ | refine Sub.consi rfl (by omega) ?_)) ⟨by simp only [List.length_append, List.length_singleton]; omega, hi⟩ (fun w' c' => by rw [List.length_append]; exact c') (by simp only [List.length_append, List.length_singleton]; omega)
    · exact x_ret1 Try.results76 (res_tmp rfl) (fun w' c' => ⟨_, _, rfl, ⟨i, ch, _, hi, rfl, xs, a, c, rfl, by omega, rfl⟩, c'⟩)
    · exact x_ret1 Try.results76 (res_tmp rfl) (fun w' c' => ⟨_, _, rfl, ⟨i, ch, _, hi, rfl, xs.set 0 x, a, c, by rw [List.length_set], by rw [List.length_set]; omega, rfl⟩, by rw [List.length_set]; exact c'.sub (.cons_cons _ (.cons _ (List.Sublist.refl _)))⟩)
    · exact x_ret1 Try.results76 (res_tmp rfl) (fun w' c' => ⟨_, _, rfl, ⟨i, _, _, hi, rfl, xs, a, c, rfl, by omega, rfl⟩, c'.swap⟩)
theorem l3Random_ok {w1 : World} {M1 : List Nat} {H1 : List HE} {w : World} {M' : List Nat} {u : Value} {b i : Nat} {h : Int} (p : Int) {R C : Nat} (hl : Lent M1 w1 (cu u b i h) H1 M' w) (hc : CodeF w1 M1 u) (hi : i ≤ vlen u) (hR : R ≤ 1000) (hC : C ≤ 1000) :
    DoesB Try.prog 111 [cuV b, iV p, iV R, iV C] w M' (Gcu u b (fun v H => ∃ (xs : List Int) (a : Option Addr) (c : Nat), v = .agg #[iV R, iV C, .slice a xs.length c] ∧ xs.length = R * C ∧ H = [.own (iT xs) (.slice a xs.length c)])) := by
  have hc2 := lent_code hl hc
  have hRC := rc_le (R := R) (C := C) (by omega) (by omega)
  refine fnb_lent Try.func111 rfl Try.ntmps111 rfl hl ?_
  repeat' (first
    | (show AT _ _ _ (wpList _ _ _ (_ :: _)); first
       | (show AT _ _ _ (wpList _ _ _ (⟨_, Op.move _, _, _, _, _⟩ :: _)); refine st_y (y_move rfl) rfl ?_)
       | (show AT _ _ _ (wpList _ _ _ (⟨_, Op.assign _, _, _, _, _⟩ :: _)); refine st_y (y_assign rfl) rfl ?_)
       | (show AT _ _ _ (wpList _ _ _ (⟨_, Op.call _, _, _, _, _⟩ :: _)); (refine m_call (ent_of Try.func94 (by kernel_rfl) rfl) rfl rfl (fun w c => l3Zero_ok (R := R) (C := C) (by omega) (by omega)) ?_; rintro v H' ⟨am, cm, rfl, hsm, rfl⟩))
       | (show AT _ _ _ (wpList _ _ _ (⟨_, Op.store _ _ _, _, _, _, _⟩ :: _)); refine m_storeb 0 tabs rfl rfl rfl rfl rfl rfl rfl ?_)
       | (show AT _ _ _ (wpList _ _ _ (⟨_, Op.alloc _, _, _, _, _⟩ :: _)); refine m_alloc tabs rfl rfl (fun b9 hb9 => ?_)))
    | (show AT _ _ _ (wpList _ _ _ []); refine c_nil (x_then ?_))
    | (show AT _ _ _ (Code.wp _ _ _); first | refine c_seq ?_ | refine c_region ?_ | refine c_block ?_))
  rename_i b8 hb8
  refine c_loopH (α := List Int × Nat × Nat × Int) [0, 1, 8, 9] (fun s => [(10, iV s.2.1)]) (fun s => (s.1.length = R * C ∧ s.2.1 ≤ R * C) ∧ s.2.2.1 ≤ vlen u) (fun s => [.own (iT s.1) (.slice am (R * C) cm), cu u b s.2.2.1 s.2.2.2, .blk b9 #[iV R, iV C, .slice am (R * C) cm] 46, .blk b8 #[iV 0, iV 0, .slice none 0 0] 46]) (fun s => R * C - s.2.1) (mk R C (fun _ _ => 0), 0, i, h) rfl (by repeat' (first | exact Sub.nil | refine Sub.cons rfl ?_ | refine Sub.consi rfl (by omega) ?_)) ?_ ?_ ?_
  · exact ⟨⟨by simp, Nat.zero_le _⟩, hi⟩
  · intro w' c'
    have h1 := (c'.front (i := 3) rfl).front (i := 2) rfl
    exact h1
  · rintro ⟨xs, k, i, ch⟩ ⟨⟨hx, hk⟩, hi⟩
    simp only at hx hk hi ⊢
    by_cases hin : k < R * C
    · repeat' (first
        | (show AT _ _ _ (wpList _ _ _ (_ :: _)); first
           | (show AT _ _ _ (wpList _ _ _ (⟨_, Op.move _, _, _, _, _⟩ :: _)); refine st_y (y_move rfl) rfl ?_)
           | (show AT _ _ _ (wpList _ _ _ (⟨_, Op.fieldAddr _ _ _, _, _, _, _⟩ :: _)); refine st_y (y_field tabs rfl rfl rfl) rfl ?_)
           | (show AT _ _ _ (wpList _ _ _ (⟨_, Op.load _ _, _, _, _, _⟩ :: _)); refine st_y (y_load tabs rfl rfl (hc_blk 2 rfl rfl)) rfl ?_)
           | (show AT _ _ _ (wpList _ _ _ (⟨_, Op.binOp _ _ _ _ _, _, _, _, _⟩ :: _)); refine st_y (y_lss rfl rfl) rfl ?_)
           | (show AT _ _ _ (wpList _ _ _ (⟨_, Op.call _, _, _, _, _⟩ :: _)); refine st_y (y_len tabs rfl rfl) rfl ?_))
        | (show AT _ _ _ (wpList _ _ _ []); refine c_nil (x_then ?_))
        | (show AT _ _ _ (Code.wp _ _ _); first | refine c_seq ?_ | refine c_region ?_ | refine c_skip (x_then ?_) | refine c_block ?_ | refine c_ift rfl (by first | assumption | omega) ?_))
      refine c_all (Hp M' w [.blk b9 #[iV R, iV C, .slice am (R * C) cm] 46]) (by kernel_rfl) (fun _ c => Hp.drew c) ?_
      refine h_take 0 rfl (by kernel_rfl) (by kernel_rfl) (by kernel_rfl) (by exact y_field tabs rfl rfl rfl) rfl (fun w c => by exact c.sub (by repeat' first | exact List.Sublist.refl _ | exact List.nil_sublist _ | apply List.Sublist.cons_cons | apply List.Sublist.cons)) ?_
      refine h_take 1 rfl (by kernel_rfl) (by kernel_rfl) (by kernel_rfl) (by exact y_load tabs rfl rfl (hc_blk 0 rfl rfl)) rfl (fun w c => by exact c.sub (by repeat' first | exact List.Sublist.refl _ | exact List.nil_sublist _ | apply List.Sublist.cons_cons | apply List.Sublist.cons)) ?_
      refine h_take 2 rfl (by kernel_rfl) (by kernel_rfl) (by kernel_rfl) (by exact y_move rfl) rfl (fun w c => by exact c.sub (by repeat' first | exact List.Sublist.refl _ | exact List.nil_sublist _ | apply List.Sublist.cons_cons | apply List.Sublist.cons)) ?_
      refine h_take 3 rfl (by kernel_rfl) (by kernel_rfl) (by kernel_rfl) (by exact y_move rfl) rfl (fun w c => by exact c.sub (by repeat' first | exact List.Sublist.refl _ | exact List.nil_sublist _ | apply List.Sublist.cons_cons | apply List.Sublist.cons)) ?_
      refine h_take 4 rfl (by kernel_rfl) (by kernel_rfl) (by kernel_rfl) (by exact y_move rfl) rfl (fun w c => by exact c.sub (by repeat' first | exact List.Sublist.refl _ | exact List.nil_sublist _ | apply List.Sublist.cons_cons | apply List.Sublist.cons)) ?_
      refine h_take 5 rfl (by kernel_rfl) (by kernel_rfl) (by kernel_rfl) (by exact y_min rfl rfl) rfl (fun w c => by exact c.sub (by repeat' first | exact List.Sublist.refl _ | exact List.nil_sublist _ | apply List.Sublist.cons_cons | apply List.Sublist.cons)) ?_
      refine h_take 6 rfl (by kernel_rfl) (by kernel_rfl) (by kernel_rfl) (by exact y_max rfl rfl) rfl (fun w c => by exact c.sub (by repeat' first | exact List.Sublist.refl _ | exact List.nil_sublist _ | apply List.Sublist.cons_cons | apply List.Sublist.cons)) ?_
      refine h_only 7 rfl (by kernel_rfl) ?_
      first | (refine m_callL 1 (ent_of Try.func110 (by kernel_rfl) rfl) rfl rfl rfl (fun w M' hl => l1Below_ok (max 1 (min 5 p)) hl hc2 hi) ?_; rintro v H' ⟨i, ch, _, hi, rfl, x, rfl, hx2, rfl⟩) | (refine m_storeo 1 (j := k) tabs rfl rfl rfl rfl (by omega) ?_)
      refine c_nil (x_one (h_keep (fun w c => by exact c.sub (by repeat' first | exact List.Sublist.refl _ | exact List.nil_sublist _ | apply List.Sublist.cons_cons | apply List.Sublist.cons)) ?_))
      refine h_take 8 rfl (by kernel_rfl) (by kernel_rfl) (by kernel_rfl) (by exact y_ix1 tabs (j := k) rfl rfl rfl hsm rfl hin) rfl (fun w c => by exact c.sub (by repeat' first | exact List.Sublist.refl _ | exact List.nil_sublist _ | apply List.Sublist.cons_cons | apply List.Sublist.cons)) ?_
      refine h_only 9 rfl (by kernel_rfl) ?_
      first | (refine m_callL 1 (ent_of Try.func110 (by kernel_rfl) rfl) rfl rfl rfl (fun w M' hl => l1Below_ok (max 1 (min 5 p)) hl hc2 hi) ?_; rintro v H' ⟨i, ch, _, hi, rfl, x, rfl, hx2, rfl⟩) | (refine m_storeo 1 (j := k) tabs rfl rfl rfl rfl (by omega) ?_)
      refine c_nil (x_one (h_keep (fun w c => by exact c.sub (by repeat' first | exact List.Sublist.refl _ | exact List.nil_sublist _ | apply List.Sublist.cons_cons | apply List.Sublist.cons)) ?_))
      refine h_end (by kernel_rfl) ?_
      repeat' (first
        | (show AT _ _ _ (wpList _ _ _ (_ :: _)); first
           | (show AT _ _ _ (wpList _ _ _ (⟨_, Op.move _, _, _, _, _⟩ :: _)); refine st_y (y_move rfl) rfl ?_)
           | (show AT _ _ _ (wpList _ _ _ (⟨_, Op.assign _, _, _, _, _⟩ :: _)); refine st_y (y_assign rfl) rfl ?_)
           | (show AT _ _ _ (wpList _ _ _ (⟨_, Op.binOp _ _ _ _ _, _, _, _, _⟩ :: _)); refine st_y (y_add rfl rfl (by omega)) rfl ?_))
        | (show AT _ _ _ (wpList _ _ _ []); refine c_nil (x_then ?_))
        | (show AT _ _ _ (Code.wp _ _ _); refine c_region ?_)
        | (show AT _ _ _ _; first | refine x_then ?_ | refine x_blk ?_))
      exact x_nx (xs.set k x, k + 1, i, ch) (by repeat' (first | exact Sub.nil | refine Sub.cons rfl ?_ | refine Sub.consi rfl (by omega) ?_)) ⟨⟨by simp only [List.length_set]; omega, by simp only; omega⟩, hi⟩ (fun w' c' => c'.swap) (by simp only; omega)
    · have : k = R * C := by omega
      subst this
      repeat' (first
        | (show AT _ _ _ (wpList _ _ _ (_ :: _)); first
           | (show AT _ _ _ (wpList _ _ _ (⟨_, Op.move _, _, _, _, _⟩ :: _)); refine st_y (y_move rfl) rfl ?_)
           | (show AT _ _ _ (wpList _ _ _ (⟨_, Op.fieldAddr _ _ _, _, _, _, _⟩ :: _)); refine st_y (y_field tabs rfl rfl rfl) rfl ?_)
           | (show AT _ _ _ (wpList _ _ _ (⟨_, Op.load _ _, _, _, _, _⟩ :: _)); first | refine st_y (y_load tabs rfl rfl (hc_blk 2 rfl rfl)) rfl ?_ | refine st_y (y_loadb 2 tabs rfl rfl rfl rfl) rfl ?_)
           | (show AT _ _ _ (wpList _ _ _ (⟨_, Op.binOp _ _ _ _ _, _, _, _, _⟩ :: _)); refine st_y (y_lss rfl rfl) rfl ?_)
           | (show AT _ _ _ (wpList _ _ _ (⟨_, Op.call _, _, _, _, _⟩ :: _)); refine st_y (y_len tabs rfl rfl) rfl ?_)
           | (show AT _ _ _ (wpList _ _ _ (⟨_, Op.store _ _ _, _, _, _, _⟩ :: _)); refine m_storeb 3 tabs rfl rfl rfl rfl rfl rfl rfl ?_))
        | (show AT _ _ _ (wpList _ _ _ []); refine c_nil (x_then ?_))
        | (show AT _ _ _ (Code.wp _ _ _); first | refine c_seq ?_ | refine c_region ?_ | refine c_ret ?_ | refine c_exit ?_ | refine c_iff rfl (by first | assumption | exact not_not_intro (by assumption) | omega) ?_)
        | (show AT _ _ _ _; first | refine x_then ?_ | refine x_then_exit ?_ | refine x_blk_exit rfl ?_))
      exact x_ret1 Try.results111 (res_cellb 3 tabs rfl rfl rfl rfl) (fun w' c' => ⟨_, _, rfl, ⟨i, ch, _, hi, rfl, xs, am, cm, by rw [hx], hx, rfl⟩, by rw [hx]; exact c'.swap.sub (.cons_cons _ (.cons_cons _ (List.nil_sublist _)))⟩)
abbrev GivesAny (v : Value) (H : List HE) : Prop := ∃ (m : Mat) (a : Option Addr) (c : Nat), v = .agg #[iV m.1, iV m.2.1, .slice a m.2.2.length c] ∧ (m.2.2.length ≤ 16 ∧ 0 ≤ m.2.1 ∧ m.2.1 ≤ 3) ∧ H = [.own (iT m.2.2) (.slice a m.2.2.length c)]
theorem l3Any_ok {w1 : World} {M1 : List Nat} {H1 : List HE} {w : World} {M' : List Nat} {u : Value} {b i : Nat} {h : Int} (p : Int) (hl : Lent M1 w1 (cu u b i h) H1 M' w) (hc : CodeF w1 M1 u) (hi : i ≤ vlen u) :
    DoesB Try.prog 75 [cuV b, iV p] w M' (Gcu u b GivesAny) := by
  have hc2 := lent_code hl hc
  refine fnb_lent Try.func75 rfl Try.ntmps75 rfl hl ?_
  have hRC : ∀ R C : Nat, R < 4 → C < 4 → R * C ≤ 9 := fun R C hR hC => Nat.mul_le_mul (show R ≤ 3 by omega) (show C ≤ 3 by omega)
  repeat' (first
    | (show AT _ _ _ (wpList _ _ _ (_ :: _)); first
       | (show AT _ _ _ (wpList _ _ _ (⟨_, Op.move _, _, _, _, _⟩ :: _)); refine st_y (y_move rfl) rfl ?_)
       | (show AT _ _ _ (wpList _ _ _ (⟨_, Op.assign _, _, _, _, _⟩ :: _)); refine st_y (y_assign rfl) rfl ?_)
       | (show AT _ _ _ (wpList _ _ _ (⟨_, Op.fieldAddr _ _ _, _, _, _, _⟩ :: _)); refine st_y (y_field tabs rfl rfl rfl) rfl ?_)
       | (show AT _ _ _ (wpList _ _ _ (⟨_, Op.load _ _, _, _, _, _⟩ :: _)); first | refine st_y (y_load tabs rfl rfl (hc_blk 1 rfl rfl)) rfl ?_ | refine st_y (y_loadb 1 tabs rfl rfl rfl rfl) rfl ?_ | refine st_y (y_loadb 2 tabs rfl rfl rfl rfl) rfl ?_)
       | (show AT _ _ _ (wpList _ _ _ (⟨_, Op.binOp _ _ _ _ _, _, _, _, _⟩ :: _)); first | refine st_y (y_gtr rfl rfl) rfl ?_ | refine st_y (y_eql rfl rfl) rfl ?_)
       | (show AT _ _ _ (wpList _ _ _ (⟨_, Op.call _, _, _, _, _⟩ :: _)); first | (refine m_callL 1 (ent_of Try.func110 (by kernel_rfl) rfl) rfl rfl rfl (fun w M' hl => l1BelowN_ok 4 (by decide) hl hc2 hi) ?_; rintro v H' ⟨i, ch, _, hi, rfl, R, rfl, hR, rfl⟩) | (refine m_callL 0 (ent_of Try.func110 (by kernel_rfl) rfl) rfl rfl rfl (fun w M' hl => l1BelowN_ok 4 (by decide) hl hc2 hi) ?_; rintro v H' ⟨i, ch, _, hi, rfl, C, rfl, hC, rfl⟩) | (refine m_callL 0 (ent_of Try.func111 (by kernel_rfl) rfl) rfl rfl rfl (fun w M' hl => l3Random_ok p (R := R) (C := C) hl hc2 hi (by omega) (by omega)) ?_; rintro v H' ⟨i, ch, _, hi, rfl, xs, a, c, rfl, hx, rfl⟩; have hxl := hRC R C hR hC; rw [← hx] at hxl) | (refine m_callL 1 (ent_of Try.func110 (by kernel_rfl) rfl) rfl rfl rfl (fun w M' hl => l1BelowN_ok 18 (by decide) hl hc2 hi) ?_; rintro v H' ⟨i, ch, _, hi, rfl, z, rfl, hz, rfl⟩) | (refine m_callL 1 (ent_of Try.func109 (by kernel_rfl) rfl) rfl rfl rfl (fun w M' hl => l1PickInt_ok hl hc2 hi (hl.own 0 rfl) (by decide)) ?_; rintro v H' ⟨i, ch, _, hi, rfl, y, rfl, hy, rfl⟩) | refine m_pushi 2 tabs rfl rfl rfl rfl rfl (by omega) (fun a9 c9 => ?_) | refine st_y (y_len tabs rfl rfl) rfl ?_)
       | (show AT _ _ _ (wpList _ _ _ (⟨_, Op.store _ _ _, _, _, _, _⟩ :: _)); first | refine m_storeb 0 tabs rfl rfl rfl rfl rfl rfl rfl ?_ | refine m_storef 2 tabs rfl rfl rfl rfl rfl rfl ?_ | refine m_storeb 4 tabs rfl rfl rfl rfl rfl rfl rfl ?_ | refine m_storeb 3 tabs rfl rfl rfl rfl rfl rfl rfl ?_)
       | (show AT _ _ _ (wpList _ _ _ (⟨_, Op.alloc _, _, _, _, _⟩ :: _)); refine m_alloc tabs rfl rfl (fun b9 hb9 => ?_))
       | (show AT _ _ _ (wpList _ _ _ (⟨_, Op.buildSlice _ _ _, _, _, _, _⟩ :: _)); first | refine m_buildi tabs [-1, 9, 2, 9223372036854775807] rfl rfl rfl rfl rfl rfl rfl (fun g hg => ?_) | refine m_build1 tabs (us := [iV 0]) rfl rfl rfl rfl (by decide) rfl (fun g5 hg5 => ?_)))
    | (show AT _ _ _ (wpList _ _ _ []); first | refine c_nil (x_then ?_) | refine c_nil ?_)
    | (show AT _ _ _ (Code.wp _ _ _); first | refine c_seq ?_ | refine c_region ?_ | refine c_skip (x_blk ?_) | refine c_block ?_ | refine c_ret ?_ | refine c_if rfl (fun h => ?_) (fun h => ?_))
    | (show AT _ _ _ _; first | refine x_then ?_ | refine x_blk ?_))
  · exact x_ret1 Try.results75 (res_cellb 4 tabs rfl rfl rfl rfl) (fun w' c' => ⟨_, _, rfl, ⟨i, ch, _, hi, rfl, (y, (C : Int), xs), a, c, rfl, ⟨by simp only; omega, by simp only; omega, by simp only; omega⟩, rfl⟩, c'.sub (.cons_cons _ (.cons _ (.cons _ (.cons_cons _ (List.nil_sublist _)))))⟩)
  · exact x_ret1 Try.results75 (res_cellb 3 tabs rfl rfl rfl rfl) (fun w' c' => ⟨_, _, rfl, ⟨i, ch, _, hi, rfl, ((R : Int), (C : Int), xs ++ [0]), a9, c9, by rw [List.length_append]; rfl, ⟨by simp only [List.length_append, List.length_singleton]; omega, by simp only; omega, by simp only; omega⟩, rfl⟩, by rw [List.length_append]; exact c'.swap.sub (.cons_cons _ (.cons_cons _ (List.nil_sublist _)))⟩)
  · rename_i b8 hb8 _ _ _ _ _ _ _ _ _ _ _ _
    refine AT.fact (own_sl 2 rfl) (fun hsl => ?_)
    obtain ⟨_, _, e, hs⟩ := hsl
    cases e
    refine c_all (Hp M' w [.blk b9 #[iV R, iV C, .slice a xs.length c] 46]) (by kernel_rfl) (fun _ c => Hp.drew c) ?_
    refine h_take 0 rfl (by kernel_rfl) (by kernel_rfl) (by kernel_rfl) (by exact y_field tabs rfl rfl rfl) rfl (fun w c => by exact c.sub (by repeat' first | exact List.Sublist.refl _ | exact List.nil_sublist _ | apply List.Sublist.cons_cons | apply List.Sublist.cons)) ?_
    refine h_take 1 rfl (by kernel_rfl) (by kernel_rfl) (by kernel_rfl) (by exact y_load tabs rfl rfl (hc_blk 0 rfl rfl)) rfl (fun w c => by exact c.sub (by repeat' first | exact List.Sublist.refl _ | exact List.nil_sublist _ | apply List.Sublist.cons_cons | apply List.Sublist.cons)) ?_
    refine h_take 2 rfl (by kernel_rfl) (by kernel_rfl) (by kernel_rfl) (by exact y_move rfl) rfl (fun w c => by exact c.sub (by repeat' first | exact List.Sublist.refl _ | exact List.nil_sublist _ | apply List.Sublist.cons_cons | apply List.Sublist.cons)) ?_
    refine h_only 3 rfl (by kernel_rfl) ?_
    first | (refine m_buildi tabs [-1, 5, 2] rfl rfl rfl rfl rfl rfl rfl (fun g hg => ?_)) | (refine m_callL 1 (ent_of Try.func109 (by kernel_rfl) rfl) rfl rfl rfl (fun w M' hl => l1PickInt_ok hl hc2 hi (hl.own 0 rfl) (by decide)) ?_; rintro v H' ⟨i, ch, _, hi, rfl, y, rfl, hy, rfl⟩) | (refine m_storeo 3 (j := 0) tabs rfl rfl rfl rfl (by omega) ?_)
    refine c_nil (x_one (h_keep (fun w c => by exact c.sub (by repeat' first | exact List.Sublist.refl _ | exact List.nil_sublist _ | apply List.Sublist.cons_cons | apply List.Sublist.cons)) ?_))
    refine h_only 4 rfl (by kernel_rfl) ?_
    first | (refine m_buildi tabs [-1, 5, 2] rfl rfl rfl rfl rfl rfl rfl (fun g hg => ?_)) | (refine m_callL 1 (ent_of Try.func109 (by kernel_rfl) rfl) rfl rfl rfl (fun w M' hl => l1PickInt_ok hl hc2 hi (hl.own 0 rfl) (by decide)) ?_; rintro v H' ⟨i, ch, _, hi, rfl, y, rfl, hy, rfl⟩) | (refine m_storeo 3 (j := 0) tabs rfl rfl rfl rfl (by omega) ?_)
    refine c_nil (x_one (h_keep (fun w c => by exact c.sub (by repeat' first | exact List.Sublist.refl _ | exact List.nil_sublist _ | apply List.Sublist.cons_cons | apply List.Sublist.cons)) ?_))
    refine h_take 5 rfl (by kernel_rfl) (by kernel_rfl) (by kernel_rfl) (by exact y_ix1 tabs (j := 0) rfl rfl rfl hs rfl (by omega)) rfl (fun w c => by exact c.sub (by repeat' first | exact List.Sublist.refl _ | exact List.nil_sublist _ | apply List.Sublist.cons_cons | apply List.Sublist.cons)) ?_
    refine h_only 6 rfl (by kernel_rfl) ?_
    first | (refine m_buildi tabs [-1, 5, 2] rfl rfl rfl rfl rfl rfl rfl (fun g hg => ?_)) | (refine m_callL 1 (ent_of Try.func109 (by kernel_rfl) rfl) rfl rfl rfl (fun w M' hl => l1PickInt_ok hl hc2 hi (hl.own 0 rfl) (by decide)) ?_; rintro v H' ⟨i, ch, _, hi, rfl, y, rfl, hy, rfl⟩) | (refine m_storeo 3 (j := 0) tabs rfl rfl rfl rfl (by omega) ?_)
    refine c_nil (x_one (h_keep (fun w c => by exact c.sub (by repeat' first | exact List.Sublist.refl _ | exact List.nil_sublist _ | apply List.Sublist.cons_cons | apply List.Sublist.cons)) ?_))
    refine h_end (by kernel_rfl) ?_
    repeat' (first
      | (show AT _ _ _ (wpList _ _ _ (_ :: _)); first
         | (show AT _ _ _ (wpList _ _ _ (⟨_, Op.load _ _, _, _, _, _⟩ :: _)); refine st_y (y_loadb 2 tabs rfl rfl rfl rfl) rfl ?_)
         | (show AT _ _ _ (wpList _ _ _ (⟨_, Op.store _ _ _, _, _, _, _⟩ :: _)); refine m_storeb 4 tabs rfl rfl rfl rfl rfl rfl rfl ?_))
      | (show AT _ _ _ (wpList _ _ _ []); refine c_nil (x_then ?_))
      | (show AT _ _ _ (Code.wp _ _ _); first | refine c_seq ?_ | refine c_region ?_ | refine c_ret ?_)
      | (show AT _ _ _ _; first | refine x_then ?_ | refine x_blk ?_))
    exact x_ret1 Try.results75 (res_cellb 4 tabs rfl rfl rfl rfl) (fun w' c' => ⟨_, _, rfl, ⟨i, ch, _, hi, rfl, ((R : Int), (C : Int), xs.set 0 y), a, c, by rw [List.length_set], ⟨by simp only [List.length_set]; omega, by simp only; omega, by simp only; omega⟩, rfl⟩, by rw [List.length_set]; exact c'.sub (.cons_cons _ (.cons _ (.cons _ (.cons_cons _ (List.nil_sublist _)))))⟩)
  all_goals exact x_ret1 Try.results75 (res_cellb 3 tabs rfl rfl rfl rfl) (fun w' c' => ⟨_, _, rfl, ⟨i, ch, _, hi, rfl, ((R : Int), (C : Int), xs), a, c, rfl, ⟨by simp only; omega, by simp only; omega, by simp only; omega⟩, rfl⟩, c'.sub (.cons_cons _ (.cons _ (.cons_cons _ (List.nil_sublist _))))⟩)
theorem l4Square_ok {w1 : World} {M1 : List Nat} {H1 : List HE} {w : World} {M' : List Nat} {u : Value} {b i : Nat} {h : Int} (p : Int) (hl : Lent M1 w1 (cu u b i h) H1 M' w) (hc : CodeF w1 M1 u) (hi : i ≤ vlen u) :
    DoesB Try.prog 114 [cuV b, iV p] w M' (Gcu u b GivesAny) := by
  have hc2 := lent_code hl hc
  refine fnb_lent Try.func114 rfl Try.ntmps114 rfl hl ?_
  repeat' (first
    | (show AT _ _ _ (wpList _ _ _ (_ :: _)); first
       | (show AT _ _ _ (wpList _ _ _ (⟨_, Op.move _, _, _, _, _⟩ :: _)); refine st_y (y_move rfl) rfl ?_)
       | (show AT _ _ _ (wpList _ _ _ (⟨_, Op.assign _, _, _, _, _⟩ :: _)); refine st_y (y_assign rfl) rfl ?_)
       | (show AT _ _ _ (wpList _ _ _ (⟨_, Op.load _ _, _, _, _, _⟩ :: _)); refine st_y (y_loadb 1 tabs rfl rfl rfl rfl) rfl ?_)
       | (show AT _ _ _ (wpList _ _ _ (⟨_, Op.binOp _ _ _ _ _, _, _, _, _⟩ :: _)); refine st_y (y_eql rfl rfl) rfl ?_)
       | (show AT _ _ _ (wpList _ _ _ (⟨_, Op.call _, _, _, _, _⟩ :: _)); first | (refine m_callL 1 (ent_of Try.func110 (by kernel_rfl) rfl) rfl rfl rfl (fun w M' hl => l1BelowN_ok 4 (by decide) hl hc2 hi) ?_; rintro v H' ⟨i, ch, _, hi, rfl, n, rfl, hn, rfl⟩; have hnn := Nat.mul_le_mul (show n ≤ 3 by omega) (show n ≤ 3 by omega)) | (refine m_callL 0 (ent_of Try.func111 (by kernel_rfl) rfl) rfl rfl rfl (fun w M' hl => l3Random_ok p (R := n) (C := n) hl hc2 hi (by omega) (by omega)) ?_; rintro v H' ⟨i, ch, _, hi, rfl, xs, a, c, rfl, hx, rfl⟩) | (refine m_callL 1 (ent_of Try.func110 (by kernel_rfl) rfl) rfl rfl rfl (fun w M' hl => l1BelowN_ok 3 (by decide) hl hc2 hi) ?_; rintro v H' ⟨i, ch, _, hi, rfl, z, rfl, hz, rfl⟩))
       | (show AT _ _ _ (wpList _ _ _ (⟨_, Op.store _ _ _, _, _, _, _⟩ :: _)); first | refine m_storeb 0 tabs rfl rfl rfl rfl rfl rfl rfl ?_ | refine m_storeb 3 tabs rfl rfl rfl rfl rfl rfl rfl ?_)
       | (show AT _ _ _ (wpList _ _ _ (⟨_, Op.alloc _, _, _, _, _⟩ :: _)); refine m_alloc tabs rfl rfl (fun b9 hb9 => ?_)))
    | (show AT _ _ _ (wpList _ _ _ []); refine c_nil (x_then ?_))
    | (show AT _ _ _ (Code.wp _ _ _); first | refine c_seq ?_ | refine c_region ?_ | refine c_skip (x_blk ?_) | refine c_block ?_ | refine c_ret ?_ | refine c_if rfl (fun h => ?_) (fun h => ?_))
    | (show AT _ _ _ _; refine x_then ?_))
  · rename_i b8 hb8 _ _ _ _ _ _
    refine AT.fact (own_sl 2 rfl) (fun hsl => ?_)
    obtain ⟨_, _, e, hs⟩ := hsl
    cases e
    refine c_loopH (α := List Int × Nat) [4, 5, 6] (fun s => [(7, iV s.2)]) (fun s => s.1.length = xs.length ∧ s.2 ≤ n) (fun s => [.own (iT s.1) (.slice a xs.length c), cu u b i ch, .blk b9 #[iV n, iV n, .slice a xs.length c] 46, .blk b8 #[iV 0, iV 0, .slice none 0 0] 46]) (fun s => n - s.2) (xs, 0) rfl (by repeat' (first | exact Sub.nil | refine Sub.cons rfl ?_ | refine Sub.consi rfl (by omega) ?_)) ?_ ?_ ?_
    · exact ⟨rfl, Nat.zero_le _⟩
    · exact fun w' c' => (c'.front (i := 2) rfl)
    · rintro ⟨ys, r⟩ ⟨hy, hr⟩
      simp only at hy hr ⊢
      by_cases hin : r < n
      · repeat' (first
          | (show AT _ _ _ (wpList _ _ _ (_ :: _)); first
             | (show AT _ _ _ (wpList _ _ _ (⟨_, Op.move _, _, _, _, _⟩ :: _)); refine st_y (y_move rfl) rfl ?_)
             | (show AT _ _ _ (wpList _ _ _ (⟨_, Op.assign _, _, _, _, _⟩ :: _)); refine st_y (y_assign rfl) rfl ?_)
             | (show AT _ _ _ (wpList _ _ _ (⟨_, Op.binOp _ _ _ _ _, _, _, _, _⟩ :: _)); refine st_y (y_lss rfl rfl) rfl ?_))
          | (show AT _ _ _ (wpList _ _ _ []); refine c_nil (x_then ?_))
          | (show AT _ _ _ (Code.wp _ _ _); first | refine c_seq ?_ | refine c_region ?_ | refine c_skip (x_then ?_) | refine c_block ?_ | refine c_ift rfl (by first | assumption | omega) ?_))
        refine c_loopH (α := List Int × Nat) [4, 5, 6, 7] (fun s => [(8, iV s.2)]) (fun s => s.1.length = xs.length ∧ s.2 ≤ r + 1) (fun s => [.own (iT s.1) (.slice a xs.length c), cu u b i ch, .blk b9 #[iV n, iV n, .slice a xs.length c] 46, .blk b8 #[iV 0, iV 0, .slice none 0 0] 46]) (fun s => r + 1 - s.2) (ys, 0) rfl (by repeat' (first | exact Sub.nil | refine Sub.cons rfl ?_ | refine Sub.consi rfl (by omega) ?_)) ?_ ?_ ?_
        · exact ⟨hy, Nat.zero_le _⟩
        · exact fun w' c' => c'
        · rintro ⟨zs, k⟩ ⟨hz, hk⟩
          simp only at hz hk ⊢
          by_cases hkr : k ≤ r
          · have hcl := cell_lt (R := n) (C := n) hin (show k < n by omega)
            have hmul := Nat.mul_le_mul (show r ≤ 3 by omega) (show n ≤ 3 by omega)
            repeat' (first
              | (show AT _ _ _ (wpList _ _ _ (_ :: _)); first
                 | (show AT _ _ _ (wpList _ _ _ (⟨_, Op.move _, _, _, _, _⟩ :: _)); refine st_y (y_move rfl) rfl ?_)
                 | (show AT _ _ _ (wpList _ _ _ (⟨_, Op.assign _, _, _, _, _⟩ :: _)); refine st_y (y_assign rfl) rfl ?_)
                 | (show AT _ _ _ (wpList _ _ _ (⟨_, Op.fieldAddr _ _ _, _, _, _, _⟩ :: _)); refine st_y (y_field tabs rfl rfl rfl) rfl ?_)
                 | (show AT _ _ _ (wpList _ _ _ (⟨_, Op.load _ _, _, _, _, _⟩ :: _)); refine st_y (y_load tabs rfl rfl (hc_blk 2 rfl rfl)) rfl ?_)
                 | (show AT _ _ _ (wpList _ _ _ (⟨_, Op.indexAddr _ _ _, _, _, _, _⟩ :: _)); refine st_y (y_ix1 tabs (j := r * n + k) rfl rfl rfl hs (by omega) (by omega)) rfl ?_)
                 | (show AT _ _ _ (wpList _ _ _ (⟨_, Op.binOp _ _ _ _ _, _, _, _, _⟩ :: _)); first | refine st_y (y_muln (a := r) (b := n) rfl rfl rfl rfl (by omega)) rfl ?_ | refine st_y (y_add rfl rfl (by omega)) rfl ?_ | refine st_y (y_leq rfl rfl) rfl ?_)
                 | (show AT _ _ _ (wpList _ _ _ (⟨_, Op.store _ _ _, _, _, _, _⟩ :: _)); refine m_storeo 0 (j := r * n + k) tabs rfl rfl rfl rfl (by omega) ?_))
              | (show AT _ _ _ (wpList _ _ _ []); first | refine c_nil (x_then ?_) | refine c_nil ?_)
              | (show AT _ _ _ (Code.wp _ _ _); first | refine c_seq ?_ | refine c_region ?_ | refine c_skip (x_then ?_) | refine c_block ?_ | refine c_ift rfl (by first | assumption | omega) ?_)
              | (show AT _ _ _ _; first | refine x_then ?_ | refine x_blk ?_))
            exact x_nx (zs.set (r * n + k) 0, k + 1) (by repeat' (first | exact Sub.nil | refine Sub.cons rfl ?_ | refine Sub.consi rfl (by omega) ?_)) ⟨by simp only [List.length_set]; omega, by simp only; omega⟩ (fun w' c' => c') (by simp only; omega)
          · repeat' (first
              | (show AT _ _ _ (wpList _ _ _ (_ :: _)); first
                 | (show AT _ _ _ (wpList _ _ _ (⟨_, Op.move _, _, _, _, _⟩ :: _)); refine st_y (y_move rfl) rfl ?_)
                 | (show AT _ _ _ (wpList _ _ _ (⟨_, Op.assign _, _, _, _, _⟩ :: _)); refine st_y (y_assign rfl) rfl ?_)
                 | (show AT _ _ _ (wpList _ _ _ (⟨_, Op.binOp _ _ _ _ _, _, _, _, _⟩ :: _)); first | refine st_y (y_add rfl rfl (by omega)) rfl ?_ | refine st_y (y_leq rfl rfl) rfl ?_))
              | (show AT _ _ _ (wpList _ _ _ []); refine c_nil (x_then ?_))
              | (show AT _ _ _ (Code.wp _ _ _); first | refine c_seq ?_ | refine c_region ?_ | refine c_exit ?_ | refine c_iff rfl (by first | assumption | exact not_not_intro (by assumption) | omega) ?_)
              | (show AT _ _ _ _; first | refine x_then ?_ | refine x_then_exit ?_ | refine x_blk_exit rfl ?_ | refine x_blk ?_))
            exact x_nx (zs, r + 1) (by repeat' (first | exact Sub.nil | refine Sub.cons rfl ?_ | refine Sub.consi rfl (by omega) ?_)) ⟨hz, by simp only; omega⟩ (fun w' c' => c') (by simp only; omega)
      · repeat' (first
          | (show AT _ _ _ (wpList _ _ _ (_ :: _)); first
             | (show AT _ _ _ (wpList _ _ _ (⟨_, Op.move _, _, _, _, _⟩ :: _)); refine st_y (y_move rfl) rfl ?_)
             | (show AT _ _ _ (wpList _ _ _ (⟨_, Op.load _ _, _, _, _, _⟩ :: _)); refine st_y (y_loadb 2 tabs rfl rfl rfl rfl) rfl ?_)
             | (show AT _ _ _ (wpList _ _ _ (⟨_, Op.binOp _ _ _ _ _, _, _, _, _⟩ :: _)); refine st_y (y_lss rfl rfl) rfl ?_)
             | (show AT _ _ _ (wpList _ _ _ (⟨_, Op.store _ _ _, _, _, _, _⟩ :: _)); refine m_storeb 3 tabs rfl rfl rfl rfl rfl rfl rfl ?_))
          | (show AT _ _ _ (wpList _ _ _ []); refine c_nil (x_then ?_))
          | (show AT _ _ _ (Code.wp _ _ _); first | refine c_seq ?_ | refine c_region ?_ | refine c_ret ?_ | refine c_exit ?_ | refine c_iff rfl (by first | assumption | exact not_not_intro (by assumption) | omega) ?_)
          | (show AT _ _ _ _; first | refine x_then ?_ | refine x_then_exit ?_ | refine x_blk_exit rfl ?_ | refine x_blk ?_))
        exact x_ret1 Try.results114 (res_cellb 3 tabs rfl rfl rfl rfl) (fun w' c' => ⟨_, _, rfl, ⟨i, ch, _, hi, rfl, ((n : Int), (n : Int), ys), a, c, by rw [hy], ⟨by simp only; omega, by simp only; omega, by simp only; omega⟩, rfl⟩, by rw [hy]; exact c'.swap.sub (.cons_cons _ (.cons_cons _ (List.nil_sublist _)))⟩)
  · rename_i b8 hb8 _ _ _ _ _ _ _
    refine AT.fact (own_sl 2 rfl) (fun hsl => ?_)
    obtain ⟨_, _, e, hs⟩ := hsl
    cases e
    refine c_loopH (α := List Int × Nat) [4, 5, 6] (fun s => [(9, iV s.2)]) (fun s => s.1.length = xs.length ∧ s.2 ≤ n) (fun s => [.own (iT s.1) (.slice a xs.length c), cu u b i ch, .blk b9 #[iV n, iV n, .slice a xs.length c] 46, .blk b8 #[iV 0, iV 0, .slice none 0 0] 46]) (fun s => n - s.2) (xs, 0) rfl (by repeat' (first | exact Sub.nil | refine Sub.cons rfl ?_ | refine Sub.consi rfl (by omega) ?_)) ?_ ?_ ?_
    · exact ⟨rfl, Nat.zero_le _⟩
    · exact fun w' c' => (c'.front (i := 2) rfl)
    · rintro ⟨ys, r⟩ ⟨hy, hr⟩
      simp only at hy hr ⊢
      by_cases hin : r < n
      · have hcl0 := cell_lt (R := n) (C := n) hin hin
        have hmul := Nat.mul_le_mul (show r ≤ 3 by omega) (show n ≤ 3 by omega)
        repeat' (first
          | (show AT _ _ _ (wpList _ _ _ (_ :: _)); first
             | (show AT _ _ _ (wpList _ _ _ (⟨_, Op.move _, _, _, _, _⟩ :: _)); refine st_y (y_move rfl) rfl ?_)
             | (show AT _ _ _ (wpList _ _ _ (⟨_, Op.assign _, _, _, _, _⟩ :: _)); refine st_y (y_assign rfl) rfl ?_)
             | (show AT _ _ _ (wpList _ _ _ (⟨_, Op.fieldAddr _ _ _, _, _, _, _⟩ :: _)); refine st_y (y_field tabs rfl rfl rfl) rfl ?_)
             | (show AT _ _ _ (wpList _ _ _ (⟨_, Op.load _ _, _, _, _, _⟩ :: _)); refine st_y (y_load tabs rfl rfl (hc_blk 2 rfl rfl)) rfl ?_)
             | (show AT _ _ _ (wpList _ _ _ (⟨_, Op.indexAddr _ _ _, _, _, _, _⟩ :: _)); refine st_y (y_ix1 tabs (j := r * n + r) rfl rfl rfl hs (by omega) (by omega)) rfl ?_)
             | (show AT _ _ _ (wpList _ _ _ (⟨_, Op.binOp _ _ _ _ _, _, _, _, _⟩ :: _)); first | refine st_y (y_muln (a := r) (b := n) rfl rfl rfl rfl (by omega)) rfl ?_ | refine st_y (y_add rfl rfl (by omega)) rfl ?_ | refine st_y (y_lss rfl rfl) rfl ?_)
             | (show AT _ _ _ (wpList _ _ _ (⟨_, Op.store _ _ _, _, _, _, _⟩ :: _)); refine m_storeo 0 (j := r * n + r) tabs rfl rfl rfl rfl (by omega) ?_))
          | (show AT _ _ _ (wpList _ _ _ []); refine c_nil (x_then ?_))
          | (show AT _ _ _ (Code.wp _ _ _); first | refine c_seq ?_ | refine c_region ?_ | refine c_skip (x_then ?_) | refine c_block ?_ | refine c_ift rfl (by first | assumption | omega) ?_))
        refine c_loopH (α := List Int × Nat) [4, 5, 6, 9] (fun s => [(10, iV s.2)]) (fun s => s.1.length = xs.length ∧ s.2 ≤ r) (fun s => [.own (iT s.1) (.slice a xs.length c), cu u b i ch, .blk b9 #[iV n, iV n, .slice a xs.length c] 46, .blk b8 #[iV 0, iV 0, .slice none 0 0] 46]) (fun s => r - s.2) (ys.set (r * n + r) 1, 0) rfl (by repeat' (first | exact Sub.nil | refine Sub.cons rfl ?_ | refine Sub.consi rfl (by omega) ?_)) ?_ ?_ ?_
        · exact ⟨by simp only [List.length_set]; exact hy, Nat.zero_le _⟩
        · exact fun w' c' => c'
        · rintro ⟨zs, k⟩ ⟨hz, hk⟩
          simp only at hz hk ⊢
          by_cases hkr : k < r
          · have hcl := cell_lt (R := n) (C := n) hin (show k < n by omega)
            repeat' (first
              | (show AT _ _ _ (wpList _ _ _ (_ :: _)); first
                 | (show AT _ _ _ (wpList _ _ _ (⟨_, Op.move _, _, _, _, _⟩ :: _)); refine st_y (y_move rfl) rfl ?_)
                 | (show AT _ _ _ (wpList _ _ _ (⟨_, Op.assign _, _, _, _, _⟩ :: _)); refine st_y (y_assign rfl) rfl ?_)
                 | (show AT _ _ _ (wpList _ _ _ (⟨_, Op.fieldAddr _ _ _, _, _, _, _⟩ :: _)); refine st_y (y_field tabs rfl rfl rfl) rfl ?_)
                 | (show AT _ _ _ (wpList _ _ _ (⟨_, Op.load _ _, _, _, _, _⟩ :: _)); refine st_y (y_load tabs rfl rfl (hc_blk 2 rfl rfl)) rfl ?_)
                 | (show AT _ _ _ (wpList _ _ _ (⟨_, Op.indexAddr _ _ _, _, _, _, _⟩ :: _)); refine st_y (y_ix1 tabs (j := r * n + k) rfl rfl rfl hs (by omega) (by omega)) rfl ?_)
                 | (show AT _ _ _ (wpList _ _ _ (⟨_, Op.binOp _ _ _ _ _, _, _, _, _⟩ :: _)); first | refine st_y (y_muln (a := r) (b := n) rfl rfl rfl rfl (by omega)) rfl ?_ | refine st_y (y_add rfl rfl (by omega)) rfl ?_ | refine st_y (y_lss rfl rfl) rfl ?_)
                 | (show AT _ _ _ (wpList _ _ _ (⟨_, Op.store _ _ _, _, _, _, _⟩ :: _)); refine m_storeo 0 (j := r * n + k) tabs rfl rfl rfl rfl (by omega) ?_))
              | (show AT _ _ _ (wpList _ _ _ []); first | refine c_nil (x_then ?_) | refine c_nil ?_)
              | (show AT _ _ _ (Code.wp _ _ _); first | refine c_seq ?_ | refine c_region ?_ | refine c_skip (x_then ?_) | refine c_block ?_ | refine c_ift rfl (by first | assumption | omega) ?_)
              | (show AT _ _ _ _; first | refine x_then ?_ | refine x_blk ?_))
            exact x_nx (zs.set (r * n + k) 0, k + 1) (by repeat' (first | exact Sub.nil | refine Sub.cons rfl ?_ | refine Sub.consi rfl (by omega) ?_)) ⟨by simp only [List.length_set]; omega, by simp only; omega⟩ (fun w' c' => c') (by simp only; omega)
          · repeat' (first
              | (show AT _ _ _ (wpList _ _ _ (_ :: _)); first
                 | (show AT _ _ _ (wpList _ _ _ (⟨_, Op.move _, _, _, _, _⟩ :: _)); refine st_y (y_move rfl) rfl ?_)
                 | (show AT _ _ _ (wpList _ _ _ (⟨_, Op.assign _, _, _, _, _⟩ :: _)); refine st_y (y_assign rfl) rfl ?_)
                 | (show AT _ _ _ (wpList _ _ _ (⟨_, Op.binOp _ _ _ _ _, _, _, _, _⟩ :: _)); first | refine st_y (y_add rfl rfl (by omega)) rfl ?_ | refine st_y (y_lss rfl rfl) rfl ?_))
              | (show AT _ _ _ (wpList _ _ _ []); refine c_nil (x_then ?_))
              | (show AT _ _ _ (Code.wp _ _ _); first | refine c_seq ?_ | refine c_region ?_ | refine c_exit ?_ | refine c_iff rfl (by first | assumption | exact not_not_intro (by assumption) | omega) ?_)
              | (show AT _ _ _ _; first | refine x_then ?_ | refine x_then_exit ?_ | refine x_blk_exit rfl ?_ | refine x_blk ?_))
            exact x_nx (zs, r + 1) (by repeat' (first | exact Sub.nil | refine Sub.cons rfl ?_ | refine Sub.consi rfl (by omega) ?_)) ⟨hz, by simp only; omega⟩ (fun w' c' => c') (by simp only; omega)
      · repeat' (first
          | (show AT _ _ _ (wpList _ _ _ (_ :: _)); first
             | (show AT _ _ _ (wpList _ _ _ (⟨_, Op.move _, _, _, _, _⟩ :: _)); refine st_y (y_move rfl) rfl ?_)
             | (show AT _ _ _ (wpList _ _ _ (⟨_, Op.load _ _, _, _, _, _⟩ :: _)); refine st_y (y_loadb 2 tabs rfl rfl rfl rfl) rfl ?_)
             | (show AT _ _ _ (wpList _ _ _ (⟨_, Op.binOp _ _ _ _ _, _, _, _, _⟩ :: _)); refine st_y (y_lss rfl rfl) rfl ?_)
             | (show AT _ _ _ (wpList _ _ _ (⟨_, Op.store _ _ _, _, _, _, _⟩ :: _)); refine m_storeb 3 tabs rfl rfl rfl rfl rfl rfl rfl ?_))
          | (show AT _ _ _ (wpList _ _ _ []); refine c_nil (x_then ?_))
          | (show AT _ _ _ (Code.wp _ _ _); first | refine c_seq ?_ | refine c_region ?_ | refine c_ret ?_ | refine c_exit ?_ | refine c_iff rfl (by first | assumption | exact not_not_intro (by assumption) | omega) ?_)
          | (show AT _ _ _ _; first | refine x_then ?_ | refine x_then_exit ?_ | refine x_blk_exit rfl ?_ | refine x_blk ?_))
        exact x_ret1 Try.results114 (res_cellb 3 tabs rfl rfl rfl rfl) (fun w' c' => ⟨_, _, rfl, ⟨i, ch, _, hi, rfl, ((n : Int), (n : Int), ys), a, c, by rw [hy], ⟨by simp only; omega, by simp only; omega, by simp only; omega⟩, rfl⟩, by rw [hy]; exact c'.swap.sub (.cons_cons _ (.cons_cons _ (List.nil_sublist _)))⟩)
  · exact x_ret1 Try.results114 (res_cellb 3 tabs rfl rfl rfl rfl) (fun w' c' => ⟨_, _, rfl, ⟨i, ch, _, hi, rfl, ((n : Int), (n : Int), xs), a, c, rfl, ⟨by simp only; omega, by simp only; omega, by simp only; omega⟩, rfl⟩, c'.sub (.cons_cons _ (.cons _ (.cons_cons _ (List.nil_sublist _))))⟩)
theorem hp_code {w w' : World} {H : List HE} {u : Value} (c : Hp [] w H w') (hc : CodeF w [] u) : CodeF w' [] u := by
  obtain ⟨xs, h, hb⟩ := hc
  exact ⟨xs, RdOut.of_rd (h.rd c), hb⟩
abbrev GivesPM (v : Value) (H : List HE) : Prop := ∃ (p : Int) (m : Mat) (a : Option Addr) (c : Nat), v = .tuple #[iV p, .agg #[iV m.1, iV m.2.1, .slice a m.2.2.length c]] ∧ (m.2.2.length ≤ 16 ∧ 0 ≤ m.2.1 ∧ m.2.1 ≤ 3) ∧ H = [.own (iT m.2.2) (.slice a m.2.2.length c)]
theorem l3One_ok {w : World} {u : Value} (hc : CodeF w [] u) : Does Try.prog 62 [u] w GivesPM := by
  refine fn_enter Try.func62 rfl Try.ntmps62 rfl ?_
  repeat' (first
    | (show AT _ _ _ (wpList _ _ _ (_ :: _)); first
       | (show AT _ _ _ (wpList _ _ _ (⟨_, Op.move _, _, _, _, _⟩ :: _)); refine st_y (y_move rfl) rfl ?_)
       | (show AT _ _ _ (wpList _ _ _ (⟨_, Op.assign _, _, _, _, _⟩ :: _)); refine st_y (y_assign rfl) rfl ?_)
       | (show AT _ _ _ (wpList _ _ _ (⟨_, Op.call _, _, _, _, _⟩ :: _)); first | (refine m_call (ent_of Try.func73 (by kernel_rfl) rfl) rfl rfl (fun w c => l1New_ok (hp_code c hc)) ?_; rintro v H' ⟨b, ch, rfl, rfl⟩) | (refine m_callL 0 (ent_of Try.func74 (by kernel_rfl) rfl) rfl rfl rfl (fun w M' hl => l2Prime_ok hl hc (Nat.zero_le _)) ?_; rintro v H' ⟨i, ch, _, hi, rfl, p, rfl, hp, rfl⟩) | (refine m_callL 0 (ent_of Try.func75 (by kernel_rfl) rfl) rfl rfl rfl (fun w M' hl => l3Any_ok p hl hc hi) ?_; rintro v H' ⟨i, ch, _, hi, rfl, m, a, c, rfl, hm, rfl⟩))
       | (show AT _ _ _ (wpList _ _ _ (⟨_, Op.store _ _ _, _, _, _, _⟩ :: _)); refine m_storeb 2 tabs rfl rfl rfl rfl rfl rfl rfl ?_)
       | (show AT _ _ _ (wpList _ _ _ (⟨_, Op.alloc _, _, _, _, _⟩ :: _)); refine m_alloc tabs rfl rfl (fun b9 hb9 => ?_)))
    | (show AT _ _ _ (wpList _ _ _ []); refine c_nil (x_then ?_))
    | (show AT _ _ _ (Code.wp _ _ _); first | refine c_seq ?_ | refine c_region ?_ | refine c_ret ?_))
  all_goals exact x_ret2 Try.results62 (res_tmp rfl) (res_cellb 2 tabs rfl rfl rfl rfl) (fun w' c' => ⟨_, _, rfl, ⟨p, m, a, c, rfl, hm, rfl⟩, c'.sub (.cons _ (.cons_cons _ (List.nil_sublist _)))⟩)
theorem l4One_ok {w : World} {u : Value} (hc : CodeF w [] u) : Does Try.prog 82 [u] w GivesPM := by
  refine fn_enter Try.func82 rfl Try.ntmps82 rfl ?_
  repeat' (first
    | (show AT _ _ _ (wpList _ _ _ (_ :: _)); first
       | (show AT _ _ _ (wpList _ _ _ (⟨_, Op.move _, _, _, _, _⟩ :: _)); refine st_y (y_move rfl) rfl ?_)
       | (show AT _ _ _ (wpList _ _ _ (⟨_, Op.assign _, _, _, _, _⟩ :: _)); refine st_y (y_assign rfl) rfl ?_)
       | (show AT _ _ _ (wpList _ _ _ (⟨_, Op.call _, _, _, _, _⟩ :: _)); first | (refine m_call (ent_of Try.func73 (by kernel_rfl) rfl) rfl rfl (fun w c => l1New_ok (hp_code c hc)) ?_; rintro v H' ⟨b, ch, rfl, rfl⟩) | (refine m_callL 0 (ent_of Try.func74 (by kernel_rfl) rfl) rfl rfl rfl (fun w M' hl => l2Prime_ok hl hc (Nat.zero_le _)) ?_; rintro v H' ⟨i, ch, _, hi, rfl, p, rfl, hp, rfl⟩) | (refine m_callL 0 (ent_of Try.func75 (by kernel_rfl) rfl) rfl rfl rfl (fun w M' hl => l3Any_ok p hl hc hi) ?_; rintro v H' ⟨i, ch, _, hi, rfl, m, a, c, rfl, hm, rfl⟩) | (refine m_callL 0 (ent_of Try.func78 (by kernel_rfl) rfl) rfl rfl rfl (fun w M' hl => l1Once_ok 8 hl hc hi) ?_; rintro v H' ⟨i, ch, _, hi, rfl, (_ | _), rfl, rfl⟩) | (refine m_callL 0 (ent_of Try.func114 (by kernel_rfl) rfl) rfl rfl rfl (fun w M' hl => l4Square_ok p hl hc hi) ?_; rintro v H' ⟨i, ch, _, hi, rfl, m, a, c, rfl, hm, rfl⟩))
       | (show AT _ _ _ (wpList _ _ _ (⟨_, Op.store _ _ _, _, _, _, _⟩ :: _)); refine m_storeb 2 tabs rfl rfl rfl rfl rfl rfl rfl ?_)
       | (show AT _ _ _ (wpList _ _ _ (⟨_, Op.alloc _, _, _, _, _⟩ :: _)); refine m_alloc tabs rfl rfl (fun b9 hb9 => ?_)))
    | (show AT _ _ _ (wpList _ _ _ []); refine c_nil (x_then ?_))
    | (show AT _ _ _ (Code.wp _ _ _); first | refine c_seq ?_ | refine c_region ?_ | refine c_skip (x_then ?_) | refine c_ret ?_ | refine c_true rfl ?_ | refine c_false rfl ?_)
    | (show AT _ _ _ _; refine x_then_ret ?_))
  all_goals exact x_ret2 Try.results82 (res_tmp rfl) (res_cellb 2 tabs rfl rfl rfl rfl) (fun w' c' => ⟨_, _, rfl, ⟨p, m, a, c, rfl, hm, rfl⟩, c'.sub (.cons _ (.cons_cons _ (List.nil_sublist _)))⟩)
theorem DrawKernelBasis_ok {w : World} {u : Value} (hc : CodeF w [] u) : Does Try.prog 17 [u] w GivesPM := by
  refine fn_enter Try.func17 rfl Try.ntmps17 rfl ?_
  repeat' (first
    | (show AT _ _ _ (wpList _ _ _ (_ :: _)); first
       | (show AT _ _ _ (wpList _ _ _ (⟨_, Op.move _, _, _, _, _⟩ :: _)); refine st_y (y_move rfl) rfl ?_)
       | (show AT _ _ _ (wpList _ _ _ (⟨_, Op.assign _, _, _, _, _⟩ :: _)); refine st_y (y_assign rfl) rfl ?_)
       | (show AT _ _ _ (wpList _ _ _ (⟨_, Op.call _, _, _, _, _⟩ :: _)); (refine m_call (ent_of Try.func62 (by kernel_rfl) rfl) rfl rfl (fun w c => l3One_ok (hp_code c hc)) ?_; rintro v H' ⟨p, m, a, c, rfl, hm, rfl⟩))
       | (show AT _ _ _ (wpList _ _ _ (⟨_, Op.extract _ _, _, _, _, _⟩ :: _)); refine st_y (y_ext rfl rfl) rfl ?_)
       | (show AT _ _ _ (wpList _ _ _ (⟨_, Op.store _ _ _, _, _, _, _⟩ :: _)); refine m_storeb 0 tabs rfl rfl rfl rfl rfl rfl rfl ?_)
       | (show AT _ _ _ (wpList _ _ _ (⟨_, Op.alloc _, _, _, _, _⟩ :: _)); refine m_alloc tabs rfl rfl (fun b9 hb9 => ?_)))
    | (show AT _ _ _ (wpList _ _ _ []); refine c_nil (x_then ?_))
    | (show AT _ _ _ (Code.wp _ _ _); first | refine c_seq ?_ | refine c_region ?_))
  rename_i b8 hb8
  refine c_all (Hp [] w [.blk b9 #[iV m.1, iV m.2.1, .slice a m.2.2.length c] 46]) (by kernel_rfl) (fun _ c => Hp.drew c) ?_
  refine h_take 0 rfl (by kernel_rfl) (by kernel_rfl) (by kernel_rfl) (by exact y_move rfl) rfl (fun w c => by exact c.sub (by repeat' first | exact List.Sublist.refl _ | exact List.nil_sublist _ | apply List.Sublist.cons_cons | apply List.Sublist.cons)) ?_
  refine h_take 1 rfl (by kernel_rfl) (by kernel_rfl) (by kernel_rfl) (by exact y_loadb 0 tabs rfl rfl rfl rfl) rfl (fun w c => by exact c.sub (by repeat' first | exact List.Sublist.refl _ | exact List.nil_sublist _ | apply List.Sublist.cons_cons | apply List.Sublist.cons)) ?_
  refine h_take 2 rfl (by kernel_rfl) (by kernel_rfl) (by kernel_rfl) (by exact y_assign rfl) rfl (fun w c => by exact c.sub (by repeat' first | exact List.Sublist.refl _ | exact List.nil_sublist _ | apply List.Sublist.cons_cons | apply List.Sublist.cons)) ?_
  refine h_only 3 rfl (by kernel_rfl) ?_
  first | (refine m_storeb 2 tabs rfl rfl rfl rfl rfl rfl rfl ?_) | (refine m_storeb 2 tabs rfl rfl rfl rfl rfl rfl rfl ?_)
  refine c_nil (x_one (h_keep (fun w c => by exact c.sub (by repeat' first | exact List.Sublist.refl _ | exact List.nil_sublist _ | apply List.Sublist.cons_cons | apply List.Sublist.cons)) ?_))
  refine h_end (by kernel_rfl) ?_
  repeat' (first
    | (show AT _ _ _ (Code.wp _ _ _); refine c_ret ?_)
    | (show AT _ _ _ _; refine x_then ?_))
  exact x_ret2 Try.results17 (res_tmp rfl) (res_cellb 2 tabs rfl rfl rfl rfl) (fun w' c' => ⟨_, _, rfl, ⟨p, m, a, c, rfl, hm, rfl⟩, c'.sub (.cons _ (.cons_cons _ (List.nil_sublist _)))⟩)
theorem DrawRowReduce_ok {w : World} {u : Value} (hc : CodeF w [] u) : Does Try.prog 40 [u] w GivesPM := by
  refine fn_enter Try.func40 rfl Try.ntmps40 rfl ?_
  repeat' (first
    | (show AT _ _ _ (wpList _ _ _ (_ :: _)); first
       | (show AT _ _ _ (wpList _ _ _ (⟨_, Op.move _, _, _, _, _⟩ :: _)); refine st_y (y_move rfl) rfl ?_)
       | (show AT _ _ _ (wpList _ _ _ (⟨_, Op.assign _, _, _, _, _⟩ :: _)); refine st_y (y_assign rfl) rfl ?_)
       | (show AT _ _ _ (wpList _ _ _ (⟨_, Op.call _, _, _, _, _⟩ :: _)); (refine m_call (ent_of Try.func62 (by kernel_rfl) rfl) rfl rfl (fun w c => l3One_ok (hp_code c hc)) ?_; rintro v H' ⟨p, m, a, c, rfl, hm, rfl⟩))
       | (show AT _ _ _ (wpList _ _ _ (⟨_, Op.extract _ _, _, _, _, _⟩ :: _)); refine st_y (y_ext rfl rfl) rfl ?_)
       | (show AT _ _ _ (wpList _ _ _ (⟨_, Op.store _ _ _, _, _, _, _⟩ :: _)); refine m_storeb 0 tabs rfl rfl rfl rfl rfl rfl rfl ?_)
       | (show AT _ _ _ (wpList _ _ _ (⟨_, Op.alloc _, _, _, _, _⟩ :: _)); refine m_alloc tabs rfl rfl (fun b9 hb9 => ?_)))
    | (show AT _ _ _ (wpList _ _ _ []); refine c_nil (x_then ?_))
    | (show AT _ _ _ (Code.wp _ _ _); first | refine c_seq ?_ | refine c_region ?_))
  rename_i b8 hb8
  refine c_all (Hp [] w [.blk b9 #[iV m.1, iV m.2.1, .slice a m.2.2.length c] 46]) (by kernel_rfl) (fun _ c => Hp.drew c) ?_
  refine h_take 0 rfl (by kernel_rfl) (by kernel_rfl) (by kernel_rfl) (by exact y_move rfl) rfl (fun w c => by exact c.sub (by repeat' first | exact List.Sublist.refl _ | exact List.nil_sublist _ | apply List.Sublist.cons_cons | apply List.Sublist.cons)) ?_
  refine h_take 1 rfl (by kernel_rfl) (by kernel_rfl) (by kernel_rfl) (by exact y_loadb 0 tabs rfl rfl rfl rfl) rfl (fun w c => by exact c.sub (by repeat' first | exact List.Sublist.refl _ | exact List.nil_sublist _ | apply List.Sublist.cons_cons | apply List.Sublist.cons)) ?_
  refine h_take 2 rfl (by kernel_rfl) (by kernel_rfl) (by kernel_rfl) (by exact y_assign rfl) rfl (fun w c => by exact c.sub (by repeat' first | exact List.Sublist.refl _ | exact List.nil_sublist _ | apply List.Sublist.cons_cons | apply List.Sublist.cons)) ?_
  refine h_only 3 rfl (by kernel_rfl) ?_
  first | (refine m_storeb 2 tabs rfl rfl rfl rfl rfl rfl rfl ?_) | (refine m_storeb 2 tabs rfl rfl rfl rfl rfl rfl rfl ?_)
  refine c_nil (x_one (h_keep (fun w c => by exact c.sub (by repeat' first | exact List.Sublist.refl _ | exact List.nil_sublist _ | apply List.Sublist.cons_cons | apply List.Sublist.cons)) ?_))
  refine h_end (by kernel_rfl) ?_
  repeat' (first
    | (show AT _ _ _ (Code.wp _ _ _); refine c_ret ?_)
    | (show AT _ _ _ _; refine x_then ?_))
  exact x_ret2 Try.results40 (res_tmp rfl) (res_cellb 2 tabs rfl rfl rfl rfl) (fun w' c' => ⟨_, _, rfl, ⟨p, m, a, c, rfl, hm, rfl⟩, c'.sub (.cons _ (.cons_cons _ (List.nil_sublist _)))⟩)
theorem DrawInverseOf_ok {w : World} {u : Value} (hc : CodeF w [] u) : Does Try.prog 31 [u] w GivesPM := by
  refine fn_enter Try.func31 rfl Try.ntmps31 rfl ?_
  repeat' (first
    | (show AT _ _ _ (wpList _ _ _ (_ :: _)); first
       | (show AT _ _ _ (wpList _ _ _ (⟨_, Op.move _, _, _, _, _⟩ :: _)); refine st_y (y_move rfl) rfl ?_)
       | (show AT _ _ _ (wpList _ _ _ (⟨_, Op.assign _, _, _, _, _⟩ :: _)); refine st_y (y_assign rfl) rfl ?_)
       | (show AT _ _ _ (wpList _ _ _ (⟨_, Op.call _, _, _, _, _⟩ :: _)); (refine m_call (ent_of Try.func82 (by kernel_rfl) rfl) rfl rfl (fun w c => l4One_ok (hp_code c hc)) ?_; rintro v H' ⟨p, m, a, c, rfl, hm, rfl⟩))
       | (show AT _ _ _ (wpList _ _ _ (⟨_, Op.extract _ _, _, _, _, _⟩ :: _)); refine st_y (y_ext rfl rfl) rfl ?_)
       | (show AT _ _ _ (wpList _ _ _ (⟨_, Op.store _ _ _, _, _, _, _⟩ :: _)); refine m_storeb 0 tabs rfl rfl rfl rfl rfl rfl rfl ?_)
       | (show AT _ _ _ (wpList _ _ _ (⟨_, Op.alloc _, _, _, _, _⟩ :: _)); refine m_alloc tabs rfl rfl (fun b9 hb9 => ?_)))
    | (show AT _ _ _ (wpList _ _ _ []); refine c_nil (x_then ?_))
    | (show AT _ _ _ (Code.wp _ _ _); first | refine c_seq ?_ | refine c_region ?_))
  rename_i b8 hb8
  refine c_all (Hp [] w [.blk b9 #[iV m.1, iV m.2.1, .slice a m.2.2.length c] 46]) (by kernel_rfl) (fun _ c => Hp.drew c) ?_
  refine h_take 0 rfl (by kernel_rfl) (by kernel_rfl) (by kernel_rfl) (by exact y_move rfl) rfl (fun w c => by exact c.sub (by repeat' first | exact List.Sublist.refl _ | exact List.nil_sublist _ | apply List.Sublist.cons_cons | apply List.Sublist.cons)) ?_
  refine h_take 1 rfl (by kernel_rfl) (by kernel_rfl) (by kernel_rfl) (by exact y_loadb 0 tabs rfl rfl rfl rfl) rfl (fun w c => by exact c.sub (by repeat' first | exact List.Sublist.refl _ | exact List.nil_sublist _ | apply List.Sublist.cons_cons | apply List.Sublist.cons)) ?_
  refine h_take 2 rfl (by kernel_rfl) (by kernel_rfl) (by kernel_rfl) (by exact y_assign rfl) rfl (fun w c => by exact c.sub (by repeat' first | exact List.Sublist.refl _ | exact List.nil_sublist _ | apply List.Sublist.cons_cons | apply List.Sublist.cons)) ?_
  refine h_only 3 rfl (by kernel_rfl) ?_
  first | (refine m_storeb 2 tabs rfl rfl rfl rfl rfl rfl rfl ?_) | (refine m_storeb 2 tabs rfl rfl rfl rfl rfl rfl rfl ?_)
  refine c_nil (x_one (h_keep (fun w c => by exact c.sub (by repeat' first | exact List.Sublist.refl _ | exact List.nil_sublist _ | apply List.Sublist.cons_cons | apply List.Sublist.cons)) ?_))
  refine h_end (by kernel_rfl) ?_
  repeat' (first
    | (show AT _ _ _ (Code.wp _ _ _); refine c_ret ?_)
    | (show AT _ _ _ _; refine x_then ?_))
  exact x_ret2 Try.results31 (res_tmp rfl) (res_cellb 2 tabs rfl rfl rfl rfl) (fun w' c' => ⟨_, _, rfl, ⟨p, m, a, c, rfl, hm, rfl⟩, c'.sub (.cons _ (.cons_cons _ (List.nil_sublist _)))⟩)
end Go.Proofs.Ytljgmmmgnfgbhaa
