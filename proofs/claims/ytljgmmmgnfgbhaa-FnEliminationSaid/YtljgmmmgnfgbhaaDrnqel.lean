import Derived.Test.YtljgmmmgnfgbhaaAppqel
import Derived.Test.YtljgmmmgnfgbhaaDrmqel
namespace Go.Proofs.Ytljgmmmgnfgbhaa
open Go.Lg Go.Proofs Go.RowKit
attribute [local irreducible] Code.wp wpList bodyPost Exit.then Exit.inBlock Hp Again Calls Y AT ResV QT Qn QI wpAny wpAnyQ
set_option maxRecDepth 20000
set_option maxHeartbeats 4000000

/-! ### drawn systems and powers -/
abbrev GivesPMV (v : Value) (H : List HE) : Prop := ∃ (p : Int) (m : Mat) (a : Option Addr) (c : Nat) (xs : List Int) (a' : Option Addr) (c' : Nat), v = .tuple #[iV p, .agg #[iV m.1, iV m.2.1, .slice a m.2.2.length c], .slice a' xs.length c'] ∧ (m.2.2.length ≤ 16 ∧ 0 ≤ m.2.1 ∧ m.2.1 ≤ 3) ∧ H = [.own (iT m.2.2) (.slice a m.2.2.length c), .own (iT xs) (.slice a' xs.length c')]
theorem DrawSolveSystem_ok {w : World} {u : Value} (hc : CodeF w [] u) : Does Try.prog 27 [u] w GivesPMV := by
  refine fn_enter Try.func27 rfl Try.ntmps27 rfl ?_
  repeat' (first
    | (show AT _ _ _ (wpList _ _ _ (_ :: _)); first
       | (show AT _ _ _ (wpList _ _ _ (⟨_, Op.move _, _, _, _, _⟩ :: _)); refine st_y (y_move rfl) rfl ?_)
       | (show AT _ _ _ (wpList _ _ _ (⟨_, Op.assign _, _, _, _, _⟩ :: _)); refine st_y (y_assign rfl) rfl ?_)
       | (show AT _ _ _ (wpList _ _ _ (⟨_, Op.fieldAddr _ _ _, _, _, _, _⟩ :: _)); refine st_y (y_field tabs rfl rfl rfl) rfl ?_)
       | (show AT _ _ _ (wpList _ _ _ (⟨_, Op.load _ _, _, _, _, _⟩ :: _)); refine st_y (y_load tabs rfl rfl (hc_blk 0 rfl rfl)) rfl ?_)
       | (show AT _ _ _ (wpList _ _ _ (⟨_, Op.call _, _, _, _, _⟩ :: _)); first | (refine m_call (ent_of Try.func73 (by kernel_rfl) rfl) rfl rfl (fun w c => l1New_ok (hp_code c hc)) ?_; rintro v H' ⟨b, ch, rfl, rfl⟩) | (refine m_callL 0 (ent_of Try.func74 (by kernel_rfl) rfl) rfl rfl rfl (fun w M' hl => l2Prime_ok hl hc (Nat.zero_le _)) ?_; rintro v H' ⟨i, ch, _, hi, rfl, p, rfl, hp, rfl⟩) | (refine m_callL 0 (ent_of Try.func75 (by kernel_rfl) rfl) rfl rfl rfl (fun w M' hl => l3Any_ok p hl hc hi) ?_; rintro v H' ⟨i, ch, _, hi, rfl, m, a, c, rfl, hm, rfl⟩) | refine st_y (y_max rfl rfl) rfl ?_ | refine st_y (y_min rfl rfl) rfl ?_ | (refine m_callL 1 (ent_of Try.func76 (by kernel_rfl) rfl) rfl rfl rfl (fun w M' hl => l2Vector_ok p _ hl hc hi (by omega)) ?_; rintro v H' ⟨i, ch, _, hi, rfl, xs, a1, c1, rfl, hx, rfl⟩))
       | (show AT _ _ _ (wpList _ _ _ (⟨_, Op.store _ _ _, _, _, _, _⟩ :: _)); refine m_storeb 0 tabs rfl rfl rfl rfl rfl rfl rfl ?_)
       | (show AT _ _ _ (wpList _ _ _ (⟨_, Op.alloc _, _, _, _, _⟩ :: _)); refine m_alloc tabs rfl rfl (fun b9 hb9 => ?_)))
    | (show AT _ _ _ (wpList _ _ _ []); refine c_nil (x_then ?_))
    | (show AT _ _ _ (Code.wp _ _ _); first | refine c_seq ?_ | refine c_region ?_))
  rename_i b3 hb3 _ _ _ _ _ _ _
  refine c_all (Hp [] w [.blk b9 #[iV m.1, iV m.2.1, .slice a m.2.2.length c] 46]) (by kernel_rfl) (fun _ c => Hp.drew c) ?_
  refine h_take 0 rfl (by kernel_rfl) (by kernel_rfl) (by kernel_rfl) (by exact y_move rfl) rfl (fun w c => by exact c.sub (by repeat' first | exact List.Sublist.refl _ | exact List.nil_sublist _ | apply List.Sublist.cons_cons | apply List.Sublist.cons)) ?_
  refine h_take 1 rfl (by kernel_rfl) (by kernel_rfl) (by kernel_rfl) (by exact y_loadb 0 tabs rfl rfl rfl rfl) rfl (fun w c => by exact c.sub (by repeat' first | exact List.Sublist.refl _ | exact List.nil_sublist _ | apply List.Sublist.cons_cons | apply List.Sublist.cons)) ?_
  refine h_take 2 rfl (by kernel_rfl) (by kernel_rfl) (by kernel_rfl) (by exact y_move rfl) rfl (fun w c => by exact c.sub (by repeat' first | exact List.Sublist.refl _ | exact List.nil_sublist _ | apply List.Sublist.cons_cons | apply List.Sublist.cons)) ?_
  refine h_take 3 rfl (by kernel_rfl) (by kernel_rfl) (by kernel_rfl) (by exact y_move rfl) rfl (fun w c => by exact c.sub (by repeat' first | exact List.Sublist.refl _ | exact List.nil_sublist _ | apply List.Sublist.cons_cons | apply List.Sublist.cons)) ?_
  refine h_take 4 rfl (by kernel_rfl) (by kernel_rfl) (by kernel_rfl) (by exact y_field tabs rfl rfl rfl) rfl (fun w c => by exact c.sub (by repeat' first | exact List.Sublist.refl _ | exact List.nil_sublist _ | apply List.Sublist.cons_cons | apply List.Sublist.cons)) ?_
  refine h_take 5 rfl (by kernel_rfl) (by kernel_rfl) (by kernel_rfl) (by exact y_load tabs rfl rfl (hc_blk 0 rfl rfl)) rfl (fun w c => by exact c.sub (by repeat' first | exact List.Sublist.refl _ | exact List.nil_sublist _ | apply List.Sublist.cons_cons | apply List.Sublist.cons)) ?_
  refine h_take 6 rfl (by kernel_rfl) (by kernel_rfl) (by kernel_rfl) (by exact y_min rfl rfl) rfl (fun w c => by exact c.sub (by repeat' first | exact List.Sublist.refl _ | exact List.nil_sublist _ | apply List.Sublist.cons_cons | apply List.Sublist.cons)) ?_
  refine h_take 7 rfl (by kernel_rfl) (by kernel_rfl) (by kernel_rfl) (by exact y_max rfl rfl) rfl (fun w c => by exact c.sub (by repeat' first | exact List.Sublist.refl _ | exact List.nil_sublist _ | apply List.Sublist.cons_cons | apply List.Sublist.cons)) ?_
  refine h_only 8 rfl (by kernel_rfl) ?_
  first | (refine m_callL 0 (ent_of Try.func76 (by kernel_rfl) rfl) rfl rfl rfl (fun w M' hl => l2Vector_ok p _ hl hc hi (by omega)) ?_; rintro v H' ⟨i, ch, _, hi, rfl, ys, a2, c2, rfl, hy, rfl⟩) | (refine m_call (ent_of Try.func77 (by kernel_rfl) rfl) rfl rfl (fun w c => spec_ApplyMatrix_ok (m := m) (c.own_rd (i := 4) rfl) (c.own_rd (i := 1) rfl)) ?_; rintro v H' ⟨a4, c4, rfl, hs4, rfl⟩)
  refine c_nil (x_one (h_keep (fun w c => by exact c.sub (by repeat' first | exact List.Sublist.refl _ | exact List.nil_sublist _ | apply List.Sublist.cons_cons | apply List.Sublist.cons)) ?_))
  refine h_only 9 rfl (by kernel_rfl) ?_
  first | (refine m_callL 0 (ent_of Try.func76 (by kernel_rfl) rfl) rfl rfl rfl (fun w M' hl => l2Vector_ok p _ hl hc hi (by omega)) ?_; rintro v H' ⟨i, ch, _, hi, rfl, ys, a2, c2, rfl, hy, rfl⟩) | (refine m_call (ent_of Try.func77 (by kernel_rfl) rfl) rfl rfl (fun w c => spec_ApplyMatrix_ok (m := m) (c.own_rd (i := 4) rfl) (c.own_rd (i := 1) rfl)) ?_; rintro v H' ⟨a4, c4, rfl, hs4, rfl⟩)
  refine c_nil (x_one (h_keep (fun w c => by exact c.sub (by repeat' first | exact List.Sublist.refl _ | exact List.nil_sublist _ | apply List.Sublist.cons_cons | apply List.Sublist.cons)) ?_))
  refine h_take 10 rfl (by kernel_rfl) (by kernel_rfl) (by kernel_rfl) (by exact y_move rfl) rfl (fun w c => by exact c.sub (by repeat' first | exact List.Sublist.refl _ | exact List.nil_sublist _ | apply List.Sublist.cons_cons | apply List.Sublist.cons)) ?_
  refine h_take 11 rfl (by kernel_rfl) (by kernel_rfl) (by kernel_rfl) (by exact y_ext rfl rfl) rfl (fun w c => by exact c.sub (by repeat' first | exact List.Sublist.refl _ | exact List.nil_sublist _ | apply List.Sublist.cons_cons | apply List.Sublist.cons)) ?_
  refine h_take 12 rfl (by kernel_rfl) (by kernel_rfl) (by kernel_rfl) (by exact y_ext rfl rfl) rfl (fun w c => by exact c.sub (by repeat' first | exact List.Sublist.refl _ | exact List.nil_sublist _ | apply List.Sublist.cons_cons | apply List.Sublist.cons)) ?_
  refine h_take 13 rfl (by kernel_rfl) (by kernel_rfl) (by kernel_rfl) (by exact y_assign rfl) rfl (fun w c => by exact c.sub (by repeat' first | exact List.Sublist.refl _ | exact List.nil_sublist _ | apply List.Sublist.cons_cons | apply List.Sublist.cons)) ?_
  refine h_take 14 rfl (by kernel_rfl) (by kernel_rfl) (by kernel_rfl) (by exact y_assign rfl) rfl (fun w c => by exact c.sub (by repeat' first | exact List.Sublist.refl _ | exact List.nil_sublist _ | apply List.Sublist.cons_cons | apply List.Sublist.cons)) ?_
  refine h_end (by kernel_rfl) ?_
  repeat' (first
    | (show AT _ _ _ (wpList _ _ _ (_ :: _)); first
       | (show AT _ _ _ (wpList _ _ _ (⟨_, Op.move _, _, _, _, _⟩ :: _)); refine st_y (y_move rfl) rfl ?_)
       | (show AT _ _ _ (wpList _ _ _ (⟨_, Op.call _, _, _, _, _⟩ :: _)); (refine m_callL 1 (ent_of Try.func78 (by kernel_rfl) rfl) rfl rfl rfl (fun w M' hl => l1Once_ok 2 hl hc hi) ?_; rintro v H' ⟨i, ch, _, hi, rfl, (_ | _), rfl, rfl⟩))
       | (show AT _ _ _ (wpList _ _ _ (⟨_, Op.pick _ _ _, _, _, _, _⟩ :: _)); first | refine st_y (y_pickt rfl (by assumption) rfl) rfl ?_ | refine st_y (y_pickf rfl (by assumption) rfl) rfl ?_)
       | refine st_gdy rfl rfl (by assumption) ?_ | refine st_gdn rfl rfl (by assumption) rfl ?_ | refine st_gd rfl rfl (fun h => ?_) (fun h => ?_))
    | (show AT _ _ _ (wpList _ _ _ []); refine c_nil (x_then ?_))
    | (show AT _ _ _ (Code.wp _ _ _); first | refine c_seq ?_ | refine c_region ?_ | refine c_skip (x_then ?_) | refine c_true rfl ?_ | refine c_false rfl ?_)
    | (show AT _ _ _ _; refine x_then ?_))
  · skip
    refine c_all (Hp [] w [.blk b9 #[iV m.1, iV m.2.1, .slice a m.2.2.length c] 46]) (by kernel_rfl) (fun _ c => Hp.drew c) ?_
    refine h_take 0 rfl (by kernel_rfl) (by kernel_rfl) (by kernel_rfl) (by exact y_move rfl) rfl (fun w c => by exact c.sub (by repeat' first | exact List.Sublist.refl _ | exact List.nil_sublist _ | apply List.Sublist.cons_cons | apply List.Sublist.cons)) ?_
    refine h_take 1 rfl (by kernel_rfl) (by kernel_rfl) (by kernel_rfl) (by exact y_loadb 0 tabs rfl rfl rfl rfl) rfl (fun w c => by exact c.sub (by repeat' first | exact List.Sublist.refl _ | exact List.nil_sublist _ | apply List.Sublist.cons_cons | apply List.Sublist.cons)) ?_
    refine h_take 2 rfl (by kernel_rfl) (by kernel_rfl) (by kernel_rfl) (by exact y_move rfl) rfl (fun w c => by exact c.sub (by repeat' first | exact List.Sublist.refl _ | exact List.nil_sublist _ | apply List.Sublist.cons_cons | apply List.Sublist.cons)) ?_
    refine h_take 3 rfl (by kernel_rfl) (by kernel_rfl) (by kernel_rfl) (by exact y_assign rfl) rfl (fun w c => by exact c.sub (by repeat' first | exact List.Sublist.refl _ | exact List.nil_sublist _ | apply List.Sublist.cons_cons | apply List.Sublist.cons)) ?_
    refine h_only 4 rfl (by kernel_rfl) ?_
    (refine m_storeb 6 tabs rfl rfl rfl rfl rfl rfl rfl ?_)
    refine c_nil (x_one (h_keep (fun w c => by exact c.sub (by repeat' first | exact List.Sublist.refl _ | exact List.nil_sublist _ | apply List.Sublist.cons_cons | apply List.Sublist.cons)) ?_))
    refine h_take 5 rfl (by kernel_rfl) (by kernel_rfl) (by kernel_rfl) (by exact y_assign rfl) rfl (fun w c => by exact c.sub (by repeat' first | exact List.Sublist.refl _ | exact List.nil_sublist _ | apply List.Sublist.cons_cons | apply List.Sublist.cons)) ?_
    refine h_end (by kernel_rfl) ?_
    repeat' (first
      | (show AT _ _ _ (Code.wp _ _ _); refine c_ret ?_)
      | (show AT _ _ _ _; refine x_then ?_))
    exact x_ret3 Try.results27 (res_tmp rfl) (res_cellb 6 tabs rfl rfl rfl rfl) (res_tmp rfl) (fun w' c' => ⟨_, _, rfl, ⟨p, m, a, c, xs, a1, c1, rfl, hm, rfl⟩, (c'.front (i := 5) rfl).sub (.cons_cons _ (.cons _ (.cons _ (.cons _ (.cons_cons _ (List.nil_sublist _))))))⟩)
  · skip
    refine c_all (Hp [] w [.blk b9 #[iV m.1, iV m.2.1, .slice a m.2.2.length c] 46]) (by kernel_rfl) (fun _ c => Hp.drew c) ?_
    refine h_take 0 rfl (by kernel_rfl) (by kernel_rfl) (by kernel_rfl) (by exact y_move rfl) rfl (fun w c => by exact c.sub (by repeat' first | exact List.Sublist.refl _ | exact List.nil_sublist _ | apply List.Sublist.cons_cons | apply List.Sublist.cons)) ?_
    refine h_take 1 rfl (by kernel_rfl) (by kernel_rfl) (by kernel_rfl) (by exact y_loadb 0 tabs rfl rfl rfl rfl) rfl (fun w c => by exact c.sub (by repeat' first | exact List.Sublist.refl _ | exact List.nil_sublist _ | apply List.Sublist.cons_cons | apply List.Sublist.cons)) ?_
    refine h_take 2 rfl (by kernel_rfl) (by kernel_rfl) (by kernel_rfl) (by exact y_move rfl) rfl (fun w c => by exact c.sub (by repeat' first | exact List.Sublist.refl _ | exact List.nil_sublist _ | apply List.Sublist.cons_cons | apply List.Sublist.cons)) ?_
    refine h_take 3 rfl (by kernel_rfl) (by kernel_rfl) (by kernel_rfl) (by exact y_assign rfl) rfl (fun w c => by exact c.sub (by repeat' first | exact List.Sublist.refl _ | exact List.nil_sublist _ | apply List.Sublist.cons_cons | apply List.Sublist.cons)) ?_
    refine h_only 4 rfl (by kernel_rfl) ?_
    (refine m_storeb 6 tabs rfl rfl rfl rfl rfl rfl rfl ?_)
    refine c_nil (x_one (h_keep (fun w c => by exact c.sub (by repeat' first | exact List.Sublist.refl _ | exact List.nil_sublist _ | apply List.Sublist.cons_cons | apply List.Sublist.cons)) ?_))
    refine h_take 5 rfl (by kernel_rfl) (by kernel_rfl) (by kernel_rfl) (by exact y_assign rfl) rfl (fun w c => by exact c.sub (by repeat' first | exact List.Sublist.refl _ | exact List.nil_sublist _ | apply List.Sublist.cons_cons | apply List.Sublist.cons)) ?_
    refine h_end (by kernel_rfl) ?_
    repeat' (first
      | (show AT _ _ _ (Code.wp _ _ _); refine c_ret ?_)
      | (show AT _ _ _ _; first | refine x_then ?_ | refine x_then_ret ?_))
    exact x_ret3 Try.results27 (res_tmp rfl) (res_cellb 6 tabs rfl rfl rfl rfl) (res_tmp rfl) (fun w' c' => ⟨_, _, rfl, ⟨p, m, a, c, appX p m ys, a4, c4, rfl, hm, rfl⟩, (c'.front (i := 5) rfl).sub (.cons_cons _ (.cons _ (.cons_cons _ (List.nil_sublist _))))⟩)
  · skip
    refine c_all (Hp [] w [.blk b9 #[iV m.1, iV m.2.1, .slice a m.2.2.length c] 46]) (by kernel_rfl) (fun _ c => Hp.drew c) ?_
    refine h_take 0 rfl (by kernel_rfl) (by kernel_rfl) (by kernel_rfl) (by exact y_move rfl) rfl (fun w c => by exact c.sub (by repeat' first | exact List.Sublist.refl _ | exact List.nil_sublist _ | apply List.Sublist.cons_cons | apply List.Sublist.cons)) ?_
    refine h_take 1 rfl (by kernel_rfl) (by kernel_rfl) (by kernel_rfl) (by exact y_loadb 0 tabs rfl rfl rfl rfl) rfl (fun w c => by exact c.sub (by repeat' first | exact List.Sublist.refl _ | exact List.nil_sublist _ | apply List.Sublist.cons_cons | apply List.Sublist.cons)) ?_
    refine h_take 2 rfl (by kernel_rfl) (by kernel_rfl) (by kernel_rfl) (by exact y_move rfl) rfl (fun w c => by exact c.sub (by repeat' first | exact List.Sublist.refl _ | exact List.nil_sublist _ | apply List.Sublist.cons_cons | apply List.Sublist.cons)) ?_
    refine h_take 3 rfl (by kernel_rfl) (by kernel_rfl) (by kernel_rfl) (by exact y_assign rfl) rfl (fun w c => by exact c.sub (by repeat' first | exact List.Sublist.refl _ | exact List.nil_sublist _ | apply List.Sublist.cons_cons | apply List.Sublist.cons)) ?_
    refine h_only 4 rfl (by kernel_rfl) ?_
    (refine m_storeb 6 tabs rfl rfl rfl rfl rfl rfl rfl ?_)
    refine c_nil (x_one (h_keep (fun w c => by exact c.sub (by repeat' first | exact List.Sublist.refl _ | exact List.nil_sublist _ | apply List.Sublist.cons_cons | apply List.Sublist.cons)) ?_))
    refine h_take 5 rfl (by kernel_rfl) (by kernel_rfl) (by kernel_rfl) (by exact y_assign rfl) rfl (fun w c => by exact c.sub (by repeat' first | exact List.Sublist.refl _ | exact List.nil_sublist _ | apply List.Sublist.cons_cons | apply List.Sublist.cons)) ?_
    refine h_end (by kernel_rfl) ?_
    repeat' (first
      | (show AT _ _ _ (Code.wp _ _ _); refine c_ret ?_)
      | (show AT _ _ _ _; refine x_then ?_))
    exact x_ret3 Try.results27 (res_tmp rfl) (res_cellb 6 tabs rfl rfl rfl rfl) (res_tmp rfl) (fun w' c' => ⟨_, _, rfl, ⟨p, m, a, c, xs, a1, c1, rfl, hm, rfl⟩, (c'.front (i := 5) rfl).sub (.cons_cons _ (.cons _ (.cons _ (.cons _ (.cons_cons _ (List.nil_sublist _))))))⟩)
abbrev GivesPMN (v : Value) (H : List HE) : Prop := ∃ (p : Int) (m : Mat) (a : Option Addr) (c : Nat) (n : Int), v = .tuple #[iV p, .agg #[iV m.1, iV m.2.1, .slice a m.2.2.length c], iV n] ∧ (m.2.2.length ≤ 16 ∧ 0 ≤ m.2.1 ∧ m.2.1 ≤ 3) ∧ H = [.own (iT m.2.2) (.slice a m.2.2.length c)]
theorem DrawPowerOf_ok {w : World} {u : Value} (hc : CodeF w [] u) : Does Try.prog 43 [u] w GivesPMN := by
  obtain ⟨n, ac, cc, bs, rfl, hcs, _, hn, _, _⟩ := hc.open
  have hlt : n % 7 < 7 := Nat.mod_lt _ (by decide)
  have hmod : (n : Int).tmod 7 = ((n % 7 : Nat) : Int) := rfl
  refine fn_enter Try.func43 rfl Try.ntmps43 rfl ?_
  repeat' (first
    | (show AT _ _ _ (wpList _ _ _ (_ :: _)); first
       | (show AT _ _ _ (wpList _ _ _ (⟨_, Op.move _, _, _, _, _⟩ :: _)); refine st_y (y_move rfl) rfl ?_)
       | (show AT _ _ _ (wpList _ _ _ (⟨_, Op.assign _, _, _, _, _⟩ :: _)); refine st_y (y_assign rfl) rfl ?_)
       | (show AT _ _ _ (wpList _ _ _ (⟨_, Op.call _, _, _, _, _⟩ :: _)); (refine m_call (ent_of Try.func82 (by kernel_rfl) rfl) rfl rfl (fun w c => l4One_ok (hp_code c hc)) ?_; rintro v H' ⟨p, m, a, c, rfl, hm, rfl⟩))
       | (show AT _ _ _ (wpList _ _ _ (⟨_, Op.extract _ _, _, _, _, _⟩ :: _)); refine st_y (y_ext rfl rfl) rfl ?_)
       | (show AT _ _ _ (wpList _ _ _ (⟨_, Op.store _ _ _, _, _, _, _⟩ :: _)); refine m_storeb 0 tabs rfl rfl rfl rfl rfl rfl rfl ?_)
       | (show AT _ _ _ (wpList _ _ _ (⟨_, Op.alloc _, _, _, _, _⟩ :: _)); refine m_alloc tabs rfl rfl (fun b9 hb9 => ?_)))
    | (show AT _ _ _ (wpList _ _ _ []); refine c_nil (x_then ?_))
    | (show AT _ _ _ (Code.wp _ _ _); first | refine c_seq ?_ | refine c_region ?_))
  rename_i b3 hb3
  refine c_all (Hp [] w [.blk b9 #[iV m.1, iV m.2.1, .slice a m.2.2.length c] 46]) (by kernel_rfl) (fun _ c => Hp.drew c) ?_
  refine h_take 0 rfl (by kernel_rfl) (by kernel_rfl) (by kernel_rfl) (by exact y_move rfl) rfl (fun w c => by exact c.sub (by repeat' first | exact List.Sublist.refl _ | exact List.nil_sublist _ | apply List.Sublist.cons_cons | apply List.Sublist.cons)) ?_
  refine h_take 1 rfl (by kernel_rfl) (by kernel_rfl) (by kernel_rfl) (by exact y_loadb 0 tabs rfl rfl rfl rfl) rfl (fun w c => by exact c.sub (by repeat' first | exact List.Sublist.refl _ | exact List.nil_sublist _ | apply List.Sublist.cons_cons | apply List.Sublist.cons)) ?_
  refine h_take 3 rfl (by kernel_rfl) (by kernel_rfl) (by kernel_rfl) (by exact y_move rfl) rfl (fun w c => by exact c.sub (by repeat' first | exact List.Sublist.refl _ | exact List.nil_sublist _ | apply List.Sublist.cons_cons | apply List.Sublist.cons)) ?_
  refine h_take 4 rfl (by kernel_rfl) (by kernel_rfl) (by kernel_rfl) (by exact y_len tabs rfl rfl) rfl (fun w c => by exact c.sub (by repeat' first | exact List.Sublist.refl _ | exact List.nil_sublist _ | apply List.Sublist.cons_cons | apply List.Sublist.cons)) ?_
  refine h_take 5 rfl (by kernel_rfl) (by kernel_rfl) (by kernel_rfl) (by exact y_rem rfl rfl (by decide)) rfl (fun w c => by exact c.sub (by repeat' first | exact List.Sublist.refl _ | exact List.nil_sublist _ | apply List.Sublist.cons_cons | apply List.Sublist.cons)) ?_
  refine h_take 8 rfl (by kernel_rfl) (by kernel_rfl) (by kernel_rfl) (by exact y_assign rfl) rfl (fun w c => by exact c.sub (by repeat' first | exact List.Sublist.refl _ | exact List.nil_sublist _ | apply List.Sublist.cons_cons | apply List.Sublist.cons)) ?_
  refine h_two 2 9 rfl rfl (by kernel_rfl) ?_ ?_
  · (refine m_buildi tabs [-1, 0, 1, 2, 5, 100, 101] rfl rfl rfl rfl rfl rfl rfl (fun g hg => ?_))
    refine c_nil (x_one (h_keep (fun w c => by exact c.sub (by repeat' first | exact List.Sublist.refl _ | exact List.nil_sublist _ | apply List.Sublist.cons_cons | apply List.Sublist.cons)) ?_))
    refine h_take 6 rfl (by kernel_rfl) (by kernel_rfl) (by kernel_rfl) (by exact y_ix1 tabs (j := n % 7) rfl rfl rfl .mk hmod hlt) rfl (fun w c => by exact c.sub (by repeat' first | exact List.Sublist.refl _ | exact List.nil_sublist _ | apply List.Sublist.cons_cons | apply List.Sublist.cons)) ?_
    refine h_two 7 9 rfl rfl (by kernel_rfl) ?_ ?_
    · (refine st_y (y_load tabs rfl rfl (hc_own 0 rfl (j := n % 7) (by simp only [List.length_cons, List.length_nil]; omega))) rfl ?_)
      refine c_nil (x_one (h_keep (fun w c => by exact c.sub (by repeat' first | exact List.Sublist.refl _ | exact List.nil_sublist _ | apply List.Sublist.cons_cons | apply List.Sublist.cons)) ?_))
      refine h_only 9 rfl (by kernel_rfl) ?_
      first | (refine m_storeb 3 tabs rfl rfl rfl rfl rfl rfl rfl ?_) | (refine m_storeb 3 tabs rfl rfl rfl rfl rfl rfl rfl ?_)
      refine c_nil (x_one (h_keep (fun w c => by exact c.sub (by repeat' first | exact List.Sublist.refl _ | exact List.nil_sublist _ | apply List.Sublist.cons_cons | apply List.Sublist.cons)) ?_))
      refine h_take 10 rfl (by kernel_rfl) (by kernel_rfl) (by kernel_rfl) (by exact y_assign rfl) rfl (fun w c => by exact c.sub (by repeat' first | exact List.Sublist.refl _ | exact List.nil_sublist _ | apply List.Sublist.cons_cons | apply List.Sublist.cons)) ?_
      refine h_end (by kernel_rfl) ?_
      repeat' (first
        | (show AT _ _ _ (Code.wp _ _ _); refine c_ret ?_)
        | (show AT _ _ _ _; refine x_then ?_))
      exact x_ret3 Try.results43 (res_tmp rfl) (res_cellb 3 tabs rfl rfl rfl rfl) (res_tmp rfl) (fun w' c' => ⟨_, _, rfl, ⟨p, m, a, c, _, rfl, hm, rfl⟩, c'.sub (.cons _ (.cons _ (.cons_cons _ (List.nil_sublist _))))⟩)
    · first | (refine m_storeb 3 tabs rfl rfl rfl rfl rfl rfl rfl ?_) | (refine m_storeb 3 tabs rfl rfl rfl rfl rfl rfl rfl ?_)
      refine c_nil (x_one (h_keep (fun w c => by exact c.sub (by repeat' first | exact List.Sublist.refl _ | exact List.nil_sublist _ | apply List.Sublist.cons_cons | apply List.Sublist.cons)) ?_))
      refine h_only 7 rfl (by kernel_rfl) ?_
      (refine st_y (y_load tabs rfl rfl (hc_own 0 rfl (j := n % 7) (by simp only [List.length_cons, List.length_nil]; omega))) rfl ?_)
      refine c_nil (x_one (h_keep (fun w c => by exact c.sub (by repeat' first | exact List.Sublist.refl _ | exact List.nil_sublist _ | apply List.Sublist.cons_cons | apply List.Sublist.cons)) ?_))
      refine h_take 10 rfl (by kernel_rfl) (by kernel_rfl) (by kernel_rfl) (by exact y_assign rfl) rfl (fun w c => by exact c.sub (by repeat' first | exact List.Sublist.refl _ | exact List.nil_sublist _ | apply List.Sublist.cons_cons | apply List.Sublist.cons)) ?_
      refine h_end (by kernel_rfl) ?_
      repeat' (first
        | (show AT _ _ _ (Code.wp _ _ _); refine c_ret ?_)
        | (show AT _ _ _ _; refine x_then ?_))
      exact x_ret3 Try.results43 (res_tmp rfl) (res_cellb 3 tabs rfl rfl rfl rfl) (res_tmp rfl) (fun w' c' => ⟨_, _, rfl, ⟨p, m, a, c, _, rfl, hm, rfl⟩, c'.sub (.cons _ (.cons _ (.cons_cons _ (List.nil_sublist _))))⟩)
  · first | (refine m_storeb 2 tabs rfl rfl rfl rfl rfl rfl rfl ?_) | (refine m_storeb 2 tabs rfl rfl rfl rfl rfl rfl rfl ?_)
    refine c_nil (x_one (h_keep (fun w c => by exact c.sub (by repeat' first | exact List.Sublist.refl _ | exact List.nil_sublist _ | apply List.Sublist.cons_cons | apply List.Sublist.cons)) ?_))
    refine h_only 2 rfl (by kernel_rfl) ?_
    first | (refine m_buildi tabs [-1, 0, 1, 2, 5, 100, 101] rfl rfl rfl rfl rfl rfl rfl (fun g hg => ?_)) | (refine st_y (y_load tabs rfl rfl (hc_own 0 rfl (j := n % 7) (by simp only [List.length_cons, List.length_nil]; omega))) rfl ?_)
    refine c_nil (x_one (h_keep (fun w c => by exact c.sub (by repeat' first | exact List.Sublist.refl _ | exact List.nil_sublist _ | apply List.Sublist.cons_cons | apply List.Sublist.cons)) ?_))
    refine h_take 6 rfl (by kernel_rfl) (by kernel_rfl) (by kernel_rfl) (by exact y_ix1 tabs (j := n % 7) rfl rfl rfl .mk hmod hlt) rfl (fun w c => by exact c.sub (by repeat' first | exact List.Sublist.refl _ | exact List.nil_sublist _ | apply List.Sublist.cons_cons | apply List.Sublist.cons)) ?_
    refine h_only 7 rfl (by kernel_rfl) ?_
    first | (refine m_buildi tabs [-1, 0, 1, 2, 5, 100, 101] rfl rfl rfl rfl rfl rfl rfl (fun g hg => ?_)) | (refine st_y (y_load tabs rfl rfl (hc_own 0 rfl (j := n % 7) (by simp only [List.length_cons, List.length_nil]; omega))) rfl ?_)
    refine c_nil (x_one (h_keep (fun w c => by exact c.sub (by repeat' first | exact List.Sublist.refl _ | exact List.nil_sublist _ | apply List.Sublist.cons_cons | apply List.Sublist.cons)) ?_))
    refine h_take 10 rfl (by kernel_rfl) (by kernel_rfl) (by kernel_rfl) (by exact y_assign rfl) rfl (fun w c => by exact c.sub (by repeat' first | exact List.Sublist.refl _ | exact List.nil_sublist _ | apply List.Sublist.cons_cons | apply List.Sublist.cons)) ?_
    refine h_end (by kernel_rfl) ?_
    repeat' (first
      | (show AT _ _ _ (Code.wp _ _ _); refine c_ret ?_)
      | (show AT _ _ _ _; refine x_then ?_))
    exact x_ret3 Try.results43 (res_tmp rfl) (res_cellb 3 tabs rfl rfl rfl rfl) (res_tmp rfl) (fun w' c' => ⟨_, _, rfl, ⟨p, m, a, c, _, rfl, hm, rfl⟩, c'.sub (.cons _ (.cons _ (.cons_cons _ (List.nil_sublist _))))⟩)
end Go.Proofs.Ytljgmmmgnfgbhaa
