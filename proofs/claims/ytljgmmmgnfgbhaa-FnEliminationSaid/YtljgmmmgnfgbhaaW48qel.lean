/- The law FnElimination returns true for all arguments, and its arguments read behind the call as they read before; there are no conditions. -/
import Derived.OpenShut
import Derived.ShutString
import Derived.Below
import Derived.Test.YtljgmmmgnfgbhaaDrnqel
import Derived.Test.YtljgmmmgnfgbhaaElfqel
import Derived.Test.YtljgmmmgnfgbhaaEqmqel
import Derived.Test.YtljgmmmgnfgbhaaFinqel
import Derived.Test.YtljgmmmgnfgbhaaImgqel
import Derived.Test.YtljgmmmgnfgbhaaIvsqel
import Derived.Test.YtljgmmmgnfgbhaaKerqel
import Derived.Test.YtljgmmmgnfgbhaaLBqel
import Derived.Test.YtljgmmmgnfgbhaaLinqel
import Derived.Test.YtljgmmmgnfgbhaaLwsqel
import Derived.Test.YtljgmmmgnfgbhaaOpBqel
import Derived.Test.YtljgmmmgnfgbhaaOpnqel
import Derived.Test.YtljgmmmgnfgbhaaSolqel
namespace Go.Proofs.Ytljgmmmgnfgbhaa.wFnElimination
open Go.Lg Go.Proofs Go.RowKit Go.ChangeShapes Go.WideShapes Go.ChangeAt
attribute [local irreducible] Code.wp wpList bodyPost Exit.then Exit.inBlock Hp Again Calls Y AT ResV QT
set_option maxRecDepth 20000
set_option maxHeartbeats 4000000
set_option maxRecDepth 20000
set_option maxHeartbeats 40000000
set_option linter.unusedVariables false

theorem law_ok (w : World) {x0 : List Int} {u0 : Value} (h0 : Rd w (byT x0) u0) (g0 : Byt x0) : Does Try.prog 4 [u0] w (fun r H => r = .bool true ∧ H = []) := by
  by_cases hbig : (x0.length : Int) > 1048576
  · obtain ⟨a, c, rfl⟩ := bytes_sl h0
    refine fn_enter Try.func4 rfl Try.ntmps4 rfl ?_
    repeat' (first
      | (show AT _ _ _ (wpList _ _ _ (_ :: _)); first
         | (show AT _ _ _ (wpList _ _ _ (⟨_, Op.move _, _, _, _, _⟩ :: _)); refine st_y (y_move rfl) rfl ?_)
         | (show AT _ _ _ (wpList _ _ _ (⟨_, Op.assign _, _, _, _, _⟩ :: _)); refine st_y (y_assign rfl) rfl ?_)
         | (show AT _ _ _ (wpList _ _ _ (⟨_, Op.call _, _, _, _, _⟩ :: _)); (refine m_call (ent_of Try.func16 (by kernel_rfl) rfl) rfl rfl (fun w c => big_yes hbig) ?_; rintro v H' ⟨rfl, rfl⟩)))
      | (show AT _ _ _ (wpList _ _ _ []); refine c_nil (x_then ?_))
      | (show AT _ _ _ (Code.wp _ _ _); first | refine c_seq ?_ | refine c_region ?_ | refine c_ret ?_ | refine c_true rfl ?_)
      | (show AT _ _ _ _; refine x_then_ret ?_))
    exact x_ret1 Try.results4 (res_tmp rfl) (fun w' c' => ⟨_, _, rfl, ⟨rfl, rfl⟩, c'⟩)
  have hc := codeF_of h0 g0 (by omega)
  refine fn_enter Try.func4 rfl Try.ntmps4 rfl ?_
  repeat' (first
    | (show AT _ _ _ (wpList _ _ _ (_ :: _)); first
       | (show AT _ _ _ (wpList _ _ _ (⟨_, Op.move _, _, _, _, _⟩ :: _)); refine st_y (y_move rfl) rfl ?_)
       | (show AT _ _ _ (wpList _ _ _ (⟨_, Op.assign _, _, _, _, _⟩ :: _)); refine st_y (y_assign rfl) rfl ?_)
       | (show AT _ _ _ (wpList _ _ _ (⟨_, Op.load _ _, _, _, _, _⟩ :: _)); first | refine st_y (y_loadb 0 tabs rfl rfl rfl rfl) rfl ?_ | refine st_y (y_loadb 1 tabs rfl rfl rfl rfl) rfl ?_ | refine st_y (y_loadb 2 tabs rfl rfl rfl rfl) rfl ?_ | refine st_y (y_loadb 3 tabs rfl rfl rfl rfl) rfl ?_)
       | (show AT _ _ _ (wpList _ _ _ (⟨_, Op.call _, _, _, _, _⟩ :: _)); first | (refine m_call (ent_of Try.func16 (by kernel_rfl) rfl) rfl rfl (fun w c => big_ok (hp_code c hc)) ?_; rintro v H' ⟨rfl, rfl⟩) | (refine m_call (ent_of Try.func17 (by kernel_rfl) rfl) rfl rfl (fun w c => DrawKernelBasis_ok (hp_code c hc)) ?_; rintro v H' ⟨p, m, a, c, rfl, hm, rfl⟩) | (refine m_call (ent_of Try.func18 (by kernel_rfl) rfl) rfl rfl (fun w c => impl_KernelBasis_ok (m := m) (c.own_rd (i := 1) rfl)) ?_; rintro v H' ⟨a1, c1, rfl, hs1, rfl⟩) | (refine m_call (ent_of Try.func19 (by kernel_rfl) rfl) rfl rfl (fun w c => spec_KernelBasis_ok (m := m) (c.own_rd (i := 2) rfl)) ?_; rintro v H' ⟨a2, c2, rfl, hs2, rfl⟩) | (refine m_call (ent_of Try.func20 (by kernel_rfl) rfl) rfl rfl (fun w c => impl_RankOf_ok (m := m) (c.own_rd (i := 3) rfl)) ?_; rintro v H' ⟨rfl, rfl⟩) | (refine m_call (ent_of Try.func21 (by kernel_rfl) rfl) rfl rfl (fun w c => impl_ImageBasis_ok (m := m) (c.own_rd (i := 3) rfl)) ?_; rintro v H' ⟨a3, c3, rfl, hs3, rfl⟩) | (refine m_call (ent_of Try.func22 (by kernel_rfl) rfl) rfl rfl (fun w c => spec_ImageBasis_ok (m := m) (c.own_rd (i := 4) rfl)) ?_; rintro v H' ⟨a4, c4, rfl, hs4, rfl⟩))
       | (show AT _ _ _ (wpList _ _ _ (⟨_, Op.extract _ _, _, _, _, _⟩ :: _)); refine st_y (y_ext rfl rfl) rfl ?_)
       | (show AT _ _ _ (wpList _ _ _ (⟨_, Op.store _ _ _, _, _, _, _⟩ :: _)); refine m_storeb 0 tabs rfl rfl rfl rfl rfl rfl rfl ?_)
       | (show AT _ _ _ (wpList _ _ _ (⟨_, Op.alloc _, _, _, _, _⟩ :: _)); refine m_alloc tabs rfl rfl (fun b1 hb1 => ?_)))
    | (show AT _ _ _ (wpList _ _ _ []); refine c_nil (x_then ?_))
    | (show AT _ _ _ (Code.wp _ _ _); first | refine c_cutr 9 [(0, u0), (3, iV p), (4, .pointer (some ⟨b1, 0, none⟩)), (7, .slice a2 (kerB p m).length c2), (131, .bool false)] (Hp [] w [.own (rowsT 22 (kerB p m)) (.slice a2 (kerB p m).length c2), .blk b1 #[iV m.1, iV m.2.1, .slice a m.2.2.length c] 46, .own (iT m.2.2) (.slice a m.2.2.length c)]) ?_ ?_ | refine c_seq ?_ | refine c_region ?_ | refine c_skip (x_then ?_) | refine c_block ?_ | refine c_false rfl ?_))
  · refine hold ?_
    repeat' (first
      | (show AT _ _ _ (wpList _ _ _ (_ :: _)); first
         | (show AT _ _ _ (wpList _ _ _ (⟨_, Op.move _, _, _, _, _⟩ :: _)); refine st_y (y_move rfl) rfl ?_)
         | (show AT _ _ _ (wpList _ _ _ (⟨_, Op.fieldAddr _ _ _, _, _, _, _⟩ :: _)); refine st_y (y_field tabs rfl rfl rfl) rfl ?_)
         | (show AT _ _ _ (wpList _ _ _ (⟨_, Op.load _ _, _, _, _, _⟩ :: _)); first | refine st_y (y_loadb 4 tabs rfl rfl rfl rfl) rfl ?_ | refine st_y (y_load tabs rfl rfl (hc_blk 4 rfl rfl)) rfl ?_)
         | (show AT _ _ _ (wpList _ _ _ (⟨_, Op.binOp _ _ _ _ _, _, _, _, _⟩ :: _)); first | refine st_y (y_neqf rfl rfl rfl) rfl ?_ | refine st_y (y_neqf rfl rfl (elm1 (by assumption)).1) rfl ?_ | refine st_y (y_neqf rfl rfl (elm1 (by assumption)).2.1) rfl ?_ | refine st_y (y_add rfl rfl (by have := elm1 (p := p) (m := m) (by assumption); omega)) rfl ?_ | refine st_y (y_neqb_same Try.underlying4 rfl rfl) rfl ?_)
         | (show AT _ _ _ (wpList _ _ _ (⟨_, Op.unOp _ _ _, _, _, _, _⟩ :: _)); refine st_y (y_not rfl) rfl ?_)
         | (show AT _ _ _ (wpList _ _ _ (⟨_, Op.call _, _, _, _, _⟩ :: _)); first | (refine m_call (ent_of Try.func23 (by kernel_rfl) rfl) rfl rfl (fun w c => sameLists_same (c.own_rd (i := 3) rfl) (c.own_rd (i := 2) rfl)) ?_; rintro v H' ⟨rfl, rfl⟩) | (refine m_call (ent_of Try.func23 (by kernel_rfl) rfl) rfl rfl (fun w c => sameLists_same (c.own_rd (i := 1) rfl) (c.own_rd (i := 0) rfl)) ?_; rintro v H' ⟨rfl, rfl⟩) | (refine m_call (ent_of Try.func24 (by kernel_rfl) rfl) rfl rfl (fun w c => spec_RankOf_ok (m := m) (c.own_rd (i := 5) rfl)) ?_; rintro v H' ⟨rfl, rfl⟩) | refine st_y (y_len tabs rfl rfl) rfl ?_)
         | (show AT _ _ _ (wpList _ _ _ (⟨_, Op.pick _ _ _, _, _, _, _⟩ :: _)); first | refine st_y (y_pickt rfl (by first | assumption | omega) rfl) rfl ?_ | refine st_y (y_pickf rfl (by first | assumption | omega) rfl) rfl ?_ | refine st_y (y_pick rfl rfl rfl) rfl ?_)
         | refine st_gy rfl rfl ?_ | refine st_gdy rfl rfl (by first | assumption | omega) ?_ | refine st_gdn rfl rfl (by first | assumption | omega) rfl ?_ | refine st_gd rfl rfl (fun h => ?_) (fun h => ?_) | refine st_gu rfl rfl rfl ?_)
      | (show AT _ _ _ (wpList _ _ _ []); refine c_nil ?_)
      | (show AT _ _ _ (Code.wp _ _ _); refine c_region ?_))
    all_goals exact x_mid (by repeat' (first | exact Sub.nil | refine Sub.cons rfl ?_ | refine Sub.consi rfl (by omega) ?_)) (fun w' c' => c'.sub (.cons _ (.cons _ (.cons_cons _ (.cons _ (List.Sublist.refl _))))))
  refine AT.cls (C' := Hp _ _ [.own (rowsT 22 (kerB p m)) (.slice a2 (kerB p m).length c2), .blk b1 #[iV m.1, iV m.2.1, .slice a m.2.2.length c] 46, .own (iT m.2.2) (.slice a m.2.2.length c)]) (fun w' c' => c'.sub (by repeat' first | exact List.Sublist.refl _ | exact List.nil_sublist _ | apply List.Sublist.cons_cons | apply List.Sublist.cons)) ?_
  as_aux_lemma =>
  refine AT.fact (rows_sl 0 rfl) (fun hsk => ?_)
  refine AT.opn 0 rfl (fun us hus => ?_)
  rw [rowT_map, List.length_map] at hus
  rw [rowT_map]
  refine c_loopH (α := Nat) [0, 3, 4, 7] (fun i => [(14, iV i)]) (fun i => i ≤ (kerB p m).length) (fun i => [.own (.s 22 1 (us.map T.c)) (.slice a2 (kerB p m).length c2), .ownL ((kerB p m).map iT) us, .blk b1 #[iV m.1, iV m.2.1, .slice a m.2.2.length c] 46, .own (iT m.2.2) (.slice a m.2.2.length c)]) (fun i => (kerB p m).length - i) 0 rfl (by repeat' (first | exact Sub.nil | refine Sub.cons rfl ?_ | refine Sub.consi rfl (by omega) ?_)) ?_ ?_ ?_
  · exact Nat.zero_le _
  · exact fun w' c' => c'
  · intro i hi
    by_cases hin : i < (kerB p m).length
    · have hM : MatP p m := Decidable.by_contra (fun h => by rw [kerB, if_neg h] at hin; simp at hin)
      obtain ⟨xs, hxs⟩ : ∃ xs, (kerB p m)[i]? = some xs := ⟨_, List.getElem?_eq_getElem hin⟩
      obtain ⟨uk, huk⟩ : ∃ uk, us[i]? = some uk := ⟨_, List.getElem?_eq_getElem (by omega)⟩
      have hti : ((kerB p m).map iT)[i]? = some (iT xs) := by rw [List.getElem?_map, hxs]; rfl
      obtain ⟨hA, hz⟩ := ker_row hM (List.mem_of_getElem? hxs)
      have hal := appX_len p m xs
      have hkl := elm1 hM
      repeat' (first
        | (show AT _ _ _ (wpList _ _ _ (_ :: _)); first
           | (show AT _ _ _ (wpList _ _ _ (⟨_, Op.move _, _, _, _, _⟩ :: _)); refine st_y (y_move rfl) rfl ?_)
           | (show AT _ _ _ (wpList _ _ _ (⟨_, Op.binOp _ _ _ _ _, _, _, _, _⟩ :: _)); refine st_y (y_lss rfl rfl) rfl ?_)
           | (show AT _ _ _ (wpList _ _ _ (⟨_, Op.call _, _, _, _, _⟩ :: _)); refine st_y (y_len tabs rfl rfl) rfl ?_))
        | (show AT _ _ _ (wpList _ _ _ []); refine c_nil (x_then ?_))
        | (show AT _ _ _ (Code.wp _ _ _); first | refine c_seq ?_ | refine c_region ?_ | refine c_skip (x_then ?_) | refine c_block ?_ | refine c_ift rfl (by first | assumption | omega) ?_))
      refine c_all (Hp [] w [.own (.s 22 1 (us.map T.c)) (.slice a2 (kerB p m).length c2), .ownL ((kerB p m).map iT) us, .blk b1 #[iV m.1, iV m.2.1, .slice a m.2.2.length c] 46, .own (iT m.2.2) (.slice a m.2.2.length c)]) (by kernel_rfl) (fun _ c => Hp.drew c) ?_
      refine h_take 0 rfl (by kernel_rfl) (by kernel_rfl) (by kernel_rfl) (by exact y_move rfl) rfl (fun _ c => c) ?_
      refine h_take 1 rfl (by kernel_rfl) (by kernel_rfl) (by kernel_rfl) (by exact y_loadb 2 tabs rfl rfl rfl rfl) rfl (fun _ c => c) ?_
      refine h_take 2 rfl (by kernel_rfl) (by kernel_rfl) (by kernel_rfl) (by exact y_move rfl) rfl (fun _ c => c) ?_
      refine h_take 3 rfl (by kernel_rfl) (by kernel_rfl) (by kernel_rfl) (by exact y_move rfl) rfl (fun _ c => c) ?_
      refine h_take 4 rfl (by kernel_rfl) (by kernel_rfl) (by kernel_rfl) (by exact y_ix1 tabs (j := i) rfl rfl rfl hsk rfl hin) rfl (fun _ c => c) ?_
      refine h_take 5 rfl (by kernel_rfl) (by kernel_rfl) (by kernel_rfl) (by exact y_load tabs rfl rfl (hc_nm 0 rfl huk)) rfl (fun _ c => c) ?_
      refine h_only 6 rfl (by kernel_rfl) ?_
      (refine m_call (ent_of Try.func25 (by kernel_rfl) rfl) rfl rfl (fun w c => impl_ApplyMatrix_ok (m := m) (c.own_rd (i := 3) rfl) (Hp.ownL_rd 1 rfl hti huk c)) ?_; rw [decide_eq_true hA]; rintro v H' ⟨ax, cx, rfl, hsx, rfl⟩)
      refine c_nil (x_one (h_keep (fun w c => by exact c.drop) ?_))
      refine h_take 7 rfl (by kernel_rfl) (by kernel_rfl) (by kernel_rfl) (by exact y_move rfl) rfl (fun w c => by exact c.drop) ?_
      refine h_take 8 rfl (by kernel_rfl) (by kernel_rfl) (by kernel_rfl) (by exact y_ext rfl rfl) rfl (fun w c => by exact c.drop) ?_
      refine h_take 9 rfl (by kernel_rfl) (by kernel_rfl) (by kernel_rfl) (by exact y_ext rfl rfl) rfl (fun w c => by exact c.drop) ?_
      refine h_take 10 rfl (by kernel_rfl) (by kernel_rfl) (by kernel_rfl) (by exact y_assign rfl) rfl (fun w c => by exact c.drop) ?_
      refine h_take 11 rfl (by kernel_rfl) (by kernel_rfl) (by kernel_rfl) (by exact y_assign rfl) rfl (fun w c => by exact c.drop) ?_
      refine h_end (by kernel_rfl) ?_
      repeat' (first
        | (show AT _ _ _ (wpList _ _ _ (_ :: _)); first
           | (show AT _ _ _ (wpList _ _ _ (⟨_, Op.move _, _, _, _, _⟩ :: _)); refine st_y (y_move rfl) rfl ?_)
           | (show AT _ _ _ (wpList _ _ _ (⟨_, Op.assign _, _, _, _, _⟩ :: _)); refine st_y (y_assign rfl) rfl ?_)
           | (show AT _ _ _ (wpList _ _ _ (⟨_, Op.binOp _ _ _ _ _, _, _, _, _⟩ :: _)); first | refine st_y (y_neqf rfl rfl (sum_zero hz)) rfl ?_ | refine st_y (y_add rfl rfl (by omega)) rfl ?_)
           | (show AT _ _ _ (wpList _ _ _ (⟨_, Op.unOp _ _ _, _, _, _, _⟩ :: _)); refine st_y (y_not rfl) rfl ?_)
           | (show AT _ _ _ (wpList _ _ _ (⟨_, Op.call _, _, _, _, _⟩ :: _)); (refine m_call (ent_of Try.func26 (by kernel_rfl) rfl) rfl rfl (fun w c => total_ok (xs := appX p m xs) (c.own_rd (i := 0) rfl) (by omega) (fun x hx => by rw [hz x hx]; omega)) ?_; rintro v H' ⟨rfl, rfl⟩))
           | (show AT _ _ _ (wpList _ _ _ (⟨_, Op.pick _ _ _, _, _, _, _⟩ :: _)); refine st_y (y_pick rfl rfl rfl) rfl ?_)
           | refine st_gy rfl rfl ?_)
        | (show AT _ _ _ (wpList _ _ _ []); refine c_nil (x_then ?_))
        | (show AT _ _ _ (Code.wp _ _ _); first | refine c_seq ?_ | refine c_region ?_ | refine c_skip (x_blk ?_) | refine c_false rfl ?_)
        | (show AT _ _ _ _; refine x_then ?_))
      exact x_nx (i + 1) (by repeat' (first | exact Sub.nil | refine Sub.cons rfl ?_ | refine Sub.consi rfl (by omega) ?_)) (by omega) (fun w' c' => c'.sub (.cons _ (List.Sublist.refl _))) (by omega)
    · skip
      refine AT.cls (C' := Hp _ _ []) (fun w' c' => c'.sub (by repeat' first | exact List.Sublist.refl _ | exact List.nil_sublist _ | apply List.Sublist.cons_cons | apply List.Sublist.cons)) ?_
      as_aux_lemma =>
      have : i = (kerB p m).length := by omega
      subst this
      repeat' (first
        | (show AT _ _ _ (wpList _ _ _ (_ :: _)); first
           | (show AT _ _ _ (wpList _ _ _ (⟨_, Op.move _, _, _, _, _⟩ :: _)); refine st_y (y_move rfl) rfl ?_)
           | (show AT _ _ _ (wpList _ _ _ (⟨_, Op.assign _, _, _, _, _⟩ :: _)); refine st_y (y_assign rfl) rfl ?_)
           | (show AT _ _ _ (wpList _ _ _ (⟨_, Op.load _ _, _, _, _, _⟩ :: _)); first | refine st_y (y_loadb 0 tabs rfl rfl rfl rfl) rfl ?_ | refine st_y (y_loadb 1 tabs rfl rfl rfl rfl) rfl ?_ | refine st_y (y_loadb 2 tabs rfl rfl rfl rfl) rfl ?_)
           | (show AT _ _ _ (wpList _ _ _ (⟨_, Op.binOp _ _ _ _ _, _, _, _, _⟩ :: _)); first | refine st_y (y_lss rfl rfl) rfl ?_ | refine st_y (y_neqb_same Try.underlying4 rfl rfl) rfl ?_)
           | (show AT _ _ _ (wpList _ _ _ (⟨_, Op.unOp _ _ _, _, _, _, _⟩ :: _)); refine st_y (y_not rfl) rfl ?_)
           | (show AT _ _ _ (wpList _ _ _ (⟨_, Op.call _, _, _, _, _⟩ :: _)); first | (refine m_call (ent_of Try.func27 (by kernel_rfl) rfl) rfl rfl (fun w c => DrawSolveSystem_ok (hp_code c hc)) ?_; rintro v H' ⟨q2, m2, d2, e2, vs, d3, e3, rfl, hm2, rfl⟩) | (refine m_call (ent_of Try.func28 (by kernel_rfl) rfl) rfl rfl (fun w c => impl_SolveSystem_ok (m := m2) (v := vs) (c.own_rd (i := 1) rfl) (c.own_rd (i := 2) rfl)) ?_; rintro v H' ⟨d4, e4, rfl, hsd4, rfl⟩) | (refine m_call (ent_of Try.func29 (by kernel_rfl) rfl) rfl rfl (fun w c => spec_SolveSystem_ok (m := m2) (v := vs) (c.own_rd (i := 2) rfl) (c.own_rd (i := 3) rfl)) ?_; rintro v H' ⟨d5, e5, rfl, hsd5, rfl⟩) | (refine m_call (ent_of Try.func30 (by kernel_rfl) rfl) rfl rfl (fun w c => sameInts_at (c.own_rd (i := 1) rfl) (c.own_rd (i := 0) rfl)) ?_; rintro v H' ⟨rfl, rfl⟩) | (refine m_call (ent_of Try.func31 (by kernel_rfl) rfl) rfl rfl (fun w c => DrawInverseOf_ok (hp_code c hc)) ?_; rintro v H' ⟨q3, m3, d6, e6, rfl, hm3, rfl⟩) | (refine m_call (ent_of Try.func32 (by kernel_rfl) rfl) rfl rfl (fun w c => impl_InverseOf_ok (m := m3) (c.own_rd (i := 1) rfl)) ?_; rintro v H' ⟨d7, e7, rfl, hsd7, rfl⟩) | (refine m_call (ent_of Try.func33 (by kernel_rfl) rfl) rfl rfl (fun w c => spec_InverseOf_ok (m := m3) (c.own_rd (i := 3) rfl)) ?_; rintro v H' ⟨d8, e8, rfl, hsd8, rfl⟩) | refine st_y (y_len tabs rfl rfl) rfl ?_)
           | (show AT _ _ _ (wpList _ _ _ (⟨_, Op.extract _ _, _, _, _, _⟩ :: _)); refine st_y (y_ext rfl rfl) rfl ?_)
           | (show AT _ _ _ (wpList _ _ _ (⟨_, Op.pick _ _ _, _, _, _, _⟩ :: _)); refine st_y (y_pick rfl rfl rfl) rfl ?_)
           | (show AT _ _ _ (wpList _ _ _ (⟨_, Op.store _ _ _, _, _, _, _⟩ :: _)); refine m_storeb 0 tabs rfl rfl rfl rfl rfl rfl rfl ?_)
           | (show AT _ _ _ (wpList _ _ _ (⟨_, Op.alloc _, _, _, _, _⟩ :: _)); refine m_alloc tabs rfl rfl (fun b2 hb2 => ?_))
           | refine st_gy rfl rfl ?_)
        | (show AT _ _ _ (wpList _ _ _ []); refine c_nil (x_then ?_))
        | (show AT _ _ _ (Code.wp _ _ _); first | refine c_cutc 184 [(0, u0)] (Hp [] w []) ?_ ?_ | refine c_seq ?_ | refine c_region ?_ | refine c_skip (x_then ?_) | refine c_exit ?_ | refine c_false rfl ?_ | refine c_iff rfl (by first | assumption | exact not_not_intro (by assumption) | omega) ?_)
        | (show AT _ _ _ _; first | refine x_then ?_ | refine x_then_exit ?_ | refine x_blk_exit rfl ?_))
      · refine hold ?_
        repeat' (first
          | (show AT _ _ _ (wpList _ _ _ (_ :: _)); first
             | (show AT _ _ _ (wpList _ _ _ (⟨_, Op.move _, _, _, _, _⟩ :: _)); refine st_y (y_move rfl) rfl ?_)
             | (show AT _ _ _ (wpList _ _ _ (⟨_, Op.assign _, _, _, _, _⟩ :: _)); refine st_y (y_assign rfl) rfl ?_)
             | (show AT _ _ _ (wpList _ _ _ (⟨_, Op.load _ _, _, _, _, _⟩ :: _)); refine st_y (y_loadb 2 tabs rfl rfl rfl rfl) rfl ?_)
             | (show AT _ _ _ (wpList _ _ _ (⟨_, Op.unOp _ _ _, _, _, _, _⟩ :: _)); refine st_y (y_not rfl) rfl ?_)
             | (show AT _ _ _ (wpList _ _ _ (⟨_, Op.call _, _, _, _, _⟩ :: _)); first | (refine m_call (ent_of Try.func25 (by kernel_rfl) rfl) rfl rfl (fun w c => impl_ApplyMatrix_ok (m := m2) (c.own_rd (i := 3) rfl) (c.own_rd (i := 0) rfl)) ?_; rw [(sol1 hS).2, decide_eq_true (sol1 hS).1]; rintro v H' ⟨d9, e9, rfl, hsd9, rfl⟩) | (refine m_call (ent_of Try.func30 (by kernel_rfl) rfl) rfl rfl (fun w c => sameInts_at (c.own_rd (i := 0) rfl) (c.own_rd (i := 5) rfl)) ?_; rintro v H' ⟨rfl, rfl⟩))
             | (show AT _ _ _ (wpList _ _ _ (⟨_, Op.extract _ _, _, _, _, _⟩ :: _)); refine st_y (y_ext rfl rfl) rfl ?_)
             | (show AT _ _ _ (wpList _ _ _ (⟨_, Op.pick _ _ _, _, _, _, _⟩ :: _)); refine st_y (y_pick rfl rfl rfl) rfl ?_)
             | refine st_gy rfl rfl ?_)
          | (show AT _ _ _ (wpList _ _ _ []); refine c_nil (x_then ?_))
          | (show AT _ _ _ (Code.wp _ _ _); first | refine c_ifb (x := .tmp 184) rfl (fun hS => ?_) (fun hS => ?_) | refine c_seq ?_ | refine c_region ?_ | refine c_skip ?_ | refine c_false rfl ?_))
        all_goals exact x_mid (by repeat' (first | exact Sub.nil | refine Sub.cons rfl ?_ | refine Sub.consi rfl (by omega) ?_)) (fun w' c' => c'.sub (List.nil_sublist _))
      · rename_i b27 hb27 b28 hb28
        refine AT.cls (C' := Hp _ _ [.blk b2 #[iV (invM2 q3 m3).1, iV (invM2 q3 m3).2.1, .slice d8 (invM2 q3 m3).2.2.length e8] 46, .own (iT (invM2 q3 m3).2.2) (.slice d8 (invM2 q3 m3).2.2.length e8), .blk b28 #[iV (invM2 q3 m3).1, iV (invM2 q3 m3).2.1, .slice d7 (invM2 q3 m3).2.2.length e7] 46, .own (iT (invM2 q3 m3).2.2) (.slice d7 (invM2 q3 m3).2.2.length e7), .blk b27 #[iV m3.1, iV m3.2.1, .slice d6 m3.2.2.length e6] 46, .own (iT m3.2.2) (.slice d6 m3.2.2.length e6)]) (fun w' c' => c'.sub (by repeat' first | exact List.Sublist.refl _ | exact List.nil_sublist _ | apply List.Sublist.cons_cons | apply List.Sublist.cons)) ?_
        repeat' (first
          | (show AT _ _ _ (wpList _ _ _ (_ :: _)); first
             | (show AT _ _ _ (wpList _ _ _ (⟨_, Op.move _, _, _, _, _⟩ :: _)); refine st_y (y_move rfl) rfl ?_))
          | (show AT _ _ _ (wpList _ _ _ []); refine c_nil (x_then ?_))
          | (show AT _ _ _ (Code.wp _ _ _); first | refine c_cutc 242 [(0, u0)] (Hp [] w []) ?_ ?_ | refine c_seq ?_ | refine c_region ?_ | refine c_skip (x_then ?_) | refine c_draw (by kernel_rfl) (by kernel_rfl) (fun _ c => Hp.drew c) ?_ | refine c_false rfl ?_)
          | (show QT _ _ _ _ _ _ (_ :: _); first
             | (show QT _ _ _ _ _ _ (⟨_, Op.move _, _, _, _, _⟩ :: _); refine q_y (y_move rfl) rfl ?_)
             | (show QT _ _ _ _ _ _ (⟨_, Op.load _ _, _, _, _, _⟩ :: _); first | refine q_y (y_loadb 4 tabs rfl rfl rfl rfl) rfl ?_ | refine q_y (y_loadb 0 tabs rfl rfl rfl rfl) rfl ?_ | refine q_y (y_loadb 2 tabs rfl rfl rfl rfl) rfl ?_)
             | (show QT _ _ _ _ _ _ (⟨_, Op.binOp _ _ _ _ _, _, _, _, _⟩ :: _); refine q_y (y_neqb_same Try.underlying4 rfl rfl) rfl ?_)
             | (show QT _ _ _ _ _ _ (⟨_, Op.unOp _ _ _, _, _, _, _⟩ :: _); refine q_y (y_not rfl) rfl ?_)
             | (show QT _ _ _ _ _ _ (⟨_, Op.call _, _, _, _, _⟩ :: _); first | refine q_call (ent_of Try.func34 (by kernel_rfl) rfl) rfl rfl (fun w c => spec_EqM_same (m := invM2 q3 m3) (c.own_rd (i := 3) rfl) (c.own_rd (i := 1) rfl)) (fun u H' h => h.1) ?_ | refine q_call (ent_of Try.func35 (by kernel_rfl) rfl) rfl rfl (fun w c => impl_IsInvertible_ok (m := m3) (c.own_rd (i := 5) rfl)) (fun u H' h => h.1) ?_ | refine q_call (ent_of Try.func36 (by kernel_rfl) rfl) rfl rfl (fun w c => impl_IsNilpotent_ok (m := m3) (c.own_rd (i := 5) rfl)) (fun u H' h => h.1) ?_ | refine q_call (ent_of Try.func37 (by kernel_rfl) rfl) rfl rfl (fun w c => spec_IsNilpotent_ok (m := m3) (c.own_rd (i := 5) rfl)) (fun u H' h => h.1) ?_)
             | (show QT _ _ _ _ _ _ (⟨_, Op.pick _ _ _, _, _, _, _⟩ :: _); refine q_y (y_pick rfl rfl rfl) rfl ?_)
             | refine q_gy rfl rfl ?_)
          | (show QT _ _ _ _ _ _ []; refine q_nil (x_then ?_)))
        · refine hold ?_
          repeat' (first
            | (show AT _ _ _ (wpList _ _ _ (_ :: _)); first
               | (show AT _ _ _ (wpList _ _ _ (⟨_, Op.move _, _, _, _, _⟩ :: _)); refine st_y (y_move rfl) rfl ?_)
               | (show AT _ _ _ (wpList _ _ _ (⟨_, Op.assign _, _, _, _, _⟩ :: _)); refine st_y (y_assign rfl) rfl ?_)
               | (show AT _ _ _ (wpList _ _ _ (⟨_, Op.fieldAddr _ _ _, _, _, _, _⟩ :: _)); refine st_y (y_field tabs rfl rfl rfl) rfl ?_)
               | (show AT _ _ _ (wpList _ _ _ (⟨_, Op.load _ _, _, _, _, _⟩ :: _)); first | refine st_y (y_loadb 4 tabs rfl rfl rfl rfl) rfl ?_ | refine st_y (y_loadb 6 tabs rfl rfl rfl rfl) rfl ?_ | refine st_y (y_loadb 10 tabs rfl rfl rfl rfl) rfl ?_ | refine st_y (y_load tabs rfl rfl (hc_blk 8 rfl rfl)) rfl ?_ | refine st_y (y_load tabs rfl rfl (hc_blk 10 rfl rfl)) rfl ?_ | refine st_y (y_loadb 0 tabs rfl rfl rfl rfl) rfl ?_ | refine st_y (y_loadb 2 tabs rfl rfl rfl rfl) rfl ?_)
               | (show AT _ _ _ (wpList _ _ _ (⟨_, Op.binOp _ _ _ _ _, _, _, _, _⟩ :: _)); refine st_y (y_gtr rfl rfl) rfl ?_)
               | (show AT _ _ _ (wpList _ _ _ (⟨_, Op.unOp _ _ _, _, _, _, _⟩ :: _)); refine st_y (y_not rfl) rfl ?_)
               | (show AT _ _ _ (wpList _ _ _ (⟨_, Op.call _, _, _, _, _⟩ :: _)); first | (refine m_call (ent_of Try.func38 (by kernel_rfl) rfl) rfl rfl (fun w c => impl_MultiplyMatrices_ok (a := m3) (b := invM2 q3 m3) (c.own_rd (i := 5) rfl) (c.own_rd (i := 1) rfl)) ?_; rw [(inv1 hI).2.1, decide_eq_true (inv1 hI).1]; rintro v H' ⟨f1, g1, rfl, hsf1, rfl⟩) | (refine m_call (ent_of Try.func38 (by kernel_rfl) rfl) rfl rfl (fun w c => impl_MultiplyMatrices_ok (a := invM2 q3 m3) (b := m3) (c.own_rd (i := 3) rfl) (c.own_rd (i := 7) rfl)) ?_; rw [(inv1 hI).2.2.2.1, decide_eq_true (inv1 hI).2.2.1]; rintro v H' ⟨f2, g2, rfl, hsf2, rfl⟩) | (refine m_call (ent_of Try.func39 (by kernel_rfl) rfl) rfl rfl (fun w c => spec_IdentityMatrix_ok (n := m3.1)) ?_; rw [decide_eq_true (inv1 hI).2.2.2.2.2]; rintro v H' ⟨f3, g3, rfl, hsf3, rfl⟩) | (refine m_call (ent_of Try.func34 (by kernel_rfl) rfl) rfl rfl (fun w c => spec_EqM_same (m := idnM m3.1) (c.own_rd (i := 5) rfl) (c.own_rd (i := 1) rfl)) ?_; rintro v H' ⟨rfl, rfl⟩) | (refine m_call (ent_of Try.func34 (by kernel_rfl) rfl) rfl rfl (fun w c => spec_EqM_same (m := idnM m3.1) (c.own_rd (i := 3) rfl) (c.own_rd (i := 1) rfl)) ?_; rintro v H' ⟨rfl, rfl⟩) | (refine m_call (ent_of Try.func36 (by kernel_rfl) rfl) rfl rfl (fun w c => impl_IsNilpotent_ok (m := m3) (c.own_rd (i := 11) rfl)) ?_; rw [(inv1 hI).2.2.2.2.1 (by assumption)]; rintro v H' ⟨rfl, rfl⟩))
               | (show AT _ _ _ (wpList _ _ _ (⟨_, Op.extract _ _, _, _, _, _⟩ :: _)); refine st_y (y_ext rfl rfl) rfl ?_)
               | (show AT _ _ _ (wpList _ _ _ (⟨_, Op.pick _ _ _, _, _, _, _⟩ :: _)); first | refine st_y (y_pickt rfl (by first | assumption | omega) rfl) rfl ?_ | refine st_y (y_pickf rfl (by first | assumption | omega) rfl) rfl ?_ | refine st_y (y_pick rfl rfl rfl) rfl ?_)
               | (show AT _ _ _ (wpList _ _ _ (⟨_, Op.store _ _ _, _, _, _, _⟩ :: _)); refine m_storeb 0 tabs rfl rfl rfl rfl rfl rfl rfl ?_)
               | (show AT _ _ _ (wpList _ _ _ (⟨_, Op.alloc _, _, _, _, _⟩ :: _)); refine m_alloc tabs rfl rfl (fun b5 hb5 => ?_))
               | refine st_gy rfl rfl ?_ | refine st_gdy rfl rfl (by first | assumption | omega) ?_ | refine st_gdn rfl rfl (by first | assumption | omega) rfl ?_ | refine st_gd rfl rfl (fun h => ?_) (fun h => ?_))
            | (show AT _ _ _ (wpList _ _ _ []); refine c_nil (x_then ?_))
            | (show AT _ _ _ (Code.wp _ _ _); first | refine c_if (x := .tmp 242) rfl (fun hI => ?_) (fun hI => ?_) | refine c_seq ?_ | refine c_region ?_ | refine c_skip ?_ | refine c_false rfl ?_))
          all_goals exact x_mid (by repeat' (first | exact Sub.nil | refine Sub.cons rfl ?_ | refine Sub.consi rfl (by omega) ?_)) (fun w' c' => c'.sub (List.nil_sublist _))
        · skip
          repeat' (first
            | (show AT _ _ _ (wpList _ _ _ (_ :: _)); first
               | (show AT _ _ _ (wpList _ _ _ (⟨_, Op.move _, _, _, _, _⟩ :: _)); refine st_y (y_move rfl) rfl ?_)
               | (show AT _ _ _ (wpList _ _ _ (⟨_, Op.assign _, _, _, _, _⟩ :: _)); refine st_y (y_assign rfl) rfl ?_)
               | (show AT _ _ _ (wpList _ _ _ (⟨_, Op.load _ _, _, _, _, _⟩ :: _)); first | refine st_y (y_loadb 6 tabs rfl rfl rfl rfl) rfl ?_ | refine st_y (y_loadb 9 tabs rfl rfl rfl rfl) rfl ?_ | refine st_y (y_loadb 0 tabs rfl rfl rfl rfl) rfl ?_ | refine st_y (y_loadb 2 tabs rfl rfl rfl rfl) rfl ?_ | refine st_y (y_loadb 3 tabs rfl rfl rfl rfl) rfl ?_)
               | (show AT _ _ _ (wpList _ _ _ (⟨_, Op.binOp _ _ _ _ _, _, _, _, _⟩ :: _)); refine st_y (y_eqlb_same Try.underlying4 rfl rfl) rfl ?_)
               | (show AT _ _ _ (wpList _ _ _ (⟨_, Op.call _, _, _, _, _⟩ :: _)); first | (refine m_call (ent_of Try.func40 (by kernel_rfl) rfl) rfl rfl (fun w c => DrawRowReduce_ok (hp_code c hc)) ?_; rintro v H' ⟨q4, m4, f4, g4, rfl, hm4, rfl⟩) | (refine m_call (ent_of Try.func41 (by kernel_rfl) rfl) rfl rfl (fun w c => impl_RowReduce_ok (m := m4) (c.own_rd (i := 1) rfl)) ?_; rintro v H' ⟨f5, g5, f6, g6, rfl, hsf5, hsf6, rfl⟩) | (refine m_call (ent_of Try.func42 (by kernel_rfl) rfl) rfl rfl (fun w c => spec_RowReduce_ok (m := m4) (c.own_rd (i := 4) rfl)) ?_; rintro v H' ⟨f7, g7, f8, g8, rfl, hsf7, hsf8, rfl⟩) | (refine m_call (ent_of Try.func43 (by kernel_rfl) rfl) rfl rfl (fun w c => DrawPowerOf_ok (hp_code c hc)) ?_; rintro v H' ⟨q5, m5, f9, g9, n5, rfl, hm5, rfl⟩) | (refine m_call (ent_of Try.func44 (by kernel_rfl) rfl) rfl rfl (fun w c => impl_PowerOf_ok (m := m5) (n := n5) (c.own_rd (i := 1) rfl)) ?_; rintro v H' ⟨f10, g10, rfl, hsf10, rfl⟩) | (refine m_call (ent_of Try.func45 (by kernel_rfl) rfl) rfl rfl (fun w c => spec_PowerOf_ok (m := m5) (n := n5) (c.own_rd (i := 3) rfl)) ?_; rintro v H' ⟨f11, g11, rfl, hsf11, rfl⟩) | (refine m_call (ent_of Try.func34 (by kernel_rfl) rfl) rfl rfl (fun w c => spec_EqM_same (m := rrM q4 m4) (c.own_rd (i := 11) rfl) (c.own_rd (i := 8) rfl)) ?_; rintro v H' ⟨rfl, rfl⟩) | (refine m_call (ent_of Try.func30 (by kernel_rfl) rfl) rfl rfl (fun w c => sameInts_at (c.own_rd (i := 10) rfl) (c.own_rd (i := 7) rfl)) ?_; rintro v H' ⟨rfl, rfl⟩) | (refine m_call (ent_of Try.func34 (by kernel_rfl) rfl) rfl rfl (fun w c => spec_EqM_same (m := pwM q5 m5 n5) (c.own_rd (i := 3) rfl) (c.own_rd (i := 1) rfl)) ?_; rintro v H' ⟨rfl, rfl⟩))
               | (show AT _ _ _ (wpList _ _ _ (⟨_, Op.extract _ _, _, _, _, _⟩ :: _)); refine st_y (y_ext rfl rfl) rfl ?_)
               | (show AT _ _ _ (wpList _ _ _ (⟨_, Op.pick _ _ _, _, _, _, _⟩ :: _)); refine st_y (y_pick rfl rfl rfl) rfl ?_)
               | (show AT _ _ _ (wpList _ _ _ (⟨_, Op.store _ _ _, _, _, _, _⟩ :: _)); refine m_storeb 0 tabs rfl rfl rfl rfl rfl rfl rfl ?_)
               | (show AT _ _ _ (wpList _ _ _ (⟨_, Op.alloc _, _, _, _, _⟩ :: _)); refine m_alloc tabs rfl rfl (fun b6 hb6 => ?_))
               | refine st_gy rfl rfl ?_)
            | (show AT _ _ _ (wpList _ _ _ []); refine c_nil (x_then ?_))
            | (show AT _ _ _ (Code.wp _ _ _); first | refine c_seq ?_ | refine c_region ?_ | refine c_ret ?_))
          exact x_ret1 Try.results4 (res_tmp rfl) (fun w' c' => ⟨_, _, rfl, ⟨rfl, rfl⟩, c'.sub (List.nil_sublist _)⟩)
set_option maxRecDepth 100000 in
theorem lifted (os : Os) (started : os.Started) (H : Type) (enc : TypeId × Value → H) :
    ReturnsInHanded {} Try.checked os 4 .any (Rows.fnEliminationSpec.pre6 enc Try.prog Try.f4 Rows.fnEliminationRow.domain false) (Rows.fnEliminationSpec.post enc Try.prog Try.f4 false true false false) := by
  refine returnsInHanded_of_change (C := Try.checked) Try.own started (by kernel_rfl) Try.func4
    (ChangeSpec.witness6 (enc := enc) (C := Try.checked) false ⟨#[], #[.slice none 0 0], []⟩ 16 (by kernel_rfl) (by kernel_rfl) (by kernel_rfl) (by kernel_rfl)) ?_
  intro W base args ds gs before hval0 hW hcnd _
  have hval : ∀ (j : Nat) t v, Try.f4.params[j]? = some t → args[j]? = some v → Value.okWide Try.prog W .any base t v := hval0
  have hW' := hW
  obtain ⟨p, q, hA0, hV, rfl, hfz, hnd⟩ := hW
  have hA : DataW.TrodAll enc Try.prog W 0 (fun _ => true) true Try.f4.params.toList args.toList ds p := hA0
  rw [Try.params4] at hA hval
  obtain ⟨v0, vs0, d0, ds0, p0, q0, hargs, rfl, rfl, k0, r0⟩ := trodAll_cons hA
  obtain ⟨rfl, rfl, rfl⟩ := trodAll_nil r0
  obtain rfl : args = #[v0] := by cases args; simp_all
  obtain ⟨rfl, rfl⟩ := trodVars_none hV
  have lt0 : ∀ x ∈ p0, x.block < W.heap.size := by obtain ⟨m, hm⟩ := k0; exact DataW.trod_lt m _ _ _ hm
  obtain ⟨x0, h0, g0⟩ := opn_bytes (hval 0 43 v0 rfl rfl) k0
  clear hA0 hval0
  refine (law_ok W h0 g0).mono fun e W' ⟨v, H', he, ⟨hv, _⟩, hp⟩ => ?_
  subst he; subst hv
  have bel := hp.below
  exact ⟨_, rfl, _, _, _, [], _, [], hW', trodAll_mk1 (shut_bool Try.underlying4 _), (trodAll_cons_mk (Below.trod Try.laidOut (by kernel_rfl) (of_decide_eq_true (by kernel_rfl)) k0 bel lt0) trodAll_mk0), rfl, bel.frame _, fun h => by cases h⟩

theorem closed : joinedFacts Try.pinned.checked.prog 4 Try.f4 Rows.fnEliminationSpec Rows.fnEliminationRow = true := by
  unfold joinedFacts
  repeat' (with_reducible refine band ?_ ?_)
  all_goals first | (with_reducible exact fin_enter) | ((with_reducible refine fin_lifted ?_); rfl) | ((with_reducible refine fin_make ?_); rfl) | (as_aux_lemma => kernel_rfl)
/-- the given statement -/
theorem proved : Rows.FnEliminationSaid :=
  OpenClaim.holds_of_wide 4 Try.f4 rfl rfl rfl rfl rfl rfl rfl ⟨rfl, rfl, rfl, rfl, rfl⟩ rfl rfl rfl rfl rfl (by kernel_rfl) Try.func4 closed
    (of_decide_eq_true (by kernel_rfl)) (by unfold Func.isWrapper; first | (rw [if_pos (by decide +kernel)]; kernel_rfl) | (rw [if_neg (by decide +kernel)]; exact ⟨rfl, rfl⟩))
    (fun os started H enc _ => lifted os started H enc)
#print axioms proved
end Go.Proofs.Ytljgmmmgnfgbhaa.wFnElimination
