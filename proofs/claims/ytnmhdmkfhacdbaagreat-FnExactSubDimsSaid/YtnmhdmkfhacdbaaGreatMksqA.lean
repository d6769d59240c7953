import Derived.Test.YtnmhdmkfhacdbaaGreatMrkqA
import Derived.Test.YtnmhdmkfhacdbaaGreatSpaqA
namespace Go.Proofs.YtnmhdmkfhacdbaaGreat
open Go.Lg Go.Proofs Go.RowKit
attribute [local irreducible] Code.wp wpList bodyPost Exit.then Exit.inBlock Hp Again Calls Y AT ResV QT Qn QI wpAny wpAnyQ
set_option maxRecDepth 20000
set_option maxHeartbeats 4000000

theorem nT_rows (e : Nat) (rs : List (List Int)) : nT (rowsT e rs) ≤ (szRows rs : Nat) := by
  have key : ∀ l : List (List Int), nL (l.map iT) = (l.map List.length).sum := fun l => by
    induction l with
    | nil => simp [nL]
    | cons m l ih => rw [List.map_cons, nL, ih, nT_ints, List.map_cons, List.sum_cons]; omega
  simp only [nT, rowT_map, szL]
  rw [key]
  omega
theorem markSps_ok {w1 : World} {M1 : List Nat} {H1 : List HE} {w : World} {M' : List Nat} {e : Nat} {ms : List Sp} {v : Value} {k : Int} (hl : LentL M1 w1 [.own (spsT e ms) v] H1 M' w) (h0 : 0 ≤ k) (hb : k + nT (spsT e ms) ≤ 4611686018427387904) :
    DoesB Tryz.prog 14 [v, iV k] w M' (fun r H => r = iV (k + nT (spsT e ms)) ∧ H = [.own (mkT k (spsT e ms)) v]) := by
  obtain ⟨a, n0, c, rfl, hs, hc1, hc2, hlen, _⟩ := Rd.open (by decide) hl.rd
  have hn0 : n0 = ms.length := by rw [flatMap_length spT_length] at hlen; omega
  subst hn0
  have hmx : ms.length ≤ 9223372036854775807 := by unfold maxLen at hc2; omega
  simp only [mkT, nT] at *
  refine fnb_lentL Tryz.func14 rfl Tryz.ntmps14 rfl hl ?_
  by_cases hn : 0 < ms.length
  · refine AT.openS (by omega) (fun g cur us h1 h2 h3 h4 h5 h6 h7 => ?_)
    subst h1; subst h2
    repeat' (first
      | (show AT _ _ _ (wpList _ _ _ (_ :: _)); first
         | (show AT _ _ _ (wpList _ _ _ (⟨_, Op.assign _, _, _, _, _⟩ :: _)); refine st_y (y_assign rfl) rfl ?_))
      | (show AT _ _ _ (wpList _ _ _ []); refine c_nil (x_then ?_))
      | (show AT _ _ _ (Code.wp _ _ _); first | refine c_seq ?_ | refine c_region ?_ | refine c_block ?_))
    refine c_loopH (α := Nat × Array Value) [0] (fun q => [(1, iV (k + nL ((ms.flatMap spT).take (q.1 * 2)))), (5, .int .i64 q.1)]) (fun q => q.1 ≤ ms.length ∧ q.2.size = c * 2) (fun q => [.ownL (mkTo k (ms.flatMap spT) (q.1 * 2)) (q.2.toList.take (ms.length * 2)), .blk g q.2 e]) (fun q => ms.length - q.1) (0, cur) rfl (by repeat' (first | exact Sub.nil | refine Sub.cons rfl ?_ | refine Sub.consi rfl (by first | omega | (simp [nL]; done) | (rw [Int.add_assoc]; omega)) ?_)) ?_ ?_ ?_
    · exact ⟨Nat.zero_le _, h7⟩
    · intro w' c'
      simp only [Nat.zero_mul]
      rw [mkTo_zero]
      exact c'
    · rintro ⟨i, cur⟩ ⟨hi, hcs⟩
      simp only at hi hcs ⊢
      by_cases hin : i < ms.length
      · obtain ⟨m, hm⟩ : ∃ m, ms[i]? = some m := ⟨_, List.getElem?_eq_getElem hin⟩
        have g0 : (ms.flatMap spT)[i * 2 + 0]? = some (.c (iV m.1)) := by rw [flatMap_get spT_length hm (by omega)]; rfl
        have x0 : nL ((ms.flatMap spT).take (i * 2 + 1)) = nL ((ms.flatMap spT).take (i * 2 + 0)) + 1 := by
          have := nL_next g0
          simpa only [nT] using this
        have l0 := nL_le (ms.flatMap spT) (i * 2 + 1)
        have y0 : (mkTo k (ms.flatMap spT) (i * 2 + 0))[i * 2 + 0]? = some (.c (iV m.1)) := mkTo_get g0
        have g1 : (ms.flatMap spT)[i * 2 + 1]? = some (rowsT 22 m.2) := by rw [flatMap_get spT_length hm (by omega)]; rfl
        have x1 : nL ((ms.flatMap spT).take (i * 2 + 2)) = nL ((ms.flatMap spT).take (i * 2 + 1)) + nT (rowsT 22 m.2) := by
          have := nL_next g1
          exact this
        have l1 := nL_le (ms.flatMap spT) (i * 2 + 2)
        have y1 : (mkTo k (ms.flatMap spT) (i * 2 + 1))[i * 2 + 1]? = some (rowsT 22 m.2) := mkTo_get g1
        have hp0 := nL_pos ((ms.flatMap spT).take (i * 2 + 0))
        simp only [Nat.add_zero] at g0 x0 l0 y0 hp0
        have hq : i * 2 + 2 ≤ ms.length * 2 := by omega
        have hqc : i * 2 + 2 ≤ cur.size := by rw [hcs]; have := Nat.mul_le_mul_right 2 h5; omega
        have e0 : (mkTo k (ms.flatMap spT) (i * 2)).set (i * 2) (.c (iV (k + nL ((ms.flatMap spT).take (i * 2))))) = mkTo k (ms.flatMap spT) (i * 2 + 1) := by
          have := mkTo_next (k := k) (a := (ms.flatMap spT)) (q := i * 2) (by first | exact g0 | simpa using g0)
          rw [← this]
          simp only [mkT]
        obtain ⟨u, hu⟩ : ∃ u, cur[i * 2 + 1]? = some u := ⟨_, Array.getElem?_eq_getElem (by omega)⟩
        have hut : (cur.toList.take (ms.length * 2))[i * 2 + 1]? = some u := by rw [List.getElem?_take, if_pos (by omega)]; simpa using hu
        have hp1 := nT_pos (rowsT 22 m.2)
        have zz : k + nL ((ms.flatMap spT).take (i * 2)) + 1 = k + nL ((ms.flatMap spT).take (i * 2 + 1)) := by omega
        have e1 : (mkTo k (ms.flatMap spT) (i * 2 + 1)).set (i * 2 + 1) (mkT (k + nL ((ms.flatMap spT).take (i * 2)) + 1) (rowsT 22 m.2)) = mkTo k (ms.flatMap spT) ((i + 1) * 2) := by
          rw [zz, mkTo_next g1]
          congr 1 <;> omega
        have hkk : k + nL ((ms.flatMap spT).take (i * 2)) + 1 + nT (rowsT 22 m.2) = k + nL ((ms.flatMap spT).take ((i + 1) * 2)) := by
          rw [show (i + 1) * 2 = i * 2 + 2 by omega]
          omega
        have hl1 := nL_le (ms.flatMap spT) ((i + 1) * 2)
        repeat' (first
          | (show AT _ _ _ (wpList _ _ _ (_ :: _)); first
             | (show AT _ _ _ (wpList _ _ _ (⟨_, Op.move _, _, _, _, _⟩ :: _)); refine st_y (y_move rfl) rfl ?_)
             | (show AT _ _ _ (wpList _ _ _ (⟨_, Op.assign _, _, _, _, _⟩ :: _)); refine st_y (y_assign rfl) rfl ?_)
             | (show AT _ _ _ (wpList _ _ _ (⟨_, Op.fieldAddr _ _ _, _, _, _, _⟩ :: _)); refine st_y (y_field tabs rfl rfl rfl) rfl ?_)
             | (show AT _ _ _ (wpList _ _ _ (⟨_, Op.load _ _, _, _, _, _⟩ :: _)); refine st_y (y_load tabs rfl rfl (hc_blk 1 rfl (by rw [Array.getElem?_setIfInBounds_ne (by omega)]; exact hu))) rfl ?_)
             | (show AT _ _ _ (wpList _ _ _ (⟨_, Op.indexAddr _ _ _, _, _, _, _⟩ :: _)); refine st_y (y_ix0 tabs (j := i) rfl rfl rfl rfl hin) rfl ?_)
             | (show AT _ _ _ (wpList _ _ _ (⟨_, Op.binOp _ _ _ _ _, _, _, _, _⟩ :: _)); first | refine st_y (y_add rfl rfl (by omega)) rfl ?_ | refine st_y (y_lss rfl rfl) rfl ?_)
             | (show AT _ _ _ (wpList _ _ _ (⟨_, Op.call _, _, _, _, _⟩ :: _)); first | (refine m_callE (i * 2 + 1) (t2 := mkT (k + nL ((ms.flatMap spT).take (i * 2)) + 1) (rowsT 22 m.2)) (ψ := fun r => r = iV (k + nL ((ms.flatMap spT).take (i * 2)) + 1 + nT (rowsT 22 m.2))) (ent_of Tryz.func33 (by kernel_rfl) rfl) rfl rfl (by rw [e0]; exact y1) (by rw [List.getElem?_set_ne (by omega)]; exact hut) (fun w M' hl => markRows_ok hl (by omega) (by omega)) ?_; rintro v rfl) | refine st_y (y_len tabs rfl rfl) rfl ?_)
             | (show AT _ _ _ (wpList _ _ _ (⟨_, Op.store _ _ _, _, _, _, _⟩ :: _)); refine m_storeE (q := i * 2) tabs rfl rfl rfl rfl (y0) (by first | omega | (simp only [Array.size_setIfInBounds]; omega)) ?_))
          | (show AT _ _ _ (wpList _ _ _ []); first | refine c_nil (x_then ?_) | refine c_nil ?_)
          | (show AT _ _ _ (Code.wp _ _ _); first | refine c_seq ?_ | refine c_region ?_ | refine c_skip (x_then ?_) | refine c_block ?_ | refine c_ift rfl (by first | assumption | omega) ?_)
          | (show AT _ _ _ _; first | refine x_then ?_ | refine x_blk ?_))
        refine x_nx (i + 1, cur.setIfInBounds (i * 2) (iV (k + nL ((ms.flatMap spT).take (i * 2))))) (by repeat' (first | exact Sub.nil | refine Sub.cons rfl ?_ | refine Sub.consi rfl (by first | omega | (simp [nL]; done) | (rw [← hkk]; omega)) ?_)) ⟨by simp only; omega, by simp only [Array.size_setIfInBounds]; exact hcs⟩ (fun w' c' => ?_) (by simp only; omega)
        rw [e0, e1] at c'
        simp only [Array.toList_setIfInBounds, List.take_set] at c' ⊢
        exact c'
      · have : i = ms.length := by omega
        subst this
        repeat' (first
          | (show AT _ _ _ (wpList _ _ _ (_ :: _)); first
             | (show AT _ _ _ (wpList _ _ _ (⟨_, Op.move _, _, _, _, _⟩ :: _)); refine st_y (y_move rfl) rfl ?_)
             | (show AT _ _ _ (wpList _ _ _ (⟨_, Op.assign _, _, _, _, _⟩ :: _)); refine st_y (y_assign rfl) rfl ?_)
             | (show AT _ _ _ (wpList _ _ _ (⟨_, Op.binOp _ _ _ _ _, _, _, _, _⟩ :: _)); refine st_y (y_lss rfl rfl) rfl ?_)
             | (show AT _ _ _ (wpList _ _ _ (⟨_, Op.call _, _, _, _, _⟩ :: _)); refine st_y (y_len tabs rfl rfl) rfl ?_))
          | (show AT _ _ _ (wpList _ _ _ []); refine c_nil (x_then ?_))
          | (show AT _ _ _ (Code.wp _ _ _); first | refine c_seq ?_ | refine c_region ?_ | refine c_ret ?_ | refine c_exit ?_ | refine c_iff rfl (by first | assumption | exact not_not_intro (by assumption) | omega) ?_)
          | (show AT _ _ _ _; first | refine x_then ?_ | refine x_then_exit ?_ | refine x_blk_exit rfl ?_))
        refine x_ret1 Tryz.results14 (res_tmp rfl) (fun w' c' => ⟨_, _, rfl, ⟨by rw [List.take_of_length_le (by omega)], rfl⟩, ?_⟩)
        rw [mkTo_end (by omega)] at c'
        exact c'.shutS (m := ms.length) (c := c) rfl (by simpa using h4) h5 h6 hcs
  · have hr0 : ms = [] := List.length_eq_zero_iff.1 (by omega)
    subst hr0
    repeat' (first
      | (show AT _ _ _ (wpList _ _ _ (_ :: _)); first
         | (show AT _ _ _ (wpList _ _ _ (⟨_, Op.assign _, _, _, _, _⟩ :: _)); refine st_y (y_assign rfl) rfl ?_))
      | (show AT _ _ _ (wpList _ _ _ []); refine c_nil (x_then ?_))
      | (show AT _ _ _ (Code.wp _ _ _); first | refine c_seq ?_ | refine c_region ?_ | refine c_block ?_))
    refine c_loopH (α := Nat) [0] (fun i => [(1, iV k), (5, .int .i64 0)]) (fun i => True) (fun i => [.own (spsT e []) (.slice a 0 c)]) (fun i => i) 0 rfl (by repeat' (first | exact Sub.nil | refine Sub.cons rfl ?_ | refine Sub.consi rfl (by omega) ?_)) ?_ ?_ ?_
    · trivial
    · exact fun w' c' => c'
    · intro i hi
      repeat' (first
        | (show AT _ _ _ (wpList _ _ _ (_ :: _)); first
           | (show AT _ _ _ (wpList _ _ _ (⟨_, Op.move _, _, _, _, _⟩ :: _)); refine st_y (y_move rfl) rfl ?_)
           | (show AT _ _ _ (wpList _ _ _ (⟨_, Op.assign _, _, _, _, _⟩ :: _)); refine st_y (y_assign rfl) rfl ?_)
           | (show AT _ _ _ (wpList _ _ _ (⟨_, Op.binOp _ _ _ _ _, _, _, _, _⟩ :: _)); refine st_y (y_lss rfl rfl) rfl ?_)
           | (show AT _ _ _ (wpList _ _ _ (⟨_, Op.call _, _, _, _, _⟩ :: _)); refine st_y (y_len tabs rfl rfl) rfl ?_))
        | (show AT _ _ _ (wpList _ _ _ []); refine c_nil (x_then ?_))
        | (show AT _ _ _ (Code.wp _ _ _); first | refine c_seq ?_ | refine c_region ?_ | refine c_ret ?_ | refine c_exit ?_ | refine c_false rfl ?_)
        | (show AT _ _ _ _; first | refine x_then ?_ | refine x_then_exit ?_ | refine x_blk_exit rfl ?_))
      refine x_ret1 Tryz.results14 (res_tmp rfl) (fun w' c' => ⟨_, _, rfl, ⟨by simp [nL], rfl⟩, ?_⟩)
      exact c'
theorem nT_sps (e : Nat) (l : List Sp) : nT (spsT e l) ≤ 2 * (szL (fun s : Sp => szRows s.2) l : Nat) := by
  have key : ∀ l : List Sp, nL (l.flatMap spT) ≤ l.length + 2 * (l.map (fun s : Sp => szRows s.2)).sum := fun l => by
    induction l with
    | nil => simp [nL]
    | cons m l ih =>
      have h1 : nL (spT m) ≤ 1 + szRows m.2 := by
        have := nT_rows 22 m.2
        simp only [spT, nL, nT] at this ⊢
        omega
      rw [List.flatMap_cons, nL_append, List.map_cons, List.sum_cons, List.length_cons]
      omega
  have := key l
  simp only [nT]
  show _ ≤ 2 * ((l.length + (l.map (fun s : Sp => szRows s.2)).sum : Nat) : Int)
  omega
end Go.Proofs.YtnmhdmkfhacdbaaGreat
