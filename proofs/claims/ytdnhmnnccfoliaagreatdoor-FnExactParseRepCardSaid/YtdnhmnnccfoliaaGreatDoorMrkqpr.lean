import Derived.Test.YtdnhmnnccfoliaaGreatDoorLCqpr
import Derived.Test.YtdnhmnnccfoliaaGreatDoorLinqpr
import Derived.Test.YtdnhmnnccfoliaaGreatDoorRowqpr
namespace Go.Proofs.YtdnhmnnccfoliaaGreatDoor
open Go.Lg Go.Proofs Go.RowKit
attribute [local irreducible] Code.wp wpList bodyPost Exit.then Exit.inBlock Hp Again Calls Y AT ResV QT Qn QI wpAny wpAnyQ
set_option maxRecDepth 20000
set_option maxHeartbeats 4000000

theorem upto_set {k : Int} {xs : List Int} {i : Nat} (hi : i < xs.length) : (upto k i ++ xs.drop i).set i (k + (i : Int)) = upto k (i + 1) ++ xs.drop (i + 1) := by
  have hd : xs.drop i = xs[i] :: xs.drop (i + 1) := List.drop_eq_getElem_cons hi
  rw [List.set_append_right _ _ (by simp), hd, upto_length, Nat.sub_self, List.set_cons_zero]
  have : upto k (i + 1) = upto k i ++ [k + (i : Int)] := by simp [upto, List.range_succ]
  rw [this, List.append_assoc]
  rfl
theorem markIntS_ok {w1 : World} {M1 : List Nat} {H1 : List HE} {w : World} {M' : List Nat} {xs : List Int} {v : Value} {k : Int} (hl : LentL M1 w1 [.own (iT xs) v] H1 M' w) (h0 : 0 ≤ k) (hb : k + nT (iT xs) ≤ 4611686018427387904) :
    DoesB Tryz.prog 85 [v, iV k] w M' (fun r H => r = iV (k + nT (iT xs)) ∧ H = [.own (mkT k (iT xs)) v]) := by
  obtain ⟨a, c, rfl, hs, hc1, hc2, _⟩ := hl.rd.ints
  rw [mkT_ints]
  rw [nT_ints] at hb ⊢
  unfold maxLen at hc2
  refine fnb_lentL Tryz.func85 rfl Tryz.ntmps85 rfl hl ?_
  repeat' (first | (show oL; first | refine sAs rfl rfl ?_) | refine xNt ?_ | (show oC; first | refine c_seq ?_ | refine c_region ?_ | refine c_block ?_))
  refine c_loopH (α := Nat) [0] (fun i => [(1, iV (k + i)), (5, .int .i64 i)]) (fun i => i ≤ xs.length) (fun i => [.own (iT (upto k i ++ xs.drop i)) (.slice a xs.length c)]) (fun i => xs.length - i) 0 rfl sB ?_ ?_ ?_
  · omega
  · exact fun w' c' => c'
  · intro i hi
    by_cases hin : i < xs.length
    · repeat' (first | (show oL; first | refine sMv rfl rfl ?_ | refine sAs rfl rfl ?_ | (show oA (.indexAddr _ _ _); refine st_y (y_ix1 tabs (j := i) rfl rfl rfl hs rfl hin) rfl ?_) | (show oA (.binOp _ _ _ _ _); first | refine sAd rfl rfl om rfl ?_ | refine sLs rfl rfl rfl ?_) | refine sLn tabs rfl rfl rfl ?_ | (show oA (.store _ _ _); refine m_storeo 0 (j := i) tabs rfl rfl rfl rfl (by simp; omega) ?_)) | (show oN; first | refine c_nil (x_then ?_) | refine c_nil ?_) | (show oC; first | refine c_seq ?_ | refine c_region ?_ | refine c_skip (x_then ?_) | refine c_block ?_ | refine c_ift rfl aO ?_) | (show AT _ _ _ _; first | refine x_then ?_ | refine x_blk ?_))
      refine x_nx (i + 1) sB om (fun w' c' => ?_) om
      simp only [List.set_cons_zero] at c'
      rw [upto_set hin] at c'
      exact c'
    · have : i = xs.length := by omega
      subst this
      repeat' (first | (show oL; first | refine sMv rfl rfl ?_ | refine sAs rfl rfl ?_ | refine sLs rfl rfl rfl ?_ | refine sLn tabs rfl rfl rfl ?_) | refine xNt ?_ | (show oC; first | refine c_seq ?_ | refine c_region ?_ | refine c_ret ?_ | refine c_exit ?_ | refine c_iff rfl nN ?_) | (show AT _ _ _ _; first | refine x_then ?_ | refine x_then_exit ?_ | refine x_blk_exit rfl ?_))
      refine x_ret1 Tryz.results85 (res_tmp rfl) (fun w' c' => ⟨_, _, rfl, ⟨rfl, rfl⟩, ?_⟩)
      rw [List.drop_length, List.append_nil] at c'
      exact c'
theorem heldIntS_ok {w : World} {xs : List Int} {v : Value} {k : Int} (hr : Rd w (mkT k (iT xs)) v) (h0 : 0 ≤ k) (hb : k + nT (iT xs) ≤ 4611686018427387904) :
    Does Tryz.prog 88 [v, iV k] w (fun r H => r = iV (k + nT (iT xs)) ∧ H = []) := by
  rw [mkT_ints] at hr
  rw [nT_ints] at hb ⊢
  obtain ⟨a, c, rfl, hs, hc1, hc2, hget⟩ := hr.ints
  unfold maxLen at hc2
  rw [upto_length] at *
  refine fn_enter Tryz.func88 rfl Tryz.ntmps88 rfl ?_
  repeat' (first | (show oL; first | refine sAs rfl rfl ?_) | refine xNt ?_ | (show oC; first | refine c_seq ?_ | refine c_region ?_ | refine c_block ?_))
  refine c_loopH (α := Nat) [0] (fun i => [(1, iV (k + i)), (5, .int .i64 i)]) (fun i => i ≤ xs.length) (fun i => []) (fun i => xs.length - i) 0 rfl sB ?_ ?_ ?_
  · omega
  · exact fun w' c' => c'
  · intro i hi
    by_cases hin : i < xs.length
    · have hv : (upto k xs.length).getD i 0 = k + i := by simp [upto, List.getD, hin]
      have hg := hget i hin
      rw [hv] at hg
      have hne : ¬ (k + (i : Int) ≠ k + i) := by omega
      repeat' (first | (show oL; first | refine sMv rfl rfl ?_ | refine sAs rfl rfl ?_ | (show oA (.load _ _); refine st_y (y_load tabs rfl rfl (hc_w0 hg)) rfl ?_) | (show oA (.indexAddr _ _ _); refine st_y (y_ix1 tabs (j := i) rfl rfl rfl hs rfl hin) rfl ?_) | (show oA (.binOp _ _ _ _ _); first | refine sAd rfl rfl om rfl ?_ | refine sLs rfl rfl rfl ?_ | refine st_y (y_neq rfl rfl) rfl ?_) | refine sLn tabs rfl rfl rfl ?_) | (show oN; first | refine c_nil (x_then ?_) | refine c_nil ?_) | (show oC; first | refine c_seq ?_ | refine c_region ?_ | refine c_skip (x_then ?_) | refine c_block ?_ | refine c_ift rfl aO ?_ | refine c_iff rfl nN ?_) | (show AT _ _ _ _; first | refine x_then ?_ | refine x_blk ?_))
      exact x_nx (i + 1) sB om (fun w' c' => c') om
    · have : i = xs.length := by omega
      subst this
      repeat' (first | (show oL; first | refine sMv rfl rfl ?_ | refine sAs rfl rfl ?_ | refine sLs rfl rfl rfl ?_ | refine sLn tabs rfl rfl rfl ?_) | refine xNt ?_ | (show oC; first | refine c_seq ?_ | refine c_region ?_ | refine c_ret ?_ | refine c_exit ?_ | refine c_iff rfl nN ?_) | (show AT _ _ _ _; first | refine x_then ?_ | refine x_then_exit ?_ | refine x_blk_exit rfl ?_))
      exact x_ret1 Tryz.results88 (res_tmp rfl) (fun w' c' => ⟨_, _, rfl, ⟨rfl, rfl⟩, c'⟩)
theorem markMats_ok {w1 : World} {M1 : List Nat} {H1 : List HE} {w : World} {M' : List Nat} {e : Nat} {ms : List Mat} {v : Value} {k : Int} (hl : LentL M1 w1 [.own (matsT e ms) v] H1 M' w) (h0 : 0 ≤ k) (hb : k + nT (matsT e ms) ≤ 4611686018427387904) :
    DoesB Tryz.prog 86 [v, iV k] w M' (fun r H => r = iV (k + nT (matsT e ms)) ∧ H = [.own (mkT k (matsT e ms)) v]) := by
  obtain ⟨a, n0, c, rfl, hs, hc1, hc2, hlen, _⟩ := Rd.open (by decide) hl.rd
  have hn0 : n0 = ms.length := by rw [flatMap_length matT_length] at hlen; omega
  subst hn0
  have hmx : ms.length ≤ 9223372036854775807 := by unfold maxLen at hc2; omega
  simp only [mkT, nT] at *
  refine fnb_lentL Tryz.func86 rfl Tryz.ntmps86 rfl hl ?_
  by_cases hn : 0 < ms.length
  · refine AT.openS om (fun g cur us h1 h2 h3 h4 h5 h6 h7 => ?_)
    subst h1; subst h2
    repeat' (first | (show oL; first | refine sAs rfl rfl ?_) | refine xNt ?_ | (show oC; first | refine c_seq ?_ | refine c_region ?_ | refine c_block ?_))
    refine c_loopH (α := Nat × Array Value) [0] (fun q => [(1, iV (k + nL ((ms.flatMap matT).take (q.1 * 3)))), (5, .int .i64 q.1)]) (fun q => q.1 ≤ ms.length ∧ q.2.size = c * 3) (fun q => [.ownL (mkTo k (ms.flatMap matT) (q.1 * 3)) (q.2.toList.take (ms.length * 3)), .blk g q.2 e]) (fun q => ms.length - q.1) (0, cur) rfl (by repeat' (first | exact Sub.nil | refine Sub.cons rfl ?_ | refine Sub.consi rfl (by first | omega | (simp [nL]; done) | (rw [Int.add_assoc]; omega)) ?_)) ?_ ?_ ?_
    · exact ⟨Nat.zero_le _, h7⟩
    · intro w' c'
      simp only [Nat.zero_mul]
      rw [mkTo_zero]
      exact c'
    · rintro ⟨i, cur⟩ ⟨hi, hcs⟩
      simp only at hi hcs ⊢
      by_cases hin : i < ms.length
      · obtain ⟨m, hm⟩ : ∃ m, ms[i]? = some m := ⟨_, List.getElem?_eq_getElem hin⟩
        have g0 : (ms.flatMap matT)[i * 3 + 0]? = some (.c (iV m.1)) := by rw [flatMap_get matT_length hm om]; rfl
        have x0 : nL ((ms.flatMap matT).take (i * 3 + 1)) = nL ((ms.flatMap matT).take (i * 3 + 0)) + 1 := by
          have := nL_next g0
          simpa only [nT] using this
        have l0 := nL_le (ms.flatMap matT) (i * 3 + 1)
        have y0 : (mkTo k (ms.flatMap matT) (i * 3 + 0))[i * 3 + 0]? = some (.c (iV m.1)) := mkTo_get g0
        have g1 : (ms.flatMap matT)[i * 3 + 1]? = some (.c (iV m.2.1)) := by rw [flatMap_get matT_length hm om]; rfl
        have x1 : nL ((ms.flatMap matT).take (i * 3 + 2)) = nL ((ms.flatMap matT).take (i * 3 + 1)) + 1 := by
          have := nL_next g1
          simpa only [nT] using this
        have l1 := nL_le (ms.flatMap matT) (i * 3 + 2)
        have y1 : (mkTo k (ms.flatMap matT) (i * 3 + 1))[i * 3 + 1]? = some (.c (iV m.2.1)) := mkTo_get g1
        have g2 : (ms.flatMap matT)[i * 3 + 2]? = some (iT m.2.2) := by rw [flatMap_get matT_length hm om]; rfl
        have x2 : nL ((ms.flatMap matT).take (i * 3 + 3)) = nL ((ms.flatMap matT).take (i * 3 + 2)) + nT (iT m.2.2) := by
          have := nL_next g2
          exact this
        have l2 := nL_le (ms.flatMap matT) (i * 3 + 3)
        have y2 : (mkTo k (ms.flatMap matT) (i * 3 + 2))[i * 3 + 2]? = some (iT m.2.2) := mkTo_get g2
        have hp0 := nL_pos ((ms.flatMap matT).take (i * 3 + 0))
        simp only [Nat.add_zero] at g0 x0 l0 y0 hp0
        have hq : i * 3 + 3 ≤ ms.length * 3 := by omega
        have hqc : i * 3 + 3 ≤ cur.size := by rw [hcs]; have := Nat.mul_le_mul_right 3 h5; omega
        have e0 : (mkTo k (ms.flatMap matT) (i * 3)).set (i * 3) (.c (iV (k + nL ((ms.flatMap matT).take (i * 3))))) = mkTo k (ms.flatMap matT) (i * 3 + 1) := by
          have := mkTo_next (k := k) (a := (ms.flatMap matT)) (q := i * 3) (by first | exact g0 | simpa using g0)
          rw [← this]
          simp only [mkT]
        have e1 : (mkTo k (ms.flatMap matT) (i * 3 + 1)).set (i * 3 + 1) (.c (iV (k + nL ((ms.flatMap matT).take (i * 3)) + 1))) = mkTo k (ms.flatMap matT) (i * 3 + 2) := by
          have := mkTo_next (k := k) (a := (ms.flatMap matT)) (q := i * 3 + 1) (by first | exact g1 | simpa using g1)
          rw [← this]
          simp only [mkT]
          congr 3 <;> omega
        obtain ⟨u, hu⟩ : ∃ u, cur[i * 3 + 2]? = some u := ⟨_, Array.getElem?_eq_getElem om⟩
        have hut : (cur.toList.take (ms.length * 3))[i * 3 + 2]? = some u := by rw [List.getElem?_take, if_pos om]; simpa using hu
        have hp1 := nT_pos (iT m.2.2)
        have zz : k + nL ((ms.flatMap matT).take (i * 3)) + 1 + 1 = k + nL ((ms.flatMap matT).take (i * 3 + 2)) := by omega
        have e2 : (mkTo k (ms.flatMap matT) (i * 3 + 2)).set (i * 3 + 2) (mkT (k + nL ((ms.flatMap matT).take (i * 3)) + 1 + 1) (iT m.2.2)) = mkTo k (ms.flatMap matT) ((i + 1) * 3) := by
          rw [zz, mkTo_next g2]
          congr 1 <;> omega
        have hkk : k + nL ((ms.flatMap matT).take (i * 3)) + 1 + 1 + nT (iT m.2.2) = k + nL ((ms.flatMap matT).take ((i + 1) * 3)) := by
          rw [show (i + 1) * 3 = i * 3 + 3 by omega]
          omega
        have hl2 := nL_le (ms.flatMap matT) ((i + 1) * 3)
        repeat' (first | (show oL; first | refine sMv rfl rfl ?_ | refine sAs rfl rfl ?_ | refine sFd tabs rfl rfl rfl rfl ?_ | (show oA (.load _ _); refine st_y (y_load tabs rfl rfl (hc_blk 1 rfl (by rw [Array.getElem?_setIfInBounds_ne om, Array.getElem?_setIfInBounds_ne om]; exact hu))) rfl ?_) | (show oA (.indexAddr _ _ _); refine st_y (y_ix0 tabs (j := i) rfl rfl rfl rfl hin) rfl ?_) | (show oA (.binOp _ _ _ _ _); first | refine sAd rfl rfl om rfl ?_ | refine sLs rfl rfl rfl ?_) | (show oA (.call _); first | (refine m_callE (i * 3 + 2) (t2 := mkT (k + nL ((ms.flatMap matT).take (i * 3)) + 1 + 1) (iT m.2.2)) (ψ := fun r => r = iV (k + nL ((ms.flatMap matT).take (i * 3)) + 1 + 1 + nT (iT m.2.2))) (ent_of Tryz.func85 kr rfl) rfl rfl (by rw [e0, e1]; exact y2) (by rw [List.getElem?_set_ne om, List.getElem?_set_ne om]; exact hut) (fun w M' hl => markIntS_ok hl om om) ?_; rintro v rfl) | refine sLn tabs rfl rfl rfl ?_) | (show oA (.store _ _ _); first | refine m_storeE (q := i * 3) tabs rfl rfl rfl rfl (y0) (by first | omega | (simp only [Array.size_setIfInBounds]; omega)) ?_ | refine m_storeE (q := i * 3 + 1) tabs rfl rfl rfl rfl (by rw [e0]; exact y1) (by first | omega | (simp only [Array.size_setIfInBounds]; omega)) ?_)) | (show oN; first | refine c_nil (x_then ?_) | refine c_nil ?_) | (show oC; first | refine c_seq ?_ | refine c_region ?_ | refine c_skip (x_then ?_) | refine c_block ?_ | refine c_ift rfl aO ?_) | (show AT _ _ _ _; first | refine x_then ?_ | refine x_blk ?_))
        refine x_nx (i + 1, (cur.setIfInBounds (i * 3) (iV (k + nL ((ms.flatMap matT).take (i * 3))))).setIfInBounds (i * 3 + 1) (iV (k + nL ((ms.flatMap matT).take (i * 3)) + 1))) (by repeat' (first | exact Sub.nil | refine Sub.cons rfl ?_ | refine Sub.consi rfl (by first | omega | (simp [nL]; done) | (rw [← hkk]; omega)) ?_)) ⟨by simp only; omega, by simp only [Array.size_setIfInBounds]; exact hcs⟩ (fun w' c' => ?_) (by simp only; omega)
        rw [e0, e1, e2] at c'
        simp only [Array.toList_setIfInBounds, List.take_set] at c' ⊢
        exact c'
      · have : i = ms.length := by omega
        subst this
        repeat' (first | (show oL; first | refine sMv rfl rfl ?_ | refine sAs rfl rfl ?_ | refine sLs rfl rfl rfl ?_ | refine sLn tabs rfl rfl rfl ?_) | refine xNt ?_ | (show oC; first | refine c_seq ?_ | refine c_region ?_ | refine c_ret ?_ | refine c_exit ?_ | refine c_iff rfl nN ?_) | (show AT _ _ _ _; first | refine x_then ?_ | refine x_then_exit ?_ | refine x_blk_exit rfl ?_))
        refine x_ret1 Tryz.results86 (res_tmp rfl) (fun w' c' => ⟨_, _, rfl, ⟨by rw [List.take_of_length_le om], rfl⟩, ?_⟩)
        rw [mkTo_end om] at c'
        exact c'.shutS (m := ms.length) (c := c) rfl (by simpa using h4) h5 h6 hcs
  · have hr0 : ms = [] := List.length_eq_zero_iff.1 om
    subst hr0
    repeat' (first | (show oL; first | refine sAs rfl rfl ?_) | refine xNt ?_ | (show oC; first | refine c_seq ?_ | refine c_region ?_ | refine c_block ?_))
    refine c_loopH (α := Nat) [0] (fun i => [(1, iV k), (5, .int .i64 0)]) (fun i => True) (fun i => [.own (matsT e []) (.slice a 0 c)]) (fun i => i) 0 rfl sB ?_ ?_ ?_
    · trivial
    · exact fun w' c' => c'
    · intro i hi
      repeat' (first | (show oL; first | refine sMv rfl rfl ?_ | refine sAs rfl rfl ?_ | refine sLs rfl rfl rfl ?_ | refine sLn tabs rfl rfl rfl ?_) | refine xNt ?_ | (show oC; first | refine c_seq ?_ | refine c_region ?_ | refine c_ret ?_ | refine c_exit ?_ | refine c_false rfl ?_) | (show AT _ _ _ _; first | refine x_then ?_ | refine x_then_exit ?_ | refine x_blk_exit rfl ?_))
      refine x_ret1 Tryz.results86 (res_tmp rfl) (fun w' c' => ⟨_, _, rfl, ⟨by simp [nL], rfl⟩, ?_⟩)
      exact c'
theorem heldMats_ok {w : World} {e : Nat} {ms : List Mat} {v : Value} {k : Int} (hr : Rd w (mkT k (matsT e ms)) v) (h0 : 0 ≤ k) (hb : k + nT (matsT e ms) ≤ 4611686018427387904) :
    Does Tryz.prog 89 [v, iV k] w (fun r H => r = iV (k + nT (matsT e ms)) ∧ H = []) := by
  simp only [mkT, nT] at *
  obtain ⟨a, n0, c, rfl, hs, hc1, hc2, hml, hget⟩ := Rd.open (by decide) hr
  have hn0 : n0 = ms.length := by rw [mkL_length, flatMap_length matT_length] at hml; omega
  subst hn0
  unfold maxLen at hc2
  have hal : (ms.flatMap matT).length = ms.length * 3 := flatMap_length matT_length _
  refine fn_enter Tryz.func89 rfl Tryz.ntmps89 rfl ?_
  repeat' (first | (show oL; first | refine sAs rfl rfl ?_) | refine xNt ?_ | (show oC; first | refine c_seq ?_ | refine c_region ?_ | refine c_block ?_))
  refine c_loopH (α := Nat) [0] (fun i => [(1, iV (k + nL ((ms.flatMap matT).take (i * 3)))), (5, .int .i64 i)]) (fun i => i ≤ ms.length) (fun i => []) (fun i => ms.length - i) 0 rfl (by repeat' (first | exact Sub.nil | refine Sub.cons rfl ?_ | refine Sub.consi rfl (by first | omega | (simp [nL]; done) | (rw [Int.add_assoc]; omega)) ?_)) ?_ ?_ ?_
  · omega
  · exact fun w' c' => c'
  · intro i hi
    by_cases hin : i < ms.length
    · obtain ⟨m, hm⟩ : ∃ m, ms[i]? = some m := ⟨_, List.getElem?_eq_getElem hin⟩
      have g0 : (ms.flatMap matT)[i * 3 + 0]? = some (.c (iV m.1)) := by rw [flatMap_get matT_length hm om]; rfl
      have x0 : nL ((ms.flatMap matT).take (i * 3 + 1)) = nL ((ms.flatMap matT).take (i * 3 + 0)) + 1 := by
        have := nL_next g0
        simpa only [nT] using this
      have l0 := nL_le (ms.flatMap matT) (i * 3 + 1)
      obtain ⟨u0, hu0, hr0⟩ := hget _ _ (mkL_get (k := k) g0)
      have g1 : (ms.flatMap matT)[i * 3 + 1]? = some (.c (iV m.2.1)) := by rw [flatMap_get matT_length hm om]; rfl
      have x1 : nL ((ms.flatMap matT).take (i * 3 + 2)) = nL ((ms.flatMap matT).take (i * 3 + 1)) + 1 := by
        have := nL_next g1
        simpa only [nT] using this
      have l1 := nL_le (ms.flatMap matT) (i * 3 + 2)
      obtain ⟨u1, hu1, hr1⟩ := hget _ _ (mkL_get (k := k) g1)
      have g2 : (ms.flatMap matT)[i * 3 + 2]? = some (iT m.2.2) := by rw [flatMap_get matT_length hm om]; rfl
      have x2 : nL ((ms.flatMap matT).take (i * 3 + 3)) = nL ((ms.flatMap matT).take (i * 3 + 2)) + nT (iT m.2.2) := by
        have := nL_next g2
        exact this
      have l2 := nL_le (ms.flatMap matT) (i * 3 + 3)
      obtain ⟨u2, hu2, hr2⟩ := hget _ _ (mkL_get (k := k) g2)
      have hp0 := nL_pos ((ms.flatMap matT).take (i * 3 + 0))
      have hp1 := nT_pos (iT m.2.2)
      rw [← Nat.add_assoc] at hu0 hu1 hu2
      simp only [Nat.add_zero] at g0 x0 l0 hp0 hr0 hu0
      simp only [mkT, Rd] at hr0
      subst hr0
      have v0 : k + nL ((ms.flatMap matT).take (i * 3)) = k + nL ((ms.flatMap matT).take (i * 3)) := by omega
      have n0 : ¬ (k + nL ((ms.flatMap matT).take (i * 3)) ≠ k + nL ((ms.flatMap matT).take (i * 3))) := fun h => h rfl
      simp only [mkT, Rd] at hr1
      subst hr1
      have v1 : k + nL ((ms.flatMap matT).take (i * 3 + 1)) = k + nL ((ms.flatMap matT).take (i * 3)) + 1 := by omega
      rw [v1] at hu1
      have n1 : ¬ (k + nL ((ms.flatMap matT).take (i * 3)) + 1 ≠ k + nL ((ms.flatMap matT).take (i * 3)) + 1) := fun h => h rfl
      have vv : k + nL ((ms.flatMap matT).take (i * 3 + 2)) = k + nL ((ms.flatMap matT).take (i * 3)) + 1 + 1 := by omega
      rw [vv] at hr2
      have hkk : k + nL ((ms.flatMap matT).take (i * 3)) + 1 + 1 + nT (iT m.2.2) = k + nL ((ms.flatMap matT).take ((i + 1) * 3)) := by
        rw [show (i + 1) * 3 = i * 3 + 3 by omega]
        omega
      have hl2 := nL_le (ms.flatMap matT) ((i + 1) * 3)
      repeat' (first | (show oL; first | refine sMv rfl rfl ?_ | refine sAs rfl rfl ?_ | refine sFd tabs rfl rfl rfl rfl ?_ | (show oA (.load _ _); first | refine st_y (y_load tabs rfl rfl (hc_w0 hu0)) rfl ?_ | refine st_y (y_load tabs rfl rfl (hc_w0 hu1)) rfl ?_ | refine st_y (y_load tabs rfl rfl (hc_w0 hu2)) rfl ?_) | (show oA (.indexAddr _ _ _); refine st_y (y_ixa tabs rfl rfl rfl hs om om) rfl ?_) | (show oA (.binOp _ _ _ _ _); first | refine sAd rfl rfl om rfl ?_ | refine sLs rfl rfl rfl ?_ | refine st_y (y_neq rfl rfl) rfl ?_) | (show oA (.call _); first | (refine m_call (ent_of Tryz.func88 kr rfl) rfl rfl (fun w c => heldIntS_ok (c.rd hr2) om om) ?_; rintro v H' ⟨rfl, rfl⟩) | refine sLn tabs rfl rfl rfl ?_)) | refine xNt ?_ | (show oC; first | refine c_seq ?_ | refine c_region ?_ | refine c_skip (x_then ?_) | refine c_skip (x_blk ?_) | refine c_block ?_ | refine c_ift rfl aO ?_ | refine c_iff rfl nN ?_) | (show AT _ _ _ _; refine x_then ?_))
      exact x_nx (i + 1) (by repeat' (first | exact Sub.nil | refine Sub.cons rfl ?_ | refine Sub.consi rfl (by first | omega | (simp [nL]; done) | (rw [← hkk]; omega)) ?_)) om (fun w' c' => c') om
    · have : i = ms.length := by omega
      subst this
      repeat' (first | (show oL; first | refine sMv rfl rfl ?_ | refine sAs rfl rfl ?_ | refine sLs rfl rfl rfl ?_ | refine sLn tabs rfl rfl rfl ?_) | refine xNt ?_ | (show oC; first | refine c_seq ?_ | refine c_region ?_ | refine c_ret ?_ | refine c_exit ?_ | refine c_iff rfl nN ?_) | (show AT _ _ _ _; first | refine x_then ?_ | refine x_then_exit ?_ | refine x_blk_exit rfl ?_))
      exact x_ret1 Tryz.results89 (res_tmp rfl) (fun w' c' => ⟨_, _, rfl, ⟨by rw [List.take_of_length_le om], rfl⟩, c'⟩)
theorem markQuiver_ok {w1 : World} {M1 : List Nat} {H1 : List HE} {w : World} {M' : List Nat} {xs ys : List Int} {v u : Value} {k r : Int} (hl : LentL M1 w1 [.own (iT ys) u, .own (iT xs) v] H1 M' w) (h0 : 0 ≤ k) (hb : k + nT (iT xs) + nT (iT ys) ≤ 4611686018427387904) :
    DoesB Tryz.prog 12 [.agg #[iV r, v, u], iV k] w M' (fun r H => r = iV (k + nT (iT xs) + nT (iT ys)) ∧ H = [.own (mkT (k + nT (iT xs)) (iT ys)) u, .own (mkT k (iT xs)) v]) := by
  have p0 := nT_pos (iT xs)
  have p1 := nT_pos (iT ys)
  refine fnb_lentL Tryz.func12 rfl Tryz.ntmps12 rfl hl ?_
  repeat' (first | (show oL; first | refine sMv rfl rfl ?_ | refine sAs rfl rfl ?_ | refine sFd tabs rfl rfl rfl rfl ?_ | (show oA (.load _ _); first | refine sLd 0 tabs rfl rfl rfl rfl rfl ?_ | refine sLd 1 tabs rfl rfl rfl rfl rfl ?_) | (show oA (.call _); first | (refine m_callLs (H0 := [.own (iT xs) v]) (ent_of Tryz.func85 kr rfl) rfl rfl (fun w c => c.front (i := 2) rfl) (fun w M' hl => markIntS_ok hl h0 om) ?_; rintro v H' ⟨rfl, rfl⟩) | (refine m_callLs (H0 := [.own (iT ys) u]) (ent_of Tryz.func85 kr rfl) rfl rfl (fun w c => c.front (i := 2) rfl) (fun w M' hl => markIntS_ok hl om om) ?_; rintro v H' ⟨rfl, rfl⟩)) | (show oA (.box _ _); refine m_box rfl rfl (fun bq hbq => ?_))) | refine xNt ?_ | (show oC; first | refine c_seq ?_ | refine c_region ?_ | refine c_ret ?_))
  exact x_ret1 Tryz.results12 (res_tmp rfl) (fun w' c' => ⟨_, _, rfl, ⟨rfl, rfl⟩, c'.sub (.cons_cons _ (.cons_cons _ (List.nil_sublist _)))⟩)
theorem heldQuiver_ok {w : World} {xs ys : List Int} {v u : Value} {k r : Int} (hr : Rd w (mkT k (iT xs)) v) (hr' : Rd w (mkT (k + nT (iT xs)) (iT ys)) u) (h0 : 0 ≤ k) (hb : k + nT (iT xs) + nT (iT ys) ≤ 4611686018427387904) :
    Does Tryz.prog 87 [.agg #[iV r, v, u], iV k] w (fun r H => r = iV (k + nT (iT xs) + nT (iT ys)) ∧ H = []) := by
  have p0 := nT_pos (iT xs)
  have p1 := nT_pos (iT ys)
  refine fn_enter Tryz.func87 rfl Tryz.ntmps87 rfl ?_
  repeat' (first | (show oL; first | refine sMv rfl rfl ?_ | refine sAs rfl rfl ?_ | refine sFd tabs rfl rfl rfl rfl ?_ | refine sLd 0 tabs rfl rfl rfl rfl rfl ?_ | refine sLs rfl rfl rfl ?_ | (show oA (.call _); first | (refine m_call (ent_of Tryz.func88 kr rfl) rfl rfl (fun w c => heldIntS_ok (c.rd hr) h0 om) ?_; rintro v H' ⟨rfl, rfl⟩) | (refine m_call (ent_of Tryz.func88 kr rfl) rfl rfl (fun w c => heldIntS_ok (c.rd hr') om om) ?_; rintro v H' ⟨rfl, rfl⟩)) | (show oA (.box _ _); refine m_box rfl rfl (fun bq hbq => ?_))) | refine xNt ?_ | (show oC; first | refine c_seq ?_ | refine c_region ?_ | refine c_skip (x_then ?_) | refine c_ret ?_ | refine c_iff rfl nN ?_))
  exact x_ret1 Tryz.results87 (res_tmp rfl) (fun w' c' => ⟨_, _, rfl, ⟨rfl, rfl⟩, c'.sub (List.nil_sublist _)⟩)
theorem markRep_ok {w1 : World} {M1 : List Nat} {H1 : List HE} {w : World} {M' : List Nat} {xs ys zs : List Int} {e : Nat} {ms : List Mat} {v u z y : Value} {k r q : Int} (hl : LentL M1 w1 [.own (matsT e ms) y, .own (iT zs) z, .own (iT ys) u, .own (iT xs) v] H1 M' w) (h0 : 0 ≤ k) (hb : k + nT (iT xs) + nT (iT ys) + nT (iT zs) + nT (matsT e ms) ≤ 4611686018427387904) :
    DoesB Tryz.prog 13 [.agg #[iV q, iV r, v, u, z, y], iV k] w M' (fun r H => r = iV (k + nT (iT xs) + nT (iT ys) + nT (iT zs) + nT (matsT e ms)) ∧ H = [.own (mkT (k + nT (iT xs) + nT (iT ys) + nT (iT zs)) (matsT e ms)) y, .own (mkT (k + nT (iT xs) + nT (iT ys)) (iT zs)) z, .own (mkT (k + nT (iT xs)) (iT ys)) u, .own (mkT k (iT xs)) v]) := by
  have p0 := nT_pos (iT xs)
  have p1 := nT_pos (iT ys)
  have p2 := nT_pos (iT zs)
  have p3 := nT_pos (matsT e ms)
  refine fnb_lentL Tryz.func13 rfl Tryz.ntmps13 rfl hl ?_
  repeat' (first | (show oL; first | refine sMv rfl rfl ?_ | refine sAs rfl rfl ?_ | refine sFd tabs rfl rfl rfl rfl ?_ | (show oA (.load _ _); first | refine st_y (y_load3 tabs rfl rfl (hc_blk 0 rfl rfl) (hc_blk 0 rfl rfl) (hc_blk 0 rfl rfl)) rfl ?_ | refine sLd 2 tabs rfl rfl rfl rfl rfl ?_ | refine sLd 3 tabs rfl rfl rfl rfl rfl ?_) | (show oA (.call _); first | (refine m_callLs (H0 := [.own (iT ys) u, .own (iT xs) v]) (H1 := [.blk _ _ _, .own (matsT e ms) y, .own (iT zs) z]) (ent_of Tryz.func12 kr rfl) rfl rfl (fun w c => c.mid 3 2) (fun w M' hl => markQuiver_ok hl h0 om) ?_; rintro v H' ⟨rfl, rfl⟩) | (refine m_callLs (H0 := [.own (iT zs) z]) (ent_of Tryz.func85 kr rfl) rfl rfl (fun w c => c.front (i := 4) rfl) (fun w M' hl => markIntS_ok hl om om) ?_; rintro v H' ⟨rfl, rfl⟩) | (refine m_callLs (H0 := [.own (matsT e ms) y]) (ent_of Tryz.func86 kr rfl) rfl rfl (fun w c => c.front (i := 4) rfl) (fun w M' hl => markMats_ok hl om om) ?_; rintro v H' ⟨rfl, rfl⟩)) | (show oA (.box _ _); refine m_box rfl rfl (fun bq hbq => ?_))) | refine xNt ?_ | (show oC; first | refine c_seq ?_ | refine c_region ?_ | refine c_ret ?_))
  refine x_ret1 Tryz.results13 (res_tmp rfl) (fun w' c' => ⟨_, _, rfl, ⟨rfl, rfl⟩, ?_⟩)
  exact c'.sub (.cons_cons _ (.cons_cons _ (.cons_cons _ (.cons_cons _ (List.nil_sublist _)))))
theorem heldRep_ok {w : World} {xs ys zs : List Int} {e : Nat} {ms : List Mat} {v u z y : Value} {k r q : Int} (hr : Rd w (mkT k (iT xs)) v) (hr1 : Rd w (mkT (k + nT (iT xs)) (iT ys)) u) (hr2 : Rd w (mkT (k + nT (iT xs) + nT (iT ys)) (iT zs)) z) (hr3 : Rd w (mkT (k + nT (iT xs) + nT (iT ys) + nT (iT zs)) (matsT e ms)) y) (h0 : 0 ≤ k) (hb : k + nT (iT xs) + nT (iT ys) + nT (iT zs) + nT (matsT e ms) ≤ 4611686018427387904) :
    Does Tryz.prog 14 [.agg #[iV q, iV r, v, u, z, y], iV k] w (fun r H => r = iV (k + nT (iT xs) + nT (iT ys) + nT (iT zs) + nT (matsT e ms)) ∧ H = []) := by
  have p0 := nT_pos (iT xs)
  have p1 := nT_pos (iT ys)
  have p2 := nT_pos (iT zs)
  have p3 := nT_pos (matsT e ms)
  refine fn_enter Tryz.func14 rfl Tryz.ntmps14 rfl ?_
  repeat' (first | (show oL; first | refine sMv rfl rfl ?_ | refine sAs rfl rfl ?_ | refine sFd tabs rfl rfl rfl rfl ?_ | (show oA (.load _ _); first | refine st_y (y_load3 tabs rfl rfl (hc_blk 0 rfl rfl) (hc_blk 0 rfl rfl) (hc_blk 0 rfl rfl)) rfl ?_ | refine sLd 0 tabs rfl rfl rfl rfl rfl ?_) | refine sLs rfl rfl rfl ?_ | (show oA (.call _); first | (refine m_call (ent_of Tryz.func87 kr rfl) rfl rfl (fun w c => heldQuiver_ok (c.rd hr) (c.rd hr1) h0 om) ?_; rintro v H' ⟨rfl, rfl⟩) | (refine m_call (ent_of Tryz.func88 kr rfl) rfl rfl (fun w c => heldIntS_ok (c.rd hr2) om om) ?_; rintro v H' ⟨rfl, rfl⟩) | (refine m_call (ent_of Tryz.func89 kr rfl) rfl rfl (fun w c => heldMats_ok (c.rd hr3) om om) ?_; rintro v H' ⟨rfl, rfl⟩)) | (show oA (.box _ _); refine m_box rfl rfl (fun bq hbq => ?_))) | refine xNt ?_ | (show oC; first | refine c_seq ?_ | refine c_region ?_ | refine c_skip (x_then ?_) | refine c_ret ?_ | refine c_iff rfl nN ?_))
  exact x_ret1 Tryz.results14 (res_tmp rfl) (fun w' c' => ⟨_, _, rfl, ⟨rfl, rfl⟩, c'.sub (List.nil_sublist _)⟩)
theorem nT_mats (e : Nat) (ms : List Mat) : nT (matsT e ms) ≤ 2 * (szMs ms : Nat) := by
  have key : ∀ l : List Mat, nL (l.flatMap matT) = 2 * l.length + (l.map (fun m => m.2.2.length)).sum := fun l => by
    induction l with
    | nil => simp [nL]
    | cons m l ih =>
      have h1 : nL (matT m) = 2 + m.2.2.length := by
        have := nT_ints 3 m.2.2
        simp only [matT, nL, nT] at this ⊢
        rw [this]; omega
      rw [List.flatMap_cons, nL_append, ih, h1, List.map_cons, List.sum_cons, List.length_cons]
      omega
  simp only [nT, szMs]
  rw [key]
  omega
end Go.Proofs.YtdnhmnnccfoliaaGreatDoor
