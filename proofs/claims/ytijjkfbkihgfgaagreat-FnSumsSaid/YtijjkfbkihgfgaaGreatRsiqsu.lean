import Derived.Lib.SliceRun
import Derived.Test.YtijjkfbkihgfgaaGreatDuaqsu
import Derived.Test.YtijjkfbkihgfgaaGreatLCqsu
import Derived.Test.YtijjkfbkihgfgaaGreatSpbqsu
namespace Go.Proofs.YtijjkfbkihgfgaaGreat
open Go.Lg Go.Proofs Go.RowKit
theorem hp_seto {M : List Nat} {w0 w : World} {H : List HE} {i : Nat} {e m c j : Nat} {xs : List Int} {a0 : Option Addr} {q : Int} (cw : Hp M w0 H w) (hi : H[i]? = some (.own (ints e xs) (.slice a0 m c))) (hj : j < xs.length) :
    Hp M w0 (H.set i (.own (ints e (xs.set j q)) (.slice a0 m c))) (w.setCell ⟨ab a0, ao a0 + j, none⟩ (.int .i64 q)) := by
  refine cw.turn hi (fun g hg => ?_) rfl rfl rfl (by simp [World.setCell])
  simp only [HE.sat, ints, Own] at hg ⊢
  rcases hg with ⟨h1, _⟩ | ⟨g', n', cap', cur, fp', h1, h2, h3, h4, h5, h6, h7, rfl⟩
  · simp [it] at h1; subst h1; simp at hj
  · cases h1
    obtain ⟨h8, rfl⟩ := OwnL.ints_inv h7
    refine ⟨.inr ⟨g', m, c, cur.setIfInBounds j (.int .i64 q), [], rfl, ?_, ?_, h4, h5, by simpa using h6, ?_, rfl⟩, fun k _ hk => Below.heap_setCell w _ _ k (by simp [ab]; simpa using hk)⟩
    · simp [World.setCell, Array.getElem?_modify, h2, ab, ao]
    · simpa [it] using h3
    · have hh : List.take (m * 1) (cur.setIfInBounds j (Value.int IntKind.i64 q)).toList = ic (xs.set j q) := by
        rw [Array.toList_setIfInBounds, List.take_set, h8]
        simp [ic, List.map_set]
      rw [hh]
      exact OwnL.ints _
theorem hp_setz {M : List Nat} {w0 : World} {H : List HE} {i e m c : Nat} {a0 : Option Addr} : ∀ (n j : Nat) (xs : List Int) (w : World), Hp M w0 H w → H[i]? = some (.own (ints e xs) (.slice a0 m c)) → j + n ≤ xs.length →
    ∃ ys : List Int, ys.length = xs.length ∧ Hp M w0 (H.set i (.own (ints e ys) (.slice a0 m c))) (w.setCells (ab a0) (ao a0 + j) (List.replicate n (.int .i64 0)))
  | 0, j, xs, w, cw, hi, hj => ⟨xs, rfl, by
      rw [List.replicate_zero, World.setCells]
      have : H.set i (.own (ints e xs) (.slice a0 m c)) = H := by
        obtain ⟨h1, h2⟩ := List.getElem?_eq_some_iff.1 hi
        rw [← h2, List.set_getElem_self]
      rw [this]; exact cw⟩
  | n + 1, j, xs, w, cw, hi, hj => by
      have hil : i < H.length := (List.getElem?_eq_some_iff.1 hi).1
      have c2 := hp_seto (q := 0) cw hi (j := j) om
      obtain ⟨ys, h1, h2⟩ := hp_setz (H := H.set i (.own (ints e (xs.set j 0)) (.slice a0 m c))) (i := i) (e := e) (m := m) (c := c) (a0 := a0) n (j + 1) (xs.set j 0) _ c2 (by rw [List.getElem?_set_self hil]) (by simp; omega)
      refine ⟨ys, by simpa using h1, ?_⟩
      rw [List.set_set] at h2
      rw [List.replicate_succ, World.setCells, Nat.add_assoc]
      exact h2
theorem m_clear {P : Program} {n : Nat} {s : List (Nat × Value)} {Q : Exit → Act → World → Prop} {ops : Array Oper} {rest : List Oper} {ty t : Nat} {pos : String} {af : Array Edge} {x : Operand} {M : List Nat} {w0 : World} {H : List HE}
    (i : Nat) (T : Tabs P) {e e' b m c k l cc : Nat} {xs : List Int} {a0 : Option Addr} (ht : lk T.sl t = some (e', 1, b, [.int .i64 0])) (hx : ev s x = some (.slice (some ⟨ab a0, ao a0 + k, none⟩) l cc)) (hl : 0 < l)
    (hi : H[i]? = some (.own (ints e xs) (.slice a0 m c))) (hk : k + l ≤ xs.length) (h : ∀ ys : List Int, ys.length = xs.length → AT n (Hp M w0 (H.set i (.own (ints e ys) (.slice a0 m c)))) s (wpList P ops Q rest)) :
    AT n (Hp M w0 H) s (wpList P ops Q (⟨none, .call ⟨.builtin .clear, #[x], #[t]⟩, ty, pos, af, none⟩ :: rest)) := fun a w f cw => by
  obtain ⟨g1, _, _, i0, zv, g2, g3, _, g4, g5⟩ := T.sl_ok _ _ _ _ _ ht
  obtain ⟨ys, h1, h2⟩ := hp_setz (i := i) (e := e) (m := m) (c := c) (a0 := a0) l k xs w cw hi hk
  have hcell : ∀ j, j < l → (w.cell? ⟨ab a0, ao a0 + k + j, none⟩).isSome = true := fun j hj => by
    have := hc_own (M := M) (w0 := w0) i hi (j := k + j) om w cw
    rw [← Nat.add_assoc] at this; rw [this]; rfl
  have hfro : ∀ j, j < l → w.frozen? ⟨ab a0, ao a0 + k + j, none⟩ = false := fun j hj => by
    obtain ⟨g, hg, _⟩ := cw.sat hi
    simp only [HE.sat, ints, Own] at hg
    rcases hg with ⟨h3, _⟩ | ⟨g', n', cap', cur, fp', h3, h4, _⟩
    · simp [it] at h3; subst h3; simp at hk; omega
    · cases h3; simp [World.frozen?, ab, h4]
  have hzc : (Builtin.zeroCells zv.cells l).toList = List.replicate l (.int .i64 0) := by
    rw [g5]
    simp [Builtin.zeroCells]
    apply List.ext_getElem
    · simp
    · intro i h1 h2
      simp [Nat.mod_one]
  have hst := run_storeCells_cells (P := P) (ab a0) (ao a0 + k) (List.replicate l (.int .i64 0)) 0 w (by simpa using hcell) (by simpa using hfro) (by intro v hv'; rw [List.eq_of_mem_replicate hv']; rfl)
  simp only [Nat.add_zero] at hst
  have hrun : (execOp a.eval ⟨none, .call ⟨.builtin .clear, #[x], #[t]⟩, ty, pos, af, none⟩).run P w = .ok (.value (.tuple #[])) (w.setCells (ab a0) (ao a0 + k) (List.replicate l (.int .i64 0))) := by
    obtain ⟨l', rfl⟩ : ∃ l', l = l' + 1 := ⟨l - 1, by omega⟩
    simp [execOp, resolve, invoke, builtin, f.ev hx, Builtin.clear_, run_underlying g1, zeroValue, typeInfo, g2, g4, hzc, hst]
  refine wpList_one rfl ?_
  unfold Oper.wp
  rw [hrun]
  exact h ys h1 _ _ f h2
attribute [local irreducible] Code.wp wpList bodyPost Exit.then Exit.inBlock Hp Again Calls Y AT ResV QT
set_option maxRecDepth 20000
set_option maxHeartbeats 4000000

theorem y_slor {P : Program} {n : Nat} {C : World → Prop} {s : List (Nat × Value)} {ty t : Nat} {x lo' : Operand} (T : Tabs P) {e b m cap lo : Nat} {z : List Value} {a : Option Addr} {p : Int} (ht : lk T.sl t = some (e, 1, b, z)) (hx : ev s x = some (.slice a m cap)) (hl : ev s lo' = some (.int .i64 p)) (hs : SA a m) (hp : p = (lo : Int)) (h1 : lo < m) (h2 : m ≤ cap) :
    Y P n C s (.slice t x (some lo') none none) ty (.slice (some ⟨ab a, ao a + lo, none⟩) (m - lo) (cap - lo)) := by
  have h := y_slo (P := P) (n := n) (C := C) (s := s) (ty := ty) T ht hx hl hp om
  have e1 : subA a 1 lo cap = some ⟨ab a, ao a + lo, none⟩ := by
    rw [subA, if_neg om, hs.get om]
    simp [Addr.add_lit, ab, ao]
  rwa [e1] at h

theorem isNaN_ok {w : World} (x : Int) : Does Tryz.prog 293 [iV x] w (fun v H => v = .bool false ∧ H = []) := by
  refine fn_enter Tryz.func293 rfl Tryz.ntmps293 rfl ?_
  repeat' (first | (show oL; first | refine sMv rfl rfl ?_ | refine sAs rfl rfl ?_ | (show oA (.binOp _ _ _ _ _); refine st_y (y_neq rfl rfl) rfl ?_)) | refine xNt ?_ | (show oC; first | refine c_seq ?_ | refine c_region ?_ | refine c_ret ?_))
  refine x_ret1 Tryz.results293 (res_tmp rfl) (fun w c => ⟨_, _, rfl, ⟨?_, rfl⟩, c⟩)
  simp
theorem Less_ok {w : World} (x y : Int) : Does Tryz.prog 267 [iV x, iV y] w (fun v H => v = .bool (decide (x < y)) ∧ H = []) := by
  refine fn_enter Tryz.func267 rfl Tryz.ntmps267 rfl ?_
  repeat' (first | (show oL; first | refine sMv rfl rfl ?_ | refine sAs rfl rfl ?_ | refine sLs rfl rfl rfl ?_ | (show oA (.call _); (refine m_call (ent_of Tryz.func293 kr rfl) rfl rfl (fun w c => isNaN_ok _) ?_; rintro v H' ⟨rfl, rfl⟩)) | (show oA (.pick _ _ _); refine st_y (y_pick rfl rfl rfl) rfl ?_) | refine st_gy rfl rfl ?_ | refine st_gn rfl rfl rfl ?_) | refine xNt ?_ | (show oC; first | refine c_seq ?_ | refine c_region ?_ | refine c_ret ?_))
  all_goals refine x_ret1 Tryz.results267 (res_tmp rfl) (fun w c => ⟨_, _, rfl, ⟨?_, rfl⟩, c⟩)
  all_goals first | (simp_all; done) | (simp_all; omega)
def SorP (xs : List Int) : Prop := ∀ j, j < xs.length → 0 < j → xs.getD (j - 1) 0 ≤ xs.getD j 0
instance (xs : List Int) : Decidable (SorP xs) := by unfold SorP; infer_instance
theorem IsSorted_ok {w : World} {xs : List Int} {v : Value} (hr : Rd w (iT xs) v) :
    Does Tryz.prog 191 [v] w (fun v H => v = .bool (decide (SorP xs)) ∧ H = []) := by
  obtain ⟨a, c, rfl, hs, hc1, hc2, hget⟩ := hr.ints
  unfold maxLen at hc2
  refine fn_enter Tryz.func191 rfl Tryz.ntmps191 rfl ?_
  repeat' (first | (show oL; first | refine sMv rfl rfl ?_ | refine sAs rfl rfl ?_ | (show oA (.binOp _ _ _ _ _); refine st_y (y_sub rfl rfl om) rfl ?_) | refine sLn tabs rfl rfl rfl ?_) | refine xNt ?_ | (show oC; first | refine c_seq ?_ | refine c_region ?_ | refine c_block ?_))
  refine c_loopH (α := Int) [0] (fun i => [(3, .int .i64 i)]) (fun i => -1 ≤ i ∧ i < xs.length ∧ (∀ j, j < xs.length → 0 < j → i < j → xs.getD (j - 1) 0 ≤ xs.getD j 0)) (fun i => []) (fun i => i.toNat) ((xs.length : Int) - 1) rfl sB ?_ ?_ ?_
  · exact ⟨by omega, by omega, fun j h1 h2 h3 => by omega⟩
  · exact fun w' c' => c'
  · rintro i ⟨hi1, hi2, hn⟩
    by_cases hin : 0 < i
    · obtain ⟨k, rfl⟩ : ∃ k : Nat, i = (k : Int) := ⟨i.toNat, by omega⟩
      have hk : k < xs.length := by omega
      have hk1 : k - 1 < xs.length := by omega
      have e1 : (k : Int) - 1 = ((k - 1 : Nat) : Int) := by omega
      repeat' (first | (show oL; first | refine sMv rfl rfl ?_ | refine sAs rfl rfl ?_ | (show oA (.binOp _ _ _ _ _); first | refine st_y (y_sub rfl rfl om) rfl ?_ | refine st_y (y_gtr rfl rfl) rfl ?_)) | refine xNt ?_ | (show oC; first | refine c_seq ?_ | refine c_region ?_ | refine c_skip (x_then ?_) | refine c_skip (x_blk ?_) | refine c_block ?_ | refine c_ret ?_ | refine c_draw kr kr (fun _ c => Hp.drew c) ?_ | refine c_ift rfl aO ?_ | refine c_if rfl (fun h => ?_) (fun h => ?_)) | (show QT _ _ _ _ _ _ (_ :: _); first | refine qMv rfl rfl ?_ | (show qA (.load _ _); first | refine q_y (y_load tabs rfl rfl (hc_w0 (hget k hk))) rfl ?_ | refine q_y (y_load tabs rfl rfl (hc_w0 (hget (k - 1) hk1))) rfl ?_) | (show qA (.indexAddr _ _ _); first | refine q_y (y_ix1 tabs (j := k) rfl rfl rfl hs rfl hk) rfl ?_ | refine q_y (y_ix1 tabs (j := k - 1) rfl rfl (by rw [← e1]; rfl) hs rfl hk1) rfl ?_) | (show qA (.binOp _ _ _ _ _); refine q_y (y_sub rfl rfl om) rfl ?_) | (show qA (.call _); refine q_call (ent_of Tryz.func267 kr rfl) rfl rfl (fun w c => Less_ok _ _) (fun u H' h => h.1) ?_)) | (show QT _ _ _ _ _ _ []; refine q_nil (x_then ?_)) | (show AT _ _ _ _; first | refine x_then ?_ | refine x_then_ret ?_ | refine x_blk_ret ?_))
      · refine x_ret1 Tryz.results191 (res_tmp rfl) (fun w c => ⟨_, _, rfl, ⟨congrArg Value.bool ?_, rfl⟩, c⟩)
        refine (decide_eq_false fun hS => ?_).symm
        have := hS k hk om
        omega
      · refine x_nx ((k : Int) - 1) sB ⟨by omega, by omega, fun j h1 h2 h3 => ?_⟩ (fun w' c' => c') om
        by_cases hj : j = k
        · subst hj; omega
        · exact hn j h1 h2 om
    · repeat' (first | (show oL; first | refine sMv rfl rfl ?_ | refine sAs rfl rfl ?_ | (show oA (.binOp _ _ _ _ _); refine st_y (y_gtr rfl rfl) rfl ?_)) | refine xNt ?_ | (show oC; first | refine c_seq ?_ | refine c_region ?_ | refine c_ret ?_ | refine c_exit ?_ | refine c_iff rfl nN ?_) | (show AT _ _ _ _; first | refine x_then ?_ | refine x_then_exit ?_ | refine x_blk_exit rfl ?_))
      refine x_ret1 Tryz.results191 (res_tmp rfl) (fun w c => ⟨_, _, rfl, ⟨congrArg Value.bool ?_, rfl⟩, c⟩)
      exact (decide_eq_true fun j h1 h2 => hn j h1 h2 om).symm
def NoDup1 (xs : List Int) : Prop := ∀ j, j < xs.length → 0 < j → xs.getD j 0 ≠ xs.getD (j - 1) 0
theorem Compact_ok {w1 : World} {M1 : List Nat} {H1 : List HE} {w : World} {M' : List Nat} {xs : List Int} {a : Option Addr} {m c : Nat} (hl : Lent M1 w1 (.own (iT xs) (.slice a m c)) H1 M' w) :
    DoesB Tryz.prog 192 [.slice a m c] w M' (fun v H => ∃ a' k c' ys, v = .slice a' k c' ∧ H = [.own (iT ys) (.slice a m c)] ∧ (k = xs.length ↔ NoDup1 xs)) := by
  obtain ⟨a1, c1, e1, hs, hc1, hc2, _⟩ := (Own.rd hl.sat : Rd w (iT xs) (.slice a m c)).ints
  cases e1
  unfold maxLen at hc2
  refine fnb_lent Tryz.func192 rfl Tryz.ntmps192 rfl hl ?_
  repeat' (first | (show oL; first | refine sMv rfl rfl ?_ | refine sAs rfl rfl ?_ | refine sLs rfl rfl rfl ?_ | refine sLn tabs rfl rfl rfl ?_) | refine xNt ?_ | (show oC; first | refine c_seq ?_ | refine c_region ?_ | refine c_skip (x_then ?_) | refine c_block ?_ | refine c_ret ?_ | refine c_if rfl (fun h => ?_) (fun h => ?_)) | (show AT _ _ _ _; refine x_then_ret ?_))
  · refine x_ret1 Tryz.results192 (res_tmp rfl) (fun w' c' => ⟨_, _, rfl, ⟨_, _, _, xs, rfl, rfl, ?_⟩, c'⟩)
    exact ⟨fun _ j h1 h2 => by omega, fun _ => rfl⟩
  refine c_loopH (α := Nat) [0] (fun k => [(3, .int .i64 k)]) (fun k => 1 ≤ k ∧ k ≤ xs.length ∧ (∀ j, j < k → 0 < j → xs.getD j 0 ≠ xs.getD (j - 1) 0)) (fun k => [.own (iT xs) (.slice a xs.length c)]) (fun k => xs.length - k) 1 rfl sB ?_ ?_ ?_
  · exact ⟨by omega, by omega, fun j h1 h2 => by omega⟩
  · exact fun w' c' => c'
  · rintro k ⟨hk0, hk1, hn⟩
    by_cases hin : k < xs.length
    · have hk2 : k - 1 < xs.length := by omega
      have ek : (k : Int) - 1 = ((k - 1 : Nat) : Int) := by omega
      repeat' (first | (show oL; first | refine sMv rfl rfl ?_ | refine sAs rfl rfl ?_ | (show oA (.binOp _ _ _ _ _); first | refine sAd rfl rfl om rfl ?_ | refine sLs rfl rfl rfl ?_) | refine sLn tabs rfl rfl rfl ?_ | (show oA (.slice _ _ _ _ _); refine st_y (y_slor tabs (lo := k) rfl rfl rfl hs rfl hin hc1) rfl ?_)) | refine xNt ?_ | (show oC; first | refine c_seq ?_ | refine c_region ?_ | refine c_skip (x_then ?_) | refine c_skip (x_blk ?_) | refine c_block ?_ | refine c_draw kr kr (fun _ c => Hp.drew c) ?_ | refine c_ift rfl aO ?_ | refine c_if rfl (fun h => ?_) (fun h => ?_)) | (show QT _ _ _ _ _ _ (_ :: _); first | refine qMv rfl rfl ?_ | (show qA (.load _ _); first | refine q_y (y_load tabs rfl rfl (hc_own 0 rfl hin)) rfl ?_ | refine q_y (y_load tabs rfl rfl (hc_own 0 rfl hk2)) rfl ?_) | (show qA (.indexAddr _ _ _); first | refine q_y (y_ix1 tabs (j := k) rfl rfl rfl hs rfl hin) rfl ?_ | refine q_y (y_ix1 tabs (j := k - 1) rfl rfl (by rw [← ek]; rfl) hs rfl hk2) rfl ?_) | (show qA (.binOp _ _ _ _ _); first | refine q_y (y_sub rfl rfl om) rfl ?_ | refine q_y (y_eql rfl rfl) rfl ?_)) | (show QT _ _ _ _ _ _ []; refine q_nil (x_then ?_)) | (show AT _ _ _ _; refine x_then ?_))
      · have heq := h
        refine c_loopH (α := Nat × Nat × List Int) [0, 4] (fun z => [(3, .int .i64 z.2.1), (5, .int .i64 z.1)]) (fun z => 1 ≤ z.1 ∧ z.1 ≤ xs.length - k ∧ k ≤ z.2.1 ∧ z.2.1 + 1 ≤ k + z.1 ∧ z.2.2.length = xs.length) (fun z => [.own (iT z.2.2) (.slice a xs.length c)]) (fun z => xs.length - z.1) (1, k, xs) rfl sB ?_ ?_ ?_
        · exact ⟨by omega, by omega, by show k ≤ k; omega, by show k + 1 ≤ k + 1; omega, rfl⟩
        · exact fun w' c' => c'
        · rintro ⟨i, kk, ys⟩ ⟨hi1, hi2, hi3, hi4, hi5⟩
          simp only at hi1 hi2 hi3 hi4 hi5
          dsimp only
          by_cases hii : i < xs.length - k
          · have hi' : i - 1 < xs.length - k := by omega
            have ei : (i : Int) - 1 = ((i - 1 : Nat) : Int) := by omega
            have hkk : kk < xs.length := by omega
            have hcell : ∀ j, k + j < ys.length → ∀ w2, Hp M' w [.own (iT ys) (.slice a xs.length c)] w2 → w2.cell? ⟨ab a, ao a + k + j, none⟩ = some (iV (ys.getD (k + j) 0)) := fun j hj w2 c2 => by
              have := hc_own (M := M') (w0 := w) 0 (H := [.own (iT ys) (.slice a xs.length c)]) rfl (j := k + j) hj w2 c2
              rwa [← Nat.add_assoc] at this
            repeat' (first | (show oL; first | refine sMv rfl rfl ?_ | refine sAs rfl rfl ?_ | (show oA (.load _ _); refine st_y (y_load tabs rfl rfl (hcell i om)) rfl ?_) | (show oA (.indexAddr _ _ _); first | refine st_y (y_ixs tabs (j := i) rfl rfl rfl rfl hii) rfl ?_ | refine st_y (y_ix1 tabs (j := kk) rfl rfl rfl hs rfl hkk) rfl ?_) | (show oA (.binOp _ _ _ _ _); first | refine sAd rfl rfl om rfl ?_ | refine sLs rfl rfl rfl ?_) | refine sLn tabs rfl rfl rfl ?_ | (show oA (.store _ _ _); refine m_storeo 0 (j := kk) tabs rfl rfl rfl rfl (by rw [hi5]; omega) ?_)) | (show oN; first | refine c_nil (x_then ?_) | refine c_nil ?_) | (show oC; first | refine c_seq ?_ | refine c_region ?_ | refine c_skip (x_then ?_) | refine c_skip (x_blk ?_) | refine c_block ?_ | refine c_draw kr kr (fun _ c => Hp.drew c) ?_ | refine c_ift rfl aO ?_ | refine c_ifnd rfl (fun h => ?_) (fun h => ?_)) | (show QT _ _ _ _ _ _ (_ :: _); first | refine qMv rfl rfl ?_ | (show qA (.load _ _); first | refine q_y (y_load tabs rfl rfl (hcell i om)) rfl ?_ | refine q_y (y_load tabs rfl rfl (hcell (i - 1) om)) rfl ?_) | (show qA (.indexAddr _ _ _); first | refine q_y (y_ixs tabs (j := i) rfl rfl rfl rfl hii) rfl ?_ | refine q_y (y_ixs tabs (j := i - 1) rfl rfl rfl (by rw [← ei]) hi') rfl ?_) | (show qA (.binOp _ _ _ _ _); first | refine q_y (y_sub rfl rfl om) rfl ?_ | refine q_y (y_neq rfl rfl) rfl ?_)) | (show QT _ _ _ _ _ _ []; refine q_nil (x_then ?_)) | (show AT _ _ _ _; first | refine x_then ?_ | refine x_blk ?_))
            · exact x_nx (i + 1, kk + 1, ys.set kk (ys.getD (k + i) 0)) sB ⟨by simp, by simp; omega, by simp; omega, by simp; omega, by simp [hi5]⟩ (fun w' c' => c') (by simp; omega)
            · exact x_nx (i + 1, kk, ys) sB ⟨by simp, by simp; omega, by simp; omega, by simp; omega, by simp [hi5]⟩ (fun w' c' => c') (by simp; omega)
          · have hkk : kk < xs.length := by omega
            repeat' (first | (show oL; first | refine sMv rfl rfl ?_ | refine sAs rfl rfl ?_ | refine sLs rfl rfl rfl ?_ | (show oA (.call _); first | refine m_clear 0 tabs (k := kk) rfl rfl om rfl om (fun ys' hys' => ?_) | refine sLn tabs rfl rfl rfl ?_) | (show oA (.slice _ _ _ _ _); first | refine st_y (y_slor tabs (lo := kk) rfl rfl rfl hs rfl hkk hc1) rfl ?_ | refine st_y (y_slh tabs (hi := kk) rfl rfl rfl rfl om) rfl ?_)) | refine xNt ?_ | (show oC; first | refine c_seq ?_ | refine c_region ?_ | refine c_ret ?_ | refine c_exit ?_ | refine c_iff rfl nN ?_) | (show AT _ _ _ _; first | refine x_then ?_ | refine x_then_ret ?_ | refine x_blk_ret ?_ | refine x_then_exit ?_ | refine x_blk_exit rfl ?_))
            refine x_ret1 Tryz.results192 (res_tmp rfl) (fun w' c' => ⟨_, _, rfl, ⟨_, _, _, ys', rfl, rfl, ?_⟩, c'⟩)
            exact ⟨fun h => by omega, fun h => absurd heq (h k hin om)⟩
      · have heq := h
        refine x_nx (k + 1) sB ⟨by omega, by omega, fun j h1 h2 => ?_⟩ (fun w' c' => c') om
        by_cases hj : j = k
        · subst hj; exact heq
        · exact hn j om h2
    · repeat' (first | (show oL; first | refine sMv rfl rfl ?_ | refine sAs rfl rfl ?_ | refine sLs rfl rfl rfl ?_ | refine sLn tabs rfl rfl rfl ?_) | refine xNt ?_ | (show oC; first | refine c_seq ?_ | refine c_region ?_ | refine c_ret ?_ | refine c_exit ?_ | refine c_iff rfl nN ?_) | (show AT _ _ _ _; first | refine x_then ?_ | refine x_then_exit ?_ | refine x_blk_exit rfl ?_))
      refine x_ret1 Tryz.results192 (res_tmp rfl) (fun w' c' => ⟨_, _, rfl, ⟨_, _, _, xs, rfl, rfl, ?_⟩, c'⟩)
      exact ⟨fun _ j h1 h2 => hn j om h2, fun _ => rfl⟩
end Go.Proofs.YtijjkfbkihgfgaaGreat

namespace Go.Proofs.YtijjkfbkihgfgaaGreat
open Go.Lg Go.Proofs Go.RowKit
theorem q_gu {P : Program} {ops : Array Oper} {rest : List Oper} {n d ty : Nat} {C : World → Prop} {K : Act → Prop} {s : List (Nat × Value)} {op : Op} {pos : String} {af : Array Edge} {j dj : Nat} {b : Bool} (hj : (ops[j]?).bind (·.dst) = some dj) (hb : lk s dj = some undef) (hd : Nat.blt d n = true) (h : QT P ops n C K ((d, undef) :: s) rest) :
    QT P ops n C K s (⟨some d, op, ty, pos, af, some (j, b)⟩ :: rest) := fun a f => by
  unfold wpQuiet
  rw [if_neg (by simp [Region.wanted, yielded, hj, f.has _ _ hb, undef])]
  exact h _ (f.put (by simpa [Nat.blt_eq] using hd) undef)
theorem m_loadx {P : Program} {ops : Array Oper} {rest : List Oper} {n d ty t : Nat} {Q : Exit → Act → World → Prop} {s : List (Nat × Value)} {pos : String} {af : Array Edge} {x : Operand} {M : List Nat} {w0 : World} {H : List HE} (T : Tabs P) {ad : Addr} {len : Nat} (ht : lk T.one t = some ()) (hx : ev s x = some (.pointer (some ad))) (hd : Nat.blt d n = true)
    (hc : ∀ w, Hp M w0 H w → ∃ a c, w.cell? ad = some (.slice a len c)) (h : ∀ a c, AT n (Hp M w0 H) ((d, .slice a len c) :: s) (wpList P ops Q rest)) :
    AT n (Hp M w0 H) s (wpList P ops Q (⟨some d, .load t x, ty, pos, af, none⟩ :: rest)) := fun a w f cw => by
  obtain ⟨a', c', hcell⟩ := hc w cw
  have hrun : (execOp a.eval ⟨some d, .load t x, ty, pos, af, none⟩).run P w = .ok (.value (.slice a' len c')) w := by
    simp [execOp, f.ev hx, (T.one_ok _ ht).1 _ _ _ hcell]
  refine wpList_one rfl ?_
  unfold Oper.wp
  rw [hrun]
  exact h a' c' _ _ (f.put (by simpa [Nat.blt_eq] using hd) _) cw
attribute [local irreducible] Code.wp wpList bodyPost Exit.then Exit.inBlock Hp Again Calls Y AT ResV QT Qn QI wpAny wpAnyQ
set_option maxRecDepth 20000
set_option maxHeartbeats 4000000

def RestP (r : Rp) (ks : List Int) : Prop := ∀ j, j < ks.length → (0 ≤ ks.getD j 0 ∧ ks.getD j 0 ≤ r.q.1 - 1) ∧ (0 < j → ks.getD (j - 1) 0 < ks.getD j 0)
instance (r : Rp) (ks : List Int) : Decidable (RestP r ks) := by unfold RestP; infer_instance
def keepD (d ks : List Int) (v : Nat) : Int := if (v : Int) ∈ ks then d.getD v 0 else 0
def keepN (d ks : List Int) (n : Nat) : List Int := (List.range n).map (keepD d ks)
@[simp] theorem keepN_length {d ks : List Int} {n : Nat} : (keepN d ks n).length = n := by simp [keepN]
theorem keepN_succ (d ks : List Int) (n : Nat) : keepN d ks (n + 1) = keepN d ks n ++ [keepD d ks n] := by simp [keepN, List.range_succ]
def keepM (r : Rp) (ks : List Int) (i : Nat) : Mat := if r.q.2.1.getD i 0 ∈ ks ∧ r.q.2.2.getD i 0 ∈ ks then r.m.getD i mat0 else zM r.q (keepN r.d ks r.d.length) i
def restR (r : Rp) (ks : List Int) : Rp := if RepP r ∧ RestP r ks then ⟨r.p, r.q, keepN r.d ks r.d.length, (List.range r.q.2.1.length).map (keepM r ks)⟩ else rp00
def restN (r : Rp) (ks : List Int) (i : Nat) : List Mat := (List.range r.q.2.1.length).map (fun j => if j < i then keepM r ks j else zM r.q (keepN r.d ks r.d.length) j)
@[simp] theorem restN_length {r : Rp} {ks : List Int} {i : Nat} : (restN r ks i).length = r.q.2.1.length := by simp [restN]
theorem restN_zero (r : Rp) (ks : List Int) : restN r ks 0 = zMs r.q (keepN r.d ks r.d.length) r.q.2.1.length := by
  rw [restN, zMs]
  exact List.map_congr_left fun j _ => if_neg om
theorem restN_all (r : Rp) (ks : List Int) : restN r ks r.q.2.1.length = (List.range r.q.2.1.length).map (keepM r ks) := by
  rw [restN]
  exact List.map_congr_left fun j hj => if_pos (List.mem_range.1 hj)
theorem restN_set {r : Rp} {ks : List Int} {i : Nat} {m : Mat} (hm : keepM r ks i = m) : (restN r ks i).set i m = restN r ks (i + 1) := by
  subst hm
  apply List.ext_getElem?
  intro q
  by_cases hq : q < r.q.2.1.length
  · simp only [restN, List.getElem?_set, List.getElem?_map, List.length_map, List.length_range, List.getElem?_range hq, Option.map_some]
    by_cases e : i = q
    · subst e
      rw [if_pos rfl, if_pos hq, if_pos om]
    · rw [if_neg e]
      by_cases h : q < i
      · rw [if_pos h, if_pos om]
      · rw [if_neg h, if_neg om]
  · rw [List.getElem?_eq_none (by simp; omega), List.getElem?_eq_none (by simp; omega)]
theorem restN_same {r : Rp} {ks : List Int} {i : Nat} (hm : keepM r ks i = zM r.q (keepN r.d ks r.d.length) i) : restN r ks (i + 1) = restN r ks i := by
  rw [restN, restN]
  refine List.map_congr_left fun j _ => ?_
  by_cases e : j = i
  · subst e
    rw [if_pos om, if_neg om, hm]
  · by_cases h : j < i
    · rw [if_pos om, if_pos h]
    · rw [if_neg om, if_neg h]
theorem keepN_arr {r : Rp} (hR : RepP r) (ks : List Int) : ArrP r.q (keepN r.d ks r.d.length) := by
  obtain ⟨h1, h2, h3, h4, h5, h6⟩ := DimsP.arr hR.2.1
  refine ⟨h1, h2, by simpa using h3, by simpa using h4, by simpa using h5, fun x hx => ?_⟩
  simp only [keepN, List.mem_map] at hx
  obtain ⟨v, _, rfl⟩ := hx
  have := RepP.dd hR |>.1 v
  unfold keepD
  split <;> omega
theorem spec_RestrictRep_ok {w : World} {r : Rp} {ks : List Int} {e : Nat} {u0 u1 u2 u3 uk : Value} (h0 : Rd w (iT r.q.2.1) u0) (h1 : Rd w (iT r.q.2.2) u1) (h2 : Rd w (iT r.d) u2) (h3 : Rd w (matsT e r.m) u3) (hk : Rd w (iT ks) uk) :
    Does Tryz.prog 81 [.agg #[iV r.p, iV r.q.1, u0, u1, u2, u3], uk] w (GivesRB (restR r ks) (decide (RepP r ∧ RestP r ks))) := by
  have hfail : ∀ {w' : World} {b4 : Nat} {H : List HE}, ¬ (RepP r ∧ RestP r ks) → Hp [] w H w' → ∃ v H', (Ending.returned (.tuple #[.agg #[iV 0, iV 0, .slice none 0 0, .slice none 0 0, .slice none 0 0, .slice none 0 0], .bool false])) = Ending.returned v ∧ GivesRB (restR r ks) (decide (RepP r ∧ RestP r ks)) v H' ∧ Hp [] w H' w' := fun hn c' => by
    rw [restR, if_neg hn, decide_eq_false hn]
    exact ⟨_, _, rfl, ⟨none, 0, none, 0, none, 0, none, 0, rfl, .inl rfl, .inl rfl, .inl rfl, .inl rfl, rfl⟩, Hp.nilp _ _ (Hp.nilp _ _ (Hp.nilp _ _ (Hp.nilp _ _ (c'.sub (List.nil_sublist _)))))⟩
  by_cases hR : RepP r
  · have hA := keepN_arr hR ks
    have hdd := RepP.dd hR
    have hml := hR.ml
    obtain ⟨p, ⟨n, F, T⟩, d, ms⟩ := r
    simp only at h0 h1 h2 h3 hA hdd hml ⊢
    have hn5 : 1 ≤ n ∧ n ≤ 5 := hR.2.1.1.1
    obtain ⟨a0, c0, rfl, hs0, _, _, hg0⟩ := h0.ints
    obtain ⟨a1, c1, rfl, hs1, _, _, hg1⟩ := h1.ints
    obtain ⟨a2, c2, rfl, hs2, _, _, hg2⟩ := h2.ints
    obtain ⟨a3, c3, rfl, hs3, _, _, hg3⟩ := rd_mats h3
    obtain ⟨ak, ck, rfl, hsk, hck1, hck2, hgk⟩ := hk.ints
    unfold maxLen at hck2
    refine fn_enter Tryz.func81 rfl Tryz.ntmps81 rfl ?_
    repeat' (first | (show oL; first | refine sAs rfl rfl ?_ | refine sLb 1 tabs rfl rfl rfl rfl rfl ?_ | (show oA (.unOp _ _ _); refine st_y (y_notd rfl) rfl ?_) | (show oA (.call _); (refine m_call (ent_of Tryz.func148 kr rfl) rfl rfl (fun w c => spec_IsRep_ok (r := ⟨p, (n, F, T), d, ms⟩) (c.rd h0) (c.rd h1) (c.rd h2) (c.rd h3)) ?_; rintro v H' ⟨rfl, rfl⟩)) | (show oA (.box _ _); refine m_box rfl rfl (fun b1 hb1 => ?_)) | (show oA (.alloc _); refine m_alloc tabs rfl rfl (fun b4 hb4 => ?_))) | refine xNt ?_ | (show oC; first | refine c_seq ?_ | refine c_region ?_ | refine c_skip (x_then ?_) | refine c_block ?_ | refine c_iff rfl nN ?_))
    all_goals first | exact absurd hR aS | skip
    refine c_loopH (α := Nat) [1, 2, 4] (fun i => [(6, .int .i64 i)]) (fun i => i ≤ ks.length ∧ ∀ j, j < i → (0 ≤ ks.getD j 0 ∧ ks.getD j 0 ≤ n - 1) ∧ (0 < j → ks.getD (j - 1) 0 < ks.getD j 0)) (fun i => [.blk b4 #[iV 0, iV 0, .slice none 0 0, .slice none 0 0, .slice none 0 0, .slice none 0 0] 60, .blk b1 #[iV p, iV n, .slice a0 F.length c0, .slice a1 T.length c1, .slice a2 d.length c2, .slice a3 ms.length c3] 60]) (fun i => ks.length - i) 0 rfl sB ?_ ?_ ?_
    · exact ⟨by omega, fun j h => by omega⟩
    · exact fun w' c' => c'
    · rintro i ⟨hi, hn⟩
      by_cases hin : i < ks.length
      · have hi1 : i - 1 < ks.length := by omega
        have hnot : ((0 ≤ ks.getD i 0 ∧ ks.getD i 0 ≤ n - 1) ∧ (0 < i → ks.getD (i - 1) 0 < ks.getD i 0)) ∨ ¬ RestP ⟨p, (n, F, T), d, ms⟩ ks := by
          by_cases h : (0 ≤ ks.getD i 0 ∧ ks.getD i 0 ≤ n - 1) ∧ (0 < i → ks.getD (i - 1) 0 < ks.getD i 0)
          · exact .inl h
          · exact .inr fun hP => h (hP i hin)
        repeat' (first | (show oL; first | refine sMv rfl rfl ?_ | refine sAs rfl rfl ?_ | (show oA (.binOp _ _ _ _ _); first | refine sAd rfl rfl om rfl ?_ | refine sLs rfl rfl rfl ?_) | refine sLn tabs rfl rfl rfl ?_ | (show oA (.store _ _ _); refine m_storeb 0 tabs rfl rfl rfl rfl rfl rfl rfl ?_) | (show oA (.build _ _); refine st_y (y_bld0 bld_rp0) rfl ?_)) | refine xNt ?_ | (show oC; first | refine c_seq ?_ | refine c_region ?_ | refine c_skip (x_then ?_) | refine c_skip (x_blk ?_) | refine c_block ?_ | refine c_ret ?_ | refine c_draw kr kr (fun _ c => Hp.drew c) ?_ | refine c_true rfl ?_ | refine c_false rfl ?_ | refine c_ift rfl aO ?_ | refine c_if rfl (fun h => ?_) (fun h => ?_)) | (show QT _ _ _ _ _ _ (_ :: _); first | refine qMv rfl rfl ?_ | refine qFd tabs rfl rfl rfl rfl ?_ | (show qA (.load _ _); first | refine q_y (y_load tabs rfl rfl (hc_w0 (hgk i hin))) rfl ?_ | refine q_y (y_load tabs rfl rfl (hc_w0 (hgk (i - 1) hi1))) rfl ?_ | refine qLd 1 tabs rfl rfl rfl rfl rfl ?_) | (show qA (.indexAddr _ _ _); first | refine q_y (y_ix1 tabs (j := i) rfl rfl rfl hsk rfl hin) rfl ?_ | refine q_y (y_ix1 tabs (j := i - 1) rfl rfl rfl hsk om hi1) rfl ?_) | (show qA (.binOp _ _ _ _ _); first | refine q_y (y_sub rfl rfl om) rfl ?_ | refine q_y (y_leq rfl rfl) rfl ?_ | refine q_y (y_gtr rfl rfl) rfl ?_) | (show qA (.unOp _ _ _); refine q_y (y_notd rfl) rfl ?_) | (show qA (.call _); refine q_call (ent_of Tryz.func145 kr rfl) rfl rfl (fun w c => l1In_ok _ _ _) (fun u H' h => h.1) ?_) | (show qA (.pick _ _ _); first | refine q_y (y_pickt rfl aS rfl) rfl ?_ | refine q_y (y_pickf rfl aS rfl) rfl ?_) | refine q_gdy rfl rfl aS ?_ | refine q_gdn rfl rfl aS rfl ?_ | refine q_gfy rfl rfl aS ?_ | refine q_gfn rfl rfl aS rfl ?_ | refine q_gd rfl rfl (fun h => ?_) (fun h => ?_) | refine q_gu rfl rfl rfl ?_) | (show QT _ _ _ _ _ _ []; refine q_nil (x_then ?_)) | (show AT _ _ _ _; first | refine x_then ?_ | refine x_then_ret ?_ | refine x_blk_ret ?_))
        all_goals first
          | exact x_ret2 Tryz.results81 (res_cellb 0 tabs rfl rfl rfl rfl) (res_tmp rfl) (fun w' c' => hfail (b4 := b4) (fun hP => by have := hP.2 i hin; simp only at this; omega) c')
          | exact x_nx (i + 1) sB ⟨by omega, fun j hj => (if hji : j = i then by subst hji; omega else hn j om)⟩ (fun w' c' => c') om
          | trace_state
      · have hP : RestP ⟨p, (n, F, T), d, ms⟩ ks := fun j hj => hn j om
        rw [restR, if_pos ⟨hR, hP⟩, decide_eq_true (show RepP ⟨p, (n, F, T), d, ms⟩ ∧ RestP ⟨p, (n, F, T), d, ms⟩ ks from ⟨hR, hP⟩)]
        repeat' (first | (show oL; first | refine sMv rfl rfl ?_ | refine sAs rfl rfl ?_ | refine sLs rfl rfl rfl ?_ | refine sLn tabs rfl rfl rfl ?_ | (show oA (.buildSlice _ _ _); refine m_build0 tabs rfl rfl (fun g hg => ?_))) | refine xNt ?_ | (show oC; first | refine c_seq ?_ | refine c_region ?_ | refine c_block ?_ | refine c_exit ?_ | refine c_iff rfl nN ?_) | (show AT _ _ _ _; first | refine x_then ?_ | refine x_then_exit ?_ | refine x_blk_exit rfl ?_))
        refine c_loopH (α := Nat × Option Addr × Nat) [1, 2, 4] (fun s => [(7, .slice s.2.1 s.1 s.2.2), (8, .int .i64 s.1)]) (fun s => s.1 ≤ d.length) (fun s => [.own (iT (keepN d ks s.1)) (.slice s.2.1 s.1 s.2.2), .blk b4 #[iV 0, iV 0, .slice none 0 0, .slice none 0 0, .slice none 0 0, .slice none 0 0] 60, .blk b1 #[iV p, iV n, .slice a0 F.length c0, .slice a1 T.length c1, .slice a2 d.length c2, .slice a3 ms.length c3] 60]) (fun s => d.length - s.1) (0, some ⟨g, 0, none⟩, 0) rfl sB ?_ ?_ ?_
        · exact Nat.zero_le _
        · exact fun w' c' => c'
        · rintro ⟨v, a, c⟩ hv
          simp only at hv ⊢
          by_cases hvn : v < d.length
          · by_cases hm : (v : Int) ∈ ks
            · have hkd : keepD d ks v = d.getD v 0 := if_pos hm
              repeat' (first | (show oL; first | refine sMv rfl rfl ?_ | refine sAs rfl rfl ?_ | refine sFd tabs rfl rfl rfl rfl ?_ | (show oA (.load _ _); first | refine sLd 2 tabs rfl rfl rfl rfl rfl ?_ | refine st_y (y_load tabs rfl rfl (hc_w0 (hg2 v hvn))) rfl ?_) | (show oA (.indexAddr _ _ _); refine st_y (y_ix1 tabs (j := v) rfl rfl rfl hs2 rfl hvn) rfl ?_) | (show oA (.binOp _ _ _ _ _); first | refine sAd rfl rfl om rfl ?_ | refine sLs rfl rfl rfl ?_) | (show oA (.call _); first | (refine m_call (ent_of Tryz.func197 kr rfl) rfl rfl (fun w c => l4Has_ok (c.rd hk)) ?_; rintro v' H' ⟨rfl, rfl⟩) | refine m_pushn 0 tabs (k := (d.getD v 0)) (m := v) rfl rfl rfl rfl rfl keepN_length om (fun a3 c3 => ?_) | refine sLn tabs rfl rfl rfl ?_) | (show oA (.buildSlice _ _ _); refine m_build1 tabs (us := [iV (d.getD v 0)]) rfl rfl rfl rfl (by decide) rfl (fun g2 hg2 => ?_))) | (show oN; first | refine c_nil (x_then ?_) | refine c_nil ?_) | (show oC; first | refine c_seq ?_ | refine c_region ?_ | refine c_skip (x_then ?_) | refine c_block ?_ | refine c_ift rfl aO ?_) | (show AT _ _ _ _; first | refine x_then ?_ | refine x_blk ?_))
              all_goals first | exact absurd hm aS | exact absurd aS hm | skip
              refine x_nx (v + 1, a3, c3) sB (by simp only; omega) (fun w' c' => ?_) (by simp only; omega)
              simp only
              rw [keepN_succ, hkd]
              exact c'
            · have hkd : keepD d ks v = 0 := if_neg hm
              repeat' (first | (show oL; first | refine sMv rfl rfl ?_ | refine sAs rfl rfl ?_ | refine sFd tabs rfl rfl rfl rfl ?_ | refine sLd 2 tabs rfl rfl rfl rfl rfl ?_ | (show oA (.binOp _ _ _ _ _); first | refine sAd rfl rfl om rfl ?_ | refine sLs rfl rfl rfl ?_) | (show oA (.call _); first | (refine m_call (ent_of Tryz.func197 kr rfl) rfl rfl (fun w c => l4Has_ok (c.rd hk)) ?_; rintro v' H' ⟨rfl, rfl⟩) | refine m_pushn 0 tabs (k := 0) (m := v) rfl rfl rfl rfl rfl keepN_length om (fun a3 c3 => ?_) | refine sLn tabs rfl rfl rfl ?_) | (show oA (.buildSlice _ _ _); refine m_build1 tabs (us := [iV (0)]) rfl rfl rfl rfl (by decide) rfl (fun g2 hg2 => ?_))) | (show oN; first | refine c_nil (x_then ?_) | refine c_nil ?_) | (show oC; first | refine c_seq ?_ | refine c_region ?_ | refine c_skip (x_then ?_) | refine c_block ?_ | refine c_ift rfl aO ?_ | refine c_iff rfl nN ?_) | (show AT _ _ _ _; first | refine x_then ?_ | refine x_blk ?_))
              all_goals first | exact absurd hm aS | exact absurd aS hm | skip
              refine x_nx (v + 1, a3, c3) sB (by simp only; omega) (fun w' c' => ?_) (by simp only; omega)
              simp only
              rw [keepN_succ, hkd]
              exact c'
          · have : v = d.length := by omega
            subst this
            repeat' (first | (show oL; first | refine sMv rfl rfl ?_ | refine sAs rfl rfl ?_ | refine sFd tabs rfl rfl rfl rfl ?_ | (show oA (.load _ _); first | refine st_y (y_load3 tabs rfl rfl (hc_blk 2 rfl rfl) (hc_blk 2 rfl rfl) (hc_blk 2 rfl rfl)) rfl ?_ | refine sLd 2 tabs rfl rfl rfl rfl rfl ?_) | refine sLs rfl rfl rfl ?_ | (show oA (.call _); first | (refine m_call (ent_of Tryz.func198 kr rfl) rfl rfl (fun w cc => l8Zero_ok (p := p) (q := (n, F, T)) (d := keepN d ks d.length) (cc.rd h0) (cc.rd h1) (by first | exact cc.own_rd (i := 0) rfl | exact cc.own_rd (i := 1) rfl) hA) ?_; rintro v' H' ⟨b0, e0, b5, e5, b6, e6, b7, e7, rfl, hsb0, hsb5, hsb6, hsb7, rfl⟩) | refine sLn tabs rfl rfl rfl ?_) | (show oA (.store _ _ _); refine m_storeb 0 tabs rfl rfl rfl rfl rfl rfl rfl ?_) | (show oA (.alloc _); refine m_alloc tabs rfl rfl (fun b9 hb9 => ?_))) | refine xNt ?_ | (show oC; first | refine c_seq ?_ | refine c_region ?_ | refine c_block ?_ | refine c_exit ?_ | refine c_iff rfl nN ?_) | (show AT _ _ _ _; first | refine x_then ?_ | refine x_then_exit ?_ | refine x_blk_exit rfl ?_))
            simp only [zeroR, zMs_length, keepN_length] at hsb0 hsb5 hsb6 hsb7 ⊢
            have hlen : ms.length = F.length := hR.2.2.1
            refine c_loopH (α := Nat) [1, 2, 4, 9] (fun i => [(10, .int .i64 i)]) (fun i => i ≤ F.length) (fun i => [.own (matsT 47 (restN ⟨p, (n, F, T), d, ms⟩ ks i)) (.slice b7 F.length e7), .blk b9 #[iV p, iV n, .slice b0 F.length e0, .slice b5 T.length e5, .slice b6 d.length e6, .slice b7 F.length e7] 60, .own (iT (keepN d ks d.length)) (.slice b6 d.length e6), .own (iT T) (.slice b5 T.length e5), .own (iT F) (.slice b0 F.length e0), .blk b4 #[iV 0, iV 0, .slice none 0 0, .slice none 0 0, .slice none 0 0, .slice none 0 0] 60, .blk b1 #[iV p, iV n, .slice a0 F.length c0, .slice a1 T.length c1, .slice a2 d.length c2, .slice a3 ms.length c3] 60]) (fun i => F.length - i) 0 rfl sB ?_ ?_ ?_
            · exact Nat.zero_le _
            · intro w' c'
              rw [restN_zero]
              exact (c'.front (i := 1) rfl).sub sL
            · intro i hi
              by_cases hif : i < F.length
              · have him : i < ms.length := by omega
                have hiT : i < T.length := by have := hR.2.1.1.2.2.1; simp only at this; omega
                obtain ⟨m, hm⟩ : ∃ m, ms[i]? = some m := ⟨_, List.getElem?_eq_getElem him⟩
                have hmD : ms.getD i mat0 = m := by rw [List.getD, hm]; rfl
                obtain ⟨aa, ca, q1, q2, q3, q4⟩ := hg3 i m hm
                have hml2 : m.2.2.length ≤ 64 := by have := (hR.2.2.2 i him).1.2.2.2.2.1; simp only at this; rwa [hmD] at this
                have hyes : F.getD i 0 ∈ ks → T.getD i 0 ∈ ks → keepM ⟨p, (n, F, T), d, ms⟩ ks i = m := fun x y => by rw [keepM, if_pos ⟨x, y⟩]; exact hmD
                have hno : ¬ (F.getD i 0 ∈ ks ∧ T.getD i 0 ∈ ks) → keepM ⟨p, (n, F, T), d, ms⟩ ks i = zM (n, F, T) (keepN d ks d.length) i := fun x => by rw [keepM, if_neg x]
                repeat' (first | (show oL; first | refine sMv rfl rfl ?_ | refine sAs rfl rfl ?_ | refine sFd tabs rfl rfl rfl rfl ?_ | (show oA (.load _ _); first | refine sLd 6 tabs rfl rfl rfl rfl rfl ?_ | refine st_y (y_load tabs rfl rfl (hc_w0 (hg0 i hif))) rfl ?_ | refine st_y (y_load tabs rfl rfl (hc_w0 (hg1 i hiT))) rfl ?_) | (show oA (.indexAddr _ _ _); first | refine st_y (y_ix1 tabs (j := i) rfl rfl rfl hs0 rfl hif) rfl ?_ | refine st_y (y_ix1 tabs (j := i) rfl rfl rfl hs1 rfl hiT) rfl ?_) | (show oA (.binOp _ _ _ _ _); first | refine sAd rfl rfl om rfl ?_ | refine sLs rfl rfl rfl ?_) | (show oA (.call _); first | (refine m_call (ent_of Tryz.func197 kr rfl) rfl rfl (fun w c => l4Has_ok (c.rd hk)) ?_; rintro v' H' ⟨rfl, rfl⟩) | refine sLn tabs rfl rfl rfl ?_) | (show oA (.pick _ _ _); first | refine st_y (y_pickt rfl aO rfl) rfl ?_ | refine st_y (y_pickf rfl aO rfl) rfl ?_) | refine st_gdy rfl rfl aO ?_ | refine st_gdn rfl rfl aO rfl ?_ | refine st_gd rfl rfl (fun h => ?_) (fun h => ?_)) | refine xNt ?_ | (show oC; first | refine c_seq ?_ | refine c_region ?_ | refine c_skip (x_then ?_) | refine c_skip (x_blk ?_) | refine c_block ?_ | refine c_false rfl ?_ | refine c_ift rfl aO ?_ | refine c_if rfl (fun h => ?_) (fun h => ?_)) | (show AT _ _ _ _; refine x_then ?_))
                · rename_i hin1
                  have hk1 := hyes hin1 h
                  refine c_all (Hp [] w [.blk b9 #[iV p, iV n, .slice b0 F.length e0, .slice b5 T.length e5, .slice b6 d.length e6, .slice b7 F.length e7] 60, .blk b1 #[iV p, iV n, .slice a0 F.length c0, .slice a1 T.length c1, .slice a2 d.length c2, .slice a3 ms.length c3] 60]) kr (fun _ c => Hp.drew c) ?_
                  refine h_take 0 rfl kr kr kr (by exact y_field tabs rfl rfl rfl) rfl sS ?_
                  refine h_take 1 rfl kr kr kr (by exact y_load tabs rfl rfl (hc_blk 0 rfl rfl)) rfl sS ?_
                  refine h_take 2 rfl kr kr kr (by exact y_move rfl) rfl sS ?_
                  refine h_take 3 rfl kr kr kr (by exact y_field tabs rfl rfl rfl) rfl sS ?_
                  refine h_take 4 rfl kr kr kr (by exact y_load tabs rfl rfl (hc_blk 1 rfl rfl)) rfl sS ?_
                  refine h_take 5 rfl kr kr kr (by exact y_move rfl) rfl sS ?_
                  refine h_take 6 rfl kr kr kr (by exact y_ixa tabs rfl rfl rfl hs3 om om) rfl sS ?_
                  refine h_take 7 rfl kr kr kr (by exact y_load3 tabs rfl rfl (hc_w0 q1) (hc_w0 q2) (hc_w0 q3)) rfl sS ?_
                  refine h_only 8 rfl kr ?_
                  first | (refine m_call (ent_of Tryz.func173 kr rfl) rfl rfl (fun w c => l3Copy_ok (m := m) (c.rd q4) om) ?_; rintro v' H' ⟨az, cz, rfl, hsz, rfl⟩) | (refine m_storeT tabs (m := F.length) (tn := matT m) (j := i) rfl rfl rfl rfl rfl rfl (by decide) (by rw [flatMap_length matT_length, restN_length]) hif (fun w c => (c.mat (u0 := iV m.1) (u1 := iV m.2.1)).swap) ?_)
                  refine c_nil (x_one (h_keep sS ?_))
                  refine h_take 9 rfl kr kr kr (by exact y_ixa tabs rfl rfl rfl hsb7 om om) rfl sS ?_
                  refine h_only 10 rfl kr ?_
                  first | (refine m_call (ent_of Tryz.func173 kr rfl) rfl rfl (fun w c => l3Copy_ok (m := m) (c.rd q4) om) ?_; rintro v' H' ⟨az, cz, rfl, hsz, rfl⟩) | (refine m_storeT tabs (m := F.length) (tn := matT m) (j := i) rfl rfl rfl rfl rfl rfl (by decide) (by rw [flatMap_length matT_length, restN_length]) hif (fun w c => (c.mat (u0 := iV m.1) (u1 := iV m.2.1)).swap) ?_)
                  refine c_nil (x_one (h_keep sS ?_))
                  refine h_end kr ?_
                  repeat' (first | (show oL; first | refine sMv rfl rfl ?_ | refine sAs rfl rfl ?_ | refine sAd rfl rfl om rfl ?_) | refine xNt ?_ | (show oC; refine c_region ?_) | (show AT _ _ _ _; first | refine x_then ?_ | refine x_blk ?_))
                  refine x_nx (i + 1) sB om (fun w' c' => ?_) om
                  rw [flatMap_set matT_length _ _ _ (by rw [restN_length]; exact hif), restN_set hk1] at c'
                  exact c'
                all_goals
                  refine x_nx (i + 1) sB om (fun w' c' => ?_) om
                  rw [restN_same (hno (by first | exact fun hh => absurd hh.1 aS | exact fun hh => absurd hh.2 aS))]
                  exact c'
              · have : i = F.length := by omega
                subst this
                have e1 := restN_all ⟨p, (n, F, T), d, ms⟩ ks
                simp only at e1
                rw [e1]
                repeat' (first | (show oL; first | refine sMv rfl rfl ?_ | refine sAs rfl rfl ?_ | refine sFd tabs rfl rfl rfl rfl ?_ | (show oA (.load _ _); first | refine sLd 6 tabs rfl rfl rfl rfl rfl ?_ | refine sLb 1 tabs rfl rfl rfl rfl rfl ?_) | refine sLs rfl rfl rfl ?_ | refine sLn tabs rfl rfl rfl ?_ | (show oA (.store _ _ _); refine m_storeb 5 tabs rfl rfl rfl rfl rfl rfl rfl ?_)) | refine xNt ?_ | (show oC; first | refine c_seq ?_ | refine c_region ?_ | refine c_ret ?_ | refine c_exit ?_ | refine c_iff rfl nN ?_) | (show AT _ _ _ _; first | refine x_then ?_ | refine x_then_exit ?_ | refine x_blk_exit rfl ?_))
                refine x_ret2 Tryz.results81 (res_cellb 5 tabs rfl rfl rfl rfl) (res_tmp rfl) (fun w' c' => ⟨_, _, rfl, ⟨b0, e0, b5, e5, b6, e6, b7, e7, ?_, hsb0, hsb5, by simpa using hsb6, by simpa using hsb7, rfl⟩, ?_⟩)
                · simp only [keepN_length, List.length_map, List.length_range]
                · simp only [keepN_length, List.length_map, List.length_range]
                  exact c'.sub sL
  · refine fn_enter Tryz.func81 rfl Tryz.ntmps81 rfl ?_
    repeat' (first | (show oL; first | refine sAs rfl rfl ?_ | refine sLb 1 tabs rfl rfl rfl rfl rfl ?_ | (show oA (.unOp _ _ _); refine st_y (y_notd rfl) rfl ?_) | (show oA (.call _); (refine m_call (ent_of Tryz.func148 kr rfl) rfl rfl (fun w c => spec_IsRep_ok (r := r) (c.rd h0) (c.rd h1) (c.rd h2) (c.rd h3)) ?_; rintro v H' ⟨rfl, rfl⟩)) | (show oA (.store _ _ _); refine m_storeb 0 tabs rfl rfl rfl rfl rfl rfl rfl ?_) | (show oA (.box _ _); refine m_box rfl rfl (fun b1 hb1 => ?_)) | (show oA (.alloc _); refine m_alloc tabs rfl rfl (fun b4 hb4 => ?_)) | (show oA (.build _ _); refine st_y (y_bld0 bld_rp0) rfl ?_)) | refine xNt ?_ | (show oC; first | refine c_seq ?_ | refine c_region ?_ | refine c_ret ?_ | refine c_ift rfl aO ?_) | (show AT _ _ _ _; refine x_then_ret ?_))
    all_goals first | exact absurd aS hR | skip
    exact x_ret2 Tryz.results81 (res_cellb 0 tabs rfl rfl rfl rfl) (res_tmp rfl) (fun w' c' => hfail (b4 := b4) (fun h => hR h.1) c')
instance (xs : List Int) : Decidable (NoDup1 xs) := by unfold NoDup1; infer_instance
theorem restK_iff {r : Rp} (hR : RepP r) (ks : List Int) : RestP r ks ↔ SorP ks ∧ NoDup1 ks ∧ InP 0 ((r.d.length : Int) - 1) ks := by
  have hV : (r.d.length : Int) = r.q.1 := hR.2.1.2.1
  constructor
  · intro h
    refine ⟨fun j h1 h2 => ?_, fun j h1 h2 => ?_, fun x hx => ?_⟩
    · have := (h j h1).2 h2; omega
    · have := (h j h1).2 h2; omega
    · obtain ⟨j, hj, rfl⟩ := List.mem_iff_getElem.1 hx
      have := (h j hj).1
      rw [List.getD_eq_getElem?_getD, List.getElem?_eq_getElem hj] at this
      simp only [Option.getD_some] at this
      omega
  · rintro ⟨h1, h2, h3⟩ j hj
    have := h3 _ (List.mem_of_getElem? (getD_some (z := 0) hj))
    refine ⟨by omega, fun h0 => ?_⟩
    have k1 := h1 j hj h0
    have k2 := h2 j hj h0
    omega
theorem keepN_nil (d : List Int) (n : Nat) : keepN d [] n = List.replicate n 0 := by
  apply List.ext_getElem?
  intro q
  by_cases hq : q < n
  · simp [keepN, keepD, hq]
  · rw [List.getElem?_eq_none (by simp; omega), List.getElem?_eq_none (by simp; omega)]
theorem keepN_put {d ks : List Int} {n i v : Nat} (hi : i < ks.length) (hv : ks.getD i 0 = (v : Int)) : (keepN d (ks.take i) n).set v (d.getD v 0) = keepN d (ks.take (i + 1)) n := by
  have e : ks.take (i + 1) = ks.take i ++ [(v : Int)] := by
    rw [List.take_add_one, getD_some (z := 0) hi, hv]; rfl
  apply List.ext_getElem?
  intro q
  by_cases hq : q < n
  · simp only [keepN, List.getElem?_set, List.getElem?_map, List.length_map, List.length_range, List.getElem?_range hq, Option.map_some]
    by_cases h : v = q
    · subst h
      rw [if_pos rfl, if_pos hq, keepD, if_pos (by rw [e]; simp)]
    · rw [if_neg h, keepD, keepD, e]
      by_cases h' : (q : Int) ∈ ks.take i
      · rw [if_pos h', if_pos (by simp [h'])]
      · rw [if_neg h', if_neg (by simp [h']; omega)]
  · rw [List.getElem?_eq_none (by simp; omega), List.getElem?_eq_none (by simp; omega)]
end Go.Proofs.YtijjkfbkihgfgaaGreat

namespace Go.Proofs.YtijjkfbkihgfgaaGreat
open Go.Lg Go.Proofs Go.RowKit
attribute [local irreducible] Code.wp wpList bodyPost Exit.then Exit.inBlock Hp Again Calls Y AT ResV QT Qn QI wpAny wpAnyQ
set_option maxRecDepth 20000
set_option maxHeartbeats 4000000

theorem keepN_getD {d ks : List Int} {v : Nat} (hv : v < d.length) : (keepN d ks d.length).getD v 0 = keepD d ks v := by
  simp [keepN, List.getD_eq_getElem?_getD, List.getElem?_map, List.getElem?_range hv]
theorem ends_lt {r : Rp} (hR : RepP r) {i : Nat} (hi : i < r.q.2.1.length) : (∃ f : Nat, r.q.2.1.getD i 0 = f ∧ f < r.d.length) ∧ ∃ t : Nat, r.q.2.2.getD i 0 = t ∧ t < r.d.length := by
  obtain ⟨f, t, _, _, h1, h2, h3, h4, _⟩ := (DimsP.arr hR.2.1).at hi
  exact ⟨⟨f, h1, h3⟩, t, h2, h4⟩
theorem keepM_pos {r : Rp} {ks : List Int} {i : Nat} (hR : RepP r) (hi : i < r.q.2.1.length) (h : 0 < (zM r.q (keepN r.d ks r.d.length) i).2.2.length) : keepM r ks i = r.m.getD i mat0 := by
  obtain ⟨⟨f, hf, hf1⟩, t, ht, ht1⟩ := ends_lt hR hi
  rw [keepM, if_pos]
  rw [zM, hf, ht] at h
  simp only [mk_length, Int.toNat_natCast, keepN_getD hf1, keepN_getD ht1] at h
  rw [hf, ht]
  by_cases h1 : (f : Int) ∈ ks
  · by_cases h2 : (t : Int) ∈ ks
    · exact ⟨h1, h2⟩
    · rw [show keepD r.d ks t = 0 from if_neg h2] at h; simp at h
  · rw [show keepD r.d ks f = 0 from if_neg h1] at h; simp at h
theorem keepM_neg {r : Rp} {ks : List Int} {i : Nat} (hR : RepP r) (hi : i < r.q.2.1.length) (h : (zM r.q (keepN r.d ks r.d.length) i).2.2.length = 0) : keepM r ks i = zM r.q (keepN r.d ks r.d.length) i := by
  obtain ⟨⟨f, hf, hf1⟩, t, ht, ht1⟩ := ends_lt hR hi
  rw [keepM]
  split
  · rename_i hh
    rw [hf, ht] at hh
    have him : i < r.m.length := by rw [hR.2.2.1]; exact hi
    obtain ⟨hM, e1, e2⟩ := hR.2.2.2 i him
    rw [hf, Int.toNat_natCast] at e1; rw [ht, Int.toNat_natCast] at e2
    have k1 := (RepP.dd hR).1 f
    have k2 := (RepP.dd hR).1 t
    have hz : zM r.q (keepN r.d ks r.d.length) i = ((((r.d.getD t 0).toNat : Nat) : Int), (((r.d.getD f 0).toNat : Nat) : Int), mk (r.d.getD t 0).toNat (r.d.getD f 0).toNat (fun _ _ => 0)) := by
      rw [zM, hf, ht]
      simp only [Int.toNat_natCast, keepN_getD hf1, keepN_getD ht1, show keepD r.d ks f = r.d.getD f 0 from if_pos hh.1, show keepD r.d ks t = r.d.getD t 0 from if_pos hh.2]
    rw [hz] at h ⊢
    obtain ⟨R, C, g1, g2, hR8, hC8, g3, _⟩ := matP_cells hM
    generalize r.m.getD i mat0 = m at hM e1 e2 g1 g2 g3
    obtain ⟨mr, mc, ml⟩ := m
    simp only at e1 e2 g1 g2 h hM
    have hl := hM.2.2.1
    simp only at hl
    simp only [mk_length] at h
    have hlen : ml.length = 0 := by
      rw [e1, e2, ← Int.toNat_of_nonneg k1.1, ← Int.toNat_of_nonneg k2.1, ← Int.natCast_mul, h] at hl
      omega
    have hl2 : (mk (r.d.getD t 0).toNat (r.d.getD f 0).toNat (fun _ _ => (0 : Int))).length = 0 := by rw [mk_length]; exact h
    rw [List.length_eq_zero_iff.1 hlen, List.length_eq_zero_iff.1 hl2, e1, e2, Int.toNat_of_nonneg k1.1, Int.toNat_of_nonneg k2.1]
  · rfl
theorem mats_hdr (i : Nat) {M : List Nat} {w0 : World} {H : List HE} {e m c j : Nat} {rs : List Mat} {a : Option Addr} {z : Mat} (hi : H[i]? = some (.own (matsT e rs) (.slice a m c))) (hz : rs[j]? = some z) : ∀ w, Hp M w0 H w → ∃ a' c', w.cell? ⟨ab a, ao a + j * 3 + 2, none⟩ = some (.slice a' z.2.2.length c') := fun w cw => by
  obtain ⟨a', c', k1, _, _, _, k2⟩ := rd_mats (cw.own_rd hi)
  injection k1 with k5
  subst k5
  obtain ⟨a4, c4, _, _, k3, _⟩ := k2 j z hz
  exact ⟨a4, c4, k3⟩
theorem restN_get {r : Rp} {ks : List Int} {i : Nat} (hi : i < r.q.2.1.length) : (restN r ks i)[i]? = some (zM r.q (keepN r.d ks r.d.length) i) := by
  simp [restN, List.getElem?_map, List.getElem?_range hi]
theorem impl_RestrictRep_ok {w : World} {r : Rp} {ks : List Int} {e : Nat} {u0 u1 u2 u3 uk : Value} (hkl : ks.length ≤ 1048576) (h0 : Rd w (iT r.q.2.1) u0) (h1 : Rd w (iT r.q.2.2) u1) (h2 : Rd w (iT r.d) u2) (h3 : Rd w (matsT e r.m) u3) (hk : Rd w (iT ks) uk) :
    Does Tryz.prog 80 [.agg #[iV r.p, iV r.q.1, u0, u1, u2, u3], uk] w (GivesRB (restR r ks) (decide (RepP r ∧ RestP r ks))) := by
  have hfail : ∀ {w' : World} {b4 : Nat} {H : List HE}, ¬ (RepP r ∧ RestP r ks) → Hp [] w H w' → ∃ v H', (Ending.returned (.tuple #[.agg #[iV 0, iV 0, .slice none 0 0, .slice none 0 0, .slice none 0 0, .slice none 0 0], .bool false])) = Ending.returned v ∧ GivesRB (restR r ks) (decide (RepP r ∧ RestP r ks)) v H' ∧ Hp [] w H' w' := fun hn c' => by
    rw [restR, if_neg hn, decide_eq_false hn]
    exact ⟨_, _, rfl, ⟨none, 0, none, 0, none, 0, none, 0, rfl, .inl rfl, .inl rfl, .inl rfl, .inl rfl, rfl⟩, Hp.nilp _ _ (Hp.nilp _ _ (Hp.nilp _ _ (Hp.nilp _ _ (c'.sub (List.nil_sublist _)))))⟩
  by_cases hR : RepP r
  · have hiff := restK_iff hR ks
    have hA := keepN_arr hR ks
    have hdd := RepP.dd hR
    have hml := hR.ml
    obtain ⟨p, ⟨n, F, T⟩, d, ms⟩ := r
    simp only at h0 h1 h2 h3 hA hdd hml hiff ⊢
    obtain ⟨a0, c0, rfl, hs0, _, _, hg0⟩ := h0.ints
    obtain ⟨a1, c1, rfl, hs1, _, _, hg1⟩ := h1.ints
    obtain ⟨a2, c2, rfl, hs2, _, _, hg2⟩ := h2.ints
    obtain ⟨a3, c3, rfl, hs3, _, _, hg3⟩ := rd_mats h3
    obtain ⟨ak, ck, rfl, hsk, hck1, hck2, hgk⟩ := hk.ints
    unfold maxLen at hck2
    refine fn_enter Tryz.func80 rfl Tryz.ntmps80 rfl ?_
    repeat' (first | (show oL; first | refine sMv rfl rfl ?_ | refine sAs rfl rfl ?_ | refine sFd tabs rfl rfl rfl rfl ?_ | (show oA (.load _ _); first | refine sLb 1 tabs rfl rfl rfl rfl rfl ?_ | refine sLd 2 tabs rfl rfl rfl rfl rfl ?_) | (show oA (.binOp _ _ _ _ _); first | refine st_y (y_sub rfl rfl om) rfl ?_ | refine st_y (y_neq rfl rfl) rfl ?_) | (show oA (.unOp _ _ _); refine st_y (y_notd rfl) rfl ?_) | (show oA (.call _); first | (refine m_call (ent_of Tryz.func166 kr rfl) rfl rfl (fun w c => impl_IsRep_ok (r := ⟨p, (n, F, T), d, ms⟩) (c.rd h0) (c.rd h1) (c.rd h2) (c.rd h3)) ?_; rintro v H' ⟨rfl, rfl⟩) | (refine m_call (ent_of Tryz.func191 kr rfl) rfl rfl (fun w c => IsSorted_ok (c.rd hk)) ?_; rintro v H' ⟨rfl, rfl⟩) | (refine m_call (ent_of Tryz.func193 kr rfl) rfl rfl (fun w c => Clone_ok (c.rd hk) hkl) ?_; rintro v H' ⟨a5, c5, rfl, hs5, rfl⟩) | (refine m_callL 0 (ent_of Tryz.func192 kr rfl) rfl rfl rfl (fun w M' hl => Compact_ok hl) ?_; rintro v H' ⟨a6, k6, c6, ys, rfl, rfl, hk6⟩) | (refine m_call (ent_of Tryz.func194 kr rfl) rfl rfl (fun w c => allWithin_ok (lo := 0) (hi := (d.length : Int) - 1) (c.rd hk)) ?_; rintro v H' ⟨rfl, rfl⟩) | refine sLn tabs rfl rfl rfl ?_) | (show oA (.pick _ _ _); first | refine st_y (y_pickt rfl aO rfl) rfl ?_ | refine st_y (y_pickf rfl aO rfl) rfl ?_ | refine st_y (y_pick rfl rfl rfl) rfl ?_) | (show oA (.store _ _ _); first | refine m_storeb 0 tabs rfl rfl rfl rfl rfl rfl rfl ?_ | refine m_storeb 1 tabs rfl rfl rfl rfl rfl rfl rfl ?_) | (show oA (.box _ _); refine m_box rfl rfl (fun b1 hb1 => ?_)) | (show oA (.alloc _); refine m_alloc tabs rfl rfl (fun b4 hb4 => ?_)) | (show oA (.makeSlice _ _ _); refine m_maken tabs rfl rfl rfl rfl om rfl (fun g hg => ?_)) | (show oA (.build _ _); refine st_y (y_bld0 bld_rp0) rfl ?_) | refine st_gn rfl rfl rfl ?_ | refine st_gfy rfl rfl aO ?_ | refine st_gfn rfl rfl aO rfl ?_ | refine st_gd rfl rfl (fun h => ?_) (fun h => ?_)) | refine xNt ?_ | (show oC; first | refine c_seq ?_ | refine c_region ?_ | refine c_skip (x_then ?_) | refine c_block ?_ | refine c_ret ?_ | refine c_true rfl ?_ | refine c_ifnd rfl (fun h => ?_) (fun h => ?_)) | (show AT _ _ _ _; refine x_then_ret ?_))
    all_goals first
      | exact absurd hR aS
      | exact x_ret2 Tryz.results80 (res_cellb 0 tabs rfl rfl rfl rfl) (res_tmp rfl) (fun w' c' => hfail (b4 := b4) (fun hP => by have h5 := hiff.1 hP.2; first | exact absurd h5.1 aS | exact absurd h5.2.2 aS | exact absurd (hk6.2 h5.2.1) om) c')
      | exact x_ret2 Tryz.results80 (res_cellb 1 tabs rfl rfl rfl rfl) (res_tmp rfl) (fun w' c' => hfail (b4 := b4) (fun hP => by have h5 := hiff.1 hP.2; first | exact absurd h5.1 aS | exact absurd h5.2.2 aS | exact absurd (hk6.2 h5.2.1) om) c')
      | skip
    have hP : RestP ⟨p, (n, F, T), d, ms⟩ ks := hiff.2 ⟨Decidable.not_not.1 aS, hk6.1 om, by assumption⟩
    rw [restR, if_pos ⟨hR, hP⟩, decide_eq_true (show RepP ⟨p, (n, F, T), d, ms⟩ ∧ RestP ⟨p, (n, F, T), d, ms⟩ ks from ⟨hR, hP⟩)]
    refine c_loopH (α := Nat) [2, 4, 6, 43, 44] (fun i => [(45, .int .i64 i)]) (fun i => i ≤ ks.length) (fun i => [.own (iT (keepN d (ks.take i) d.length)) (.slice (some ⟨g, 0, none⟩) d.length d.length), .blk b4 #[iV 0, iV 0, .slice none 0 0, .slice none 0 0, .slice none 0 0, .slice none 0 0] 60, .blk b1 #[iV p, iV n, .slice a0 F.length c0, .slice a1 T.length c1, .slice a2 d.length c2, .slice a3 ms.length c3] 60]) (fun i => ks.length - i) 0 rfl sB ?_ ?_ ?_
    · exact Nat.zero_le _
    · intro w' c'
      rw [List.take_zero, keepN_nil]
      exact c'.sub sL
    · intro i hi
      by_cases hin : i < ks.length
      · have hb := (hP i hin).1
        have hV : (d.length : Int) = n := hR.2.1.2.1
        simp only at hb
        obtain ⟨v, hv⟩ : ∃ v : Nat, ks.getD i 0 = (v : Int) := ⟨(ks.getD i 0).toNat, by omega⟩
        have hvd : v < d.length := by omega
        repeat' (first | (show oL; first | refine sMv rfl rfl ?_ | refine sAs rfl rfl ?_ | refine sFd tabs rfl rfl rfl rfl ?_ | (show oA (.load _ _); first | refine st_y (y_load tabs rfl rfl (hc_w0 (hgk i hin))) rfl ?_ | refine sLd 2 tabs rfl rfl rfl rfl rfl ?_ | refine st_y (y_load tabs rfl rfl (hc_w0 (hg2 v hvd))) rfl ?_) | (show oA (.indexAddr _ _ _); first | refine st_y (y_ix1 tabs (j := i) rfl rfl rfl hsk rfl hin) rfl ?_ | refine st_y (y_ix1 tabs (j := v) rfl rfl rfl hs2 hv hvd) rfl ?_ | refine st_y (y_ix1 tabs (j := v) rfl rfl rfl .mk hv hvd) rfl ?_) | (show oA (.binOp _ _ _ _ _); first | refine sAd rfl rfl om rfl ?_ | refine sLs rfl rfl rfl ?_) | (show oA (.store _ _ _); refine m_storeo 0 (j := v) tabs rfl rfl rfl rfl (by simp; omega) ?_)) | (show oN; first | refine c_nil (x_then ?_) | refine c_nil ?_) | (show oC; first | refine c_seq ?_ | refine c_region ?_ | refine c_skip (x_then ?_) | refine c_block ?_ | refine c_ift rfl aO ?_) | (show AT _ _ _ _; first | refine x_then ?_ | refine x_blk ?_))
        refine x_nx (i + 1) sB om (fun w' c' => ?_) om
        rw [← keepN_put hin hv]
        exact c'
      · have : i = ks.length := by omega
        subst this
        rw [List.take_length]
        repeat' (first | (show oL; first | refine sMv rfl rfl ?_ | refine sFd tabs rfl rfl rfl rfl ?_ | (show oA (.load _ _); first | refine sLd 7 tabs rfl rfl rfl rfl rfl ?_ | refine st_y (y_load3 tabs rfl rfl (hc_blk 2 rfl rfl) (hc_blk 2 rfl rfl) (hc_blk 2 rfl rfl)) rfl ?_ | refine sLd 2 tabs rfl rfl rfl rfl rfl ?_) | refine sLs rfl rfl rfl ?_ | (show oA (.call _); first | (refine m_call (ent_of Tryz.func195 kr rfl) rfl rfl (fun w cc => zeroRep_ok (p := p) (q := (n, F, T)) (d := keepN d ks d.length) (cc.rd h0) (cc.rd h1) (by first | exact cc.own_rd (i := 0) rfl | exact cc.own_rd (i := 1) rfl) hA) ?_; rintro v' H' ⟨b0, e0, b5, e5, b6, e6, b7, e7, rfl, hsb0, hsb5, hsb6, hsb7, rfl⟩) | refine sLn tabs rfl rfl rfl ?_) | (show oA (.store _ _ _); refine m_storeb 0 tabs rfl rfl rfl rfl rfl rfl rfl ?_) | (show oA (.alloc _); refine m_alloc tabs rfl rfl (fun b9 hb9 => ?_))) | refine xNt ?_ | (show oC; first | refine c_seq ?_ | refine c_region ?_ | refine c_block ?_ | refine c_exit ?_ | refine c_iff rfl nN ?_) | (show AT _ _ _ _; first | refine x_then ?_ | refine x_then_exit ?_ | refine x_blk_exit rfl ?_))
        simp only [zeroR, zMs_length, keepN_length] at hsb0 hsb5 hsb6 hsb7 ⊢
        have hlen : ms.length = F.length := hR.2.2.1
        refine c_loopH (α := Nat) [4, 9, 65, 66] (fun i => [(67, .int .i64 i)]) (fun i => i ≤ F.length) (fun i => [.own (matsT 47 (restN ⟨p, (n, F, T), d, ms⟩ ks i)) (.slice b7 F.length e7), .blk b9 #[iV p, iV n, .slice b0 F.length e0, .slice b5 T.length e5, .slice b6 d.length e6, .slice b7 F.length e7] 60, .own (iT (keepN d ks d.length)) (.slice b6 d.length e6), .own (iT T) (.slice b5 T.length e5), .own (iT F) (.slice b0 F.length e0), .blk b4 #[iV 0, iV 0, .slice none 0 0, .slice none 0 0, .slice none 0 0, .slice none 0 0] 60, .blk b1 #[iV p, iV n, .slice a0 F.length c0, .slice a1 T.length c1, .slice a2 d.length c2, .slice a3 ms.length c3] 60]) (fun i => F.length - i) 0 rfl sB ?_ ?_ ?_
        · exact Nat.zero_le _
        · intro w' c'
          rw [restN_zero]
          exact (c'.front (i := 1) rfl).sub sL
        · intro i hi
          by_cases hif : i < F.length
          · have him : i < ms.length := by omega
            obtain ⟨m, hm⟩ : ∃ m, ms[i]? = some m := ⟨_, List.getElem?_eq_getElem him⟩
            have hmD : ms.getD i mat0 = m := by rw [List.getD, hm]; rfl
            obtain ⟨aa, ca, q1, q2, q3, q4⟩ := hg3 i m hm
            have hml2 : m.2.2.length ≤ 64 := by have := (hR.2.2.2 i him).1.2.2.2.2.1; simp only at this; rwa [hmD] at this
            have hpos := keepM_pos (ks := ks) hR (i := i) hif
            have hneg := keepM_neg (ks := ks) hR (i := i) hif
            have hget := restN_get (r := ⟨p, (n, F, T), d, ms⟩) (ks := ks) (i := i) hif
            simp only at hpos hneg hget
            generalize hz : zM (n, F, T) (keepN d ks d.length) i = z at hpos hneg hget
            repeat' (first | (show oL; first | refine sMv rfl rfl ?_ | refine sAs rfl rfl ?_ | refine sFd tabs rfl rfl rfl rfl ?_ | (show oA (.load _ _); first | refine sLd 2 tabs rfl rfl rfl rfl rfl ?_ | refine st_y (y_load3 tabs rfl rfl (hc_w0 q1) (hc_w0 q2) (hc_w0 q3)) rfl ?_ | refine m_loadx tabs (len := z.2.2.length) rfl rfl rfl (mats_hdr 1 rfl hget) (fun ax cx => ?_)) | (show oA (.indexAddr _ _ _); first | refine st_y (y_ixa tabs rfl rfl rfl hs3 om om) rfl ?_ | refine st_y (y_ixa tabs rfl rfl rfl hsb7 om om) rfl ?_) | (show oA (.binOp _ _ _ _ _); first | refine sAd rfl rfl om rfl ?_ | refine sLs rfl rfl rfl ?_ | refine st_y (y_gtr rfl rfl) rfl ?_) | refine sLn tabs rfl rfl rfl ?_ | (show oA (.store _ _ _); refine m_storeb 0 tabs rfl rfl rfl rfl rfl rfl rfl ?_) | (show oA (.alloc _); refine m_alloc tabs rfl rfl (fun b11 hb11 => ?_))) | refine xNt ?_ | (show oC; first | refine c_seq ?_ | refine c_region ?_ | refine c_skip (x_then ?_) | refine c_skip (x_blk ?_) | refine c_block ?_ | refine c_ift rfl aO ?_ | refine c_if rfl (fun h => ?_) (fun h => ?_)) | (show AT _ _ _ _; refine x_then ?_))
            · have hk1 : keepM ⟨p, (n, F, T), d, ms⟩ ks i = m := (hpos om).trans hmD
              refine c_all (Hp [] w [.blk b11 #[iV m.1, iV m.2.1, .slice aa m.2.2.length ca] 47, .blk b9 #[iV p, iV n, .slice b0 F.length e0, .slice b5 T.length e5, .slice b6 d.length e6, .slice b7 F.length e7] 60]) kr (fun _ c => Hp.drew c) ?_
              refine h_take 0 rfl kr kr kr (by exact y_field tabs rfl rfl rfl) rfl sS ?_
              refine h_take 1 rfl kr kr kr (by exact y_load tabs rfl rfl (hc_blk 1 rfl rfl)) rfl sS ?_
              refine h_take 2 rfl kr kr kr (by exact y_move rfl) rfl sS ?_
              refine h_take 3 rfl kr kr kr (by first | exact y_loadb 0 tabs rfl rfl rfl rfl | exact y_loadb 0 tabs rfl rfl rfl rfl) rfl sS ?_
              refine h_only 4 rfl kr ?_
              first | (refine m_call (ent_of Tryz.func196 kr rfl) rfl rfl (fun w c => clone_ok (m := m) (c.rd q4) om) ?_; rintro v' H' ⟨az, cz, rfl, hsz, rfl⟩) | (refine m_storeT tabs (m := F.length) (tn := matT m) (j := i) rfl rfl rfl rfl rfl rfl (by decide) (by rw [flatMap_length matT_length, restN_length]) hif (fun w c => (c.mat (u0 := iV m.1) (u1 := iV m.2.1)).front (i := 2) rfl) ?_)
              refine c_nil (x_one (h_keep sS ?_))
              refine h_take 5 rfl kr kr kr (by exact y_ixa tabs rfl rfl rfl hsb7 om om) rfl sS ?_
              refine h_only 6 rfl kr ?_
              first | (refine m_call (ent_of Tryz.func196 kr rfl) rfl rfl (fun w c => clone_ok (m := m) (c.rd q4) om) ?_; rintro v' H' ⟨az, cz, rfl, hsz, rfl⟩) | (refine m_storeT tabs (m := F.length) (tn := matT m) (j := i) rfl rfl rfl rfl rfl rfl (by decide) (by rw [flatMap_length matT_length, restN_length]) hif (fun w c => (c.mat (u0 := iV m.1) (u1 := iV m.2.1)).front (i := 2) rfl) ?_)
              refine c_nil (x_one (h_keep sS ?_))
              refine h_end kr ?_
              repeat' (first | (show oL; first | refine sMv rfl rfl ?_ | refine sAd rfl rfl om rfl ?_) | refine xNt ?_ | (show oC; refine c_region ?_) | (show AT _ _ _ _; first | refine x_then ?_ | refine x_blk ?_))
              refine x_nx (i + 1) sB om (fun w' c' => ?_) om
              rw [flatMap_set matT_length _ _ _ (by rw [restN_length]; exact hif), restN_set hk1] at c'
              exact c'.sub sL
            · refine x_nx (i + 1) sB om (fun w' c' => ?_) om
              rw [restN_same (by show keepM ⟨p, (n, F, T), d, ms⟩ ks i = zM (n, F, T) (keepN d ks d.length) i; rw [hz]; exact hneg om)]
              exact c'.sub sL
          · have : i = F.length := by omega
            subst this
            have e1 := restN_all ⟨p, (n, F, T), d, ms⟩ ks
            simp only at e1
            rw [e1]
            repeat' (first | (show oL; first | refine sAs rfl rfl ?_ | refine sLb 1 tabs rfl rfl rfl rfl rfl ?_ | refine sLs rfl rfl rfl ?_ | (show oA (.store _ _ _); refine m_storeb 5 tabs rfl rfl rfl rfl rfl rfl rfl ?_)) | refine xNt ?_ | (show oC; first | refine c_seq ?_ | refine c_region ?_ | refine c_ret ?_ | refine c_exit ?_ | refine c_iff rfl nN ?_) | (show AT _ _ _ _; first | refine x_then ?_ | refine x_then_exit ?_ | refine x_blk_exit rfl ?_))
            refine x_ret2 Tryz.results80 (res_cellb 5 tabs rfl rfl rfl rfl) (res_tmp rfl) (fun w' c' => ⟨_, _, rfl, ⟨b0, e0, b5, e5, b6, e6, b7, e7, ?_, hsb0, hsb5, by simpa using hsb6, by simpa using hsb7, rfl⟩, ?_⟩)
            · simp only [keepN_length, List.length_map, List.length_range]
            · simp only [keepN_length, List.length_map, List.length_range]
              exact c'.sub sL
  · refine fn_enter Tryz.func80 rfl Tryz.ntmps80 rfl ?_
    repeat' (first | (show oL; first | refine sMv rfl rfl ?_ | refine sAs rfl rfl ?_ | refine sLb 1 tabs rfl rfl rfl rfl rfl ?_ | (show oA (.unOp _ _ _); refine st_y (y_notd rfl) rfl ?_) | (show oA (.call _); (refine m_call (ent_of Tryz.func166 kr rfl) rfl rfl (fun w c => impl_IsRep_ok (r := r) (c.rd h0) (c.rd h1) (c.rd h2) (c.rd h3)) ?_; rintro v H' ⟨rfl, rfl⟩)) | (show oA (.pick _ _ _); first | refine st_y (y_pickt rfl aS rfl) rfl ?_ | refine st_y (y_pick rfl rfl rfl) rfl ?_) | (show oA (.store _ _ _); refine m_storeb 0 tabs rfl rfl rfl rfl rfl rfl rfl ?_) | (show oA (.box _ _); refine m_box rfl rfl (fun b1 hb1 => ?_)) | (show oA (.alloc _); refine m_alloc tabs rfl rfl (fun b4 hb4 => ?_)) | (show oA (.build _ _); refine st_y (y_bld0 bld_rp0) rfl ?_) | refine st_gn rfl rfl rfl ?_ | refine st_gfn rfl rfl aS rfl ?_) | refine xNt ?_ | (show oC; first | refine c_seq ?_ | refine c_region ?_ | refine c_ret ?_ | refine c_true rfl ?_) | (show AT _ _ _ _; refine x_then_ret ?_))
    all_goals first | exact absurd aS hR | skip
    exact x_ret2 Tryz.results80 (res_cellb 0 tabs rfl rfl rfl rfl) (res_tmp rfl) (fun w' c' => hfail (b4 := b4) (fun h => hR h.1) c')
end Go.Proofs.YtijjkfbkihgfgaaGreat
