import Derived.Test.YtnmhdmkfhacdbaaGreatDatqA
import Derived.Test.YtnmhdmkfhacdbaaGreatMatqA
namespace Go.Proofs.YtnmhdmkfhacdbaaGreat
open Go.Lg Go.Proofs Go.RowKit
attribute [local irreducible] Code.wp wpList bodyPost Exit.then Exit.inBlock Hp Again Calls Y AT ResV QT
set_option maxRecDepth 20000
set_option maxHeartbeats 4000000

/-- what a list counts -/
def szL {α : Type} (f : α → Nat) (l : List α) : Nat := l.length + (l.map f).sum
theorem szL_get {α : Type} {f : α → Nat} {l : List α} {i : Nat} {x : α} (h : l[i]? = some x) : f x ≤ szL f l := by
  have := le_sum (List.mem_map_of_mem (f := f) (List.mem_of_getElem? h))
  unfold szL
  omega

/-- rows of numbers -/
abbrev rowT (xs : List Int) : List T := [iT xs]
abbrev rowsT (e : Nat) (rs : List (List Int)) : T := .s e 1 (rs.flatMap rowT)
theorem rowT_length (xs : List Int) : (rowT xs).length = 1 := rfl
theorem rowT_map : ∀ rs : List (List Int), rs.flatMap rowT = rs.map iT
  | [] => rfl
  | x :: rs => by rw [List.flatMap_cons, rowT_map rs]; rfl
theorem rowT_set (rs : List (List Int)) (i : Nat) (x : List Int) : (rs.flatMap rowT).set i (iT x) = (rs.set i x).flatMap rowT := by
  rw [rowT_map, rowT_map, List.map_set]
abbrev szRows (rs : List (List Int)) : Nat := szL List.length rs
/-- a space: its size and its rows -/
abbrev Sp := Int × List (List Int)
def spT (s : Sp) : List T := [.c (iV s.1), rowsT 22 s.2]
abbrev spsT (e : Nat) (l : List Sp) : T := .s e 2 (l.flatMap spT)
theorem spT_length (s : Sp) : (spT s).length = 2 := rfl
theorem rd_list {α : Type} {f : α → List T} {w : World} {v : Value} {e k : Nat} {l : List α} (hf : ∀ x, (f x).length = k) (hk : 0 < k) (h : Rd w (.s e k (l.flatMap f)) v) : ∃ a cap, v = .slice a l.length cap ∧ SA a l.length ∧ l.length ≤ cap ∧ cap ≤ maxLen ∧
    ∀ (i : Nat) (x : α), l[i]? = some x → ∀ (q : Nat) (t : T), q < k → (f x)[q]? = some t → ∃ u, w.cell? ⟨ab a, ao a + i * k + q, none⟩ = some u ∧ Rd w t u := by
  obtain ⟨a, n, cap, h1, h2, h3, h4, h5, h6⟩ := Rd.open hk h
  rw [flatMap_length hf] at h5
  have : l.length = n := Nat.eq_of_mul_eq_mul_right hk h5
  subst this
  refine ⟨a, cap, h1, h2, h3, h4, fun i x hx q t hq ht => ?_⟩
  rw [Nat.add_assoc]
  exact h6 (i * k + q) t (by rw [flatMap_get hf hx hq]; exact ht)

theorem rd_rows {w : World} {v : Value} {e : Nat} {rs : List (List Int)} (h : Rd w (rowsT e rs) v) : ∃ a cap, v = .slice a rs.length cap ∧ SA a rs.length ∧ rs.length ≤ cap ∧ cap ≤ maxLen ∧
    ∀ i xs, rs[i]? = some xs → ∃ a2 c2, w.cell? ⟨ab a, ao a + i, none⟩ = some (.slice a2 xs.length c2) ∧ Rd w (iT xs) (.slice a2 xs.length c2) := by
  obtain ⟨a, cap, h1, h2, h3, h4, h5⟩ := rd_list rowT_length (by decide) h
  refine ⟨a, cap, h1, h2, h3, h4, fun i xs hx => ?_⟩
  obtain ⟨u, c, r⟩ := h5 i xs hx 0 _ (by decide) rfl
  obtain ⟨a2, k2, e2, _⟩ := r.ints
  subst e2
  exact ⟨a2, k2, by simpa using c, r⟩
theorem rd_sps {w : World} {v : Value} {e : Nat} {l : List Sp} (h : Rd w (spsT e l) v) : ∃ a cap, v = .slice a l.length cap ∧ SA a l.length ∧ l.length ≤ cap ∧ cap ≤ maxLen ∧
    ∀ i s, l[i]? = some s → ∃ a2 c2, w.cell? ⟨ab a, ao a + i * 2, none⟩ = some (iV s.1) ∧ w.cell? ⟨ab a, ao a + i * 2 + 1, none⟩ = some (.slice a2 s.2.length c2) ∧ Rd w (rowsT 22 s.2) (.slice a2 s.2.length c2) := by
  obtain ⟨a, cap, h1, h2, h3, h4, h5⟩ := rd_list spT_length (by decide) h
  refine ⟨a, cap, h1, h2, h3, h4, fun i s hx => ?_⟩
  obtain ⟨u0, c0, r0⟩ := h5 i s hx 0 _ (by decide) rfl
  obtain ⟨u1, c1, r1⟩ := h5 i s hx 1 _ (by decide) rfl
  obtain ⟨a2, k2, e2, _⟩ := rd_rows r1
  subst e2
  simp only [Rd] at r0
  subst r0
  exact ⟨a2, k2, c0, c1, r1⟩

theorem row0_own (w : World) : OwnL w (rowT []) [.slice none 0 0] [] := by
  simp only [OwnL]
  exact ⟨_, _, [], [], rfl, rfl, .inl ⟨rfl, rfl, rfl⟩, rfl, rfl⟩
def sp0 : Sp := (0, [])
theorem sp0_own (w : World) : OwnL w (spT sp0) [iV 0, .slice none 0 0] [] := by
  simp only [spT, sp0, OwnL, Own]
  exact ⟨_, _, [], [], rfl, rfl, ⟨rfl, rfl⟩, _, _, [], [], rfl, rfl, .inl ⟨rfl, rfl, rfl⟩, rfl, rfl⟩
theorem Hp.spc {M : List Nat} {w0 w : World} {H : List HE} {u0 v : Value} {t : T} (hp : Hp M w0 (.own t v :: H) w) : Hp M w0 (.ownL [.c u0, t] [u0, v] :: H) w := hp.single.ahead u0

/-- a space that a call hands back -/
def GivesSp (s : Sp) (r : Value) (H : List HE) : Prop := ∃ a c, r = .agg #[iV s.1, .slice a s.2.length c] ∧ SA a s.2.length ∧ H = [.own (rowsT 22 s.2) (.slice a s.2.length c)]

theorem szIntS_at {w : World} {xs : List Int} {u : Value} {left : Int} (hu : Rd w (iT xs) u) (h0 : 0 ≤ left) (h1 : left ≤ 1048576) :
    Does Tryz.prog 18 [u, iV left] w (fun v H => v = iV (if left < xs.length then -1 else left - xs.length) ∧ H = []) := by
  obtain ⟨a, c', rfl, hs, hc1, hc2, hget⟩ := hu.ints
  exact szIntS_ok w a _ _ left (by omega) h0 h1
theorem toIntS_at {w : World} {xs : List Int} {u : Value} (hu : Rd w (iT xs) u) (hb : xs.length ≤ 1048576) :
    Does Tryz.prog 23 [u] w (fun r H => Gives (iT xs) xs.length r H) := toIntS_ok w u xs hu hb
theorem eqIntS_at (w : World) (xs ys : List Int) (v u : Value) (hr : Rd w (iT xs) v) (hr' : Rd w (iT ys) u) :
    Does Tryz.prog 10 [v, u] w (fun r H => r = .bool (decide (xs = ys)) ∧ H = []) := eqIntS_ok w v u xs ys hr hr'

theorem szRows_ok {w : World} {e : Nat} {ms : List (List Int)} {u : Value} {left : Int} (hu : Rd w (rowsT e ms) u) (h0 : 0 ≤ left) (h1 : left ≤ 1048576) :
    Does Tryz.prog 35 [u, iV left] w (fun v H => v = iV (if left < szL (List.length) ms then -1 else left - szL (List.length) ms) ∧ H = []) := by
  obtain ⟨a, c', rfl, hs, hc1, hc2, hget⟩ := rd_rows hu
  unfold maxLen at hc2
  have hsz : ms.length ≤ szL (List.length) ms := by unfold szL; omega
  refine fn_enter Tryz.func35 rfl Tryz.ntmps35 rfl ?_
  repeat' (first
    | (show AT _ _ _ (wpList _ _ _ (_ :: _)); first
       | (show AT _ _ _ (wpList _ _ _ (⟨_, Op.move _, _, _, _, _⟩ :: _)); refine st_y (y_move rfl) rfl ?_)
       | (show AT _ _ _ (wpList _ _ _ (⟨_, Op.assign _, _, _, _, _⟩ :: _)); refine st_y (y_assign rfl) rfl ?_)
       | (show AT _ _ _ (wpList _ _ _ (⟨_, Op.binOp _ _ _ _ _, _, _, _, _⟩ :: _)); first | refine st_y (y_sub rfl rfl (by omega)) rfl ?_ | refine st_y (y_lss rfl rfl) rfl ?_)
       | (show AT _ _ _ (wpList _ _ _ (⟨_, Op.call _, _, _, _, _⟩ :: _)); refine st_y (y_len tabs rfl rfl) rfl ?_))
    | (show AT _ _ _ (wpList _ _ _ []); refine c_nil (x_then ?_))
    | (show AT _ _ _ (Code.wp _ _ _); first | refine c_seq ?_ | refine c_region ?_ | refine c_skip (x_then ?_) | refine c_block ?_ | refine c_ret ?_ | refine c_if rfl (fun h => ?_) (fun h => ?_))
    | (show AT _ _ _ _; refine x_then_ret ?_))
  · refine x_ret1 Tryz.results35 (res_tmp rfl) (fun w c => ⟨_, _, rfl, ⟨?_, rfl⟩, c⟩)
    rw [if_pos (by omega)]
  · have hpart : ∀ i, i ≤ ms.length → ms.length + ((ms.map (List.length)).take i).sum ≤ szL (List.length) ms := fun i _ => by
      have := sum_take_le (ms.map (List.length)) i
      unfold szL; omega
    refine c_loop (fun i : Nat => [(0, .slice a ms.length c'), (1, iV (left - ms.length - ((ms.map (List.length)).take i).sum)), (5, .int .i64 i)])
      (fun i w' => (i ≤ ms.length ∧ (0 : Int) ≤ left - ms.length - ((ms.map (List.length)).take i).sum) ∧ Hp [] w [] w') (fun i => ms.length - i) 0 ?_ ?_ ?_
    · exact Sub.cons rfl (Sub.consi rfl (by simp) (Sub.cons rfl Sub.nil))
    · intro w' c
      exact ⟨⟨by omega, by simp; omega⟩, c⟩
    · intro i
      refine AT.pr (fun ⟨hi, hpos⟩ => ?_)
      repeat' (first
        | (show AT _ _ _ (wpList _ _ _ (_ :: _)); first
           | (show AT _ _ _ (wpList _ _ _ (⟨_, Op.move _, _, _, _, _⟩ :: _)); refine st_y (y_move rfl) rfl ?_)
           | (show AT _ _ _ (wpList _ _ _ (⟨_, Op.assign _, _, _, _, _⟩ :: _)); refine st_y (y_assign rfl) rfl ?_)
           | (show AT _ _ _ (wpList _ _ _ (⟨_, Op.indexAddr _ _ _, _, _, _, _⟩ :: _)); refine st_y (y_ix1 tabs rfl rfl rfl (by first | assumption | exact .mk) rfl (by omega)) rfl ?_)
           | (show AT _ _ _ (wpList _ _ _ (⟨_, Op.binOp _ _ _ _ _, _, _, _, _⟩ :: _)); refine st_y (y_lss rfl rfl) rfl ?_)
           | (show AT _ _ _ (wpList _ _ _ (⟨_, Op.call _, _, _, _, _⟩ :: _)); refine st_y (y_len tabs rfl rfl) rfl ?_))
        | (show AT _ _ _ (wpList _ _ _ []); refine c_nil (x_then ?_))
        | (show AT _ _ _ (Code.wp _ _ _); first | refine c_seq ?_ | refine c_region ?_ | refine c_skip (x_then ?_) | refine c_block ?_ | refine c_ret ?_ | refine c_exit ?_ | refine c_if rfl (fun h => ?_) (fun h => ?_))
        | (show AT _ _ _ _; first | refine x_then ?_ | refine x_then_exit ?_ | refine x_blk_exit rfl ?_))
      · obtain ⟨m, hm⟩ : ∃ m, ms[i]? = some m := ⟨_, List.getElem?_eq_getElem (show i < ms.length by omega)⟩
        have hi' : i < ms.length := by omega
        obtain ⟨g1, g2, g3, g4⟩ := hget i m hm
        have hlen : (ms.map (List.length)).getD i 0 = (List.length) m := by simp [List.getD, hm]
        have hnext := sum_take_next (ms.map (List.length)) i (by simpa using hi')
        have hp := hpart (i + 1) (by omega)
        rw [hlen] at hnext
        try simp only at hnext
        repeat' (first
          | (show AT _ _ _ (wpList _ _ _ (_ :: _)); first
             | (show AT _ _ _ (wpList _ _ _ (⟨_, Op.move _, _, _, _, _⟩ :: _)); refine st_y (y_move rfl) rfl ?_)
             | (show AT _ _ _ (wpList _ _ _ (⟨_, Op.assign _, _, _, _, _⟩ :: _)); refine st_y (y_assign rfl) rfl ?_)
             | (show AT _ _ _ (wpList _ _ _ (⟨_, Op.load _ _, _, _, _, _⟩ :: _)); refine st_y (y_load tabs rfl rfl (hc_w0 g3)) rfl ?_)
             | (show AT _ _ _ (wpList _ _ _ (⟨_, Op.binOp _ _ _ _ _, _, _, _, _⟩ :: _)); first | refine st_y (y_add rfl rfl (by omega)) rfl ?_ | refine st_y (y_lss rfl rfl) rfl ?_)
             | (show AT _ _ _ (wpList _ _ _ (⟨_, Op.call _, _, _, _, _⟩ :: _)); (refine m_call (ent_of Tryz.func18 (by kernel_rfl) rfl) rfl rfl (fun w c => szIntS_at (c.rd g4) hpos (by omega)) ?_; rintro v H' ⟨rfl, rfl⟩)))
          | (show AT _ _ _ (wpList _ _ _ []); refine c_nil (x_then ?_))
          | (show AT _ _ _ (Code.wp _ _ _); first | refine c_seq ?_ | refine c_region ?_ | refine c_skip (x_blk ?_) | refine c_ret ?_ | refine c_if rfl (fun h => ?_) (fun h => ?_))
          | (show AT _ _ _ _; first | refine x_then ?_ | refine x_then_ret ?_ | refine x_blk_ret ?_))
        · refine x_ret1 Tryz.results35 (res_tmp rfl) (fun w c => ⟨_, _, rfl, ⟨?_, rfl⟩, c⟩)
          rw [if_pos (by split at h <;> omega)]
        · refine x_next (i + 1) ?_ (fun w' c' => ⟨⟨by omega, by split at h <;> omega⟩, c'⟩) (by omega)
          exact Sub.cons rfl (Sub.consi rfl (by split at h <;> split <;> omega) (Sub.cons rfl Sub.nil))
      · refine x_ret1 Tryz.results35 (res_tmp rfl) (fun w c => ⟨_, _, rfl, ⟨?_, rfl⟩, c⟩)
        have hall : szL (List.length) ms = ms.length + ((ms.map (List.length)).take i).sum := by
          rw [List.take_of_length_le (by simp; omega)]; rfl
        rw [if_neg (by omega), hall]
        exact congrArg iV (by omega)

theorem toRows_ok {w : World} {e : Nat} {ms : List (List Int)} {v : Value} (hr : Rd w (rowsT e ms) v) (hb : szL (List.length) ms ≤ 1048576) :
    Does Tryz.prog 41 [v] w (fun r H => Gives (rowsT 22 ms) ms.length r H) := by
  obtain ⟨a, c, rfl, hs, hc1, hc2, hget⟩ := rd_rows hr
  have hn : ms.length ≤ 1048576 := by unfold szL at hb; omega
  have hcs : ∀ (i : Nat) (m : List Int), ms[i]? = some m → (List.length) m ≤ 1048576 := fun i m hm => Nat.le_trans (szL_get (f := List.length) hm) hb
  refine fn_enter Tryz.func41 rfl Tryz.ntmps41 rfl ?_
  repeat' (first
    | (show AT _ _ _ (wpList _ _ _ (_ :: _)); first
       | (show AT _ _ _ (wpList _ _ _ (⟨_, Op.move _, _, _, _, _⟩ :: _)); refine st_y (y_move rfl) rfl ?_)
       | (show AT _ _ _ (wpList _ _ _ (⟨_, Op.assign _, _, _, _, _⟩ :: _)); refine st_y (y_assign rfl) rfl ?_)
       | (show AT _ _ _ (wpList _ _ _ (⟨_, Op.call _, _, _, _, _⟩ :: _)); refine st_y (y_len tabs rfl rfl) rfl ?_)
       | (show AT _ _ _ (wpList _ _ _ (⟨_, Op.makeSlice _ _ _, _, _, _, _⟩ :: _)); refine m_makeT tabs (tz := rowT []) rfl rfl rfl (by omega) (by omega) (by decide) row0_own rfl (fun b hb1 => ?_)))
    | (show AT _ _ _ (wpList _ _ _ []); refine c_nil (x_then ?_))
    | (show AT _ _ _ (Code.wp _ _ _); first | refine c_seq ?_ | refine c_region ?_ | refine c_block ?_))
  refine c_loop (fun i : Nat => [(0, .slice a ms.length c), (3, .slice (some ⟨b, 0, none⟩) ms.length ms.length), (4, .int .i64 i)])
    (fun i w' => i ≤ ms.length ∧ Hp [] w [.own (rowsT 22 (ms.take i ++ List.replicate (ms.length - i) [])) (.slice (some ⟨b, 0, none⟩) ms.length ms.length)] w') (fun i => ms.length - i) 0 ?_ ?_ ?_
  · exact (by repeat' (first | exact Sub.nil | refine Sub.cons rfl ?_ | refine Sub.consi rfl (by omega) ?_))
  · intro w' c'
    exact ⟨by omega, by simpa [rowsT, flatMap_rep] using c'⟩
  · intro i
    refine AT.pr (fun hi => ?_)
    repeat' (first
      | (show AT _ _ _ (wpList _ _ _ (_ :: _)); first
         | (show AT _ _ _ (wpList _ _ _ (⟨_, Op.move _, _, _, _, _⟩ :: _)); refine st_y (y_move rfl) rfl ?_)
         | (show AT _ _ _ (wpList _ _ _ (⟨_, Op.assign _, _, _, _, _⟩ :: _)); refine st_y (y_assign rfl) rfl ?_)
         | (show AT _ _ _ (wpList _ _ _ (⟨_, Op.indexAddr _ _ _, _, _, _, _⟩ :: _)); refine st_y (y_ix1 tabs rfl rfl rfl (by first | assumption | exact .mk) rfl (by omega)) rfl ?_)
         | (show AT _ _ _ (wpList _ _ _ (⟨_, Op.binOp _ _ _ _ _, _, _, _, _⟩ :: _)); refine st_y (y_lss rfl rfl) rfl ?_)
         | (show AT _ _ _ (wpList _ _ _ (⟨_, Op.call _, _, _, _, _⟩ :: _)); refine st_y (y_len tabs rfl rfl) rfl ?_))
      | (show AT _ _ _ (wpList _ _ _ []); refine c_nil (x_then ?_))
      | (show AT _ _ _ (Code.wp _ _ _); first | refine c_seq ?_ | refine c_region ?_ | refine c_skip (x_then ?_) | refine c_block ?_ | refine c_ret ?_ | refine c_exit ?_ | refine c_if rfl (fun h => ?_) (fun h => ?_))
      | (show AT _ _ _ _; first | refine x_then ?_ | refine x_then_exit ?_ | refine x_blk_exit rfl ?_))
    · have hi' : i < ms.length := by omega
      obtain ⟨m, hm⟩ : ∃ m, ms[i]? = some m := ⟨_, List.getElem?_eq_getElem hi'⟩
      obtain ⟨g1, g2, g3, g4⟩ := hget i m hm
      repeat' (first
        | (show AT _ _ _ (wpList _ _ _ (_ :: _)); first
           | (show AT _ _ _ (wpList _ _ _ (⟨_, Op.move _, _, _, _, _⟩ :: _)); refine st_y (y_move rfl) rfl ?_)
           | (show AT _ _ _ (wpList _ _ _ (⟨_, Op.assign _, _, _, _, _⟩ :: _)); refine st_y (y_assign rfl) rfl ?_)
           | (show AT _ _ _ (wpList _ _ _ (⟨_, Op.load _ _, _, _, _, _⟩ :: _)); refine st_y (y_load tabs rfl rfl (hc_w0 g3)) rfl ?_)
           | (show AT _ _ _ (wpList _ _ _ (⟨_, Op.indexAddr _ _ _, _, _, _, _⟩ :: _)); refine st_y (y_ix1 tabs rfl rfl rfl (by first | assumption | exact .mk) rfl (by omega)) rfl ?_)
           | (show AT _ _ _ (wpList _ _ _ (⟨_, Op.binOp _ _ _ _ _, _, _, _, _⟩ :: _)); refine st_y (y_add rfl rfl (by omega)) rfl ?_)
           | (show AT _ _ _ (wpList _ _ _ (⟨_, Op.call _, _, _, _, _⟩ :: _)); (refine m_call (ent_of Tryz.func23 (by kernel_rfl) rfl) rfl rfl (fun w c => toIntS_at (c.rd g4) (hcs i m hm)) ?_; rintro v H' ⟨a4, c4, rfl, hs4, rfl⟩))
           | (show AT _ _ _ (wpList _ _ _ (⟨_, Op.store _ _ _, _, _, _, _⟩ :: _)); refine m_storeS1 tabs (m := ms.length) (tn := iT m) (j := i) rfl rfl rfl rfl (by rw [flatMap_length rowT_length]; simp; try omega) hi' (fun w c => c.swap) ?_))
        | (show AT _ _ _ (wpList _ _ _ []); first | refine c_nil (x_then ?_) | refine c_nil ?_)
        | (show AT _ _ _ (Code.wp _ _ _); refine c_region ?_)
        | (show AT _ _ _ _; first | refine x_then ?_ | refine x_blk ?_))
      refine x_next (i + 1) (by repeat' (first | exact Sub.nil | refine Sub.cons rfl ?_ | refine Sub.consi rfl (by omega) ?_)) (fun w' c' => ⟨by omega, ?_⟩) (by omega)
      rw [rowT_set, set_fill ms i [] hi' _ hm] at c'
      exact c'
    · refine x_ret1 Tryz.results41 (res_tmp rfl) (fun w' c' => ⟨_, _, rfl, ⟨_, _, rfl, .mk, rfl⟩, ?_⟩)
      have e1 : ms.take i = ms := take_end (by omega)
      have e2 : ms.length - i = 0 := by omega
      simpa [e1, e2] using c'

theorem szSpace_ok {w : World} {n : Int} {u : Value} {rs : List (List Int)} {left : Int} (hu : Rd w (rowsT 22 rs) u) (h0 : 0 ≤ left) (h1 : left ≤ 1048576) :
    Does Tryz.prog 20 [.agg #[iV n, u], iV left] w (fun v H => v = iV (if left < szRows rs then -1 else left - szRows rs) ∧ H = []) := by
  obtain ⟨a, c', rfl, hs, hc1, hc2, hget⟩ := rd_rows hu
  refine fn_enter Tryz.func20 rfl Tryz.ntmps20 rfl ?_
  repeat' (first
    | (show AT _ _ _ (wpList _ _ _ (_ :: _)); first
       | (show AT _ _ _ (wpList _ _ _ (⟨_, Op.move _, _, _, _, _⟩ :: _)); refine st_y (y_move rfl) rfl ?_)
       | (show AT _ _ _ (wpList _ _ _ (⟨_, Op.assign _, _, _, _, _⟩ :: _)); refine st_y (y_assign rfl) rfl ?_)
       | (show AT _ _ _ (wpList _ _ _ (⟨_, Op.fieldAddr _ _ _, _, _, _, _⟩ :: _)); refine st_y (y_field tabs rfl rfl rfl) rfl ?_)
       | (show AT _ _ _ (wpList _ _ _ (⟨_, Op.load _ _, _, _, _, _⟩ :: _)); refine st_y (y_load tabs rfl rfl (hc_blk 0 rfl rfl)) rfl ?_)
       | (show AT _ _ _ (wpList _ _ _ (⟨_, Op.binOp _ _ _ _ _, _, _, _, _⟩ :: _)); refine st_y (y_lss rfl rfl) rfl ?_)
       | (show AT _ _ _ (wpList _ _ _ (⟨_, Op.call _, _, _, _, _⟩ :: _)); (refine m_call (ent_of Tryz.func35 (by kernel_rfl) rfl) rfl rfl (fun w c => szRows_ok (c.rd hu) h0 h1) ?_; rintro v H' ⟨rfl, rfl⟩))
       | (show AT _ _ _ (wpList _ _ _ (⟨_, Op.box _ _, _, _, _, _⟩ :: _)); refine m_box rfl rfl (fun b hb => ?_)))
    | (show AT _ _ _ (wpList _ _ _ []); refine c_nil (x_then ?_))
    | (show AT _ _ _ (Code.wp _ _ _); first | refine c_seq ?_ | refine c_region ?_ | refine c_skip (x_then ?_) | refine c_ret ?_ | refine c_if rfl (fun h => ?_) (fun h => ?_))
    | (show AT _ _ _ _; refine x_then_ret ?_))
  · refine x_ret1 Tryz.results20 (res_tmp rfl) (fun w c => ⟨_, _, rfl, ⟨?_, rfl⟩, c.sub (List.nil_sublist _)⟩)
    rw [if_pos (by split at h <;> omega)]
  · refine x_ret1 Tryz.results20 (res_tmp rfl) (fun w c => ⟨_, _, rfl, ⟨?_, rfl⟩, c.sub (List.nil_sublist _)⟩)
    rfl

theorem toSpace_ok {w : World} {s : Sp} {u : Value} (hu : Rd w (rowsT 22 s.2) u) (hb : szRows s.2 ≤ 1048576) :
    Does Tryz.prog 25 [.agg #[iV s.1, u]] w (GivesSp s) := by
  obtain ⟨r, rs⟩ := s
  simp only at hu hb ⊢
  refine fn_enter Tryz.func25 rfl Tryz.ntmps25 rfl ?_
  repeat' (first
    | (show AT _ _ _ (wpList _ _ _ (_ :: _)); first
       | (show AT _ _ _ (wpList _ _ _ (⟨_, Op.fieldAddr _ _ _, _, _, _, _⟩ :: _)); refine st_y (y_field tabs rfl rfl rfl) rfl ?_)
       | (show AT _ _ _ (wpList _ _ _ (⟨_, Op.load _ _, _, _, _, _⟩ :: _)); first | refine st_y (y_loadb 1 tabs rfl rfl rfl rfl) rfl ?_ | refine st_y (y_load tabs rfl rfl (hc_blk 2 rfl rfl)) rfl ?_)
       | (show AT _ _ _ (wpList _ _ _ (⟨_, Op.call _, _, _, _, _⟩ :: _)); (refine m_call (ent_of Tryz.func41 (by kernel_rfl) rfl) rfl rfl (fun w c => toRows_ok (c.rd hu) hb) ?_; rintro v H' ⟨a, c', rfl, hs, rfl⟩))
       | (show AT _ _ _ (wpList _ _ _ (⟨_, Op.store _ _ _, _, _, _, _⟩ :: _)); first | refine m_storef 0 tabs rfl rfl rfl rfl rfl rfl ?_ | refine m_storef 1 tabs rfl rfl rfl rfl rfl rfl ?_ | refine m_storeb 2 tabs rfl rfl rfl rfl rfl rfl rfl ?_)
       | (show AT _ _ _ (wpList _ _ _ (⟨_, Op.box _ _, _, _, _, _⟩ :: _)); refine m_box rfl rfl (fun b1 hb1 => ?_))
       | (show AT _ _ _ (wpList _ _ _ (⟨_, Op.alloc _, _, _, _, _⟩ :: _)); refine m_alloc tabs rfl rfl (fun b2 hb2 => ?_)))
    | (show AT _ _ _ (wpList _ _ _ []); refine c_nil (x_then ?_))
    | (show AT _ _ _ (Code.wp _ _ _); first | refine c_seq ?_ | refine c_region ?_ | refine c_ret ?_))
  refine x_ret1 Tryz.results25 (res_cellb 2 tabs rfl rfl rfl rfl) (fun w c => ⟨_, _, rfl, ⟨a, c', rfl, hs, rfl⟩, ?_⟩)
  exact c.sub (.cons_cons _ (List.nil_sublist _))
end Go.Proofs.YtnmhdmkfhacdbaaGreat
