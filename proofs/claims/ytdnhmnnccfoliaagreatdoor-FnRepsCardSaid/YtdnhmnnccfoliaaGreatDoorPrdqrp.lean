import Derived.Test.YtdnhmnnccfoliaaGreatDoorDrwqrp
import Derived.Test.YtdnhmnnccfoliaaGreatDoorLBqrp
import Derived.Test.YtdnhmnnccfoliaaGreatDoorOpnqrp
import Derived.Test.YtdnhmnnccfoliaaGreatDoorTabqrp
namespace Go.Proofs.YtdnhmnnccfoliaaGreatDoor
open Go.Lg Go.Proofs Go.RowKit Go.WideShapes Go.ChangeShapes
set_option maxRecDepth 100000
section
variable {H : Type} {enc : TypeId × Value → H} {w : World} {base : Nat} {spare : Nat → Bool} {held : Bool} {r : Reach} {b0 : Nat} {v : Value} {d : DataW H} {p : List MemPlace}
theorem tr_u8 {t fuel : Nat} {cs : List Value} {x : DataW H × List MemPlace} (ht : Tryz.prog.underlying t = some (.int .u8)) (h : DataW.trod enc Tryz.prog w base spare held fuel t cs = some x) : ∃ n : Int, cs = [.int .u8 n] ∧ (0 ≤ n ∧ n ≤ 255) := by
  obtain ⟨n, h1, _, h3⟩ := DataW.trod_int ht h
  refine ⟨n, h1, ?_⟩
  have := h3
  simp only [Lit.wf] at this
  simp [IntKind.min, IntKind.max, IntKind.signed, IntKind.bits] at this
  omega
theorem flat_byte {l : List Int} : l.flatMap (fun n => [T.c (.int .u8 n)]) = l.map (fun x => T.c (.int .u8 x)) := by
  induction l with
  | nil => rfl
  | cons x l ih => rw [List.flatMap_cons, ih]; rfl
theorem tr_bytes {fuel : Nat} {cs : List Value} {x : DataW H × List MemPlace} (h : DataW.trod enc Tryz.prog w base spare held fuel 38 cs = some x) : ∃ v xs, cs = [v] ∧ Rd w (byT xs) v ∧ ∀ n ∈ xs, 0 ≤ n ∧ n ≤ 255 := by
  obtain ⟨v, l, h1, h2, h3⟩ := tr_slice (e' := 5) (f := fun n => [T.c (.int .u8 n)]) (G := fun n : Int => 0 ≤ n ∧ n ≤ 255) Tryz.underlying38 kr (by decide) (fun _ => rfl) (fun fuel cs x hx => by
    obtain ⟨n, rfl, hn⟩ := tr_u8 Tryz.underlying5 hx
    refine ⟨n, ⟨rfl, fun j t u ht hu => ?_⟩, hn⟩
    cases j with
    | zero => simp at ht hu; subst ht; subst hu; simp only [Rd]
    | succ j => simp at ht) h
  rw [flat_byte] at h2
  exact ⟨v, l, h1, h2, h3⟩
theorem opn_bytes (hv : Value.okWide Tryz.prog w r b0 38 v) (h : DataW.Trod enc Tryz.prog w base spare held 38 v d p) : ∃ xs, Rd w (byT xs) v ∧ Byt xs := by
  obtain ⟨fuel, hf⟩ := h
  obtain ⟨a, n, c, rfl⟩ := okWide_slice Tryz.underlying38 hv
  obtain ⟨v', xs, e, g1, g2⟩ := tr_bytes hf
  simp [Value.cells] at e
  subst e
  exact ⟨xs, g1, fun j hj => g2 _ (by simp [List.getD, hj])⟩
theorem codeF_of {w : World} {xs : List Int} {u : Value} (h : Rd w (byT xs) u) (g : Byt xs) (hl : xs.length ≤ 1048576) : CodeF w [] u := ⟨xs, RdOut.of_rd h, g, hl⟩
theorem bytes_sl {w : World} {xs : List Int} {u : Value} (h : Rd w (byT xs) u) : ∃ a c, u = .slice a xs.length c := by
  obtain ⟨a, m, cap, h1, _, _, _, h5, _⟩ := Rd.open (by decide) h
  have hm : xs.length = m := by simpa using h5
  subst hm
  exact ⟨a, cap, h1⟩
end
end Go.Proofs.YtdnhmnnccfoliaaGreatDoor

namespace Go.Proofs.YtdnhmnnccfoliaaGreatDoor
open Go.Lg Go.Proofs Go.RowKit
attribute [local irreducible] Code.wp wpList bodyPost Exit.then Exit.inBlock Hp Again Calls Y AT ResV QT
set_option maxRecDepth 20000
set_option maxHeartbeats 4000000

abbrev rowT (xs : List Int) : List T := [iT xs]
abbrev rowsT (e : Nat) (rs : List (List Int)) : T := .s e 1 (rs.flatMap rowT)
theorem rowT_length (xs : List Int) : (rowT xs).length = 1 := rfl
theorem rowT_map : ∀ rs : List (List Int), rs.flatMap rowT = rs.map iT
  | [] => rfl
  | x :: rs => by rw [List.flatMap_cons, rowT_map rs]; rfl
abbrev Sp := Int × List (List Int)
theorem rd_list {α : Type} {f : α → List T} {w : World} {v : Value} {e k : Nat} {l : List α} (hf : ∀ x, (f x).length = k) (hk : 0 < k) (h : Rd w (.s e k (l.flatMap f)) v) : ∃ a cap, v = .slice a l.length cap ∧ SA a l.length ∧ l.length ≤ cap ∧ cap ≤ maxLen ∧
    ∀ (i : Nat) (x : α), l[i]? = some x → ∀ (q : Nat) (t : T), q < k → (f x)[q]? = some t → ∃ u, w.cell? ⟨ab a, ao a + i * k + q, none⟩ = some u ∧ Rd w t u := by
  obtain ⟨a, n, cap, h1, h2, h3, h4, h5, h6⟩ := Rd.open hk h
  rw [flatMap_length hf] at h5
  have : l.length = n := Nat.eq_of_mul_eq_mul_right hk h5
  subst this
  refine ⟨a, cap, h1, h2, h3, h4, fun i x hx q t hq ht => ?_⟩
  rw [Nat.add_assoc]
  exact h6 (i * k + q) t (by rw [flatMap_get hf hx hq]; exact ht)

theorem rd_rows {w : World} {v : Value} {e : Nat} {rs : List (List Int)} (h : Rd w (rowsT e rs) v) : ∃ a cap, v = .slice a rs.length cap ∧ SA a rs.length ∧ rs.length ≤ cap ∧ cap ≤ maxLen ∧
    ∀ i xs, rs[i]? = some xs → ∃ a2 c2, w.cell? ⟨ab a, ao a + i, none⟩ = some (.slice a2 xs.length c2) ∧ Rd w (iT xs) (.slice a2 xs.length c2) := by
  obtain ⟨a, cap, h1, h2, h3, h4, h5⟩ := rd_list rowT_length (by decide) h
  refine ⟨a, cap, h1, h2, h3, h4, fun i xs hx => ?_⟩
  obtain ⟨u, c, r⟩ := h5 i xs hx 0 _ (by decide) rfl
  obtain ⟨a2, k2, e2, _⟩ := r.ints
  subst e2
  exact ⟨a2, k2, by simpa using c, r⟩
end Go.Proofs.YtdnhmnnccfoliaaGreatDoor

namespace Go.Proofs.YtdnhmnnccfoliaaGreatDoor
open Go.Lg Go.Proofs Go.RowKit
attribute [local irreducible] Code.wp wpList bodyPost Exit.then Exit.inBlock Hp Again Calls Y AT ResV QT
set_option maxRecDepth 20000
set_option maxHeartbeats 4000000

abbrev Qv := Int × List Int × List Int
abbrev szQ (q : Qv) : Nat := q.2.1.length + q.2.2.length
structure Rp where
  p : Int
  q : Qv
  d : List Int
  m : List Mat
deriving DecidableEq
def GivesQ (q : Qv) (r : Value) (H : List HE) : Prop := ∃ a c a' c', r = .agg #[iV q.1, .slice a q.2.1.length c, .slice a' q.2.2.length c'] ∧ SA a q.2.1.length ∧ SA a' q.2.2.length ∧ H = [.own (iT q.2.2) (.slice a' q.2.2.length c'), .own (iT q.2.1) (.slice a q.2.1.length c)]
def GivesR (r : Rp) (v : Value) (H : List HE) : Prop := ∃ a0 c0 a1 c1 a2 c2 a3 c3, v = .agg #[iV r.p, iV r.q.1, .slice a0 r.q.2.1.length c0, .slice a1 r.q.2.2.length c1, .slice a2 r.d.length c2, .slice a3 r.m.length c3] ∧
  SA a0 r.q.2.1.length ∧ SA a1 r.q.2.2.length ∧ SA a2 r.d.length ∧ SA a3 r.m.length ∧
  H = [.own (matsT 41 r.m) (.slice a3 r.m.length c3), .own (iT r.d) (.slice a2 r.d.length c2), .own (iT r.q.2.2) (.slice a1 r.q.2.2.length c1), .own (iT r.q.2.1) (.slice a0 r.q.2.1.length c0)]

end Go.Proofs.YtdnhmnnccfoliaaGreatDoor

namespace Go.Proofs.YtdnhmnnccfoliaaGreatDoor
open Go.Lg Go.Proofs Go.RowKit
attribute [local irreducible] Code.wp wpList bodyPost Exit.then Exit.inBlock Hp Again Calls Y AT ResV QT
set_option maxRecDepth 20000
set_option maxHeartbeats 4000000

def FieldP (p : Int) : Prop := p = 2 ∨ p = 3 ∨ p = 5
instance (p : Int) : Decidable (FieldP p) := by unfold FieldP; infer_instance
def InP (lo hi : Int) (xs : List Int) : Prop := ∀ x ∈ xs, lo ≤ x ∧ x ≤ hi
instance (lo hi : Int) (xs : List Int) : Decidable (InP lo hi xs) := by unfold InP; infer_instance
def VecP (p : Int) (xs : List Int) : Prop := FieldP p ∧ xs.length ≤ 64 ∧ InP 0 (p - 1) xs
instance (p : Int) (xs : List Int) : Decidable (VecP p xs) := by unfold VecP; infer_instance
def MatP (p : Int) (m : Mat) : Prop := (0 ≤ m.1 ∧ m.1 ≤ 8) ∧ (0 ≤ m.2.1 ∧ m.2.1 ≤ 8) ∧ (m.2.2.length : Int) = m.1 * m.2.1 ∧ VecP p m.2.2
instance (p : Int) (m : Mat) : Decidable (MatP p m) := by unfold MatP; infer_instance

theorem spec_IsField_ok {w : World} (p : Int) : Does Tryz.prog 76 [iV p] w (fun v H => v = .bool (decide (FieldP p)) ∧ H = []) := by
  refine fn_enter Tryz.func76 rfl Tryz.ntmps76 rfl ?_
  repeat' (first | (show oL; first | refine sMv rfl rfl ?_ | refine sAs rfl rfl ?_ | (show oA (.binOp _ _ _ _ _); refine st_y (y_eql rfl rfl) rfl ?_) | (show oA (.pick _ _ _); first | refine st_y (y_pickt rfl aS rfl) rfl ?_ | refine st_y (y_pickf rfl aS rfl) rfl ?_ | refine st_y (y_pick rfl rfl rfl) rfl ?_) | refine st_gn rfl rfl rfl ?_ | refine st_gfy rfl rfl aS ?_ | refine st_gfn rfl rfl aS rfl ?_ | refine st_gd rfl rfl (fun h => ?_) (fun h => ?_)) | refine xNt ?_ | (show oC; first | refine c_seq ?_ | refine c_region ?_ | refine c_ret ?_))
  all_goals refine x_ret1 Tryz.results76 (res_tmp rfl) (fun w c => ⟨_, _, rfl, ⟨?_, rfl⟩, c⟩)
  all_goals simp_all [FieldP]
theorem impl_IsField_ok {w : World} (p : Int) : Does Tryz.prog 131 [iV p] w (fun v H => v = .bool (decide (FieldP p)) ∧ H = []) := by
  refine fn_enter Tryz.func131 rfl Tryz.ntmps131 rfl ?_
  repeat' (first | (show oL; first | refine sMv rfl rfl ?_ | refine sAs rfl rfl ?_ | (show oA (.binOp _ _ _ _ _); refine st_y (y_eql rfl rfl) rfl ?_) | (show oA (.pick _ _ _); first | refine st_y (y_pickt rfl aS rfl) rfl ?_ | refine st_y (y_pickf rfl aS rfl) rfl ?_ | refine st_y (y_pick rfl rfl rfl) rfl ?_) | refine st_gn rfl rfl rfl ?_ | refine st_gfy rfl rfl aS ?_ | refine st_gfn rfl rfl aS rfl ?_ | refine st_gd rfl rfl (fun h => ?_) (fun h => ?_)) | refine xNt ?_ | (show oC; first | refine c_seq ?_ | refine c_region ?_ | refine c_ret ?_))
  all_goals refine x_ret1 Tryz.results131 (res_tmp rfl) (fun w c => ⟨_, _, rfl, ⟨?_, rfl⟩, c⟩)
  all_goals simp_all [FieldP]
theorem l1In_ok {w : World} (x lo hi : Int) : Does Tryz.prog 104 [iV x, iV lo, iV hi] w (fun v H => v = .bool (decide (lo ≤ x ∧ x ≤ hi)) ∧ H = []) := by
  refine fn_enter Tryz.func104 rfl Tryz.ntmps104 rfl ?_
  repeat' (first | (show oL; first | refine sMv rfl rfl ?_ | refine sAs rfl rfl ?_ | (show oA (.binOp _ _ _ _ _); first | refine st_y (y_leq rfl rfl) rfl ?_ | refine st_y (y_geq rfl rfl) rfl ?_) | (show oA (.pick _ _ _); first | refine st_y (y_pickt rfl aS rfl) rfl ?_ | refine st_y (y_pickf rfl aS rfl) rfl ?_) | refine st_gdy rfl rfl aS ?_ | refine st_gdn rfl rfl aS rfl ?_ | refine st_gd rfl rfl (fun h => ?_) (fun h => ?_)) | refine xNt ?_ | (show oC; first | refine c_seq ?_ | refine c_region ?_ | refine c_ret ?_))
  all_goals refine x_ret1 Tryz.results104 (res_tmp rfl) (fun w c => ⟨_, _, rfl, ⟨?_, rfl⟩, c⟩)
  all_goals first | (simp_all; done) | (simp_all; omega)
theorem within_ok {w : World} (x lo hi : Int) : Does Tryz.prog 106 [iV x, iV lo, iV hi] w (fun v H => v = .bool (decide (lo ≤ x ∧ x ≤ hi)) ∧ H = []) := by
  refine fn_enter Tryz.func106 rfl Tryz.ntmps106 rfl ?_
  repeat' (first | (show oL; first | refine sMv rfl rfl ?_ | refine sAs rfl rfl ?_ | (show oA (.binOp _ _ _ _ _); first | refine st_y (y_leq rfl rfl) rfl ?_ | refine st_y (y_geq rfl rfl) rfl ?_) | (show oA (.pick _ _ _); first | refine st_y (y_pickt rfl aS rfl) rfl ?_ | refine st_y (y_pickf rfl aS rfl) rfl ?_) | refine st_gdy rfl rfl aS ?_ | refine st_gdn rfl rfl aS rfl ?_ | refine st_gd rfl rfl (fun h => ?_) (fun h => ?_)) | refine xNt ?_ | (show oC; first | refine c_seq ?_ | refine c_region ?_ | refine c_ret ?_))
  all_goals refine x_ret1 Tryz.results106 (res_tmp rfl) (fun w c => ⟨_, _, rfl, ⟨?_, rfl⟩, c⟩)
  all_goals first | (simp_all; done) | (simp_all; omega)
theorem allWithin1_ok {w : World} {x lo hi : Int} {b b' : Nat} (h : w.cell? ⟨b, 0, none⟩ = some (iV lo)) (h' : w.cell? ⟨b', 0, none⟩ = some (iV hi)) :
    Does Tryz.prog 177 [iV x, .pointer (some ⟨b, 0, none⟩), .pointer (some ⟨b', 0, none⟩)] w (fun v H => v = .bool (decide (¬ (lo ≤ x ∧ x ≤ hi))) ∧ H = []) := by
  refine fn_enter Tryz.func177 rfl Tryz.ntmps177 rfl ?_
  repeat' (first | (show oL; first | refine sMv rfl rfl ?_ | refine sAs rfl rfl ?_ | (show oA (.load _ _); first | refine st_y (y_load tabs rfl rfl (hc_w0 h)) rfl ?_ | refine st_y (y_load tabs rfl rfl (hc_w0 h')) rfl ?_) | (show oA (.unOp _ _ _); refine st_y (y_notd rfl) rfl ?_) | (show oA (.call _); (refine m_call (ent_of Tryz.func106 kr rfl) rfl rfl (fun w c => within_ok _ _ _) ?_; rintro v H' ⟨rfl, rfl⟩))) | refine xNt ?_ | (show oC; first | refine c_seq ?_ | refine c_region ?_ | refine c_ret ?_))
  all_goals refine x_ret1 Tryz.results177 (res_tmp rfl) (fun w c => ⟨_, _, rfl, ⟨?_, rfl⟩, c⟩)
  all_goals rw [decide_not]
theorem IndexFunc_ok {w : World} {v : Value} {xs : List Int} {g : Nat} {cap : Array Value} {p : Int → Prop} [DecidablePred p] (hr : Rd w (iT xs) v) (he : Ent Tryz.prog g)
    (hf : ∀ w' x, Hp [] w [] w' → Does Tryz.prog g ([iV x] ++ cap.toList) w' (fun r H => r = .bool (decide (p x)) ∧ H = [])) :
    Does Tryz.prog 195 [v, .func (.func g) #[] cap] w (fun r H => (∃ k, r = iV k ∧ (0 ≤ k ↔ ∃ x ∈ xs, p x)) ∧ H = []) := by
  obtain ⟨a, c, rfl, hs, hc1, hc2, hget⟩ := hr.ints
  unfold maxLen at hc2
  refine fn_enter Tryz.func195 rfl Tryz.ntmps195 rfl ?_
  repeat' (first | (show oL; first | refine sMv rfl rfl ?_ | refine sAs rfl rfl ?_ | refine sLn tabs rfl rfl rfl ?_) | refine xNt ?_ | (show oC; first | refine c_seq ?_ | refine c_region ?_ | refine c_block ?_))
  refine c_loop (fun i : Nat => [(0, .slice a xs.length c), (1, .func (.func g) #[] cap), (7, iV xs.length), (8, .int .i64 i)])
    (fun i w' => (i ≤ xs.length ∧ ∀ x ∈ xs.take i, ¬ p x) ∧ Hp [] w [] w') (fun i => xs.length - i) 0 ?_ ?_ ?_
  · exact sB
  · intro w' c'
    exact ⟨⟨by omega, by simp⟩, c'⟩
  · intro i
    refine AT.pr (fun ⟨hi, hn⟩ => ?_)
    repeat' (first | (show oL; first | refine sMv rfl rfl ?_ | refine sAs rfl rfl ?_ | (show oA (.load _ _); refine st_y (y_load tabs rfl rfl (hc_w0 (hget _ om))) rfl ?_) | (show oA (.indexAddr _ _ _); refine st_y (y_ix1 tabs rfl rfl rfl mK rfl om) rfl ?_) | (show oA (.binOp _ _ _ _ _); first | refine sAd rfl rfl om rfl ?_ | refine sLs rfl rfl rfl ?_) | (show oA (.call _); (refine m_callv rfl he rfl rfl (fun w c => hf w _ c) ?_; rintro v H' ⟨rfl, rfl⟩))) | refine xNt ?_ | (show oC; first | refine c_seq ?_ | refine c_region ?_ | refine c_skip (x_then ?_) | refine c_skip (x_blk ?_) | refine c_block ?_ | refine c_ret ?_ | refine c_exit ?_ | refine c_if rfl (fun h => ?_) (fun h => ?_)) | (show AT _ _ _ _; first | refine x_then ?_ | refine x_then_ret ?_ | refine x_blk_ret ?_ | refine x_then_exit ?_ | refine x_blk_exit rfl ?_))
    · refine x_ret1 Tryz.results195 (res_tmp rfl) (fun w' c' => ⟨_, _, rfl, ⟨⟨i, rfl, ?_⟩, rfl⟩, c'⟩)
      have hi' : i < xs.length := by omega
      refine ⟨fun _ => ⟨_, List.getElem_mem hi', ?_⟩, fun _ => by omega⟩
      simpa [List.getD, hi'] using h
    · refine x_next (i + 1) sB (fun w' c' => ⟨⟨by omega, ?_⟩, c'⟩) om
      intro x hx
      rw [take_next (z := 0) om] at hx
      rcases List.mem_append.1 hx with hx | hx
      · exact hn x hx
      · simp at hx
        subst hx
        simpa [List.getD] using h
    · refine x_ret1 Tryz.results195 (res_tmp rfl) (fun w' c' => ⟨_, _, rfl, ⟨⟨-1, rfl, ?_⟩, rfl⟩, c'⟩)
      rw [take_end om] at hn
      constructor
      · intro hh; omega
      · rintro ⟨x, hx, hp⟩; exact absurd hp (hn x hx)
theorem ContainsFunc_ok {w : World} {v : Value} {xs : List Int} {g : Nat} {cap : Array Value} {p : Int → Prop} [DecidablePred p] (hr : Rd w (iT xs) v) (he : Ent Tryz.prog g)
    (hf : ∀ w' x, Hp [] w [] w' → Does Tryz.prog g ([iV x] ++ cap.toList) w' (fun r H => r = .bool (decide (p x)) ∧ H = [])) :
    Does Tryz.prog 176 [v, .func (.func g) #[] cap] w (fun r H => r = .bool (decide (∃ x ∈ xs, p x)) ∧ H = []) := by
  refine fn_enter Tryz.func176 rfl Tryz.ntmps176 rfl ?_
  repeat' (first | (show oL; first | refine sMv rfl rfl ?_ | refine sAs rfl rfl ?_ | (show oA (.binOp _ _ _ _ _); refine st_y (y_geq rfl rfl) rfl ?_) | (show oA (.call _); (refine m_call (ent_of Tryz.func195 kr rfl) rfl rfl (fun w c => IndexFunc_ok (c.rd hr) he (fun w' x c' => hf w' x (c.trans c'))) ?_; rintro v H' ⟨⟨k, rfl, hk⟩, rfl⟩))) | refine xNt ?_ | (show oC; first | refine c_seq ?_ | refine c_region ?_ | refine c_ret ?_))
  refine x_ret1 Tryz.results176 (res_tmp rfl) (fun w' c' => ⟨_, _, rfl, ⟨?_, rfl⟩, c'⟩)
  simp [hk]
theorem allWithin_ok {w : World} {v : Value} {xs : List Int} {lo hi : Int} (hr : Rd w (iT xs) v) :
    Does Tryz.prog 149 [v, iV lo, iV hi] w (fun r H => r = .bool (decide (InP lo hi xs)) ∧ H = []) := by
  refine fn_enter Tryz.func149 rfl Tryz.ntmps149 rfl ?_
  repeat' (first | (show oL; first | refine sMv rfl rfl ?_ | refine sAs rfl rfl ?_ | (show oA (.unOp _ _ _); refine st_y (y_notd rfl) rfl ?_) | (show oA (.call _); (refine m_call (ent_of Tryz.func176 kr rfl) rfl rfl (fun w c => ContainsFunc_ok (p := fun x => ¬ (lo ≤ x ∧ x ≤ hi)) (c.rd hr) (ent_of Tryz.func177 kr rfl) (fun w' x c' => allWithin1_ok (c'.cell (hc_blk 1 rfl rfl w c)) (c'.cell (hc_blk 0 rfl rfl w c)))) ?_; rintro v H' ⟨rfl, rfl⟩)) | (show oA (.makeFunc _ _ _); refine st_y (y_fn rfl rfl) rfl ?_) | (show oA (.box _ _); refine m_box rfl rfl (fun b hb => ?_))) | refine xNt ?_ | (show oC; first | refine c_seq ?_ | refine c_region ?_ | refine c_ret ?_))
  refine x_ret1 Tryz.results149 (res_tmp rfl) (fun w' c' => ⟨_, _, rfl, ⟨?_, rfl⟩, c'.sub (List.nil_sublist _)⟩)
  refine congrArg Value.bool ?_
  refine decide_eq_decide.2 ⟨fun h x hx => Decidable.byContradiction (fun hn => h ⟨x, hx, hn⟩), ?_⟩
  rintro h ⟨x, hx, hn⟩
  exact hn (h x hx)
end Go.Proofs.YtdnhmnnccfoliaaGreatDoor
