import Derived.Test.YtdnhmnnccfoliaaDoorDrwqqv
import Derived.Test.YtdnhmnnccfoliaaDoorEqmqqv
import Derived.Test.YtdnhmnnccfoliaaDoorInvqqv
import Derived.Test.YtdnhmnnccfoliaaDoorShrqqv
import Derived.Test.YtdnhmnnccfoliaaDoorSpbqqv
import Derived.Test.YtdnhmnnccfoliaaDoorZerqqv
namespace Go.Lg
open Go.RowKit
structure Hold (p : Prop) : Prop where
  to : p
theorem hold {p : Prop} (h : p) : Hold p := ⟨h⟩
def Mid (n : Nat) (s' : List (Nat × Value)) (C' : World → Prop) : Exit → Act → World → Prop := fun e a w => e = .normal ∧ Fr n s' a ∧ C' w
section
variable {P : Program} {n : Nat} {C : World → Prop} {s : List (Nat × Value)} {k : Act → World → Prop} {Q : Exit → Act → World → Prop}
theorem c_cutr (id : Nat) {l : Array Oper} {b : Bool} (s' : List (Nat × Value)) (C' : World → Prop) (h : Hold (AT n C s ((Code.region id l b).wp P (Mid n s' C')))) (h2 : AT n C' s' k) : AT n C s ((Code.region id l b).wp P (Exit.then k Q)) := fun a w f c =>
  Code.wp_mono (fun e a' w' hq => by
    obtain ⟨he, hf, hc⟩ := hq
    subst he
    exact h2 a' w' hf hc) (h.to a w f c)
theorem c_cutc (id : Nat) {x y : Code} (s' : List (Nat × Value)) (C' : World → Prop) (h : Hold (AT n C s ((Code.cond (.tmp id) x y).wp P (Mid n s' C')))) (h2 : AT n C' s' k) : AT n C s ((Code.cond (.tmp id) x y).wp P (Exit.then k Q)) := fun a w f c =>
  Code.wp_mono (fun e a' w' hq => by
    obtain ⟨he, hf, hc⟩ := hq
    subst he
    exact h2 a' w' hf hc) (h.to a w f c)
theorem x_mid {s' : List (Nat × Value)} {C' : World → Prop} (hs : Sub s' s) (hC : ∀ w, C w → C' w) : AT n C s (Mid n s' C' .normal) := fun _ w f c => ⟨rfl, f.sub hs, hC w c⟩
theorem st_gu {ops : Array Oper} {rest : List Oper} {d ty : Nat} {op : Op} {pos : String} {af : Array Edge} {j dj : Nat} {b : Bool} (hj : (ops[j]?).bind (·.dst) = some dj) (hb : lk s dj = some undef) (hd : Nat.blt d n = true) (h : AT n C ((d, undef) :: s) (wpList P ops Q rest)) :
    AT n C s (wpList P ops Q (⟨some d, op, ty, pos, af, some (j, b)⟩ :: rest)) := fun a w f c => by
  unfold wpList
  rw [if_neg (by simp [Region.wanted, yielded, hj, f.has _ _ hb, undef])]
  exact h _ _ (f.put (by simpa [Nat.blt_eq] using hd) undef) c
variable {ty t t' : Nat} {x y : Operand} {p q : Int}
theorem y_eqlb_same {b : Bool} (ht : P.underlying t = some .bool) (hx : ev s x = some (.bool b)) (hy : ev s y = some (.bool b)) : Y P n C s (.binOp .eql t x y t') ty (.bool true) := by
  have := y_eqlb (n := n) (C := C) (t' := t') (ty := ty) ht hx hy
  simpa using this
end
end Go.Lg
namespace Go.Proofs.YtdnhmnnccfoliaaDoor
open Go.Lg Go.Proofs Go.RowKit
attribute [local irreducible] Code.wp wpList bodyPost Exit.then Exit.inBlock Hp Again Calls Y AT ResV QT Qn QI wpAny wpAnyQ
set_option maxRecDepth 20000
set_option maxHeartbeats 4000000

theorem sameInts_ok (w : World) (v u : Value) (xs ys : List Int) (hr : Rd w (iT xs) v) (hr' : Rd w (iT ys) u) :
    Does Tryd.prog 16 [v, u] w (fun r H => r = .bool (decide (xs = ys)) ∧ H = []) := by
  obtain ⟨a, c, rfl, hs, hc1, hc2, hget⟩ := hr.ints
  obtain ⟨a', c', rfl, hs', hc1', hc2', hget'⟩ := hr'.ints
  unfold maxLen at hc2 hc2'
  refine fn_enter Tryd.func16 rfl Tryd.ntmps16 rfl ?_
  repeat' (first | (show oL; first | refine sMv rfl rfl ?_ | refine sAs rfl rfl ?_ | (show oA (.binOp _ _ _ _ _); refine st_y (y_neq rfl rfl) rfl ?_) | refine sLn tabs rfl rfl rfl ?_) | refine xNt ?_ | (show oC; first | refine c_seq ?_ | refine c_region ?_ | refine c_skip (x_then ?_) | refine c_block ?_ | refine c_ret ?_ | refine c_ifnd rfl (fun h => ?_) (fun h => ?_)) | (show AT _ _ _ _; refine x_then_ret ?_))
  · refine x_ret1 Tryd.results16 (res_tmp rfl) (fun w' c' => ⟨_, _, rfl, ⟨?_, rfl⟩, c'⟩)
    have : ¬ xs = ys := fun e => h (by rw [e])
    simp [this]
  · have hl : xs.length = ys.length := by omega
    refine c_loop (fun i : Nat => [(0, .slice a xs.length c), (1, .slice a' ys.length c'), (5, .int .i64 i)])
      (fun i w' => (i ≤ xs.length ∧ xs.take i = ys.take i) ∧ Hp [] w [] w') (fun i => xs.length - i) 0 ?_ ?_ ?_
    · exact sB
    · intro w' c'
      exact ⟨⟨by omega, rfl⟩, c'⟩
    · intro i
      refine AT.pr (fun ⟨hi, he⟩ => ?_)
      repeat' (first | (show oL; first | refine sMv rfl rfl ?_ | refine sAs rfl rfl ?_ | (show oA (.binOp _ _ _ _ _); first | refine sAd rfl rfl om rfl ?_ | refine sLs rfl rfl rfl ?_) | refine sLn tabs rfl rfl rfl ?_) | refine xNt ?_ | (show oC; first | refine c_seq ?_ | refine c_region ?_ | refine c_skip (x_then ?_) | refine c_skip (x_blk ?_) | refine c_block ?_ | refine c_ret ?_ | refine c_exit ?_ | refine c_draw kr kr (fun _ c => Hp.drew c) ?_ | refine c_ifnd rfl (fun h => ?_) (fun h => ?_) | refine c_if rfl (fun h => ?_) (fun h => ?_)) | (show QT _ _ _ _ _ _ (_ :: _); first | refine qMv rfl rfl ?_ | (show qA (.load _ _); first | refine q_y (y_load tabs rfl rfl (hc_w0 (hget _ om))) rfl ?_ | refine q_y (y_load tabs rfl rfl (hc_w0 (hget' _ om))) rfl ?_) | (show qA (.indexAddr _ _ _); first | refine q_y (y_ixa tabs rfl rfl rfl hs om om) rfl ?_ | refine q_y (y_ixa tabs rfl rfl rfl hs' om om) rfl ?_) | (show qA (.binOp _ _ _ _ _); refine q_y (y_neq rfl rfl) rfl ?_)) | (show QT _ _ _ _ _ _ []; refine q_nil (x_then ?_)) | (show AT _ _ _ _; first | refine x_then ?_ | refine x_then_ret ?_ | refine x_blk_ret ?_ | refine x_then_exit ?_ | refine x_blk_exit rfl ?_))
      · refine x_ret1 Tryd.results16 (res_tmp rfl) (fun w' c' => ⟨_, _, rfl, ⟨?_, rfl⟩, c'⟩)
        have : ¬ xs = ys := fun e => h (by rw [e])
        simp [this]
      · have h2 : xs.getD i 0 = ys.getD i 0 := by simpa using h
        refine x_next (i + 1) sB (fun w' c' => ⟨⟨by omega, ?_⟩, c'⟩) om
        rw [take_next (z := 0) om, take_next (z := 0) om, he, h2]
      · refine x_ret1 Tryd.results16 (res_tmp rfl) (fun w' c' => ⟨_, _, rfl, ⟨?_, rfl⟩, c'⟩)
        rw [take_end om, take_end om] at he
        simp [he]

theorem sameInts_at {w : World} {v u : Value} {xs : List Int} (hr : Rd w (iT xs) v) (hr' : Rd w (iT xs) u) : Does Tryd.prog 16 [v, u] w (fun r H => r = .bool true ∧ H = []) := by
  have := sameInts_ok w v u xs xs hr hr'
  simpa using this
theorem big_ok {w : World} {u : Value} (hc : CodeF w [] u) : Does Tryd.prog 4 [u] w (fun r H => r = .bool false ∧ H = []) := by
  obtain ⟨n, ac, cc, bs, rfl, hcs, _, hn, _, _⟩ := hc.open
  have hb : ¬ (n : Int) > 1048576 := by omega
  refine fn_enter Tryd.func4 rfl Tryd.ntmps4 rfl ?_
  repeat' (first | (show oL; first | refine sMv rfl rfl ?_ | refine sAs rfl rfl ?_ | (show oA (.binOp _ _ _ _ _); refine st_y (y_gtr rfl rfl) rfl ?_) | refine sLn tabs rfl rfl rfl ?_) | refine xNt ?_ | (show oC; first | refine c_seq ?_ | refine c_region ?_ | refine c_ret ?_))
  exact x_ret1 Tryd.results4 (res_tmp rfl) (fun w' c' => ⟨_, _, rfl, ⟨by rw [decide_eq_false om], rfl⟩, c'⟩)
theorem big_yes {w : World} {a : Option Addr} {n c : Nat} (hn : (n : Int) > 1048576) : Does Tryd.prog 4 [.slice a n c] w (fun r H => r = .bool true ∧ H = []) := by
  refine fn_enter Tryd.func4 rfl Tryd.ntmps4 rfl ?_
  repeat' (first | (show oL; first | refine sMv rfl rfl ?_ | refine sAs rfl rfl ?_ | (show oA (.binOp _ _ _ _ _); refine st_y (y_gtr rfl rfl) rfl ?_) | refine sLn tabs rfl rfl rfl ?_) | refine xNt ?_ | (show oC; first | refine c_seq ?_ | refine c_region ?_ | refine c_ret ?_))
  exact x_ret1 Tryd.results4 (res_tmp rfl) (fun w' c' => ⟨_, _, rfl, ⟨by rw [decide_eq_true om], rfl⟩, c'⟩)
end Go.Proofs.YtdnhmnnccfoliaaDoor
