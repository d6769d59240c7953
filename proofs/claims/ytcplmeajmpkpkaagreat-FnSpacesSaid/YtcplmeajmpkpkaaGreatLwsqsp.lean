import Derived.Test.YtcplmeajmpkpkaaGreatDrwqsp
import Derived.Test.YtcplmeajmpkpkaaGreatEqmqsp
import Derived.Test.YtcplmeajmpkpkaaGreatImgqsp
import Derived.Test.YtcplmeajmpkpkaaGreatMorqsp
import Derived.Test.YtcplmeajmpkpkaaGreatMulqsp
import Derived.Test.YtcplmeajmpkpkaaGreatShrqsp
namespace Go.Lg
open Go.RowKit
structure Hold (p : Prop) : Prop where
  to : p
theorem hold {p : Prop} (h : p) : Hold p := ⟨h⟩
def Mid (n : Nat) (s' : List (Nat × Value)) (C' : World → Prop) : Exit → Act → World → Prop := fun e a w => e = .normal ∧ Fr n s' a ∧ C' w
section
variable {P : Program} {n : Nat} {C : World → Prop} {s : List (Nat × Value)} {k : Act → World → Prop} {Q : Exit → Act → World → Prop}
theorem c_cutr (id : Nat) {l : Array Oper} {b : Bool} (s' : List (Nat × Value)) (C' : World → Prop) (h : Hold (AT n C s ((Code.region id l b).wp P (Mid n s' C')))) (h2 : AT n C' s' k) : AT n C s ((Code.region id l b).wp P (Exit.then k Q)) := fun a w f c =>
  Code.wp_mono (fun e a' w' hq => by
    obtain ⟨he, hf, hc⟩ := hq
    subst he
    exact h2 a' w' hf hc) (h.to a w f c)
theorem x_mid {s' : List (Nat × Value)} {C' : World → Prop} (hs : Sub s' s) (hC : ∀ w, C w → C' w) : AT n C s (Mid n s' C' .normal) := fun _ w f c => ⟨rfl, f.sub hs, hC w c⟩
theorem st_gu {ops : Array Oper} {rest : List Oper} {d ty : Nat} {op : Op} {pos : String} {af : Array Edge} {j dj : Nat} {b : Bool} (hj : (ops[j]?).bind (·.dst) = some dj) (hb : lk s dj = some undef) (hd : Nat.blt d n = true) (h : AT n C ((d, undef) :: s) (wpList P ops Q rest)) :
    AT n C s (wpList P ops Q (⟨some d, op, ty, pos, af, some (j, b)⟩ :: rest)) := fun a w f c => by
  unfold wpList
  rw [if_neg (by simp [Region.wanted, yielded, hj, f.has _ _ hb, undef])]
  exact h _ _ (f.put (by simpa [Nat.blt_eq] using hd) undef) c
variable {ty t t' : Nat} {x y : Operand} {p q : Int}
theorem y_eqlb_same {b : Bool} (ht : P.underlying t = some .bool) (hx : ev s x = some (.bool b)) (hy : ev s y = some (.bool b)) : Y P n C s (.binOp .eql t x y t') ty (.bool true) := by
  have := y_eqlb (n := n) (C := C) (t' := t') (ty := ty) ht hx hy
  simpa using this
theorem y_neqf (hx : ev s x = some (.int .i64 p)) (hy : ev s y = some (.int .i64 q)) (h : p = q) : Y P n C s (.binOp .neq t x y t') ty (.bool false) := by
  have := y_neq (P := P) (n := n) (C := C) (t := t) (t' := t') (ty := ty) hx hy
  rwa [decide_eq_false (not_not_intro h)] at this
end
end Go.Lg
namespace Go.Proofs.YtcplmeajmpkpkaaGreat
open Go.Lg Go.Proofs Go.RowKit
attribute [local irreducible] Code.wp wpList bodyPost Exit.then Exit.inBlock Hp Again Calls Y AT ResV QT Qn QI wpAny wpAnyQ
set_option maxRecDepth 20000
set_option maxHeartbeats 4000000

theorem big_ok {w : World} {u : Value} (hc : CodeF w [] u) : Does Tryz.prog 4 [u] w (fun r H => r = .bool false ∧ H = []) := by
  obtain ⟨n, ac, cc, bs, rfl, hcs, _, hn, _, _⟩ := hc.open
  have hb : ¬ (n : Int) > 1048576 := by omega
  refine fn_enter Tryz.func4 rfl Tryz.ntmps4 rfl ?_
  repeat' (first | (show oL; first | refine sMv rfl rfl ?_ | refine sAs rfl rfl ?_ | (show oA (.binOp _ _ _ _ _); refine st_y (y_gtr rfl rfl) rfl ?_) | refine sLn tabs rfl rfl rfl ?_) | refine xNt ?_ | (show oC; first | refine c_seq ?_ | refine c_region ?_ | refine c_ret ?_))
  exact x_ret1 Tryz.results4 (res_tmp rfl) (fun w' c' => ⟨_, _, rfl, ⟨by rw [decide_eq_false om], rfl⟩, c'⟩)
theorem big_yes {w : World} {a : Option Addr} {n c : Nat} (hn : (n : Int) > 1048576) : Does Tryz.prog 4 [.slice a n c] w (fun r H => r = .bool true ∧ H = []) := by
  refine fn_enter Tryz.func4 rfl Tryz.ntmps4 rfl ?_
  repeat' (first | (show oL; first | refine sMv rfl rfl ?_ | refine sAs rfl rfl ?_ | (show oA (.binOp _ _ _ _ _); refine st_y (y_gtr rfl rfl) rfl ?_) | refine sLn tabs rfl rfl rfl ?_) | refine xNt ?_ | (show oC; first | refine c_seq ?_ | refine c_region ?_ | refine c_ret ?_))
  exact x_ret1 Tryz.results4 (res_tmp rfl) (fun w' c' => ⟨_, _, rfl, ⟨by rw [decide_eq_true om], rfl⟩, c'⟩)
end Go.Proofs.YtcplmeajmpkpkaaGreat
