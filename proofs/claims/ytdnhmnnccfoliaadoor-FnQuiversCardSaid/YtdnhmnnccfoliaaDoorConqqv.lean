import Derived.Test.YtdnhmnnccfoliaaDoorOriqqv
import Derived.Test.YtdnhmnnccfoliaaDoorSrcqqv
namespace Go.Lg
open Go.RowKit
section
variable {P : Program} {n : Nat} {s : List (Nat × Value)} {Q : Exit → Act → World → Prop} {ops : Array Oper} {rest : List Oper} {d ty t : Nat} {pos : String} {af : Array Edge} {x y z : Operand} {M : List Nat} {w0 : World} {H : List HE}
theorem fill22 {u v : Value} {a0 a1 b0 b1 : Value} (hu : u.cells = #[a0, a1]) (hv : v.cells = #[b0, b1]) (f : Nat → Value) :
    Instr.fill (fun i => some (i * 2, 2)) ((Array.range 4).map f) [(0, u), (1, v)] = some #[a0, a1, b0, b1] := by
  have e : (Array.range 4).map f = #[f 0, f 1, f 2, f 3] := Array.ext' (by rw [Array.toList_map, Array.toList_range]; rfl)
  rw [e]
  simp [Instr.fill, hu, hv]
theorem m_build22 (T : Tabs P) {e b : Nat} {zz : List Value} {u v : Value} {a0 a1 b0 b1 : Value} (ht : lk T.sl t = some (e, 2, b, zz)) (hx : ev s x = some u) (hy : ev s y = some v) (hu : u.cells = #[a0, a1]) (hv : v.cells = #[b0, b1]) (hd : Nat.blt d n = true)
    (h : ∀ g, w0.heap.size ≤ g → AT n (Hp M w0 (.blk g #[a0, a1, b0, b1] e :: H)) ((d, .slice (some ⟨g, 0, none⟩) 2 2) :: s) (wpList P ops Q rest)) :
    AT n (Hp M w0 H) s (wpList P ops Q (⟨some d, .buildSlice t 2 #[(0, x), (1, y)], ty, pos, af, none⟩ :: rest)) := fun a w f c => by
  refine wpList_one rfl ?_
  unfold Oper.wp
  obtain ⟨q1, q2, q3, i, zv, q4, q5, q6, q7, q8⟩ := T.sl_ok _ _ _ _ _ ht
  have hfill := fill22 hu hv (fun q => zv.cells[q % zv.cells.size]!)
  have : (execOp a.eval ⟨some d, .buildSlice t 2 #[(0, x), (1, y)], ty, pos, af, none⟩).run P w = .ok (.value (.slice (some ⟨w.heap.size, 0, none⟩) 2 2)) (w.alloc (.cells #[a0, a1, b0, b1] e)) := by
    simp [execOp, f.ev hx, f.ev hy, Instr.buildSlice, run_underlying q1, sizeOf, typeInfo, q4, q5, zeroValue, q7, newRow]
    simp [hfill]
  rw [this]
  exact h _ c.kept.size _ _ (f.put (by simpa [Nat.blt_eq] using hd) _) (c.alloc _ _)
theorem y_ixar {C : World → Prop} {a : Addr} {j : Nat} {i : Int} (hk : ∀ a w, (Instr.indexAt t (.pointer (some a)) (.int .i64 i)).run P w = .ok (.pointer (some (a.add j))) w) (hx : ev s x = some (.pointer (some a))) (hy : ev s y = some (.int .i64 i)) : Y P n C s (.indexAddr t x y) ty (.pointer (some (a.add j))) := fun aa w f c d pos af g => by
  simp [execOp, f.ev hx, f.ev hy, hk]
end
end Go.Lg
namespace Go.Proofs.YtdnhmnnccfoliaaDoor
open Go.Lg Go.Proofs Go.RowKit
attribute [local irreducible] Code.wp wpList bodyPost Exit.then Exit.inBlock Hp Again Calls Y AT ResV QT Qn QI wpAny wpAnyQ
set_option maxRecDepth 20000
set_option maxHeartbeats 4000000

def add1 (m : List Int) (x a b : Int) : List Int := if a = x ∧ b ∉ m then m ++ [b] else m
def cpt (q : Qv) (x : Int) (m : List Int) (i : Nat) : Nat → List Int
  | 0 => m
  | 1 => add1 m x (q.2.1.getD i 0) (q.2.2.getD i 0)
  | _ => add1 (add1 m x (q.2.1.getD i 0) (q.2.2.getD i 0)) x (q.2.2.getD i 0) (q.2.1.getD i 0)
def crow (q : Qv) (x : Int) : Nat → List Int → List Int
  | 0, m => m
  | i + 1, m => cpt q x (crow q x i m) i 2
def con (q : Qv) : Nat → List Int
  | 0 => [0]
  | k + 1 => if k < (con q k).length then crow q ((con q k).getD k 0) q.2.1.length (con q k) else con q k
def ConP (q : Qv) : Prop := QuivP q ∧ ((con q 6).length : Int) = q.1
instance (q : Qv) : Decidable (ConP q) := by unfold ConP; infer_instance
structure Cn (n : Int) (m : List Int) : Prop where
  nd : m.Nodup
  rng : ∀ x ∈ m, 0 ≤ x ∧ x < n
theorem nodup_len {n : Nat} {m : List Int} (hd : m.Nodup) (hr : ∀ x ∈ m, 0 ≤ x ∧ x < (n : Int)) : m.length ≤ n := by
  have hnd : ((List.range n).map Int.ofNat).Nodup := by
    rw [List.Nodup, List.pairwise_map]
    exact List.nodup_range.imp (fun h e => h (Int.ofNat.inj e))
  have hp : (((List.range n).map Int.ofNat).filter (fun x => decide (x ∈ m))).Perm m := by
    refine (List.perm_ext_iff_of_nodup (hnd.filter _) hd).2 (fun x => ?_)
    simp only [List.mem_filter, decide_eq_true_eq, List.mem_map, List.mem_range]
    constructor
    · exact fun h => h.2
    · exact fun h => ⟨⟨x.toNat, by have := hr x h; omega, by have := hr x h; exact Int.toNat_of_nonneg this.1⟩, h⟩
  have hlen := hp.length_eq
  have h2 := List.length_filter_le (fun x => decide (x ∈ m)) ((List.range n).map Int.ofNat)
  rw [List.length_map, List.length_range] at h2
  omega
theorem Cn.len {n : Int} {m : List Int} (h : Cn n m) (hn : n ≤ 5) (h1 : 1 ≤ n) : (m.length : Int) ≤ n := by
  obtain ⟨k, rfl⟩ : ∃ k : Nat, n = k := ⟨n.toNat, by omega⟩
  have := nodup_len h.nd h.rng
  omega
theorem Cn.add {n : Int} {m : List Int} (h : Cn n m) {x a b : Int} (hb : 0 ≤ b ∧ b < n) : Cn n (add1 m x a b) := by
  unfold add1
  split
  · rename_i hc
    refine ⟨List.nodup_append.2 ⟨h.nd, by simp, fun y hy z hz e => ?_⟩, fun y hy => ?_⟩
    · simp only [List.mem_singleton] at hz
      subst e; subst hz
      exact hc.2 hy
    · rcases List.mem_append.1 hy with hy | hy
      · exact h.rng y hy
      · simp only [List.mem_singleton] at hy
        subst hy; exact hb
  · exact h
theorem quiv_at {q : Qv} (hQ : QuivP q) {i : Nat} (hi : i < q.2.1.length) : (0 ≤ q.2.1.getD i 0 ∧ q.2.1.getD i 0 < q.1) ∧ 0 ≤ q.2.2.getD i 0 ∧ q.2.2.getD i 0 < q.1 := by
  have hl := hQ.2.2.1
  have h1 := hQ.2.2.2.1 _ (show q.2.1.getD i 0 ∈ q.2.1 by rw [List.getD, List.getElem?_eq_getElem hi]; exact List.getElem_mem hi)
  have h2 := hQ.2.2.2.2 _ (show q.2.2.getD i 0 ∈ q.2.2 by rw [List.getD, List.getElem?_eq_getElem om]; exact List.getElem_mem om)
  exact ⟨⟨h1.1, by omega⟩, h2.1, by omega⟩
theorem cn_cpt {q : Qv} (hQ : QuivP q) {x : Int} {m : List Int} (h : Cn q.1 m) {i : Nat} (hi : i < q.2.1.length) : ∀ p, Cn q.1 (cpt q x m i p)
  | 0 => h
  | 1 => h.add (quiv_at hQ hi).2
  | _ + 2 => (h.add (quiv_at hQ hi).2).add (quiv_at hQ hi).1
theorem cn_crow {q : Qv} (hQ : QuivP q) {x : Int} {m : List Int} (h : Cn q.1 m) : ∀ i, i ≤ q.2.1.length → Cn q.1 (crow q x i m)
  | 0, _ => h
  | i + 1, hi => cn_cpt hQ (cn_crow hQ h i om) hi 2
theorem cn_con {q : Qv} (hQ : QuivP q) : ∀ k, Cn q.1 (con q k)
  | 0 => ⟨by simp [con], fun x hx => by
    simp only [con, List.mem_singleton] at hx
    have := hQ.1; omega⟩
  | k + 1 => by
    rw [con]
    split
    · exact cn_crow hQ (cn_con hQ k) _ (Nat.le_refl _)
    · exact cn_con hQ k
def Pfx (m m' : List Int) : Prop := m.length ≤ m'.length ∧ ∀ k, k < m.length → m'.getD k 0 = m.getD k 0
theorem Pfx.rfl' {m : List Int} : Pfx m m := ⟨Nat.le_refl _, fun _ _ => rfl⟩
theorem Pfx.trans {a b c : List Int} (h : Pfx a b) (h' : Pfx b c) : Pfx a c := ⟨Nat.le_trans h.1 h'.1, fun k hk => by rw [h'.2 k (by have := h.1; omega), h.2 k hk]⟩
theorem pfx_add {m : List Int} {x a b : Int} : Pfx m (add1 m x a b) := by
  unfold add1
  split
  · exact ⟨by simp, fun k hk => by rw [List.getD, List.getD, List.getElem?_append_left hk]⟩
  · exact Pfx.rfl'
theorem pfx_cpt {q : Qv} {x : Int} {m : List Int} {i : Nat} : ∀ p, Pfx m (cpt q x m i p)
  | 0 => Pfx.rfl'
  | 1 => pfx_add
  | _ + 2 => pfx_add.trans pfx_add
theorem pfx_crow {q : Qv} {x : Int} {m : List Int} : ∀ i, Pfx m (crow q x i m)
  | 0 => Pfx.rfl'
  | i + 1 => (pfx_crow i).trans (pfx_cpt 2)
theorem con_len {q : Qv} (hQ : QuivP q) (k : Nat) : 1 ≤ (con q k).length ∧ (con q k).length ≤ 5 := by
  have h := (cn_con hQ k).len hQ.1.2 hQ.1.1
  have := hQ.1
  refine ⟨?_, by omega⟩
  clear h
  induction k with
  | zero => simp [con]
  | succ k ih =>
    rw [con]
    split
    · have := (pfx_crow (q := q) (x := (con q k).getD k 0) (m := con q k) q.2.1.length).1
      omega
    · exact ih
theorem con_stay {q : Qv} {k : Nat} (h : (con q k).length ≤ k) : ∀ j, con q (k + j) = con q k
  | 0 => rfl
  | j + 1 => by
    have ih := con_stay h j
    rw [show k + (j + 1) = (k + j) + 1 by omega, con, ih, if_neg om]
theorem con_end {q : Qv} (hQ : QuivP q) {k : Nat} (h : (con q k).length ≤ k) (hk : k ≤ 6) : con q 6 = con q k := by
  have := con_stay h (6 - k)
  rwa [show k + (6 - k) = 6 by omega] at this
theorem con_next {q : Qv} {k : Nat} (h : k < (con q k).length) : con q (k + 1) = crow q ((con q k).getD k 0) q.2.1.length (con q k) := by rw [con, if_pos h]
end Go.Proofs.YtdnhmnnccfoliaaDoor
