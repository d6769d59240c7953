import Derived.Test.YtoppfpamdagckaaFit
import Derived.Test.YtoppfpamdagckaaMxf
namespace Go.Proofs.Ytoppfpamdagckaa
open Go.Lg Go.Proofs Go.RowKit
attribute [local irreducible] Code.wp wpList bodyPost Exit.then Exit.inBlock Hp Again Calls Y AT ResV QT Qn QI wpAny wpAnyQ
set_option maxRecDepth 20000
set_option maxHeartbeats 4000000

/-! ### representations of zeros -/
theorem bld_qv (r : Int) (a a' : Option Addr) (m c m' c' : Nat) (w : World) : (Instr.build 45 #[(0, iV r), (1, .slice a m c), (2, .slice a' m' c')]).run Try.prog w = .ok (.agg #[iV r, .slice a m c, .slice a' m' c']) w := by kernel_rfl
/-- the map of zeros of an arrow -/
def zM (q : Qv) (d : List Int) (i : Nat) : Mat := (((d.getD (q.2.2.getD i 0).toNat 0).toNat : Nat), ((d.getD (q.2.1.getD i 0).toNat 0).toNat : Nat), mk (d.getD (q.2.2.getD i 0).toNat 0).toNat (d.getD (q.2.1.getD i 0).toNat 0).toNat (fun _ _ => 0))
def zMs (q : Qv) (d : List Int) (n : Nat) : List Mat := (List.range n).map (zM q d)
@[simp] theorem zMs_length {q : Qv} {d : List Int} {n : Nat} : (zMs q d n).length = n := by simp [zMs]
def zeroR (p : Int) (q : Qv) (d : List Int) : Rp := ⟨p, q, d, zMs q d q.2.1.length⟩
/-- vertices and dimensions in range -/
def ArrP (q : Qv) (d : List Int) : Prop := q.2.1.length = q.2.2.length ∧ q.2.1.length ≤ 1024 ∧ d.length ≤ 1024 ∧ (∀ x ∈ q.2.1, 0 ≤ x ∧ x < d.length) ∧ (∀ x ∈ q.2.2, 0 ≤ x ∧ x < d.length) ∧ ∀ x ∈ d, 0 ≤ x ∧ x ≤ 1000
theorem DimsP.arr {q : Qv} {d : List Int} (h : DimsP q d) : ArrP q d := by
  obtain ⟨⟨hV, hF6, hTF, hFi, hTi⟩, hdV, hdi, hds⟩ := h
  refine ⟨by omega, by omega, by omega, fun x hx => ?_, fun x hx => ?_, fun x hx => ?_⟩
  · have := hFi x hx; omega
  · have := hTi x hx; omega
  · have := hdi x hx; omega
theorem ArrP.at {q : Qv} {d : List Int} (h : ArrP q d) {i : Nat} (hi : i < q.2.1.length) : ∃ f t dt df : Nat, q.2.1.getD i 0 = f ∧ q.2.2.getD i 0 = t ∧ f < d.length ∧ t < d.length ∧ d.getD t 0 = dt ∧ d.getD f 0 = df ∧ dt ≤ 1000 ∧ df ≤ 1000 ∧ zM q d i = ((dt : Int), (df : Int), mk dt df (fun _ _ => 0)) := by
  obtain ⟨h1, h2, h3, h4, h5, h6⟩ := h
  have k1 := h4 _ (List.mem_of_getElem? (getD_some (z := 0) hi))
  have k2 := h5 _ (List.mem_of_getElem? (getD_some (z := 0) (show i < q.2.2.length by omega)))
  have m1 : (q.2.1.getD i 0).toNat < d.length := by omega
  have m2 : (q.2.2.getD i 0).toNat < d.length := by omega
  have k3 := h6 _ (List.mem_of_getElem? (getD_some (z := 0) m1))
  have k4 := h6 _ (List.mem_of_getElem? (getD_some (z := 0) m2))
  exact ⟨(q.2.1.getD i 0).toNat, (q.2.2.getD i 0).toNat, (d.getD (q.2.2.getD i 0).toNat 0).toNat, (d.getD (q.2.1.getD i 0).toNat 0).toNat, by omega, by omega, m1, m2, by omega, by omega, by omega, by omega, rfl⟩
theorem bld_rp4 (p r : Int) (a0 a1 a2 a3 : Option Addr) (m0 c0 m1 c1 m2 c2 m3 c3 : Nat) (w : World) : (Instr.build 47 #[(0, iV p), (1, .agg #[iV r, .slice a0 m0 c0, .slice a1 m1 c1]), (2, .slice a2 m2 c2), (3, .slice a3 m3 c3)]).run Try.prog w = .ok (.agg #[iV p, iV r, .slice a0 m0 c0, .slice a1 m1 c1, .slice a2 m2 c2, .slice a3 m3 c3]) w := by kernel_rfl
theorem bld_rp3 (p r : Int) (a0 a1 a2 : Option Addr) (m0 c0 m1 c1 m2 c2 : Nat) (w : World) : (Instr.build 47 #[(0, iV p), (1, .agg #[iV r, .slice a0 m0 c0, .slice a1 m1 c1]), (2, .slice a2 m2 c2)]).run Try.prog w = .ok (.agg #[iV p, iV r, .slice a0 m0 c0, .slice a1 m1 c1, .slice a2 m2 c2, .slice none 0 0]) w := by kernel_rfl
theorem bld_rp0 (w : World) : (Instr.build 47 #[]).run Try.prog w = .ok (.agg #[iV 0, iV 0, .slice none 0 0, .slice none 0 0, .slice none 0 0, .slice none 0 0]) w := by kernel_rfl
theorem mats_sl (i : Nat) {M : List Nat} {w0 : World} {H : List HE} {e m c : Nat} {rs : List Mat} {a : Option Addr} (hi : H[i]? = some (.own (matsT e rs) (.slice a m c))) : ∀ w, Hp M w0 H w → SA a rs.length := fun w cw => by
  obtain ⟨a', c', h1, h2, _⟩ := rd_mats (cw.own_rd hi)
  cases h1
  exact h2
/-! ### the representation of zeros of a quiver and of dimensions -/
def repZ : Rp := ⟨0, (0, [], []), [], []⟩
def zeroRb (p : Int) (q : Qv) (d : List Int) : Rp := if FieldP p ∧ DimsP q d then zeroR p q d else repZ
def GivesRB (r : Rp) (b : Bool) (v : Value) (H : List HE) : Prop := ∃ a0 c0 a1 c1 a2 c2 a3 c3, v = .tuple #[.agg #[iV r.p, iV r.q.1, .slice a0 r.q.2.1.length c0, .slice a1 r.q.2.2.length c1, .slice a2 r.d.length c2, .slice a3 r.m.length c3], .bool b] ∧
  SA a0 r.q.2.1.length ∧ SA a1 r.q.2.2.length ∧ SA a2 r.d.length ∧ SA a3 r.m.length ∧
  H = [.own (matsT 29 r.m) (.slice a3 r.m.length c3), .own (iT r.d) (.slice a2 r.d.length c2), .own (iT r.q.2.2) (.slice a1 r.q.2.2.length c1), .own (iT r.q.2.1) (.slice a0 r.q.2.1.length c0)]
theorem getD_le {d : List Int} {k : Int} (h0 : 0 ≤ k) (h : ∀ x ∈ d, x ≤ k) (n : Nat) : d.getD n 0 ≤ k := by
  rcases Nat.lt_or_ge n d.length with h1 | h1
  · exact h _ (List.mem_of_getElem? (getD_some (z := 0) h1))
  · rw [List.getD_eq_getElem?_getD, List.getElem?_eq_none h1]; exact h0
theorem zMs_sz {q : Qv} {d : List Int} (h : DimsP q d) : szMs (zMs q d q.2.1.length) ≤ 128 := by
  obtain ⟨⟨hV, hF6, hTF, hFi, hTi⟩, hdV, hdi, hds⟩ := h
  have hd : ∀ n, d.getD n 0 ≤ 4 := getD_le (by omega) (fun x hx => (hdi x hx).2)
  have hone : ∀ i, (zM q d i).2.2.length ≤ 16 := fun i => by
    simp only [zM, mk_length]
    have h1 := hd (q.2.2.getD i 0).toNat
    have h2 := hd (q.2.1.getD i 0).toNat
    exact Nat.le_trans (Nat.mul_le_mul (show _ ≤ 4 by omega) (show _ ≤ 4 by omega)) (by omega)
  have key : ∀ n, szMs (zMs q d n) ≤ 17 * n := fun n => by
    induction n with
    | zero => simp [zMs, szMs]
    | succ n ih =>
      have := hone n
      simp only [zMs, List.range_succ, szMs, List.map_append, List.sum_append, List.length_append, List.map_cons, List.map_nil, List.sum_cons, List.sum_nil, List.length_cons, List.length_nil] at ih ⊢
      omega
  have := key q.2.1.length
  omega
theorem zeroRb_sz (p : Int) (q : Qv) (d : List Int) : (zeroRb p q d).q.2.1.length ≤ 64 ∧ (zeroRb p q d).q.2.2.length ≤ 64 ∧ (zeroRb p q d).d.length ≤ 64 ∧ szMs (zeroRb p q d).m ≤ 128 := by
  unfold zeroRb
  split
  · rename_i h
    have hz := zMs_sz h.2
    obtain ⟨_, ⟨hV, hF6, hTF, hFi, hTi⟩, hdV, hdi, hds⟩ := h
    refine ⟨?_, ?_, ?_, hz⟩ <;> simp only [zeroR] <;> omega
  · simp [repZ, szMs]
end Go.Proofs.Ytoppfpamdagckaa
