import Derived.Test.YtcplmeajmpkpkaaGreatEqmqsp
import Derived.Test.YtcplmeajmpkpkaaGreatLCqsp
import Derived.Test.YtcplmeajmpkpkaaGreatMxfqsp
import Derived.Test.YtcplmeajmpkpkaaGreatPrmqsp
namespace Go.Proofs.YtcplmeajmpkpkaaGreat
open Go.Lg Go.Proofs Go.RowKit
attribute [local irreducible] Code.wp wpList bodyPost Exit.then Exit.inBlock Hp Again Calls Y AT ResV QT
set_option maxRecDepth 20000
set_option maxHeartbeats 4000000

def QuivP (q : Qv) : Prop := (1 ≤ q.1 ∧ q.1 ≤ 5) ∧ q.2.1.length ≤ 6 ∧ q.2.2.length = q.2.1.length ∧ InP 0 (q.1 - 1) q.2.1 ∧ InP 0 (q.1 - 1) q.2.2
instance (q : Qv) : Decidable (QuivP q) := by unfold QuivP; infer_instance

def DimsP (q : Qv) (ds : List Int) : Prop := QuivP q ∧ (ds.length : Int) = q.1 ∧ InP 0 4 ds ∧ ds.sum ≤ 8
instance (q : Qv) (ds : List Int) : Decidable (DimsP q ds) := by unfold DimsP; infer_instance
end Go.Proofs.YtcplmeajmpkpkaaGreat

namespace Go.Proofs.YtcplmeajmpkpkaaGreat
open Go.Lg Go.Proofs Go.RowKit
attribute [local irreducible] Code.wp wpList bodyPost Exit.then Exit.inBlock Hp Again Calls Y AT ResV QT
set_option maxRecDepth 20000
set_option maxHeartbeats 4000000

def MapP (r : Rp) (i : Nat) : Prop := MatP r.p (r.m.getD i mat0) ∧ (r.m.getD i mat0).2.1 = r.d.getD (r.q.2.1.getD i 0).toNat 0 ∧ (r.m.getD i mat0).1 = r.d.getD (r.q.2.2.getD i 0).toNat 0
instance (r : Rp) (i : Nat) : Decidable (MapP r i) := by unfold MapP; infer_instance
def RepP (r : Rp) : Prop := FieldP r.p ∧ DimsP r.q r.d ∧ r.m.length = r.q.2.1.length ∧ ∀ i, i < r.m.length → MapP r i
instance (r : Rp) : Decidable (RepP r) := by unfold RepP; infer_instance

end Go.Proofs.YtcplmeajmpkpkaaGreat

namespace Go.Proofs.YtcplmeajmpkpkaaGreat
open Go.Lg Go.Proofs Go.RowKit
attribute [local irreducible] Code.wp wpList bodyPost Exit.then Exit.inBlock Hp Again Calls Y AT ResV QT Qn QI wpAny wpAnyQ
set_option maxRecDepth 20000
set_option maxHeartbeats 4000000

def FitP (a b : Rp) : Prop := RepP a ∧ RepP b ∧ a.p = b.p ∧ a.q = b.q
instance (a b : Rp) : Decidable (FitP a b) := by unfold FitP; infer_instance
def ElemP (p : Int) (d d' : List Int) (ms : List Mat) (i : Nat) : Prop := MatP p (ms.getD i mat0) ∧ (ms.getD i mat0).2.1 = d.getD i 0 ∧ (ms.getD i mat0).1 = d'.getD i 0
instance (p : Int) (d d' : List Int) (ms : List Mat) (i : Nat) : Decidable (ElemP p d d' ms i) := by unfold ElemP; infer_instance
def AreP (a b : Rp) (ms : List Mat) : Prop := FitP a b ∧ ms.length = a.d.length ∧ ∀ i, i < ms.length → ElemP a.p a.d b.d ms i
instance (a b : Rp) (ms : List Mat) : Decidable (AreP a b ms) := by unfold AreP; infer_instance
end Go.Proofs.YtcplmeajmpkpkaaGreat

namespace Go.Proofs.YtcplmeajmpkpkaaGreat
open Go.Lg Go.Proofs Go.RowKit
attribute [local irreducible] Code.wp wpList bodyPost Exit.then Exit.inBlock Hp Again Calls Y AT ResV QT Qn QI wpAny wpAnyQ
set_option maxRecDepth 20000
set_option maxHeartbeats 4000000

def zM (q : Qv) (d : List Int) (i : Nat) : Mat := (((d.getD (q.2.2.getD i 0).toNat 0).toNat : Nat), ((d.getD (q.2.1.getD i 0).toNat 0).toNat : Nat), mk (d.getD (q.2.2.getD i 0).toNat 0).toNat (d.getD (q.2.1.getD i 0).toNat 0).toNat (fun _ _ => 0))
def ArrP (q : Qv) (d : List Int) : Prop := q.2.1.length = q.2.2.length ∧ q.2.1.length ≤ 1024 ∧ d.length ≤ 1024 ∧ (∀ x ∈ q.2.1, 0 ≤ x ∧ x < d.length) ∧ (∀ x ∈ q.2.2, 0 ≤ x ∧ x < d.length) ∧ ∀ x ∈ d, 0 ≤ x ∧ x ≤ 1000
theorem ArrP.at {q : Qv} {d : List Int} (h : ArrP q d) {i : Nat} (hi : i < q.2.1.length) : ∃ f t dt df : Nat, q.2.1.getD i 0 = f ∧ q.2.2.getD i 0 = t ∧ f < d.length ∧ t < d.length ∧ d.getD t 0 = dt ∧ d.getD f 0 = df ∧ dt ≤ 1000 ∧ df ≤ 1000 ∧ zM q d i = ((dt : Int), (df : Int), mk dt df (fun _ _ => 0)) := by
  obtain ⟨h1, h2, h3, h4, h5, h6⟩ := h
  have k1 := h4 _ (List.mem_of_getElem? (getD_some (z := 0) hi))
  have k2 := h5 _ (List.mem_of_getElem? (getD_some (z := 0) (show i < q.2.2.length by omega)))
  have m1 : (q.2.1.getD i 0).toNat < d.length := by omega
  have m2 : (q.2.2.getD i 0).toNat < d.length := by omega
  have k3 := h6 _ (List.mem_of_getElem? (getD_some (z := 0) m1))
  have k4 := h6 _ (List.mem_of_getElem? (getD_some (z := 0) m2))
  exact ⟨(q.2.1.getD i 0).toNat, (q.2.2.getD i 0).toNat, (d.getD (q.2.2.getD i 0).toNat 0).toNat, (d.getD (q.2.1.getD i 0).toNat 0).toNat, by omega, by omega, m1, m2, by omega, by omega, by omega, by omega, rfl⟩
end Go.Proofs.YtcplmeajmpkpkaaGreat

namespace Go.Proofs.YtcplmeajmpkpkaaGreat
open Go.Lg Go.Proofs Go.RowKit
attribute [local irreducible] Code.wp wpList bodyPost Exit.then Exit.inBlock Hp Again Calls Y AT ResV QT Qn QI wpAny wpAnyQ
set_option maxRecDepth 20000
set_option maxHeartbeats 4000000

theorem RepP.dd {r : Rp} (h : RepP r) : (∀ n, 0 ≤ r.d.getD n 0 ∧ r.d.getD n 0 ≤ 4) ∧ r.d.length ≤ 5 := by
  obtain ⟨_, ⟨⟨hV, _⟩, hdV, hdi, _⟩, _⟩ := h
  refine ⟨fun n => ?_, by omega⟩
  rcases Nat.lt_or_ge n r.d.length with h1 | h1
  · exact hdi _ (List.mem_of_getElem? (getD_some (z := 0) h1))
  · rw [List.getD_eq_getElem?_getD, List.getElem?_eq_none h1]; exact ⟨by simp, by simp⟩
end Go.Proofs.YtcplmeajmpkpkaaGreat
