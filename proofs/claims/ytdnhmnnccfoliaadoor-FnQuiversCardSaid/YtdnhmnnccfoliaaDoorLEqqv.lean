import Derived.Test.YtdnhmnnccfoliaaDoorLDqqv
namespace Go.Lg
open Go.RowKit
section
variable {P : Program} {n : Nat} {S C : World → Prop} {s : List (Nat × Value)} {K : Act → World → Prop} {ops : Array Oper} {fuel : Nat} {listed : Array Bool} {p : Prop} [Decidable p]
variable {op : Op} {d ty j dj : Nat} {pos : String} {af : Array Edge} {v : Value} {b : Bool}
end
end Go.Lg
namespace Go.Lg
open Go.RowKit
theorem satL.perm {w : World} {H H' : List HE} (h : H.Perm H') : ∀ {fp : List Nat}, satL w H fp → ∃ fp', fp'.Perm fp ∧ satL w H' fp' := by
  induction h with
  | nil => exact fun s => ⟨_, List.Perm.refl _, s⟩
  | cons x _ ih =>
    rintro fp ⟨f1, f2, e, s1, s2⟩
    obtain ⟨f3, hp, s3⟩ := ih s2
    exact ⟨f1 ++ f3, by rw [e]; exact List.Perm.append_left f1 hp, f1, f3, rfl, s1, s3⟩
  | swap x y l =>
    rintro fp ⟨f1, f2, e, s1, f3, f4, e', s3, s4⟩
    refine ⟨f3 ++ (f1 ++ f4), ?_, f3, f1 ++ f4, rfl, s3, f1, f4, rfl, s1, s4⟩
    rw [e, e', ← List.append_assoc, ← List.append_assoc]
    exact List.Perm.append_right f4 List.perm_append_comm
  | trans _ _ ih1 ih2 =>
    intro fp s
    obtain ⟨f1, p1, s1⟩ := ih1 s
    obtain ⟨f2, p2, s2⟩ := ih2 s1
    exact ⟨f2, p2.trans p1, s2⟩
theorem Hp.perm {M : List Nat} {w0 w : World} {H H' : List HE} (h : H.Perm H') (hp : Hp M w0 H w) : Hp M w0 H' w := by
  obtain ⟨fp, s, nd, ge, k⟩ := hp
  obtain ⟨fp', p, s'⟩ := satL.perm h s
  exact ⟨fp', s', p.nodup_iff.2 nd, fun b hb => ge b (p.subset hb), k⟩
def SP (H' H : List HE) : Prop := ∃ H0, H.Perm H0 ∧ H'.Sublist H0
theorem SP.refl (H : List HE) : SP H H := ⟨H, List.Perm.refl _, List.Sublist.refl _⟩
theorem SP.swap (A B H : List HE) : SP (A ++ (B ++ H)) (B ++ (A ++ H)) :=
  ⟨A ++ (B ++ H), by rw [← List.append_assoc, ← List.append_assoc]; exact List.Perm.append_right H List.perm_append_comm, List.Sublist.refl _⟩
theorem SP.more {H' H : List HE} (H1 : List HE) (h : SP H' H) : SP H' (H1 ++ H) := by
  obtain ⟨H0, p, s⟩ := h
  exact ⟨H1 ++ H0, List.Perm.append_left H1 p, s.trans (List.sublist_append_right _ _)⟩
theorem SP.hp {M : List Nat} {w0 w : World} {H H' : List HE} (h : SP H' H) (hp : Hp M w0 H w) : Hp M w0 H' w := by
  obtain ⟨H0, p, s⟩ := h
  exact (hp.perm p).sub s
section
variable {P : Program} {n : Nat} {M : List Nat} {w0 : World} {S : World → Prop} {K : Act → World → Prop} {ops : Array Oper} {H : List HE} {s : List (Nat × Value)} {fuel : Nat}
def StpF (P : Program) (n : Nat) (M : List Nat) (w0 : World) (ops : Array Oper) (K : Act → World → Prop) (H : List HE) (s : List (Nat × Value)) (o : Oper) (d : Nat) (φ : Value → List HE → Prop) : Prop :=
  ∀ H' s' (R : Act → World → Prop), (∀ w, Hp M w0 H' w → Hp M w0 H w) → Sub s s' → (∀ v H1, φ v H1 → AT n (Hp M w0 (H1 ++ H')) ((d, v) :: s') R) → AT n (Hp M w0 H') s' (wpList P ops (Qk R (Qn K)) [o])
structure MO where
  i : Nat
  o : Oper
  d : Nat
  φ : Value → List HE → Prop
def AllM (P : Program) (n : Nat) (M : List Nat) (w0 : World) (ops : Array Oper) (K : Act → World → Prop) (H : List HE) (s : List (Nat × Value)) : List MO → Prop
  | [] => True
  | m :: L => (ops[m.i]? = some m.o ∧ lk s m.d = none ∧ StpF P n M w0 ops K H s m.o m.d m.φ) ∧ AllM P n M w0 ops K H s L
theorem AllM.get : ∀ {L : List MO}, AllM P n M w0 ops K H s L → ∀ m ∈ L, ops[m.i]? = some m.o ∧ lk s m.d = none ∧ StpF P n M w0 ops K H s m.o m.d m.φ
  | [], _, m, hm => by cases hm
  | x :: L, h, m, hm => by
    rcases List.mem_cons.1 hm with rfl | hm
    · exact h.1
    · exact AllM.get h.2 m hm
end
end Go.Lg
namespace Go.Lg
open Go.RowKit
section
variable {P : Program} {n : Nat} {M : List Nat} {w0 : World} {S : World → Prop} {K : Act → World → Prop} {ops : Array Oper} {H : List HE} {s : List (Nat × Value)} {fuel i0 d0 e0 : Nat} {z : List Value}
def AllF (P : Program) (n : Nat) (M : List Nat) (w0 : World) (ops : Array Oper) (K : Act → World → Prop) (i0 d0 : Nat) (H : List HE) (s : List (Nat × Value)) : List MO → Prop
  | [] => True
  | m :: L => ((ops[m.i]? = some m.o ∧ lk s m.d = none ∧ StpF P n M w0 ops K H s m.o m.d m.φ) ∧ Nat.beq m.i i0 = false ∧ Nat.beq m.d d0 = false) ∧ AllF P n M w0 ops K i0 d0 H s L
theorem AllF.get : ∀ {L : List MO}, AllF P n M w0 ops K i0 d0 H s L → ∀ m ∈ L, (ops[m.i]? = some m.o ∧ lk s m.d = none ∧ StpF P n M w0 ops K H s m.o m.d m.φ) ∧ m.i ≠ i0 ∧ ¬ m.d = d0
  | [], _, m, hm => by cases hm
  | x :: L, h, m, hm => by
    rcases List.mem_cons.1 hm with rfl | hm
    · exact ⟨h.1.1, fun e => by have := h.1.2.1; rw [e] at this; simp at this, fun e => by have := h.1.2.2; rw [e] at this; simp at this⟩
    · exact AllF.get h.2 m hm
end
end Go.Lg
namespace Go.Lg
open Go.RowKit
theorem OwnL.get {w : World} : ∀ {ts : List T} {vs : List Value} {fp : List Nat}, OwnL w ts vs fp → ∀ (q : Nat) (t : T) (u : Value), ts[q]? = some t → vs[q]? = some u → Rd w t u
  | [], _, _, _, q, t, u, ht, _ => by simp at ht
  | t' :: ts, vs, fp, h, q, t, u, ht, hu => by
    simp only [OwnL] at h
    obtain ⟨v, vs', f1, f2, rfl, rfl, h3, h4⟩ := h
    cases q with
    | zero => simp at ht hu; subst ht; subst hu; exact h3.rd
    | succ q => exact h4.get q t u (by simpa using ht) (by simpa using hu)
theorem hc_nm {M : List Nat} {w0 : World} {H : List HE} (j : Nat) {e m c q : Nat} {us : List Value} {u : Value} {a : Option Addr} (hi : H[j]? = some (.own (.s e 1 (us.map T.c)) (.slice a m c))) (hu : us[q]? = some u) : ∀ w, Hp M w0 H w → w.cell? ⟨ab a, ao a + q, none⟩ = some u := fun w cw => by
  obtain ⟨a', m', cap, h1, h2, h3, h4, h5, h6⟩ := Rd.open (by decide) (cw.own_rd hi)
  cases h1
  obtain ⟨u', h7, h8⟩ := h6 q (.c u) (by simp [hu])
  simp only [Rd] at h8
  rw [h7, h8]
end Go.Lg
namespace Go.Lg
open Go.RowKit
section
variable {P : Program} {n : Nat} {M : List Nat} {w0 : World} {S : World → Prop} {K : Act → World → Prop} {ops : Array Oper} {H : List HE} {s : List (Nat × Value)}
end
end Go.Lg
namespace Go.Lg
open Go.RowKit
section
variable {P : Program} {n : Nat} {M : List Nat} {w0 : World} {K : Act → World → Prop} {ops : Array Oper} {H : List HE} {s : List (Nat × Value)}
end
end Go.Lg
namespace Go.Lg
open Go.RowKit
section
variable {P : Program} {n : Nat} {M : List Nat} {w0 w : World} {H : List HE} {s : List (Nat × Value)}
end
end Go.Lg
namespace Go.Lg
open Go.RowKit
theorem Hp.cls {M : List Nat} {w0 w : World} {H : List HE} {e k : Nat} {ts : List T} {us : List Value} {v : Value} (hp : Hp M w0 (.own (.s e k (us.map T.c)) v :: .ownL ts us :: H) w) : Hp M w0 (.own (.s e k ts) v :: H) w := by
  obtain ⟨fp, ⟨f1, f2, rfl, s1, f3, f4, rfl, s3, s4⟩, nd, ge, kp⟩ := hp
  simp only [HE.sat, Own] at s1 s3
  have hl := s3.length
  rcases s1 with ⟨h1, rfl, rfl⟩ | ⟨g, n, cap, cur, fp', rfl, h2, h3, h4, h5, h6, h7, rfl⟩
  · have hu : us = [] := List.map_eq_nil_iff.1 h1
    subst hu
    have ht : ts = [] := List.eq_nil_of_length_eq_zero (by simpa using hl.symm)
    subst ht
    simp only [OwnL] at s3
    obtain ⟨_, rfl⟩ := s3
    exact ⟨_, ⟨[], f4, rfl, by simp [HE.sat, Own], s4⟩, nd, ge, kp⟩
  · obtain ⟨e1, rfl⟩ := OwnL.consts_inv h7
    refine ⟨(g :: f3) ++ f4, ⟨g :: f3, f4, rfl, ?_, s4⟩, by simpa using nd, by simpa using ge, kp⟩
    simp only [HE.sat, Own]
    refine .inr ⟨g, n, cap, cur, f3, rfl, h2, ?_, h4, h5, h6, ?_, rfl⟩
    · rw [List.length_map] at h3
      omega
    · rw [e1]; exact s3
end Go.Lg
namespace Go.Lg
open Go.RowKit
def Agree (M : List Nat) (w w' : World) : Prop := ∀ b, b < w.heap.size → b ∉ M → w'.heap[b]? = w.heap[b]?
theorem RdOut.open {w : World} {M : List Nat} {e k : Nat} {ts : List T} {v : Value} (hk : 0 < k) (h : RdOut w M (.s e k ts) v) : ∃ a m cap, v = .slice a m cap ∧ SA a m ∧ m ≤ cap ∧ cap ≤ maxLen ∧ ts.length = m * k ∧
    ∀ (j : Nat) (t : T), ts[j]? = some t → ∃ u, (∀ w', Agree M w w' → w'.cell? ⟨ab a, ao a + j, none⟩ = some u) ∧ RdOut w M t u := by
  obtain ⟨a, m, cap, h1, h2, h3, h4, h5, h6⟩ := Rd.open hk (h w (fun _ _ _ => rfl))
  refine ⟨a, m, cap, h1, h2, h3, h4, h5, fun j t ht => ?_⟩
  obtain ⟨u, c0, r0⟩ := h6 j t ht
  have hlt : ab a < w.heap.size := World.block_lt_of_cell? w _ c0
  have hM : ab a ∉ M := fun hm => by
    have hag : ∀ b, b < w.heap.size → b ∉ M → ({ w with heap := w.heap.setIfInBounds (ab a) (.cells #[] 0 (0, 0)) } : World).heap[b]? = w.heap[b]? := fun b _ hb => by
      have : ¬ ab a = b := fun e => hb (e ▸ hm)
      simp [this]
    obtain ⟨a', m', cap', g1, _, _, _, _, g6⟩ := Rd.open hk (h _ hag)
    rw [h1] at g1
    cases g1
    obtain ⟨u', c1, _⟩ := g6 j t ht
    simp [World.cell?, hlt] at c1
  have key : ∀ w', Agree M w w' → w'.cell? ⟨ab a, ao a + j, none⟩ = some u := fun w' hw => by
    rw [World.cell?_of_block (hw _ hlt hM)]; exact c0
  refine ⟨u, key, fun w' hw => ?_⟩
  obtain ⟨a', m', cap', g1, _, _, _, _, g6⟩ := Rd.open hk (h w' hw)
  rw [h1] at g1
  cases g1
  obtain ⟨u', c1, r1⟩ := g6 j t ht
  rw [key w' hw] at c1
  cases c1
  exact r1
theorem Hp.agree {M : List Nat} {w0 w : World} {H : List HE} (c : Hp M w0 H w) : Agree M w0 w := c.kept.block
theorem RdOut.c {w : World} {M : List Nat} {x u : Value} (h : RdOut w M (.c x) u) : u = x := by
  have := h w (fun _ _ _ => rfl)
  simpa only [Rd] using this
theorem RdOut.intsO {w : World} {M : List Nat} {e : Nat} {xs : List Int} {v : Value} (h : RdOut w M (ints e xs) v) : ∃ a cap, v = .slice a xs.length cap ∧ SA a xs.length ∧ ∀ j, j < xs.length → ∀ w', Agree M w w' → w'.cell? ⟨ab a, ao a + j, none⟩ = some (.int .i64 (xs.getD j 0)) := by
  obtain ⟨a, m, cap, h1, h2, _, _, h5, h6⟩ := RdOut.open (by decide) h
  have hm : xs.length = m := by simpa [it] using h5
  subst hm
  refine ⟨a, cap, h1, h2, fun j hj => ?_⟩
  obtain ⟨u, c, r⟩ := h6 j (.c (.int .i64 (xs.getD j 0))) (by simp [it, List.getD, hj])
  rw [r.c] at c
  exact c
end Go.Lg
