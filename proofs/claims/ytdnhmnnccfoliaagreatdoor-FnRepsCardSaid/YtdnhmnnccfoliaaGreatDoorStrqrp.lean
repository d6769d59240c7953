import Derived.Laws.IdiomStrings
import Derived.Laws.Concat
import Derived.Laws.Strings
import Derived.Laws.Strings2
import Derived.Test.YtdnhmnnccfoliaaGreatDoorLDqrp
namespace Go.Lg
open Go.RowKit
section
variable {P : Program} {n : Nat} {S C : World → Prop} {s : List (Nat × Value)} {K : Act → World → Prop} {ops : Array Oper} {fuel : Nat} {listed : Array Bool} {p : Prop} [Decidable p]
variable {op : Op} {d ty j dj : Nat} {pos : String} {af : Array Edge} {v : Value} {b : Bool}
end
end Go.Lg
namespace Go.Lg
open Go.RowKit
theorem satL.perm {w : World} {H H' : List HE} (h : H.Perm H') : ∀ {fp : List Nat}, satL w H fp → ∃ fp', fp'.Perm fp ∧ satL w H' fp' := by
  induction h with
  | nil => exact fun s => ⟨_, List.Perm.refl _, s⟩
  | cons x _ ih =>
    rintro fp ⟨f1, f2, e, s1, s2⟩
    obtain ⟨f3, hp, s3⟩ := ih s2
    exact ⟨f1 ++ f3, by rw [e]; exact List.Perm.append_left f1 hp, f1, f3, rfl, s1, s3⟩
  | swap x y l =>
    rintro fp ⟨f1, f2, e, s1, f3, f4, e', s3, s4⟩
    refine ⟨f3 ++ (f1 ++ f4), ?_, f3, f1 ++ f4, rfl, s3, f1, f4, rfl, s1, s4⟩
    rw [e, e', ← List.append_assoc, ← List.append_assoc]
    exact List.Perm.append_right f4 List.perm_append_comm
  | trans _ _ ih1 ih2 =>
    intro fp s
    obtain ⟨f1, p1, s1⟩ := ih1 s
    obtain ⟨f2, p2, s2⟩ := ih2 s1
    exact ⟨f2, p2.trans p1, s2⟩
theorem Hp.perm {M : List Nat} {w0 w : World} {H H' : List HE} (h : H.Perm H') (hp : Hp M w0 H w) : Hp M w0 H' w := by
  obtain ⟨fp, s, nd, ge, k⟩ := hp
  obtain ⟨fp', p, s'⟩ := satL.perm h s
  exact ⟨fp', s', p.nodup_iff.2 nd, fun b hb => ge b (p.subset hb), k⟩
def SP (H' H : List HE) : Prop := ∃ H0, H.Perm H0 ∧ H'.Sublist H0
theorem SP.refl (H : List HE) : SP H H := ⟨H, List.Perm.refl _, List.Sublist.refl _⟩
theorem SP.app {H' H : List HE} (H1 : List HE) (h : SP H' H) : SP (H1 ++ H') (H1 ++ H) := by
  obtain ⟨H0, p, s⟩ := h
  exact ⟨H1 ++ H0, List.Perm.append_left H1 p, List.Sublist.append (List.Sublist.refl _) s⟩
theorem SP.swap (A B H : List HE) : SP (A ++ (B ++ H)) (B ++ (A ++ H)) :=
  ⟨A ++ (B ++ H), by rw [← List.append_assoc, ← List.append_assoc]; exact List.Perm.append_right H List.perm_append_comm, List.Sublist.refl _⟩
theorem SP.more {H' H : List HE} (H1 : List HE) (h : SP H' H) : SP H' (H1 ++ H) := by
  obtain ⟨H0, p, s⟩ := h
  exact ⟨H1 ++ H0, List.Perm.append_left H1 p, s.trans (List.sublist_append_right _ _)⟩
theorem SP.hp {M : List Nat} {w0 w : World} {H H' : List HE} (h : SP H' H) (hp : Hp M w0 H w) : Hp M w0 H' w := by
  obtain ⟨H0, p, s⟩ := h
  exact (hp.perm p).sub s
section
variable {P : Program} {n : Nat} {M : List Nat} {w0 : World} {S : World → Prop} {K : Act → World → Prop} {ops : Array Oper} {H : List HE} {s : List (Nat × Value)} {fuel : Nat}
def StpF (P : Program) (n : Nat) (M : List Nat) (w0 : World) (ops : Array Oper) (K : Act → World → Prop) (H : List HE) (s : List (Nat × Value)) (o : Oper) (d : Nat) (φ : Value → List HE → Prop) : Prop :=
  ∀ H' s' (R : Act → World → Prop), (∀ w, Hp M w0 H' w → Hp M w0 H w) → Sub s s' → (∀ v H1, φ v H1 → AT n (Hp M w0 (H1 ++ H')) ((d, v) :: s') R) → AT n (Hp M w0 H') s' (wpList P ops (Qk R (Qn K)) [o])
structure MO where
  i : Nat
  o : Oper
  d : Nat
  φ : Value → List HE → Prop
def SeqM (P : Program) (n : Nat) (M : List Nat) (w0 : World) (S : World → Prop) (ops : Array Oper) (K : Act → World → Prop) (fuel : Nat) : List MO → List HE → List (Nat × Value) → Array Bool → Prop
  | [], H', s', l => AT n (Hp M w0 H') s' (wpAnyH P .any ops (Qn K) S fuel l)
  | m :: L, H', s', l => ∀ v H1, m.φ v H1 → SeqM P n M w0 S ops K fuel L (H1 ++ H') ((m.d, v) :: s') (l.setIfInBounds m.i true)
theorem SeqM.weak : ∀ (L : List MO) {H' H'' : List HE} {s' s'' : List (Nat × Value)} {l : Array Bool}, SP H' H'' → Sub s' s'' → SeqM P n M w0 S ops K fuel L H' s' l → SeqM P n M w0 S ops K fuel L H'' s'' l
  | [], _, _, _, _, _, hH, hs, h => AT.sub hs (AT.cls (fun _ c => hH.hp c) h)
  | _ :: L, _, _, _, _, _, hH, hs, h => fun v H1 hφ => SeqM.weak L (hH.app H1) (sub_under hs) (h v H1 hφ)
def AllM (P : Program) (n : Nat) (M : List Nat) (w0 : World) (ops : Array Oper) (K : Act → World → Prop) (H : List HE) (s : List (Nat × Value)) : List MO → Prop
  | [] => True
  | m :: L => (ops[m.i]? = some m.o ∧ lk s m.d = none ∧ StpF P n M w0 ops K H s m.o m.d m.φ) ∧ AllM P n M w0 ops K H s L
theorem AllM.get : ∀ {L : List MO}, AllM P n M w0 ops K H s L → ∀ m ∈ L, ops[m.i]? = some m.o ∧ lk s m.d = none ∧ StpF P n M w0 ops K H s m.o m.d m.φ
  | [], _, m, hm => by cases hm
  | x :: L, h, m, hm => by
    rcases List.mem_cons.1 hm with rfl | hm
    · exact h.1
    · exact AllM.get h.2 m hm
theorem stf_call {f d ty : Nat} {pos : String} {af : Array Edge} {args : Array Operand} {at' : Array Nat} {vs : List Value} {φ : Value → List HE → Prop} (he : Ent P f) (ha : evs s args.toList = some vs) (hd : Nat.blt d n = true) (hc : ∀ w, Hp M w0 H w → Does P f vs w φ) :
    StpF P n M w0 ops K H s ⟨some d, .call ⟨.value (.func f), args, at'⟩, ty, pos, af, none⟩ d φ := fun _ _ _ hH hs hR =>
  m_call he (evs_sub hs ha) hd (fun w c => hc w (hH w c)) (fun v H1 hφ => c_nil (x_one (hR v H1 hφ)))
end
end Go.Lg
namespace Go.Lg
open Go.RowKit
section
variable {P : Program} {n : Nat} {M : List Nat} {w0 : World} {S : World → Prop} {K : Act → World → Prop} {ops : Array Oper} {H : List HE} {s : List (Nat × Value)} {fuel i0 d0 e0 : Nat} {z : List Value}
theorem SP.appR {H' H : List HE} (E : List HE) (h : SP H' H) : SP (H' ++ E) (H ++ E) := by
  obtain ⟨H0, p, s⟩ := h
  exact ⟨H0 ++ E, List.Perm.append_right E p, List.Sublist.append s (List.Sublist.refl _)⟩
theorem sub_right {s' s'' : List (Nat × Value)} {p : Value} (h : Sub s' s'') (h0 : lk s'' d0 = none) : Sub (s' ++ [(d0, p)]) (s'' ++ [(d0, p)]) := fun k u e => by
  rw [lk_app] at e ⊢
  cases h1 : lk s' k with
  | some x =>
    rw [h1] at e
    rw [h _ _ h1]
    exact e
  | none =>
    rw [h1] at e
    cases h2 : lk s'' k with
    | none => exact e
    | some y =>
      by_cases hk : d0 = k
      · subst hk; rw [h0] at h2; cases h2
      · simp only at e
        rw [lk_ne hk] at e
        simp [lk] at e
def SeqF (P : Program) (n : Nat) (M : List Nat) (w0 : World) (S : World → Prop) (ops : Array Oper) (K : Act → World → Prop) (i0 d0 e0 : Nat) (z : List Value) (fuel : Nat) : List MO → List HE → List (Nat × Value) → Array Bool → Prop
  | [], H', s', l => FL P n M w0 S ops K i0 d0 e0 z H' s' fuel l
  | m :: L, H', s', l => ∀ v H1, m.φ v H1 → SeqF P n M w0 S ops K i0 d0 e0 z fuel L (H1 ++ H') ((m.d, v) :: s') (l.setIfInBounds m.i true)
theorem SeqF.weak : ∀ (L : List MO) {H' H'' : List HE} {s' s'' : List (Nat × Value)} {l : Array Bool}, (∀ m ∈ L, ¬ m.d = d0) → lk s'' d0 = none → SP H' H'' → Sub s' s'' → SeqF P n M w0 S ops K i0 d0 e0 z fuel L H' s' l → SeqF P n M w0 S ops K i0 d0 e0 z fuel L H'' s'' l
  | [], _, _, _, _, _, _, h0, hH, hs, h => ⟨AT.sub hs (AT.cls (fun _ c => hH.hp c) h.1), fun b hb => AT.sub (sub_right hs h0) (AT.cls (fun _ c => (hH.appR _).hp c) (h.2 b hb))⟩
  | m :: L, _, _, _, _, _, hm, h0, hH, hs, h => fun v H1 hφ => SeqF.weak L (fun x hx => hm x (List.mem_cons_of_mem _ hx)) (by rw [lk_ne (hm m (List.mem_cons_self ..))]; exact h0) (hH.app H1) (sub_under hs) (h v H1 hφ)
theorem SeqF.second : ∀ (L : List MO) {H' : List HE} {s' : List (Nat × Value)} {l : Array Bool} {b : Nat}, w0.heap.size ≤ b → (∀ m ∈ L, m.i ≠ i0) → SeqF P n M w0 S ops K i0 d0 e0 z fuel L H' s' l →
    SeqM P n M w0 S ops K fuel L (H' ++ [.blk b z.toArray e0]) (s' ++ [(d0, .pointer (some ⟨b, 0, none⟩))]) (l.setIfInBounds i0 true)
  | [], _, _, _, b, hb, _, h => h.2 b hb
  | m :: L, H', s', l, b, hb, hm, h => fun v H1 hφ => by
    have h1 := SeqF.second L hb (fun x hx => hm x (List.mem_cons_of_mem _ hx)) (h v H1 hφ)
    rw [List.append_assoc, Array.setIfInBounds_comm _ _ (hm m (List.mem_cons_self ..))] at h1
    exact h1
def AllF (P : Program) (n : Nat) (M : List Nat) (w0 : World) (ops : Array Oper) (K : Act → World → Prop) (i0 d0 : Nat) (H : List HE) (s : List (Nat × Value)) : List MO → Prop
  | [] => True
  | m :: L => ((ops[m.i]? = some m.o ∧ lk s m.d = none ∧ StpF P n M w0 ops K H s m.o m.d m.φ) ∧ Nat.beq m.i i0 = false ∧ Nat.beq m.d d0 = false) ∧ AllF P n M w0 ops K i0 d0 H s L
theorem AllF.get : ∀ {L : List MO}, AllF P n M w0 ops K i0 d0 H s L → ∀ m ∈ L, (ops[m.i]? = some m.o ∧ lk s m.d = none ∧ StpF P n M w0 ops K H s m.o m.d m.φ) ∧ m.i ≠ i0 ∧ ¬ m.d = d0
  | [], _, m, hm => by cases hm
  | x :: L, h, m, hm => by
    rcases List.mem_cons.1 hm with rfl | hm
    · exact ⟨h.1.1, fun e => by have := h.1.2.1; rw [e] at this; simp at this, fun e => by have := h.1.2.2; rw [e] at this; simp at this⟩
    · exact AllF.get h.2 m hm
end
end Go.Lg
namespace Go.Lg
open Go.RowKit
theorem Hp.opn {M : List Nat} {w0 w : World} {H : List HE} {e k : Nat} {ts : List T} {v : Value} (hp : Hp M w0 (.own (.s e k ts) v :: H) w) :
    ∃ us : List Value, us.length = ts.length ∧ Hp M w0 (.own (.s e k (us.map T.c)) v :: .ownL ts us :: H) w := by
  obtain ⟨fp, ⟨f1, f2, rfl, s1, s2⟩, nd, ge, kp⟩ := hp
  simp only [HE.sat, Own] at s1
  rcases s1 with ⟨rfl, rfl, rfl⟩ | ⟨g, n, cap, cur, fp', rfl, h2, h3, h4, h5, h6, h7, rfl⟩
  · refine ⟨[], rfl, [] ++ ([] ++ f2), ⟨[], [] ++ f2, rfl, ?_, [], f2, rfl, ?_, s2⟩, nd, ge, kp⟩
    · simp [HE.sat, Own]
    · simp [HE.sat, OwnL]
  · have hl := h7.length
    refine ⟨cur.toList.take (n * k), hl, [g] ++ (fp' ++ f2), ⟨[g], fp' ++ f2, rfl, ?_, fp', f2, rfl, h7, s2⟩, by simpa using nd, by simpa using ge, kp⟩
    simp only [HE.sat, Own]
    exact .inr ⟨g, n, cap, cur, [], rfl, h2, by rw [List.length_map, hl, h3], h4, h5, h6, OwnL.consts _, rfl⟩
theorem AT.opn {M : List Nat} {w0 : World} {H : List HE} {n e k : Nat} {ts : List T} {v : Value} {s : List (Nat × Value)} {R : Act → World → Prop} (i : Nat) (hi : H[i]? = some (.own (.s e k ts) v))
    (h : ∀ us : List Value, us.length = ts.length → AT n (Hp M w0 (.own (.s e k (us.map T.c)) v :: .ownL ts us :: H.eraseIdx i)) s R) : AT n (Hp M w0 H) s R := fun a w f c => by
  obtain ⟨us, hl, hc⟩ := (c.front hi).opn
  exact h us hl a w f hc
theorem OwnL.get {w : World} : ∀ {ts : List T} {vs : List Value} {fp : List Nat}, OwnL w ts vs fp → ∀ (q : Nat) (t : T) (u : Value), ts[q]? = some t → vs[q]? = some u → Rd w t u
  | [], _, _, _, q, t, u, ht, _ => by simp at ht
  | t' :: ts, vs, fp, h, q, t, u, ht, hu => by
    simp only [OwnL] at h
    obtain ⟨v, vs', f1, f2, rfl, rfl, h3, h4⟩ := h
    cases q with
    | zero => simp at ht hu; subst ht; subst hu; exact h3.rd
    | succ q => exact h4.get q t u (by simpa using ht) (by simpa using hu)
theorem Hp.ownL_rd {M : List Nat} {w0 w : World} {H : List HE} (j : Nat) {ts : List T} {us : List Value} {q : Nat} {t : T} {u : Value} (hi : H[j]? = some (.ownL ts us)) (ht : ts[q]? = some t) (hu : us[q]? = some u) (c : Hp M w0 H w) : Rd w t u := by
  obtain ⟨f, hs, _⟩ := c.sat hi
  exact OwnL.get hs q t u ht hu
theorem hc_nm {M : List Nat} {w0 : World} {H : List HE} (j : Nat) {e m c q : Nat} {us : List Value} {u : Value} {a : Option Addr} (hi : H[j]? = some (.own (.s e 1 (us.map T.c)) (.slice a m c))) (hu : us[q]? = some u) : ∀ w, Hp M w0 H w → w.cell? ⟨ab a, ao a + q, none⟩ = some u := fun w cw => by
  obtain ⟨a', m', cap, h1, h2, h3, h4, h5, h6⟩ := Rd.open (by decide) (cw.own_rd hi)
  cases h1
  obtain ⟨u', h7, h8⟩ := h6 q (.c u) (by simp [hu])
  simp only [Rd] at h8
  rw [h7, h8]
end Go.Lg
namespace Go.Lg
open Go.RowKit
section
variable {P : Program} {n : Nat} {M : List Nat} {w0 : World} {S : World → Prop} {K : Act → World → Prop} {ops : Array Oper} {H : List HE} {s : List (Nat × Value)}
end
end Go.Lg
namespace Go.Lg
open Go.RowKit
section
variable {P : Program} {n : Nat} {M : List Nat} {w0 : World} {K : Act → World → Prop} {ops : Array Oper} {H : List HE} {s : List (Nat × Value)}
end
end Go.Lg
namespace Go.Lg
open Go.RowKit
section
variable {P : Program} {n : Nat} {M : List Nat} {w0 w : World} {H : List HE} {s : List (Nat × Value)}
end
end Go.Lg
namespace Go.Lg
open Go.RowKit
theorem Hp.cls {M : List Nat} {w0 w : World} {H : List HE} {e k : Nat} {ts : List T} {us : List Value} {v : Value} (hp : Hp M w0 (.own (.s e k (us.map T.c)) v :: .ownL ts us :: H) w) : Hp M w0 (.own (.s e k ts) v :: H) w := by
  obtain ⟨fp, ⟨f1, f2, rfl, s1, f3, f4, rfl, s3, s4⟩, nd, ge, kp⟩ := hp
  simp only [HE.sat, Own] at s1 s3
  have hl := s3.length
  rcases s1 with ⟨h1, rfl, rfl⟩ | ⟨g, n, cap, cur, fp', rfl, h2, h3, h4, h5, h6, h7, rfl⟩
  · have hu : us = [] := List.map_eq_nil_iff.1 h1
    subst hu
    have ht : ts = [] := List.eq_nil_of_length_eq_zero (by simpa using hl.symm)
    subst ht
    simp only [OwnL] at s3
    obtain ⟨_, rfl⟩ := s3
    exact ⟨_, ⟨[], f4, rfl, by simp [HE.sat, Own], s4⟩, nd, ge, kp⟩
  · obtain ⟨e1, rfl⟩ := OwnL.consts_inv h7
    refine ⟨(g :: f3) ++ f4, ⟨g :: f3, f4, rfl, ?_, s4⟩, by simpa using nd, by simpa using ge, kp⟩
    simp only [HE.sat, Own]
    refine .inr ⟨g, n, cap, cur, f3, rfl, h2, ?_, h4, h5, h6, ?_, rfl⟩
    · rw [List.length_map] at h3
      omega
    · rw [e1]; exact s3
theorem hc_nmk {M : List Nat} {w0 : World} {H : List HE} (j : Nat) {e k m c q : Nat} {us : List Value} {u : Value} {a : Option Addr} (hk : 0 < k) (hi : H[j]? = some (.own (.s e k (us.map T.c)) (.slice a m c))) (hu : us[q]? = some u) : ∀ w, Hp M w0 H w → w.cell? ⟨ab a, ao a + q, none⟩ = some u := fun w cw => by
  obtain ⟨a', m', cap, h1, h2, h3, h4, h5, h6⟩ := Rd.open hk (cw.own_rd hi)
  cases h1
  obtain ⟨u', h7, h8⟩ := h6 q (.c u) (by simp [hu])
  simp only [Rd] at h8
  rw [h7, h8]
end Go.Lg
namespace Go.Lg
open Go.RowKit
def Agree (M : List Nat) (w w' : World) : Prop := ∀ b, b < w.heap.size → b ∉ M → w'.heap[b]? = w.heap[b]?
theorem RdOut.open {w : World} {M : List Nat} {e k : Nat} {ts : List T} {v : Value} (hk : 0 < k) (h : RdOut w M (.s e k ts) v) : ∃ a m cap, v = .slice a m cap ∧ SA a m ∧ m ≤ cap ∧ cap ≤ maxLen ∧ ts.length = m * k ∧
    ∀ (j : Nat) (t : T), ts[j]? = some t → ∃ u, (∀ w', Agree M w w' → w'.cell? ⟨ab a, ao a + j, none⟩ = some u) ∧ RdOut w M t u := by
  obtain ⟨a, m, cap, h1, h2, h3, h4, h5, h6⟩ := Rd.open hk (h w (fun _ _ _ => rfl))
  refine ⟨a, m, cap, h1, h2, h3, h4, h5, fun j t ht => ?_⟩
  obtain ⟨u, c0, r0⟩ := h6 j t ht
  have hlt : ab a < w.heap.size := World.block_lt_of_cell? w _ c0
  have hM : ab a ∉ M := fun hm => by
    have hag : ∀ b, b < w.heap.size → b ∉ M → ({ w with heap := w.heap.setIfInBounds (ab a) (.cells #[] 0 (0, 0)) } : World).heap[b]? = w.heap[b]? := fun b _ hb => by
      have : ¬ ab a = b := fun e => hb (e ▸ hm)
      simp [this]
    obtain ⟨a', m', cap', g1, _, _, _, _, g6⟩ := Rd.open hk (h _ hag)
    rw [h1] at g1
    cases g1
    obtain ⟨u', c1, _⟩ := g6 j t ht
    simp [World.cell?, hlt] at c1
  have key : ∀ w', Agree M w w' → w'.cell? ⟨ab a, ao a + j, none⟩ = some u := fun w' hw => by
    rw [World.cell?_of_block (hw _ hlt hM)]; exact c0
  refine ⟨u, key, fun w' hw => ?_⟩
  obtain ⟨a', m', cap', g1, _, _, _, _, g6⟩ := Rd.open hk (h w' hw)
  rw [h1] at g1
  cases g1
  obtain ⟨u', c1, r1⟩ := g6 j t ht
  rw [key w' hw] at c1
  cases c1
  exact r1
theorem Hp.agree {M : List Nat} {w0 w : World} {H : List HE} (c : Hp M w0 H w) : Agree M w0 w := c.kept.block
theorem RdOut.c {w : World} {M : List Nat} {x u : Value} (h : RdOut w M (.c x) u) : u = x := by
  have := h w (fun _ _ _ => rfl)
  simpa only [Rd] using this
theorem RdOut.intsO {w : World} {M : List Nat} {e : Nat} {xs : List Int} {v : Value} (h : RdOut w M (ints e xs) v) : ∃ a cap, v = .slice a xs.length cap ∧ SA a xs.length ∧ ∀ j, j < xs.length → ∀ w', Agree M w w' → w'.cell? ⟨ab a, ao a + j, none⟩ = some (.int .i64 (xs.getD j 0)) := by
  obtain ⟨a, m, cap, h1, h2, _, _, h5, h6⟩ := RdOut.open (by decide) h
  have hm : xs.length = m := by simpa [it] using h5
  subst hm
  refine ⟨a, cap, h1, h2, fun j hj => ?_⟩
  obtain ⟨u, c, r⟩ := h6 j (.c (.int .i64 (xs.getD j 0))) (by simp [it, List.getD, hj])
  rw [r.c] at c
  exact c
end Go.Lg

namespace Go.Lg
open Go.RowKit
def sV (l : List UInt8) : Value := .string ⟨l.toArray⟩
def bV (b : UInt8) : Value := .int .u8 (b.toNat : Int)
theorem ba_eq {a b : List UInt8} : (a == b) = decide (a = b) := by
  by_cases h : a = b
  · subst h; simp
  · rw [decide_eq_false h]; simpa using h
section
variable {P : Program} {n : Nat} {C : World → Prop} {M : List Nat} {w0 : World} {H : List HE} {s : List (Nat × Value)} {Q : Exit → Act → World → Prop} {ops : Array Oper} {rest : List Oper}
variable {d ty t t' : Nat} {pos : String} {af : Array Edge} {v : Value} {x y : Operand}
theorem y_cat {a b : List UInt8} (hx : ev s x = some (sV a)) (hy : ev s y = some (sV b)) (ha : a.length ≤ 8388608) (hb : b.length ≤ 8388608) : Y P n C s (.binOp .add t x y t') ty (sV (a ++ b)) := fun aa w f c d pos af g => by
  have h := run_string_add_lists (P := P) w a b om om
  simp only [sV] at hx hy ⊢
  simp [execOp, f.ev hx, f.ev hy, eqGuard, binOp, h]
theorem y_neqs {a b : List UInt8} (hx : ev s x = some (sV a)) (hy : ev s y = some (sV b)) : Y P n C s (.binOp .neq t x y t') ty (.bool (decide (a ≠ b))) := fun aa w f c d pos af g => by
  simp only [sV] at hx hy
  simp [execOp, f.ev hx, f.ev hy, eqGuard, binOp, Op.stringOp, ba_eq]
theorem y_neqsf {a : List UInt8} (hx : ev s x = some (sV a)) (hy : ev s y = some (sV a)) : Y P n C s (.binOp .neq t x y t') ty (.bool false) := by
  have h := y_neqs (P := P) (n := n) (C := C) (t := t) (t' := t') (ty := ty) hx hy
  simpa using h
theorem y_eqls {a b : List UInt8} (hx : ev s x = some (sV a)) (hy : ev s y = some (sV b)) : Y P n C s (.binOp .eql t x y t') ty (.bool (decide (a = b))) := fun aa w f c d pos af g => by
  simp only [sV] at hx hy
  simp [execOp, f.ev hx, f.ev hy, eqGuard, binOp, Op.stringOp, ba_eq]
theorem y_lens {a : List UInt8} (ht : P.underlying t = some .string) (hx : ev s x = some (sV a)) : Y P n C s (.call ⟨.builtin .len, #[x], #[t]⟩) ty (.int .i64 a.length) := fun aa w f c d pos af g => by
  simp only [sV] at hx
  have h := run_len_string (P := P) w t ty ⟨a.toArray⟩ ht
  simp [execOp, resolve, invoke, builtin, f.ev hx, h, goInt, ByteArray.size]
theorem y_indexs {a : List UInt8} {i : Int} (ht : P.underlying t = some .string) (hx : ev s x = some (sV a)) (hy : ev s y = some (.int .i64 i)) (h0 : 0 ≤ i) (h1 : i < a.length) : Y P n C s (.index t x y) ty (bV (a.getD i.toNat 0)) := fun aa w f c d pos af g => by
  simp only [sV] at hx
  have hl : i.toNat < a.length := by omega
  have h := run_index_string (P := P) w t ⟨a.toArray⟩ .i64 i ht
  rw [dif_pos ⟨h0, by simp [ByteArray.size]; omega⟩] at h
  have e : (ByteArray.mk a.toArray)[i.toNat]'(by simp [ByteArray.size]; omega) = a.getD i.toNat 0 := by
    show a.toArray[i.toNat] = _
    simp [List.getD, hl]
  rw [e] at h
  simp [execOp, f.ev hx, f.ev hy, h, bV]
theorem y_convk {k k' : IntKind} {p q : Int} (hs : (P.underlying t).isSome = true) (hd : P.underlying t' = some (.int k')) (hk : P.intKind t' = k') (hx : ev s x = some (.int k p)) (hq : k'.wrap p = q) : Y P n C s (.convert t t' x) ty (.int k' q) := fun a w f c d pos af g => by
  have h := run_convert_int (P := P) w t t' k p hs (by rw [hk]; exact hd)
  rw [hk, hq] at h
  simp [execOp, f.ev hx, h]
theorem y_min {at' : Array Nat} {p q : Int} (hx : ev s x = some (.int .i64 p)) (hy : ev s y = some (.int .i64 q)) : Y P n C s (.call ⟨.builtin .min, #[x, y], at'⟩) ty (.int .i64 (min p q)) := fun a w f c d pos af g => by
  simp [execOp, resolve, invoke, builtin, f.ev hx, f.ev hy, Builtin.min_, Builtin.min2]
  split <;> omega
theorem y_convbs {e : Nat} {ad : Addr} {c : Nat} {l : List UInt8} (hs : P.underlying t = some (.slice e)) (he : P.underlying e = some (.int .u8)) (hd : P.underlying t' = some .string) (hx : ev s x = some (.slice (some ad) l.length c))
    (hc : ∀ w, C w → ∀ j u, (l.map bV)[j]? = some u → w.cell? (ad.add j) = some u) : Y P n C s (.convert t t' x) ty (sV l) := fun a w f cw d pos af g => by
  have h := run_convert_bytes_back (P := P) w t t' e ad c l hs he hd (fun j hj => hc w cw j _ (by rw [List.getElem?_map, List.getElem?_eq_getElem hj]; rfl))
  simp [execOp, f.ev hx, h, sV]
theorem y_convbn {e c : Nat} {a : Option Addr} (hs : P.underlying t = some (.slice e)) (he : P.underlying e = some (.int .u8)) (hd : P.underlying t' = some .string) (hx : ev s x = some (.slice a 0 c)) : Y P n C s (.convert t t' x) ty (sV []) := fun aa w f cw d pos af g => by
  have h : (convert t t' (.slice a 0 c)).run P w = .ok (sV []) w := by
    rw [run_convert_bytes_string w t t' e a 0 c hs he hd]
    cases a with
    | none => simp [Conv.bytesToString, sV]; rfl
    | some ad =>
      have hl := run_loadCells_list (P := P) w ad [] (by simp)
      rw [run_bytesToString w ad 0 c [] (by simpa using hl)]
      rfl
  simp [execOp, f.ev hx, h]
end
end Go.Lg
