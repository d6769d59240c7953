import Derived.Test.YtbpgnnejlablnaaLgA
namespace Go.Lg
open Go.RowKit

/-- data: one cell as it is, or a slice of element type e, k cells an element, with the cells of its elements -/
inductive T where
  | c (v : Value)
  | s (e k : Nat) (ts : List T)

mutual
def Own (w : World) : T → Value → List Nat → Prop
  | .c u, v, fp => v = u ∧ fp = []
  | .s e k ts, v, fp =>
    (ts = [] ∧ v = .slice none 0 0 ∧ fp = []) ∨
    ∃ g n cap cur fp', v = .slice (some ⟨g, 0, none⟩) n cap ∧ w.heap[g]? = some (.cells cur e (0, 0)) ∧ ts.length = n * k ∧ n ≤ cap ∧ cap ≤ maxLen ∧ cur.size = cap * k ∧
      OwnL w ts (cur.toList.take (n * k)) fp' ∧ fp = g :: fp'
def OwnL (w : World) : List T → List Value → List Nat → Prop
  | [], vs, fp => vs = [] ∧ fp = []
  | t :: ts, vs, fp => ∃ v vs' f1 f2, vs = v :: vs' ∧ fp = f1 ++ f2 ∧ Own w t v f1 ∧ OwnL w ts vs' f2
end

mutual
def Rd (w : World) : T → Value → Prop
  | .c u, v => v = u
  | .s _ k ts, v => ∃ a n cap, v = .slice a n cap ∧ n ≤ cap ∧ cap ≤ maxLen ∧ ts.length = n * k ∧ RdL w a 0 ts
def RdL (w : World) (a : Option Addr) (j : Nat) : List T → Prop
  | [] => True
  | t :: ts => (∃ b o u, a = some ⟨b, o, none⟩ ∧ w.cell? ⟨b, o + j, none⟩ = some u ∧ Rd w t u) ∧ RdL w a (j + 1) ts
end

mutual
theorem Own.loc {w w' : World} : ∀ {t : T} {v : Value} {fp : List Nat}, Own w t v fp → (∀ b ∈ fp, w'.heap[b]? = w.heap[b]?) → Own w' t v fp
  | .c u, v, fp, h, _ => by simpa only [Own] using h
  | .s e k ts, v, fp, h, hb => by
    simp only [Own] at h ⊢
    rcases h with h | ⟨g, n, cap, cur, fp', h1, h2, h3, h4, h5, h6, h7, h8⟩
    · exact .inl h
    · subst h8
      exact .inr ⟨g, n, cap, cur, fp', h1, by rw [hb g (by simp)]; exact h2, h3, h4, h5, h6, OwnL.loc h7 (fun b hm => hb b (by simp [hm])), rfl⟩
theorem OwnL.loc {w w' : World} : ∀ {ts : List T} {vs : List Value} {fp : List Nat}, OwnL w ts vs fp → (∀ b ∈ fp, w'.heap[b]? = w.heap[b]?) → OwnL w' ts vs fp
  | [], vs, fp, h, _ => by simpa only [OwnL] using h
  | t :: ts, vs, fp, h, hb => by
    simp only [OwnL] at h ⊢
    obtain ⟨v, vs', f1, f2, h1, h2, h3, h4⟩ := h
    subst h2
    exact ⟨v, vs', f1, f2, h1, rfl, Own.loc h3 (fun b hm => hb b (by simp [hm])), OwnL.loc h4 (fun b hm => hb b (by simp [hm]))⟩
end

mutual
theorem Own.lt {w : World} : ∀ {t : T} {v : Value} {fp : List Nat}, Own w t v fp → ∀ b ∈ fp, b < w.heap.size
  | .c u, v, fp, h => by simp only [Own] at h; simp [h.2]
  | .s e k ts, v, fp, h => by
    simp only [Own] at h
    rcases h with h | ⟨g, n, cap, cur, fp', h1, h2, h3, h4, h5, h6, h7, h8⟩
    · simp [h.2.2]
    · subst h8
      intro b hb
      rcases List.mem_cons.1 hb with rfl | hb
      · exact (Array.getElem?_eq_some_iff.1 h2).1
      · exact OwnL.lt h7 b hb
theorem OwnL.lt {w : World} : ∀ {ts : List T} {vs : List Value} {fp : List Nat}, OwnL w ts vs fp → ∀ b ∈ fp, b < w.heap.size
  | [], vs, fp, h => by simp only [OwnL] at h; simp [h.2]
  | t :: ts, vs, fp, h => by
    simp only [OwnL] at h
    obtain ⟨v, vs', f1, f2, h1, h2, h3, h4⟩ := h
    subst h2
    intro b hb
    rcases List.mem_append.1 hb with hb | hb
    · exact Own.lt h3 b hb
    · exact OwnL.lt h4 b hb
end

theorem OwnL.length {w : World} : ∀ {ts : List T} {vs : List Value} {fp : List Nat}, OwnL w ts vs fp → vs.length = ts.length
  | [], vs, fp, h => by simp only [OwnL] at h; simp [h.1]
  | t :: ts, vs, fp, h => by
    simp only [OwnL] at h
    obtain ⟨v, vs', f1, f2, h1, h2, h3, h4⟩ := h
    simp [h1, OwnL.length h4]

mutual
theorem Rd.mono {w w' : World} (hb : ∀ b, b < w.heap.size → w'.heap[b]? = w.heap[b]?) : ∀ {t : T} {v : Value}, Rd w t v → Rd w' t v
  | .c u, v, h => by simpa only [Rd] using h
  | .s e k ts, v, h => by
    simp only [Rd] at h ⊢
    obtain ⟨a, n, cap, h1, h2, h2', h3, h4⟩ := h
    exact ⟨a, n, cap, h1, h2, h2', h3, RdL.mono hb h4⟩
theorem RdL.mono {w w' : World} (hb : ∀ b, b < w.heap.size → w'.heap[b]? = w.heap[b]?) : ∀ {ts : List T} {a : Option Addr} {j : Nat}, RdL w a j ts → RdL w' a j ts
  | [], a, j, h => by simp only [RdL]
  | t :: ts, a, j, h => by
    simp only [RdL] at h ⊢
    obtain ⟨⟨b, o, u, h1, h2, h3⟩, h4⟩ := h
    exact ⟨⟨b, o, u, h1, by rw [World.cell?_of_block (hb b (World.block_lt_of_cell? w _ h2))]; exact h2, Rd.mono hb h3⟩, RdL.mono hb h4⟩
end

mutual
theorem Own.rd {w : World} : ∀ {t : T} {v : Value} {fp : List Nat}, Own w t v fp → Rd w t v
  | .c u, v, fp, h => by simp only [Own] at h; simp only [Rd]; exact h.1
  | .s e k ts, v, fp, h => by
    simp only [Own] at h
    simp only [Rd]
    rcases h with ⟨h1, h2, h3⟩ | ⟨g, n, cap, cur, fp', h1, h2, h3, h4, h5, h6, h7, h8⟩
    · subst h1
      exact ⟨none, 0, 0, h2, Nat.le_refl _, Nat.zero_le _, by simp, by simp only [RdL]⟩
    · refine ⟨some ⟨g, 0, none⟩, n, cap, h1, h4, h5, h3, OwnL.rd h7 ?_⟩
      intro i u hu
      rw [List.getElem?_take] at hu
      split at hu
      · simp only [World.cell?, h2, Nat.zero_add]
        simpa using hu
      · cases hu
theorem OwnL.rd {w : World} : ∀ {ts : List T} {vs : List Value} {fp : List Nat} {g o j : Nat}, OwnL w ts vs fp → (∀ i u, vs[i]? = some u → w.cell? ⟨g, o + (j + i), none⟩ = some u) → RdL w (some ⟨g, o, none⟩) j ts
  | [], vs, fp, g, o, j, h, hc => by simp only [RdL]
  | t :: ts, vs, fp, g, o, j, h, hc => by
    simp only [OwnL] at h
    simp only [RdL]
    obtain ⟨v, vs', f1, f2, h1, h2, h3, h4⟩ := h
    subst h1
    refine ⟨⟨g, o, v, rfl, hc 0 v (by simp), Own.rd h3⟩, OwnL.rd h4 (fun i u hu => ?_)⟩
    have := hc (i + 1) u (by simpa using hu)
    rwa [show o + (j + (i + 1)) = o + (j + 1 + i) by omega] at this
end

/-- the elements of a slice that reads: by number -/
theorem RdL.get {w : World} : ∀ {ts : List T} {a : Option Addr} {j : Nat}, RdL w a j ts → ∀ i t, ts[i]? = some t → ∃ b o u, a = some ⟨b, o, none⟩ ∧ w.cell? ⟨b, o + (j + i), none⟩ = some u ∧ Rd w t u
  | [], a, j, h, i, t, ht => by simp at ht
  | t' :: ts, a, j, h, i, t, ht => by
    simp only [RdL] at h
    cases i with
    | zero =>
      simp at ht; subst ht
      obtain ⟨b, o, u, h1, h2, h3⟩ := h.1
      exact ⟨b, o, u, h1, h2, h3⟩
    | succ i =>
      obtain ⟨b, o, u, h1, h2, h3⟩ := h.2.get i t (by simpa using ht)
      exact ⟨b, o, u, h1, by rw [show o + (j + (i + 1)) = o + (j + 1 + i) by omega]; exact h2, h3⟩

/-- a piece of memory that is ours -/
inductive HE where
  | blk (b : Nat) (cur : Array Value) (e : Nat)
  | own (t : T) (v : Value)
  | ownL (ts : List T) (vs : List Value)

def HE.sat (w : World) : HE → List Nat → Prop
  | .blk b cur e, fp => w.heap[b]? = some (.cells cur e (0, 0)) ∧ fp = [b]
  | .own t v, fp => Own w t v fp
  | .ownL ts vs, fp => OwnL w ts vs fp

def satL (w : World) : List HE → List Nat → Prop
  | [], fp => fp = []
  | h :: H, fp => ∃ f1 f2, fp = f1 ++ f2 ∧ h.sat w f1 ∧ satL w H f2

theorem HE.sat.loc {w w' : World} {h : HE} {fp : List Nat} (hs : h.sat w fp) (hb : ∀ b ∈ fp, w'.heap[b]? = w.heap[b]?) : h.sat w' fp := by
  cases h with
  | blk b cur e => obtain ⟨h1, h2⟩ := hs; subst h2; exact ⟨by rw [hb b (by simp)]; exact h1, rfl⟩
  | own t v => exact Own.loc hs hb
  | ownL ts vs => exact OwnL.loc hs hb

theorem HE.sat.lt {w : World} {h : HE} {fp : List Nat} (hs : h.sat w fp) : ∀ b ∈ fp, b < w.heap.size := by
  cases h with
  | blk b cur e => obtain ⟨h1, h2⟩ := hs; subst h2; intro c hc; simp at hc; subst hc; exact (Array.getElem?_eq_some_iff.1 h1).1
  | own t v => exact Own.lt hs
  | ownL ts vs => exact OwnL.lt hs

theorem satL.loc {w w' : World} : ∀ {H : List HE} {fp : List Nat}, satL w H fp → (∀ b ∈ fp, w'.heap[b]? = w.heap[b]?) → satL w' H fp
  | [], fp, h, _ => h
  | h :: H, fp, ⟨f1, f2, h1, h2, h3⟩, hb => by
    subst h1
    exact ⟨f1, f2, rfl, h2.loc (fun b hm => hb b (by simp [hm])), satL.loc h3 (fun b hm => hb b (by simp [hm]))⟩

theorem satL.lt {w : World} : ∀ {H : List HE} {fp : List Nat}, satL w H fp → ∀ b ∈ fp, b < w.heap.size
  | [], fp, h => by simp only [satL] at h; simp [h]
  | h :: H, fp, ⟨f1, f2, h1, h2, h3⟩ => by
    subst h1
    intro b hb
    rcases List.mem_append.1 hb with hb | hb
    · exact h2.lt b hb
    · exact satL.lt h3 b hb

theorem satL.append {w : World} : ∀ {H1 H2 : List HE} {f1 f2 : List Nat}, satL w H1 f1 → satL w H2 f2 → satL w (H1 ++ H2) (f1 ++ f2)
  | [], H2, f1, f2, h1, h2 => by simp only [satL] at h1; subst h1; exact h2
  | h :: H1, H2, f1, f2, ⟨g1, g2, e, a, b⟩, h2 => ⟨g1, g2 ++ f2, by rw [e, List.append_assoc], a, satL.append b h2⟩

/-- what was there when we began is as it was, but for the blocks of M -/
structure Kept (M : List Nat) (w0 w : World) : Prop where
  os : w.os = w0.os
  tape : w.tape = w0.tape
  output : w.output = w0.output
  size : w0.heap.size ≤ w.heap.size
  block : ∀ k, k < w0.heap.size → k ∉ M → w.heap[k]? = w0.heap[k]?

/-- the pieces of H are ours, apart from each other, and all that was there when we began is kept, but for M -/
def Hp (M : List Nat) (w0 : World) (H : List HE) (w : World) : Prop :=
  ∃ fp, satL w H fp ∧ fp.Nodup ∧ (∀ b ∈ fp, b ∈ M ∨ w0.heap.size ≤ b) ∧ Kept M w0 w

section
variable {M : List Nat} {w0 w w' : World} {H : List HE}

theorem Kept.refl : Kept M w0 w0 := ⟨rfl, rfl, rfl, Nat.le_refl _, fun _ _ _ => rfl⟩
theorem Kept.below (h : Kept [] w0 w) : Below w0.heap.size w0 w := ⟨h.os, h.tape, h.output, h.size, fun k hk => h.block k hk (by simp)⟩
theorem Kept.of_below (h : Below w0.heap.size w0 w) : Kept M w0 w := ⟨h.os, h.tape, h.output, h.size, fun k hk _ => h.block k hk⟩

theorem Hp.nil : Hp M w0 [] w0 := ⟨[], rfl, by simp, by simp, Kept.refl⟩
theorem Hp.kept (h : Hp M w0 H w) : Kept M w0 w := let ⟨_, _, _, _, k⟩ := h; k
theorem Hp.below (h : Hp [] w0 H w) : Below w0.heap.size w0 w := h.kept.below
theorem Hp.rd (h : Hp [] w0 H w) {t : T} {v : Value} (hr : Rd w0 t v) : Rd w t v := hr.mono (fun b hb => h.kept.block b hb (by simp))
theorem Hp.cell (h : Hp [] w0 H w) {a : Addr} {v : Value} (hr : w0.cell? a = some v) : w.cell? a = some v := by
  rw [World.cell?_of_block (h.kept.block a.block (World.block_lt_of_cell? w0 a hr) (by simp))]; exact hr

theorem Hp.drop {h : HE} (hp : Hp M w0 (h :: H) w) : Hp M w0 H w := by
  obtain ⟨fp, ⟨f1, f2, e, s1, s2⟩, nd, ge, k⟩ := hp
  subst e
  exact ⟨f2, s2, (List.nodup_append.1 nd).2.1, fun b hb => ge b (by simp [hb]), k⟩

/-- a piece of H: its blocks, and what H is once it has been turned in place -/
theorem satL.pick : ∀ {H : List HE} {fp : List Nat} {i : Nat} {h : HE}, satL w H fp → H[i]? = some h → ∃ f, h.sat w f ∧ (∀ b ∈ f, b ∈ fp) ∧ (fp.Nodup → f.Nodup) ∧
    ∀ h' w', h'.sat w' f → (∀ b ∈ fp, b ∉ f → w'.heap[b]? = w.heap[b]?) → fp.Nodup → satL w' (H.set i h') fp
  | [], fp, i, h, hs, hi => by simp at hi
  | h0 :: H, fp, 0, h, ⟨f1, f2, e, s1, s2⟩, hi => by
    simp at hi; subst hi; subst e
    refine ⟨f1, s1, by simp_all, fun nd => (List.nodup_append.1 nd).1, fun h' w' a hb nd => ⟨f1, f2, rfl, a, s2.loc (fun b hm => hb b (by simp [hm]) (fun hm' => ?_))⟩⟩
    exact (List.nodup_append.1 nd).2.2 b hm' b hm rfl
  | h0 :: H, fp, i + 1, h, ⟨f1, f2, e, s1, s2⟩, hi => by
    subst e
    obtain ⟨f, a, hin, hnd, c⟩ := satL.pick s2 (by simpa using hi)
    refine ⟨f, a, fun b hb => by simp [hin b hb], fun nd => hnd (List.nodup_append.1 nd).2.1, fun h' w' a' hb nd => ⟨f1, f2, rfl, s1.loc (fun b hm => hb b (by simp [hm]) (fun hm' => ?_)), ?_⟩⟩
    · exact (List.nodup_append.1 nd).2.2 b hm b (hin b hm') rfl
    · exact c h' w' a' (fun b hm hn => hb b (by simp [hm]) hn) (List.nodup_append.1 nd).2.1

theorem satL.front : ∀ {H : List HE} {fp : List Nat} {i : Nat} {h : HE}, satL w H fp → H[i]? = some h → ∃ fp', fp'.Perm fp ∧ satL w (h :: H.eraseIdx i) fp'
  | [], fp, i, h, hs, hi => by simp at hi
  | h0 :: H, fp, 0, h, ⟨f1, f2, e, s1, s2⟩, hi => by
    simp at hi; subst hi
    exact ⟨fp, List.Perm.refl _, f1, f2, e, s1, by simpa using s2⟩
  | h0 :: H, fp, i + 1, h, ⟨f1, f2, e, s1, s2⟩, hi => by
    subst e
    obtain ⟨fp', p, g1, g2, e', a, b⟩ := satL.front s2 (by simpa using hi)
    subst e'
    refine ⟨g1 ++ (f1 ++ g2), ?_, g1, f1 ++ g2, rfl, a, f1, g2, rfl, s1, b⟩
    refine List.Perm.trans ?_ (List.Perm.append_left f1 p)
    rw [← List.append_assoc, ← List.append_assoc]
    exact List.Perm.append_right g2 List.perm_append_comm

theorem Hp.front {i : Nat} {h : HE} (hi : H[i]? = some h) (hp : Hp M w0 H w) : Hp M w0 (h :: H.eraseIdx i) w := by
  obtain ⟨fp, s, nd, ge, k⟩ := hp
  obtain ⟨fp', p, s'⟩ := s.front hi
  exact ⟨fp', s', p.nodup_iff.2 nd, fun b hb => ge b (p.mem_iff.1 hb), k⟩

theorem Hp.sat {i : Nat} {h : HE} (hi : H[i]? = some h) (hp : Hp M w0 H w) : ∃ f, h.sat w f ∧ f.Nodup ∧ ∀ b ∈ f, b ∈ M ∨ w0.heap.size ≤ b := by
  obtain ⟨fp, s, nd, ge, k⟩ := hp
  obtain ⟨f, a, hin, hnd, _⟩ := s.pick hi
  exact ⟨f, a, hnd nd, fun b hb => ge b (hin b hb)⟩

theorem Hp.blk {i b e : Nat} {cur : Array Value} (hp : Hp M w0 H w) (hi : H[i]? = some (.blk b cur e)) : w.heap[b]? = some (.cells cur e (0, 0)) := by
  obtain ⟨f, a, _, _⟩ := hp.sat hi; exact a.1
theorem Hp.own_rd {i : Nat} {t : T} {v : Value} (hp : Hp M w0 H w) (hi : H[i]? = some (.own t v)) : Rd w t v := by
  obtain ⟨f, a, _, _⟩ := hp.sat hi; exact Own.rd a

/-- a piece turned in place, all else as it was -/
theorem Hp.turn {i : Nat} {h h' : HE} (hi : H[i]? = some h) (hp : Hp M w0 H w)
    (hw : ∀ f, h.sat w f → h'.sat w' f ∧ (∀ k, k < w.heap.size → k ∉ f → w'.heap[k]? = w.heap[k]?)) (ho : w'.os = w.os) (ht : w'.tape = w.tape) (hu : w'.output = w.output) (hz : w.heap.size ≤ w'.heap.size) : Hp M w0 (H.set i h') w' := by
  obtain ⟨fp, s, nd, ge, k⟩ := hp
  obtain ⟨f, a, hin, hnd, c⟩ := s.pick hi
  obtain ⟨h1, h2⟩ := hw f a
  refine ⟨fp, c h' w' h1 (fun b hb hn => h2 b (s.lt b hb) hn) nd, nd, ge, ho.trans k.os, ht.trans k.tape, hu.trans k.output, Nat.le_trans k.size hz, fun j hj hm => ?_⟩
  rw [h2 j (Nat.lt_of_lt_of_le hj k.size) (fun hf => ?_)]
  · exact k.block j hj hm
  · rcases ge j (hin j hf) with h | h
    · exact hm h
    · omega

/-- new pieces -/
theorem Hp.more {H' : List HE} {fp' : List Nat} (hp : Hp M w0 H w) (hb : Below w.heap.size w w') (hs : satL w' H' fp') (nd' : fp'.Nodup) (ge' : ∀ b ∈ fp', w.heap.size ≤ b) : Hp M w0 (H' ++ H) w' := by
  obtain ⟨fp, s, nd, ge, k⟩ := hp
  refine ⟨fp' ++ fp, hs.append (s.loc (fun b hm => hb.block b (s.lt b hm))), List.nodup_append.2 ⟨nd', nd, fun a ha b hm e => ?_⟩, fun b hm => ?_, hb.os.trans k.os, hb.tape.trans k.tape, hb.output.trans k.output, Nat.le_trans k.size hb.size, fun j hj hm => ?_⟩
  · subst e
    have := ge' a ha; have := s.lt a hm; omega
  · rcases List.mem_append.1 hm with hm | hm
    · exact .inr (Nat.le_trans k.size (ge' b hm))
    · exact ge b hm
  · rw [hb.block j (Nat.lt_of_lt_of_le hj k.size)]; exact k.block j hj hm

theorem Hp.same (hp : Hp M w0 H w) (hb : Below w.heap.size w w') : Hp M w0 H w' := by
  have := hp.more hb (H' := []) (fp' := []) rfl (by simp) (by simp)
  simpa using this
theorem Hp.drew (hp : Hp M w0 H w) : Hp M w0 H { w with drawn := w.drawn + 1 } := hp.same ⟨rfl, rfl, rfl, Nat.le_refl _, fun _ _ => rfl⟩

theorem Hp.alloc (hp : Hp M w0 H w) (cur : Array Value) (e : Nat) : Hp M w0 (.blk w.heap.size cur e :: H) (w.alloc (.cells cur e)) :=
  hp.more (H' := [.blk w.heap.size cur e]) (fp' := [w.heap.size]) ((Below.refl _ _).alloc (Nat.le_refl _) _) ⟨[w.heap.size], [], rfl, ⟨heap_alloc_new w _, rfl⟩, rfl⟩ (by simp) (by simp)

theorem satL.sub {w : World} : ∀ {H' H : List HE}, List.Sublist H' H → ∀ {fp : List Nat}, satL w H fp → ∃ fp', fp'.Sublist fp ∧ satL w H' fp'
  | _, _, .slnil, fp, h => ⟨fp, List.Sublist.refl _, h⟩
  | _, _, .cons a h, fp, ⟨f1, f2, e, s1, s2⟩ => by
    obtain ⟨fp', hs, r⟩ := satL.sub h s2
    exact ⟨fp', by rw [e]; exact List.Sublist.trans hs (List.sublist_append_right _ _), r⟩
  | _, _, .cons_cons a h, fp, ⟨f1, f2, e, s1, s2⟩ => by
    obtain ⟨fp', hs, r⟩ := satL.sub h s2
    exact ⟨f1 ++ fp', by rw [e]; exact List.Sublist.append (List.Sublist.refl _) hs, f1, fp', rfl, s1, r⟩

theorem Hp.sub {H' : List HE} (hs : List.Sublist H' H) (hp : Hp M w0 H w) : Hp M w0 H' w := by
  obtain ⟨fp, s, nd, ge, k⟩ := hp
  obtain ⟨fp', hs', s'⟩ := satL.sub hs s
  exact ⟨fp', s', hs'.nodup nd, fun b hb => ge b (hs'.subset hb), k⟩

/-- the first piece said otherwise, with the same blocks -/
theorem Hp.say {h : HE} {H1 : List HE} (hp : Hp M w0 (h :: H) w) (hs : ∀ f, h.sat w f → ∃ f', f'.Perm f ∧ satL w H1 f') : Hp M w0 (H1 ++ H) w := by
  obtain ⟨fp, ⟨f1, f2, e, s1, s2⟩, nd, ge, k⟩ := hp
  subst e
  obtain ⟨f', p, s'⟩ := hs f1 s1
  have pp : (f' ++ f2).Perm (f1 ++ f2) := List.Perm.append_right f2 p
  exact ⟨f' ++ f2, s'.append s2, pp.nodup_iff.2 nd, fun b hb => ge b (pp.mem_iff.1 hb), k⟩

/-- pieces joined into one -/
theorem Hp.join {H1 : List HE} {h : HE} (hp : Hp M w0 (H1 ++ H) w) (hs : ∀ f, satL w H1 f → ∃ f', f'.Perm f ∧ h.sat w f') : Hp M w0 (h :: H) w := by
  have split : ∀ {H1 H2 : List HE} {fp : List Nat}, satL w (H1 ++ H2) fp → ∃ f1 f2, fp = f1 ++ f2 ∧ satL w H1 f1 ∧ satL w H2 f2 := by
    intro H1
    induction H1 with
    | nil => intro H2 fp h; exact ⟨[], fp, rfl, rfl, h⟩
    | cons a r ih =>
      intro H2 fp ⟨f1, f2, e, s1, s2⟩
      obtain ⟨g1, g2, e', a1, a2⟩ := ih s2
      exact ⟨f1 ++ g1, g2, by rw [e, e', List.append_assoc], ⟨f1, g1, rfl, s1, a1⟩, a2⟩
  obtain ⟨fp, s, nd, ge, k⟩ := hp
  obtain ⟨f1, f2, e, s1, s2⟩ := split s
  subst e
  obtain ⟨f', p, s'⟩ := hs f1 s1
  have pp : (f' ++ f2).Perm (f1 ++ f2) := List.Perm.append_right f2 p
  exact ⟨f' ++ f2, ⟨f', f2, rfl, s', s2⟩, pp.nodup_iff.2 nd, fun b hb => ge b (pp.mem_iff.1 hb), k⟩
end
end Go.Lg
