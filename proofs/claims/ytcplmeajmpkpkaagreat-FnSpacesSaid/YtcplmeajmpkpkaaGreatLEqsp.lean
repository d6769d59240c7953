import Derived.Test.YtcplmeajmpkpkaaGreatLDqsp
namespace Go.Lg
open Go.RowKit
section
variable {P : Program} {n : Nat} {S C : World → Prop} {s : List (Nat × Value)} {K : Act → World → Prop} {ops : Array Oper} {fuel : Nat} {listed : Array Bool} {p : Prop} [Decidable p]
variable {op : Op} {d ty j dj : Nat} {pos : String} {af : Array Edge} {v : Value} {b : Bool}
end
end Go.Lg
namespace Go.Lg
open Go.RowKit
theorem satL.perm {w : World} {H H' : List HE} (h : H.Perm H') : ∀ {fp : List Nat}, satL w H fp → ∃ fp', fp'.Perm fp ∧ satL w H' fp' := by
  induction h with
  | nil => exact fun s => ⟨_, List.Perm.refl _, s⟩
  | cons x _ ih =>
    rintro fp ⟨f1, f2, e, s1, s2⟩
    obtain ⟨f3, hp, s3⟩ := ih s2
    exact ⟨f1 ++ f3, by rw [e]; exact List.Perm.append_left f1 hp, f1, f3, rfl, s1, s3⟩
  | swap x y l =>
    rintro fp ⟨f1, f2, e, s1, f3, f4, e', s3, s4⟩
    refine ⟨f3 ++ (f1 ++ f4), ?_, f3, f1 ++ f4, rfl, s3, f1, f4, rfl, s1, s4⟩
    rw [e, e', ← List.append_assoc, ← List.append_assoc]
    exact List.Perm.append_right f4 List.perm_append_comm
  | trans _ _ ih1 ih2 =>
    intro fp s
    obtain ⟨f1, p1, s1⟩ := ih1 s
    obtain ⟨f2, p2, s2⟩ := ih2 s1
    exact ⟨f2, p2.trans p1, s2⟩
theorem Hp.perm {M : List Nat} {w0 w : World} {H H' : List HE} (h : H.Perm H') (hp : Hp M w0 H w) : Hp M w0 H' w := by
  obtain ⟨fp, s, nd, ge, k⟩ := hp
  obtain ⟨fp', p, s'⟩ := satL.perm h s
  exact ⟨fp', s', p.nodup_iff.2 nd, fun b hb => ge b (p.subset hb), k⟩
def SP (H' H : List HE) : Prop := ∃ H0, H.Perm H0 ∧ H'.Sublist H0
theorem SP.refl (H : List HE) : SP H H := ⟨H, List.Perm.refl _, List.Sublist.refl _⟩
theorem SP.app {H' H : List HE} (H1 : List HE) (h : SP H' H) : SP (H1 ++ H') (H1 ++ H) := by
  obtain ⟨H0, p, s⟩ := h
  exact ⟨H1 ++ H0, List.Perm.append_left H1 p, List.Sublist.append (List.Sublist.refl _) s⟩
theorem SP.swap (A B H : List HE) : SP (A ++ (B ++ H)) (B ++ (A ++ H)) :=
  ⟨A ++ (B ++ H), by rw [← List.append_assoc, ← List.append_assoc]; exact List.Perm.append_right H List.perm_append_comm, List.Sublist.refl _⟩
theorem SP.more {H' H : List HE} (H1 : List HE) (h : SP H' H) : SP H' (H1 ++ H) := by
  obtain ⟨H0, p, s⟩ := h
  exact ⟨H1 ++ H0, List.Perm.append_left H1 p, s.trans (List.sublist_append_right _ _)⟩
theorem SP.hp {M : List Nat} {w0 w : World} {H H' : List HE} (h : SP H' H) (hp : Hp M w0 H w) : Hp M w0 H' w := by
  obtain ⟨H0, p, s⟩ := h
  exact (hp.perm p).sub s
section
variable {P : Program} {n : Nat} {M : List Nat} {w0 : World} {S : World → Prop} {K : Act → World → Prop} {ops : Array Oper} {H : List HE} {s : List (Nat × Value)} {fuel : Nat}
def StpF [Dfs] (P : Program) (n : Nat) (M : List Nat) (w0 : World) (ops : Array Oper) (K : Act → World → Prop) (H : List HE) (s : List (Nat × Value)) (o : Oper) (d : Nat) (φ : Value → List HE → Prop) : Prop :=
  ∀ H' s' (R : Act → World → Prop), (∀ w, Hp M w0 H' w → Hp M w0 H w) → Sub s s' → (∀ v H1, φ v H1 → AT n (Hp M w0 (H1 ++ H')) ((d, v) :: s') R) → AT n (Hp M w0 H') s' (wpList P ops (Qk R (Qn K)) [o])
structure MO where
  i : Nat
  o : Oper
  d : Nat
  φ : Value → List HE → Prop
def SeqM [Dfs] (P : Program) (n : Nat) (M : List Nat) (w0 : World) (S : World → Prop) (ops : Array Oper) (K : Act → World → Prop) (fuel : Nat) : List MO → List HE → List (Nat × Value) → Array Bool → Prop
  | [], H', s', l => AT n (Hp M w0 H') s' (wpAnyH P .any ops (Qn K) S fuel l)
  | m :: L, H', s', l => ∀ v H1, m.φ v H1 → SeqM P n M w0 S ops K fuel L (H1 ++ H') ((m.d, v) :: s') (l.setIfInBounds m.i true)
theorem SeqM.weak [Dfs] : ∀ (L : List MO) {H' H'' : List HE} {s' s'' : List (Nat × Value)} {l : Array Bool}, SP H' H'' → Sub s' s'' → SeqM P n M w0 S ops K fuel L H' s' l → SeqM P n M w0 S ops K fuel L H'' s'' l
  | [], _, _, _, _, _, hH, hs, h => AT.sub hs (AT.cls (fun _ c => hH.hp c) h)
  | _ :: L, _, _, _, _, _, hH, hs, h => fun v H1 hφ => SeqM.weak L (hH.app H1) (sub_under hs) (h v H1 hφ)
theorem SeqM.pull [Dfs] : ∀ (A : List MO) {m : MO} {B : List MO} {H' : List HE} {s' : List (Nat × Value)} {l : Array Bool}, (∀ a ∈ A, ¬ a.d = m.d ∧ a.i ≠ m.i) → SeqM P n M w0 S ops K fuel (A ++ m :: B) H' s' l →
    ∀ v H1, m.φ v H1 → SeqM P n M w0 S ops K fuel (A ++ B) (H1 ++ H') ((m.d, v) :: s') (l.setIfInBounds m.i true)
  | [], _, _, _, _, _, _, h => h
  | a :: A, m, B, H', s', l, hne, h => fun v H1 hφ va Ha hφa => by
    have h1 := SeqM.pull A (fun x hx => hne x (List.mem_cons_of_mem _ hx)) (h va Ha hφa) v H1 hφ
    have hn := hne a (List.mem_cons_self ..)
    rw [Array.setIfInBounds_comm _ _ hn.2] at h1
    exact SeqM.weak (A ++ B) (SP.swap H1 Ha H') (sub_swap (fun e => hn.1 e.symm)) h1
def okM (ops : Array Oper) : Nat → Array Bool → List Nat → Bool
  | 0, _, is => is.isEmpty
  | k + 1, l, is => (Region.ready .any ops l).all (fun j => is.contains j) && !(Region.ready .any ops l).isEmpty && is.all fun j => okM ops k (l.setIfInBounds j true) (is.erase j)
theorem many_ok [Dfs] (hS : ∀ w, Hp M w0 H w → S w) : ∀ (k : Nat) (L : List MO) (H' : List HE) (s' : List (Nat × Value)) (l : Array Bool), L.length = k → okM ops k l (L.map (·.i)) = true → (L.map (·.i)).Nodup → (L.map (·.d)).Nodup →
    (∀ m ∈ L, ops[m.i]? = some m.o ∧ lk s' m.d = none ∧ StpF P n M w0 ops K H s m.o m.d m.φ) → SP H H' → Sub s s' → SeqM P n M w0 S ops K fuel L H' s' l → AT n (Hp M w0 H') s' (wpAnyH P .any ops (Qn K) S (fuel + k) l)
  | 0, L, H', s', l, hk, _, _, _, _, _, _, h => by
    cases L with
    | nil => exact h
    | cons m L => simp at hk
  | k + 1, L, H', s', l, hk, hok, hni, hnd, hall, hH, hs, h => fun a w f c => by
    simp only [okM, Bool.and_eq_true, List.all_eq_true, Bool.not_eq_true', List.isEmpty_eq_false_iff] at hok
    obtain ⟨⟨h1, h2⟩, h3⟩ := hok
    refine wpAnyH_all rfl h2 (fun j hj => ?_)
    have hjL : j ∈ L.map (·.i) := by simpa using h1 j hj
    have h3j := h3 j hjL
    obtain ⟨m, hm, rfl⟩ := List.mem_map.1 hjL
    obtain ⟨hop, hl0, hst⟩ := hall m hm
    obtain ⟨A, B, rfl⟩ := List.append_of_mem hm
    rw [List.map_append, List.map_cons] at hni hnd h3j
    have hiA : m.i ∉ A.map (·.i) := fun hx => by
      have := (List.nodup_append.1 hni).2.2 _ hx _ (List.mem_cons_self ..)
      exact this rfl
    have hdA : m.d ∉ A.map (·.d) := fun hx => by
      have := (List.nodup_append.1 hnd).2.2 _ hx _ (List.mem_cons_self ..)
      exact this rfl
    have hdB : m.d ∉ B.map (·.d) := (List.nodup_cons.1 (List.nodup_append.1 hnd).2.1).1
    rw [List.erase_append_right _ hiA, List.erase_cons_head, ← List.map_append] at h3j
    have hni' : ((A ++ B).map (·.i)).Nodup := by
      rw [List.map_append]
      exact List.Nodup.sublist (List.Sublist.append (List.Sublist.refl _) (List.sublist_cons_self ..)) hni
    have hnd' : ((A ++ B).map (·.d)).Nodup := by
      rw [List.map_append]
      exact List.Nodup.sublist (List.Sublist.append (List.Sublist.refl _) (List.sublist_cons_self ..)) hnd
    refine wpOp_list hop ((hst H' s' _ (fun w c => hH.hp c) hs (fun v H1 hφ => h_keep (fun w c => hS w ((hH.more H1).hp c)) ?_)) a w f c)
    refine many_ok hS k (A ++ B) (H1 ++ H') ((m.d, v) :: s') _ (by simp at hk ⊢; omega) h3j hni' hnd' (fun x hx => ?_) (hH.more H1) (Sub.trans hs (sub_cons hl0)) ?_
    · have hxL : x ∈ A ++ m :: B := by
        rcases List.mem_append.1 hx with hx | hx
        · exact List.mem_append_left _ hx
        · exact List.mem_append_right _ (List.mem_cons_of_mem _ hx)
      obtain ⟨g1, g2, g3⟩ := hall x hxL
      have hne : ¬ m.d = x.d := fun e => by
        rcases List.mem_append.1 hx with hx | hx
        · exact hdA (e ▸ List.mem_map_of_mem hx)
        · exact hdB (e ▸ List.mem_map_of_mem hx)
      exact ⟨g1, by rw [lk_ne hne]; exact g2, g3⟩
    · exact SeqM.pull A (fun x hx => ⟨fun e => hdA (e ▸ List.mem_map_of_mem hx), fun e => hiA (e ▸ List.mem_map_of_mem hx)⟩) h v H1 hφ
def AllM [Dfs] (P : Program) (n : Nat) (M : List Nat) (w0 : World) (ops : Array Oper) (K : Act → World → Prop) (H : List HE) (s : List (Nat × Value)) : List MO → Prop
  | [] => True
  | m :: L => (ops[m.i]? = some m.o ∧ lk s m.d = none ∧ StpF P n M w0 ops K H s m.o m.d m.φ) ∧ AllM P n M w0 ops K H s L
theorem AllM.get [Dfs] : ∀ {L : List MO}, AllM P n M w0 ops K H s L → ∀ m ∈ L, ops[m.i]? = some m.o ∧ lk s m.d = none ∧ StpF P n M w0 ops K H s m.o m.d m.φ
  | [], _, m, hm => by cases hm
  | x :: L, h, m, hm => by
    rcases List.mem_cons.1 hm with rfl | hm
    · exact h.1
    · exact AllM.get h.2 m hm
theorem h_many [Dfs] (k : Nat) (L : List MO) (is ds : List Nat) {listed : Array Bool} {fuel' : Nat} (hL : L.length = k) (hi : L.map (·.i) = is) (hd : L.map (·.d) = ds) (hn : decide (is.Nodup ∧ ds.Nodup) = true) (hf : fuel' = fuel + k) (hok : okM ops k listed is = true)
    (hall : AllM P n M w0 ops K H s L) (hS : ∀ w, Hp M w0 H w → S w) (h : SeqM P n M w0 S ops K fuel L H s listed) : AT n (Hp M w0 H) s (wpAnyH P .any ops (Qn K) S fuel' listed) := by
  have hn := of_decide_eq_true hn
  subst hf
  exact many_ok hS k L H s listed hL (by rw [hi]; exact hok) (by rw [hi]; exact hn.1) (by rw [hd]; exact hn.2) hall.get (SP.refl H) (Sub.refl s) h
theorem stf_b0 [Dfs] (T : Tabs P) {t d ty e k b : Nat} {pos : String} {af : Array Edge} {z : List Value} (ht : lk T.sl t = some (e, k, b, z)) (hd : Nat.blt d n = true) :
    StpF P n M w0 ops K H s ⟨some d, .buildSlice t 0 #[], ty, pos, af, none⟩ d (fun v H1 => ∃ g, w0.heap.size ≤ g ∧ v = .slice (some ⟨g, 0, none⟩) 0 0 ∧ H1 = [.own (.s e k []) (.slice (some ⟨g, 0, none⟩) 0 0)]) := fun _ _ _ _ _ hR =>
  m_build0 T ht hd (fun g hg => c_nil (x_one (hR _ _ ⟨g, hg, rfl, rfl⟩)))
theorem stf_call [Dfs] {f d ty : Nat} {pos : String} {af : Array Edge} {args : Array Operand} {at' : Array Nat} {vs : List Value} {φ : Value → List HE → Prop} (he : Ent P f) (ha : evs s args.toList = some vs) (hd : Nat.blt d n = true) (hc : ∀ w, Hp M w0 H w → Does P f vs w φ) :
    StpF P n M w0 ops K H s ⟨some d, .call ⟨.value (.func f), args, at'⟩, ty, pos, af, none⟩ d φ := fun _ _ _ hH hs hR =>
  m_call he (evs_sub hs ha) hd (fun w c => hc w (hH w c)) (fun v H1 hφ => c_nil (x_one (hR v H1 hφ)))
end
end Go.Lg
namespace Go.Lg
open Go.RowKit
section
variable {P : Program} {n : Nat} {M : List Nat} {w0 : World} {S : World → Prop} {K : Act → World → Prop} {ops : Array Oper} {H : List HE} {s : List (Nat × Value)} {fuel i0 d0 e0 : Nat} {z : List Value}
theorem SP.appR {H' H : List HE} (E : List HE) (h : SP H' H) : SP (H' ++ E) (H ++ E) := by
  obtain ⟨H0, p, s⟩ := h
  exact ⟨H0 ++ E, List.Perm.append_right E p, List.Sublist.append s (List.Sublist.refl _)⟩
theorem sub_right {s' s'' : List (Nat × Value)} {p : Value} (h : Sub s' s'') (h0 : lk s'' d0 = none) : Sub (s' ++ [(d0, p)]) (s'' ++ [(d0, p)]) := fun k u e => by
  rw [lk_app] at e ⊢
  cases h1 : lk s' k with
  | some x =>
    rw [h1] at e
    rw [h _ _ h1]
    exact e
  | none =>
    rw [h1] at e
    cases h2 : lk s'' k with
    | none => exact e
    | some y =>
      by_cases hk : d0 = k
      · subst hk; rw [h0] at h2; cases h2
      · simp only at e
        rw [lk_ne hk] at e
        simp [lk] at e
def SeqF [Dfs] (P : Program) (n : Nat) (M : List Nat) (w0 : World) (S : World → Prop) (ops : Array Oper) (K : Act → World → Prop) (i0 d0 e0 : Nat) (z : List Value) (fuel : Nat) : List MO → List HE → List (Nat × Value) → Array Bool → Prop
  | [], H', s', l => FL P n M w0 S ops K i0 d0 e0 z H' s' fuel l
  | m :: L, H', s', l => ∀ v H1, m.φ v H1 → SeqF P n M w0 S ops K i0 d0 e0 z fuel L (H1 ++ H') ((m.d, v) :: s') (l.setIfInBounds m.i true)
theorem SeqF.weak [Dfs] : ∀ (L : List MO) {H' H'' : List HE} {s' s'' : List (Nat × Value)} {l : Array Bool}, (∀ m ∈ L, ¬ m.d = d0) → lk s'' d0 = none → SP H' H'' → Sub s' s'' → SeqF P n M w0 S ops K i0 d0 e0 z fuel L H' s' l → SeqF P n M w0 S ops K i0 d0 e0 z fuel L H'' s'' l
  | [], _, _, _, _, _, _, h0, hH, hs, h => ⟨AT.sub hs (AT.cls (fun _ c => hH.hp c) h.1), fun b hb => AT.sub (sub_right hs h0) (AT.cls (fun _ c => (hH.appR _).hp c) (h.2 b hb))⟩
  | m :: L, _, _, _, _, _, hm, h0, hH, hs, h => fun v H1 hφ => SeqF.weak L (fun x hx => hm x (List.mem_cons_of_mem _ hx)) (by rw [lk_ne (hm m (List.mem_cons_self ..))]; exact h0) (hH.app H1) (sub_under hs) (h v H1 hφ)
theorem SeqF.second [Dfs] : ∀ (L : List MO) {H' : List HE} {s' : List (Nat × Value)} {l : Array Bool} {b : Nat}, w0.heap.size ≤ b → (∀ m ∈ L, m.i ≠ i0) → SeqF P n M w0 S ops K i0 d0 e0 z fuel L H' s' l →
    SeqM P n M w0 S ops K fuel L (H' ++ [.blk b z.toArray e0]) (s' ++ [(d0, .pointer (some ⟨b, 0, none⟩))]) (l.setIfInBounds i0 true)
  | [], _, _, _, b, hb, _, h => h.2 b hb
  | m :: L, H', s', l, b, hb, hm, h => fun v H1 hφ => by
    have h1 := SeqF.second L hb (fun x hx => hm x (List.mem_cons_of_mem _ hx)) (h v H1 hφ)
    rw [List.append_assoc, Array.setIfInBounds_comm _ _ (hm m (List.mem_cons_self ..))] at h1
    exact h1
theorem SeqF.pull [Dfs] : ∀ (A : List MO) {m : MO} {B : List MO} {H' : List HE} {s' : List (Nat × Value)} {l : Array Bool}, (∀ a ∈ A, ¬ a.d = m.d ∧ a.i ≠ m.i) → (∀ x ∈ A ++ B, ¬ x.d = d0) → ¬ m.d = d0 → lk s' d0 = none → SeqF P n M w0 S ops K i0 d0 e0 z fuel (A ++ m :: B) H' s' l →
    ∀ v H1, m.φ v H1 → SeqF P n M w0 S ops K i0 d0 e0 z fuel (A ++ B) (H1 ++ H') ((m.d, v) :: s') (l.setIfInBounds m.i true)
  | [], _, _, _, _, _, _, _, _, _, h => h
  | a :: A, m, B, H', s', l, hne, h0, hm0, hs0, h => fun v H1 hφ va Ha hφa => by
    have ha0 := h0 a (List.mem_cons_self ..)
    have h1 := SeqF.pull A (fun x hx => hne x (List.mem_cons_of_mem _ hx)) (fun x hx => h0 x (List.mem_cons_of_mem _ hx)) hm0 (by rw [lk_ne ha0]; exact hs0) (h va Ha hφa) v H1 hφ
    have hn := hne a (List.mem_cons_self ..)
    rw [Array.setIfInBounds_comm _ _ hn.2] at h1
    exact SeqF.weak (A ++ B) (fun x hx => h0 x (List.mem_cons_of_mem _ hx)) (by rw [lk_ne ha0, lk_ne hm0]; exact hs0) (SP.swap H1 Ha H') (sub_swap (fun e => hn.1 e.symm)) h1
def okF (ops : Array Oper) (i0 : Nat) : Nat → Array Bool → List Nat → Bool
  | 0, _, is => is.isEmpty
  | k + 1, l, is => okM ops (k + 1) (l.setIfInBounds i0 true) is && (Region.ready .any ops l).all (fun j => is.contains j || j == i0) && !(Region.ready .any ops l).isEmpty && is.all fun j => okF ops i0 k (l.setIfInBounds j true) (is.erase j)
theorem flmany_ok [Dfs] {ty0 : Nat} {pos0 : String} {af0 : Array Edge} (hi0 : ops[i0]? = some ⟨some d0, .alloc e0, ty0, pos0, af0, none⟩) (T : Tabs P) (hz : lk T.sz e0 = some z) (hd0 : Nat.blt d0 n = true) (hS : ∀ w, Hp M w0 H w → S w) : ∀ (k : Nat) (L : List MO) (H' : List HE) (s' : List (Nat × Value)) (l : Array Bool), L.length = k → okF ops i0 k l (L.map (·.i)) = true → (L.map (·.i)).Nodup → (L.map (·.d)).Nodup →
    (∀ m ∈ L, (ops[m.i]? = some m.o ∧ lk s' m.d = none ∧ StpF P n M w0 ops K H s m.o m.d m.φ) ∧ m.i ≠ i0 ∧ ¬ m.d = d0) → lk s' d0 = none → SP H H' → Sub s s' → SeqF P n M w0 S ops K i0 d0 e0 z fuel L H' s' l → FL P n M w0 S ops K i0 d0 e0 z H' s' (fuel + k) l
  | 0, L, H', s', l, hk, _, _, _, _, _, _, _, h => by
    cases L with
    | nil => exact h
    | cons m L => simp at hk
  | k + 1, L, H', s', l, hk, hok, hni, hnd, hall, hl0, hH, hs, h => by
    simp only [okF, Bool.and_eq_true, List.all_eq_true, Bool.not_eq_true', List.isEmpty_eq_false_iff] at hok
    obtain ⟨⟨⟨h0, h1⟩, h2⟩, h3⟩ := hok
    have second : ∀ b, w0.heap.size ≤ b → AT n (Hp M w0 (H' ++ [.blk b z.toArray e0])) (s' ++ [(d0, .pointer (some ⟨b, 0, none⟩))]) (wpAnyH P .any ops (Qn K) S (fuel + (k + 1)) (l.setIfInBounds i0 true)) := fun b hb => by
      refine many_ok hS (k + 1) L _ _ _ hk h0 hni hnd (fun m hm => ?_) ?_ (Sub.trans hs sub_left) (SeqF.second L hb (fun m hm => (hall m hm).2.1) h)
      · obtain ⟨⟨g1, g2, g3⟩, g4, g5⟩ := hall m hm
        refine ⟨g1, ?_, g3⟩
        rw [lk_app, g2]
        show lk [(d0, _)] m.d = none
        rw [lk_ne (fun e => g5 e.symm)]
        rfl
      · obtain ⟨H0, p, sb⟩ := hH
        exact ⟨H0 ++ [.blk b z.toArray e0], List.Perm.append_right _ p, sb.trans (List.sublist_append_left _ _)⟩
    refine ⟨fun a w f c => ?_, second⟩
    refine wpAnyH_all rfl h2 (fun j hj => ?_)
    have hjL := h1 j hj
    simp only [Bool.or_eq_true, List.contains_eq_mem, decide_eq_true_eq, beq_iff_eq] at hjL
    rcases hjL with hjL | hjL
    · have h3j := h3 j hjL
      obtain ⟨m, hm, rfl⟩ := List.mem_map.1 hjL
      obtain ⟨⟨hop, hlm, hst⟩, hmi, hmd⟩ := hall m hm
      obtain ⟨A, B, rfl⟩ := List.append_of_mem hm
      rw [List.map_append, List.map_cons] at hni hnd h3j
      have hiA : m.i ∉ A.map (·.i) := fun hx => by
        have := (List.nodup_append.1 hni).2.2 _ hx _ (List.mem_cons_self ..)
        exact this rfl
      have hdA : m.d ∉ A.map (·.d) := fun hx => by
        have := (List.nodup_append.1 hnd).2.2 _ hx _ (List.mem_cons_self ..)
        exact this rfl
      have hdB : m.d ∉ B.map (·.d) := (List.nodup_cons.1 (List.nodup_append.1 hnd).2.1).1
      rw [List.erase_append_right _ hiA, List.erase_cons_head, ← List.map_append] at h3j
      have hni' : ((A ++ B).map (·.i)).Nodup := by
        rw [List.map_append]
        exact List.Nodup.sublist (List.Sublist.append (List.Sublist.refl _) (List.sublist_cons_self ..)) hni
      have hnd' : ((A ++ B).map (·.d)).Nodup := by
        rw [List.map_append]
        exact List.Nodup.sublist (List.Sublist.append (List.Sublist.refl _) (List.sublist_cons_self ..)) hnd
      have hin : ∀ x ∈ A ++ B, x ∈ A ++ m :: B := fun x hx => by
        rcases List.mem_append.1 hx with hx | hx
        · exact List.mem_append_left _ hx
        · exact List.mem_append_right _ (List.mem_cons_of_mem _ hx)
      refine wpOp_list hop ((hst H' s' _ (fun w c => hH.hp c) hs (fun v H1 hφ => h_keep (fun w c => hS w ((hH.more H1).hp c)) ?_)) a w f c)
      refine (flmany_ok hi0 T hz hd0 hS k (A ++ B) (H1 ++ H') ((m.d, v) :: s') _ (by simp at hk ⊢; omega) h3j hni' hnd' (fun x hx => ?_) (by rw [lk_ne hmd]; exact hl0) (hH.more H1) (Sub.trans hs (sub_cons hlm)) ?_).1
      · obtain ⟨⟨g1, g2, g3⟩, g4, g5⟩ := hall x (hin x hx)
        have hne : ¬ m.d = x.d := fun e => by
          rcases List.mem_append.1 hx with hx | hx
          · exact hdA (e ▸ List.mem_map_of_mem hx)
          · exact hdB (e ▸ List.mem_map_of_mem hx)
        exact ⟨⟨g1, by rw [lk_ne hne]; exact g2, g3⟩, g4, g5⟩
      · exact SeqF.pull A (fun x hx => ⟨fun e => hdA (e ▸ List.mem_map_of_mem hx), fun e => hiA (e ▸ List.mem_map_of_mem hx)⟩) (fun x hx => (hall x (hin x hx)).2.2) hmd hl0 h v H1 hφ
    · subst hjL
      exact wpOp_list hi0 ((m_alloc T hz hd0 (fun b hb => c_nil (x_one (h_keep (fun w c => hS w (hH.hp c.drop)) (AT.sub (sub_last hl0) (AT.cls (fun w c => c.last) (second b hb)))))) : AT n (Hp M w0 H') s' _) a w f c)
def AllF [Dfs] (P : Program) (n : Nat) (M : List Nat) (w0 : World) (ops : Array Oper) (K : Act → World → Prop) (i0 d0 : Nat) (H : List HE) (s : List (Nat × Value)) : List MO → Prop
  | [] => True
  | m :: L => ((ops[m.i]? = some m.o ∧ lk s m.d = none ∧ StpF P n M w0 ops K H s m.o m.d m.φ) ∧ Nat.beq m.i i0 = false ∧ Nat.beq m.d d0 = false) ∧ AllF P n M w0 ops K i0 d0 H s L
theorem AllF.get [Dfs] : ∀ {L : List MO}, AllF P n M w0 ops K i0 d0 H s L → ∀ m ∈ L, (ops[m.i]? = some m.o ∧ lk s m.d = none ∧ StpF P n M w0 ops K H s m.o m.d m.φ) ∧ m.i ≠ i0 ∧ ¬ m.d = d0
  | [], _, m, hm => by cases hm
  | x :: L, h, m, hm => by
    rcases List.mem_cons.1 hm with rfl | hm
    · exact ⟨h.1.1, fun e => by have := h.1.2.1; rw [e] at this; simp at this, fun e => by have := h.1.2.2; rw [e] at this; simp at this⟩
    · exact AllF.get h.2 m hm
theorem fl_many [Dfs] (k : Nat) (L : List MO) (is ds : List Nat) {listed : Array Bool} {fuel' ty0 : Nat} {pos0 : String} {af0 : Array Edge} (hi0 : ops[i0]? = some ⟨some d0, .alloc e0, ty0, pos0, af0, none⟩) (T : Tabs P) (hz : lk T.sz e0 = some z) (hl0 : lk s d0 = none) (hd0 : Nat.blt d0 n = true) (hL : L.length = k) (hi : L.map (·.i) = is) (hd : L.map (·.d) = ds) (hn : decide (is.Nodup ∧ ds.Nodup) = true) (hf : fuel' = fuel + k) (hok : okF ops i0 k listed is = true)
    (hall : AllF P n M w0 ops K i0 d0 H s L) (hS : ∀ w, Hp M w0 H w → S w) (h : SeqF P n M w0 S ops K i0 d0 e0 z fuel L H s listed) : FL P n M w0 S ops K i0 d0 e0 z H s fuel' listed := by
  have hn := of_decide_eq_true hn
  subst hf
  exact flmany_ok hi0 T hz hd0 hS k L H s listed hL (by rw [hi]; exact hok) (by rw [hi]; exact hn.1) (by rw [hd]; exact hn.2) hall.get hl0 (SP.refl H) (Sub.refl s) h
theorem seqF_nil [Dfs] {l : Array Bool} (h : FL P n M w0 S ops K i0 d0 e0 z H s fuel l) : SeqF P n M w0 S ops K i0 d0 e0 z fuel [] H s l := h
end
end Go.Lg
namespace Go.Lg
open Go.RowKit
theorem Hp.opn {M : List Nat} {w0 w : World} {H : List HE} {e k : Nat} {ts : List T} {v : Value} (hp : Hp M w0 (.own (.s e k ts) v :: H) w) :
    ∃ us : List Value, us.length = ts.length ∧ Hp M w0 (.own (.s e k (us.map T.c)) v :: .ownL ts us :: H) w := by
  obtain ⟨fp, ⟨f1, f2, rfl, s1, s2⟩, nd, ge, kp⟩ := hp
  simp only [HE.sat, Own] at s1
  rcases s1 with ⟨rfl, rfl, rfl⟩ | ⟨g, n, cap, cur, fp', rfl, h2, h3, h4, h5, h6, h7, rfl⟩
  · refine ⟨[], rfl, [] ++ ([] ++ f2), ⟨[], [] ++ f2, rfl, ?_, [], f2, rfl, ?_, s2⟩, nd, ge, kp⟩
    · simp [HE.sat, Own]
    · simp [HE.sat, OwnL]
  · have hl := h7.length
    refine ⟨cur.toList.take (n * k), hl, [g] ++ (fp' ++ f2), ⟨[g], fp' ++ f2, rfl, ?_, fp', f2, rfl, h7, s2⟩, by simpa using nd, by simpa using ge, kp⟩
    simp only [HE.sat, Own]
    exact .inr ⟨g, n, cap, cur, [], rfl, h2, by rw [List.length_map, hl, h3], h4, h5, h6, OwnL.consts _, rfl⟩
theorem AT.opn [Dfs] {M : List Nat} {w0 : World} {H : List HE} {n e k : Nat} {ts : List T} {v : Value} {s : List (Nat × Value)} {R : Act → World → Prop} (i : Nat) (hi : H[i]? = some (.own (.s e k ts) v))
    (h : ∀ us : List Value, us.length = ts.length → AT n (Hp M w0 (.own (.s e k (us.map T.c)) v :: .ownL ts us :: H.eraseIdx i)) s R) : AT n (Hp M w0 H) s R := fun a w f c => by
  obtain ⟨us, hl, hc⟩ := (c.front hi).opn
  exact h us hl a w f hc
theorem OwnL.get {w : World} : ∀ {ts : List T} {vs : List Value} {fp : List Nat}, OwnL w ts vs fp → ∀ (q : Nat) (t : T) (u : Value), ts[q]? = some t → vs[q]? = some u → Rd w t u
  | [], _, _, _, q, t, u, ht, _ => by simp at ht
  | t' :: ts, vs, fp, h, q, t, u, ht, hu => by
    simp only [OwnL] at h
    obtain ⟨v, vs', f1, f2, rfl, rfl, h3, h4⟩ := h
    cases q with
    | zero => simp at ht hu; subst ht; subst hu; exact h3.rd
    | succ q => exact h4.get q t u (by simpa using ht) (by simpa using hu)
theorem Hp.ownL_rd {M : List Nat} {w0 w : World} {H : List HE} (j : Nat) {ts : List T} {us : List Value} {q : Nat} {t : T} {u : Value} (hi : H[j]? = some (.ownL ts us)) (ht : ts[q]? = some t) (hu : us[q]? = some u) (c : Hp M w0 H w) : Rd w t u := by
  obtain ⟨f, hs, _⟩ := c.sat hi
  exact OwnL.get hs q t u ht hu
theorem hc_nm {M : List Nat} {w0 : World} {H : List HE} (j : Nat) {e m c q : Nat} {us : List Value} {u : Value} {a : Option Addr} (hi : H[j]? = some (.own (.s e 1 (us.map T.c)) (.slice a m c))) (hu : us[q]? = some u) : ∀ w, Hp M w0 H w → w.cell? ⟨ab a, ao a + q, none⟩ = some u := fun w cw => by
  obtain ⟨a', m', cap, h1, h2, h3, h4, h5, h6⟩ := Rd.open (by decide) (cw.own_rd hi)
  cases h1
  obtain ⟨u', h7, h8⟩ := h6 q (.c u) (by simp [hu])
  simp only [Rd] at h8
  rw [h7, h8]
end Go.Lg
namespace Go.Lg
open Go.RowKit
section
variable {P : Program} {n : Nat} {M : List Nat} {w0 : World} {S : World → Prop} {K : Act → World → Prop} {ops : Array Oper} {H : List HE} {s : List (Nat × Value)}
theorem stf_buildn [Dfs] (T : Tabs P) {t d ty e b m : Nat} {pos : String} {af : Array Edge} {z vs : List Value} {parts : Array (Nat × Operand)} (ht : lk T.sl t = some (e, 1, b, z)) (hp : evs s (parts.toList.map (·.2)) = some vs) (hi : parts.toList.map (·.1) = List.range m) (hc : ∀ u ∈ vs, u.cells = #[u]) (hm : Nat.ble m 64 = true) (hm0 : Nat.blt 0 m = true) (hd : Nat.blt d n = true) :
    StpF P n M w0 ops K H s ⟨some d, .buildSlice t m parts, ty, pos, af, none⟩ d (fun v H1 => ∃ g, w0.heap.size ≤ g ∧ v = .slice (some ⟨g, 0, none⟩) m m ∧ H1 = [.blk g vs.toArray e]) := fun _ _ _ _ hs hR =>
  m_buildn T ht (evs_sub hs hp) hi hc hm hm0 hd (fun g hg => c_nil (x_one (hR _ _ ⟨g, hg, rfl, rfl⟩)))
end
end Go.Lg
namespace Go.Lg
open Go.RowKit
section
variable {P : Program} {n : Nat} {M : List Nat} {w0 : World} {K : Act → World → Prop} {ops : Array Oper} {H : List HE} {s : List (Nat × Value)}
theorem stp_apps [Dfs] (i : Nat) (T0 : Tabs P) {t d ty e b m m' c : Nat} {pos : String} {af : Array Edge} {z us us' : List Value} {ad : Option Addr} {v0 : Value} {x y : Operand} (ht : lk T0.sl t = some (e, 1, b, z)) (hi : H[i]? = some (.own (.s e 1 (us.map T.c)) v0)) (hx : ev s x = some v0) (hy : ev s y = some (.slice ad m c)) (hd : Nat.blt d n = true)
    (hl : us'.length = m) (h1 : ∀ u ∈ us', u.oneCell' = true) (hm : us.length + us'.length = m') (hb : (us.length + us'.length) * b ≤ 140737488355328) (hb1 : 1 ≤ b)
    (hs : ∀ w, Hp M w0 H w → m = 0 ∨ ∃ a, ad = some a ∧ ∀ j u, us'[j]? = some u → w.cell? (a.add j) = some u) :
    Stp P n M w0 ops K H s ⟨some d, .call ⟨.builtin .append, #[x, y], #[t, t]⟩, ty, pos, af, none⟩ d (fun v H1 => ∃ a cc, v = .slice a m' cc ∧ H1 = .own (.s e 1 ((us ++ us').map T.c)) (.slice a m' cc) :: H.eraseIdx i) := fun E X R hR => by
  have hil : i < H.length := (List.getElem?_eq_some_iff.1 hi).1
  refine m_apps (us := us) (us' := us') (m' := m') (H' := (H ++ E).eraseIdx i) T0 ht (ev_sub sub_left hx) (ev_sub sub_left hy) hd hl h1 hm hb hb1 (fun w c => c.front (by rw [List.getElem?_append_left hil]; exact hi)) (fun w c => hs w (c.sub (List.sublist_append_left _ _))) (fun a cc => c_nil (x_one ?_))
  rw [List.eraseIdx_append_of_lt_length hil]
  exact hR _ _ ⟨a, cc, rfl, rfl⟩
end
end Go.Lg
namespace Go.Lg
open Go.RowKit
section
variable {P : Program} {n : Nat} {M : List Nat} {w0 w : World} {H : List HE} {s : List (Nat × Value)}
end
end Go.Lg
namespace Go.Lg
open Go.RowKit
theorem Hp.cls {M : List Nat} {w0 w : World} {H : List HE} {e k : Nat} {ts : List T} {us : List Value} {v : Value} (hp : Hp M w0 (.own (.s e k (us.map T.c)) v :: .ownL ts us :: H) w) : Hp M w0 (.own (.s e k ts) v :: H) w := by
  obtain ⟨fp, ⟨f1, f2, rfl, s1, f3, f4, rfl, s3, s4⟩, nd, ge, kp⟩ := hp
  simp only [HE.sat, Own] at s1 s3
  have hl := s3.length
  rcases s1 with ⟨h1, rfl, rfl⟩ | ⟨g, n, cap, cur, fp', rfl, h2, h3, h4, h5, h6, h7, rfl⟩
  · have hu : us = [] := List.map_eq_nil_iff.1 h1
    subst hu
    have ht : ts = [] := List.eq_nil_of_length_eq_zero (by simpa using hl.symm)
    subst ht
    simp only [OwnL] at s3
    obtain ⟨_, rfl⟩ := s3
    exact ⟨_, ⟨[], f4, rfl, by simp [HE.sat, Own], s4⟩, nd, ge, kp⟩
  · obtain ⟨e1, rfl⟩ := OwnL.consts_inv h7
    refine ⟨(g :: f3) ++ f4, ⟨g :: f3, f4, rfl, ?_, s4⟩, by simpa using nd, by simpa using ge, kp⟩
    simp only [HE.sat, Own]
    refine .inr ⟨g, n, cap, cur, f3, rfl, h2, ?_, h4, h5, h6, ?_, rfl⟩
    · rw [List.length_map] at h3
      omega
    · rw [e1]; exact s3
theorem hc_nmk {M : List Nat} {w0 : World} {H : List HE} (j : Nat) {e k m c q : Nat} {us : List Value} {u : Value} {a : Option Addr} (hk : 0 < k) (hi : H[j]? = some (.own (.s e k (us.map T.c)) (.slice a m c))) (hu : us[q]? = some u) : ∀ w, Hp M w0 H w → w.cell? ⟨ab a, ao a + q, none⟩ = some u := fun w cw => by
  obtain ⟨a', m', cap, h1, h2, h3, h4, h5, h6⟩ := Rd.open hk (cw.own_rd hi)
  cases h1
  obtain ⟨u', h7, h8⟩ := h6 q (.c u) (by simp [hu])
  simp only [Rd] at h8
  rw [h7, h8]
end Go.Lg
namespace Go.Lg
open Go.RowKit
def Agree (M : List Nat) (w w' : World) : Prop := ∀ b, b < w.heap.size → b ∉ M → w'.heap[b]? = w.heap[b]?
theorem RdOut.open {w : World} {M : List Nat} {e k : Nat} {ts : List T} {v : Value} (hk : 0 < k) (h : RdOut w M (.s e k ts) v) : ∃ a m cap, v = .slice a m cap ∧ SA a m ∧ m ≤ cap ∧ cap ≤ maxLen ∧ ts.length = m * k ∧
    ∀ (j : Nat) (t : T), ts[j]? = some t → ∃ u, (∀ w', Agree M w w' → w'.cell? ⟨ab a, ao a + j, none⟩ = some u) ∧ RdOut w M t u := by
  obtain ⟨a, m, cap, h1, h2, h3, h4, h5, h6⟩ := Rd.open hk (h w (fun _ _ _ => rfl))
  refine ⟨a, m, cap, h1, h2, h3, h4, h5, fun j t ht => ?_⟩
  obtain ⟨u, c0, r0⟩ := h6 j t ht
  have hlt : ab a < w.heap.size := World.block_lt_of_cell? w _ c0
  have hM : ab a ∉ M := fun hm => by
    have hag : ∀ b, b < w.heap.size → b ∉ M → ({ w with heap := w.heap.setIfInBounds (ab a) (.cells #[] 0 (0, 0)) } : World).heap[b]? = w.heap[b]? := fun b _ hb => by
      have : ¬ ab a = b := fun e => hb (e ▸ hm)
      simp [this]
    obtain ⟨a', m', cap', g1, _, _, _, _, g6⟩ := Rd.open hk (h _ hag)
    rw [h1] at g1
    cases g1
    obtain ⟨u', c1, _⟩ := g6 j t ht
    simp [World.cell?, hlt] at c1
  have key : ∀ w', Agree M w w' → w'.cell? ⟨ab a, ao a + j, none⟩ = some u := fun w' hw => by
    rw [World.cell?_of_block (hw _ hlt hM)]; exact c0
  refine ⟨u, key, fun w' hw => ?_⟩
  obtain ⟨a', m', cap', g1, _, _, _, _, g6⟩ := Rd.open hk (h w' hw)
  rw [h1] at g1
  cases g1
  obtain ⟨u', c1, r1⟩ := g6 j t ht
  rw [key w' hw] at c1
  cases c1
  exact r1
theorem Hp.agree {M : List Nat} {w0 w : World} {H : List HE} (c : Hp M w0 H w) : Agree M w0 w := c.kept.block
theorem RdOut.c {w : World} {M : List Nat} {x u : Value} (h : RdOut w M (.c x) u) : u = x := by
  have := h w (fun _ _ _ => rfl)
  simpa only [Rd] using this
theorem RdOut.intsO {w : World} {M : List Nat} {e : Nat} {xs : List Int} {v : Value} (h : RdOut w M (ints e xs) v) : ∃ a cap, v = .slice a xs.length cap ∧ SA a xs.length ∧ ∀ j, j < xs.length → ∀ w', Agree M w w' → w'.cell? ⟨ab a, ao a + j, none⟩ = some (.int .i64 (xs.getD j 0)) := by
  obtain ⟨a, m, cap, h1, h2, _, _, h5, h6⟩ := RdOut.open (by decide) h
  have hm : xs.length = m := by simpa [it] using h5
  subst hm
  refine ⟨a, cap, h1, h2, fun j hj => ?_⟩
  obtain ⟨u, c, r⟩ := h6 j (.c (.int .i64 (xs.getD j 0))) (by simp [it, List.getD, hj])
  rw [r.c] at c
  exact c
end Go.Lg
