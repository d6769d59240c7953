import Derived.Test.YtdnhmnnccfoliaaGreatDoorStrqrp
namespace Go.Lg
open Go.RowKit
theorem lk_mem {k : Nat} {v : Value} : ∀ {L : List (Nat × Value)}, (L.map (·.1)).Nodup → (lk L k = some v ↔ (k, v) ∈ L)
  | [], _ => by simp [lk]
  | (j, u) :: L, h => by
    rw [List.map_cons, List.nodup_cons] at h
    have ih := lk_mem (k := k) (v := v) h.2
    by_cases e : j = k
    · subst e
      have hb : Nat.beq j j = true := Nat.beq_refl j
      simp only [lk, hb, cond_true, List.mem_cons, Prod.mk.injEq, true_and]
      constructor
      · intro e; exact .inl (Option.some.inj e).symm
      · rintro (rfl | hm)
        · rfl
        · exact absurd (List.mem_map.2 ⟨_, hm, rfl⟩) h.1
    · rw [lk_ne e, ih]
      simp only [List.mem_cons, Prod.mk.injEq]
      constructor
      · exact .inr
      · rintro (⟨e2, _⟩ | hm)
        · exact absurd e2.symm e
        · exact hm
theorem sub_perm {L L' s : List (Nat × Value)} (hp : L.Perm L') (h : (L.map (·.1)).Nodup) : Sub (L ++ s) (L' ++ s) := fun k v e => by
  have h' : (L'.map (·.1)).Nodup := (hp.map (·.1)).nodup_iff.1 h
  rw [lk_app] at e ⊢
  cases hL : lk L k with
  | some u =>
    rw [hL] at e
    have : lk L' k = some u := (lk_mem h').2 (hp.mem_iff.1 ((lk_mem h).1 hL))
    rw [this]; exact e
  | none =>
    rw [hL] at e
    have : lk L' k = none := by
      cases hL' : lk L' k with
      | none => rfl
      | some u =>
        have := (lk_mem h).2 (hp.mem_iff.2 ((lk_mem h').1 hL'))
        rw [hL] at this; cases this
    rw [this]; exact e
section
variable {P : Program} {n : Nat} {M : List Nat} {w0 w : World} {S : World → Prop} {ops : Array Oper} {K : Act → World → Prop} {i0 d0 e0 : Nat} {z : List Value} {H : List HE} {s : List (Nat × Value)} {fuel : Nat} {listed : Array Bool}
theorem StpF.stp {o : Oper} {d : Nat} {φ : Value → List HE → Prop} (h : StpF P n M w0 ops K H s o d φ) : Stp P n M w0 ops K H s o d (fun v H1 => ∃ H0, φ v H0 ∧ H1 = H0 ++ H) := fun E X R hR =>
  h (H ++ E) (s ++ X) R (fun w c => c.sub (List.sublist_append_left _ _)) sub_left (fun v H0 hφ => by
    have := hR v (H0 ++ H) ⟨H0, hφ, rfl⟩
    rwa [List.append_assoc] at this)
theorem FL.weak {H' : List HE} {s' : List (Nat × Value)} (hl0 : lk s' d0 = none) (hH : H'.Perm H) (hs : Sub s s') (h : FL P n M w0 S ops K i0 d0 e0 z H s fuel listed) : FL P n M w0 S ops K i0 d0 e0 z H' s' fuel listed :=
  ⟨AT.sub hs (AT.cls (fun _ c => c.perm hH) h.1), fun b hb => AT.sub (sub_right hs hl0) (AT.cls (fun _ c => c.perm (hH.append_right _)) (h.2 b hb))⟩
def AllB (P : Program) (n : Nat) (M : List Nat) (w0 : World) (S : World → Prop) (ops : Array Oper) (K : Act → World → Prop) (i0 d0 e0 : Nat) (z : List Value) (H : List HE) (s : List (Nat × Value)) (fuel : Nat) (listed : Array Bool) : List MO → Prop
  | [] => True
  | m :: L => (ops[m.i]? = some m.o ∧ m.i ≠ i0 ∧ Stp P n M w0 ops K H s m.o m.d m.φ ∧ (∀ v H1, m.φ v H1 → ∀ w, Hp M w0 H1 w → S w) ∧ ∀ v H1, m.φ v H1 → FL P n M w0 S ops K i0 d0 e0 z H1 ((m.d, v) :: s) fuel (listed.setIfInBounds m.i true)) ∧ AllB P n M w0 S ops K i0 d0 e0 z H s fuel listed L
theorem AllB.get : ∀ {L : List MO}, AllB P n M w0 S ops K i0 d0 e0 z H s fuel listed L → ∀ m ∈ L, ops[m.i]? = some m.o ∧ m.i ≠ i0 ∧ Stp P n M w0 ops K H s m.o m.d m.φ ∧ (∀ v H1, m.φ v H1 → ∀ w, Hp M w0 H1 w → S w) ∧ ∀ v H1, m.φ v H1 → FL P n M w0 S ops K i0 d0 e0 z H1 ((m.d, v) :: s) fuel (listed.setIfInBounds m.i true)
  | [], _, m, hm => by cases hm
  | _ :: L, h, m, hm => by
    rcases List.mem_cons.1 hm with rfl | hm
    · exact h.1
    · exact AllB.get h.2 m hm
def okA (ops : Array Oper) (i0 : Nat) (l : Array Bool) (is : List Nat) : Bool :=
  (((Region.ready .any ops l).all fun q => is.contains q || q == i0) && !(Region.ready .any ops l).isEmpty) && (((Region.ready .any ops (l.setIfInBounds i0 true)).all fun q => is.contains q) && !(Region.ready .any ops (l.setIfInBounds i0 true)).isEmpty)
theorem fl_alts (L : List MO) (is : List Nat) {ty0 : Nat} {pos0 : String} {af0 : Array Edge} (hi0 : ops[i0]? = some ⟨some d0, .alloc e0, ty0, pos0, af0, none⟩) (T : Tabs P) (hz : lk T.sz e0 = some z) (hl0 : lk s d0 = none) (hd0 : Nat.blt d0 n = true)
    (hi : L.map (·.i) = is) (hok : okA ops i0 listed is = true) (hS0 : ∀ w, Hp M w0 H w → S w) (hB : AllB P n M w0 S ops K i0 d0 e0 z H s fuel listed L) : FL P n M w0 S ops K i0 d0 e0 z H s (fuel + 1) listed := by
  simp only [okA, Bool.and_eq_true, List.all_eq_true, Bool.not_eq_true', List.isEmpty_eq_false_iff] at hok
  obtain ⟨⟨hr, hr1⟩, hr', hr1'⟩ := hok
  have hB := hB.get
  have second : ∀ b, w0.heap.size ≤ b → AT n (Hp M w0 (H ++ [.blk b z.toArray e0])) (s ++ [(d0, .pointer (some ⟨b, 0, none⟩))]) (wpAnyH P .any ops (Qn K) S (fuel + 1) (listed.setIfInBounds i0 true)) := fun b hb a w fr c => by
    refine wpAnyH_all rfl hr1' (fun q hq => ?_)
    have hq' : q ∈ L.map (·.i) := by rw [hi]; simpa using hr' q hq
    obtain ⟨m, hm, rfl⟩ := List.mem_map.1 hq'
    obtain ⟨g1, g2, g3, g4, g5⟩ := hB m hm
    refine wpOp_list g1 (g3 _ _ _ (fun v H1 hφ => h_keep (fun w c => g4 v H1 hφ w (c.sub (List.sublist_append_left _ _))) ?_) a w fr c)
    have := (g5 v H1 hφ).2 b hb
    rw [Array.setIfInBounds_comm _ _ g2] at this
    exact this
  refine ⟨fun a w fr c => ?_, second⟩
  refine wpAnyH_all rfl hr1 (fun q hq => ?_)
  have hq' := hr q hq
  simp only [Bool.or_eq_true, beq_iff_eq] at hq'
  rcases hq' with hq' | hq'
  · have hq2 : q ∈ L.map (·.i) := by rw [hi]; simpa using hq'
    obtain ⟨m, hm, rfl⟩ := List.mem_map.1 hq2
    obtain ⟨g1, g2, g3, g4, g5⟩ := hB m hm
    have h1 : AT n (Hp M w0 H) s (wpList P ops (Qk (fun a' w' => S w' ∧ wpAnyH P .any ops (Qn K) S (fuel + 1) (listed.setIfInBounds m.i true) a' w') (Qn K)) [m.o]) := by
      have := g3 [] [] (fun a' w' => S w' ∧ wpAnyH P .any ops (Qn K) S (fuel + 1) (listed.setIfInBounds m.i true) a' w') (fun v H1 hφ => by
        rw [List.append_nil, List.append_nil]
        exact h_keep (g4 v H1 hφ) (g5 v H1 hφ).1)
      rwa [List.append_nil, List.append_nil] at this
    exact wpOp_list g1 (h1 a w fr c)
  · subst hq'
    exact wpOp_list hi0 ((m_alloc T hz hd0 (fun b hb => c_nil (x_one (h_keep (fun w c => hS0 w c.drop) (AT.sub (sub_last hl0) (AT.cls (fun w c => c.last) (second b hb)))))) : AT n (Hp M w0 H) s _) a w fr c)
theorem fl_copy (ic ib ia ig : Nat) {oc : Oper} {dc db da dg tb eb tg eg kg bg tyb tya tyg ty0 c m : Nat} {zb zg : List Value} {posb posa posg pos0 : String} {afb afa afg af0 : Array Edge} {φ : Value → List HE → Prop} {y : Operand} {ad : Option Addr} {ys : List Int}
    (hi0 : ops[i0]? = some ⟨some d0, .alloc e0, ty0, pos0, af0, none⟩) (T : Tabs P) (hz : lk T.sz e0 = some z) (hl0 : lk s d0 = none) (hd0 : Nat.blt d0 n = true)
    (hc : ops[ic]? = some oc) (hb : ops[ib]? = some ⟨some db, .buildSlice tb 0 #[], tyb, posb, afb, none⟩) (ha : ops[ia]? = some ⟨some da, .call ⟨.builtin .append, #[.tmp db, y], #[tb, tb]⟩, tya, posa, afa, none⟩) (hg : ops[ig]? = some ⟨some dg, .buildSlice tg 0 #[], tyg, posg, afg, none⟩)
    (htb : lk T.sl tb = some (eb, 1, 8, zb)) (htg : lk T.sl tg = some (eg, kg, bg, zg)) (hy : ev s y = some (.slice ad m c)) (hm : ys.length = m) (hys : ys.length ≤ 1099511627776) (hrd : ∀ w, Hp M w0 H w → Rd w (ints eb ys) (.slice ad ys.length c))
    (hdb : Nat.blt db n = true) (hda : Nat.blt da n = true) (hdg : Nat.blt dg n = true) (hst : StpF P n M w0 ops K H s oc dc φ)
    (hnd : decide (([da, dg, db, dc].Nodup ∧ [ic, ib, ia, ig].Nodup) ∧ (([ic, ib, ia, ig].contains i0 = false ∧ [da, dg, db, dc].contains d0 = false) ∧ (lk s da = none ∧ lk s dg = none ∧ lk s db = none ∧ lk s dc = none))) = true)
    (hok : (okA ops i0 listed [ic, ib, ig] && okA ops i0 (listed.setIfInBounds ic true) [ib, ig] && okA ops i0 (listed.setIfInBounds ib true) [ic, ig] && okA ops i0 (listed.setIfInBounds ig true) [ic, ib] &&
      okA ops i0 ((listed.setIfInBounds ic true).setIfInBounds ib true) [ia, ig] && okA ops i0 ((listed.setIfInBounds ic true).setIfInBounds ig true) [ib] && okA ops i0 ((listed.setIfInBounds ib true).setIfInBounds ig true) [ic] &&
      okA ops i0 (((listed.setIfInBounds ic true).setIfInBounds ib true).setIfInBounds ig true) [ia] && okA ops i0 (((listed.setIfInBounds ic true).setIfInBounds ib true).setIfInBounds ia true) [ig]) = true)
    (hS : ∀ w, Hp M w0 H w → S w)
    (h : ∀ v H0, φ v H0 → ∀ gb gg a cc, w0.heap.size ≤ gb → w0.heap.size ≤ gg → SA a m → FL P n M w0 S ops K i0 d0 e0 z (.own (ints eb ys) (.slice a m cc) :: .own (.s eg kg []) (.slice (some ⟨gg, 0, none⟩) 0 0) :: (H0 ++ H)) ((da, .slice a m cc) :: (dg, .slice (some ⟨gg, 0, none⟩) 0 0) :: (db, .slice (some ⟨gb, 0, none⟩) 0 0) :: (dc, v) :: s) fuel ((((listed.setIfInBounds ic true).setIfInBounds ib true).setIfInBounds ia true).setIfInBounds ig true)) :
    FL P n M w0 S ops K i0 d0 e0 z H s (fuel + 4) listed := by
  subst hm
  have hnd := of_decide_eq_true hnd
  obtain ⟨⟨nd1, nd2⟩, ⟨ni0, nd0⟩, la, lg, lb, lc⟩ := hnd
  simp only [Bool.and_eq_true] at hok
  obtain ⟨⟨⟨⟨⟨⟨⟨⟨k0, k1⟩, k2⟩, k3⟩, k4⟩, k5⟩, k6⟩, k7⟩, k8⟩ := hok
  simp only [List.nodup_cons, List.mem_cons, List.not_mem_nil, or_false, not_or, not_false_eq_true, List.nodup_nil, and_true] at nd1 nd2
  obtain ⟨⟨nab, nac, nad⟩, ⟨nbc, nbd⟩, ncd⟩ := nd1
  obtain ⟨⟨q1, q2, q3⟩, ⟨q4, q5⟩, q6⟩ := nd2
  have cI : ∀ i ∈ [ic, ib, ia, ig], i ≠ i0 := fun i hi e => by subst e; simp [List.contains_eq_mem] at ni0; simp at hi; omega
  have cD : ∀ d ∈ [da, dg, db, dc], ¬ d = d0 := fun d hd e => by subst e; simp [List.contains_eq_mem] at nd0; simp at hd; omega
  have l0 : ∀ {d : Nat} {v : Value} {s' : List (Nat × Value)}, d ∈ [da, dg, db, dc] → lk s' d0 = none → lk ((d, v) :: s') d0 = none := fun hd hl => by rw [lk_ne (cD _ hd)]; exact hl
  have sH : ∀ (H1 : List HE), List.Sublist H H1 → ∀ w, Hp M w0 H1 w → S w := fun H1 hs w c => hS w (c.sub hs)
  -- steps
  have stB : ∀ {H' : List HE} {s' : List (Nat × Value)}, Stp P n M w0 ops K H' s' ⟨some db, .buildSlice tb 0 #[], tyb, posb, afb, none⟩ db (fun v H1 => ∃ g, w0.heap.size ≤ g ∧ v = .slice (some ⟨g, 0, none⟩) 0 0 ∧ H1 = .own (ints eb []) (.slice (some ⟨g, 0, none⟩) 0 0) :: H') := fun {H' s'} => stp_b0 T htb hdb
  have stG : ∀ {H' : List HE} {s' : List (Nat × Value)}, Stp P n M w0 ops K H' s' ⟨some dg, .buildSlice tg 0 #[], tyg, posg, afg, none⟩ dg (fun v H1 => ∃ g, w0.heap.size ≤ g ∧ v = .slice (some ⟨g, 0, none⟩) 0 0 ∧ H1 = .own (.s eg kg []) (.slice (some ⟨g, 0, none⟩) 0 0) :: H') := fun {H' s'} => stp_b0 T htg hdg
  have stC : ∀ {H' : List HE} {s' : List (Nat × Value)}, List.Sublist H H' → Sub s s' → Stp P n M w0 ops K H' s' oc dc (fun v H1 => ∃ H0, φ v H0 ∧ H1 = H0 ++ H') := fun {H' s'} hH hs =>
    StpF.stp (fun H'' s'' R h1 h2 h3 => hst H'' s'' R (fun w c => (h1 w c).sub hH) (Sub.trans hs h2) h3)
  -- behind the call and both slices
  have D2 : ∀ v H0, φ v H0 → ∀ gb gg, w0.heap.size ≤ gb → w0.heap.size ≤ gg → FL P n M w0 S ops K i0 d0 e0 z (.own (ints eb []) (.slice (some ⟨gb, 0, none⟩) 0 0) :: .own (.s eg kg []) (.slice (some ⟨gg, 0, none⟩) 0 0) :: (H0 ++ H)) ((dg, .slice (some ⟨gg, 0, none⟩) 0 0) :: (db, .slice (some ⟨gb, 0, none⟩) 0 0) :: (dc, v) :: s) (fuel + 1) (((listed.setIfInBounds ic true).setIfInBounds ib true).setIfInBounds ig true) := fun v H0 hφ gb gg h1 h2 => by
    refine fl_alts [⟨ia, _, _, _⟩] [ia] hi0 T hz (l0 (by simp) (l0 (by simp) (l0 (by simp) hl0))) hd0 rfl k7 (sH _ (.cons _ (.cons _ (List.sublist_append_right _ _)))) ⟨⟨ha, cI _ (by simp), stp_dup 0 T htb rfl (by simp only [ev]; rw [lk_ne (fun e => nbc e), lk_eq]) (ev_sub (fun k u e => ?_) hy) hda hys (fun w c => hrd w (c.sub (.cons _ (.cons _ (List.sublist_append_right _ _))))), ?_, ?_⟩, trivial⟩
    · rw [lk_ne (fun e2 => by subst e2; rw [lg] at e; cases e), lk_ne (fun e2 => by subst e2; rw [lb] at e; cases e), lk_ne (fun e2 => by subst e2; rw [lc] at e; cases e)]; exact e
    · rintro v' H1 ⟨a, cc, hs, rfl, rfl⟩ w c
      exact sH _ (.cons _ (.cons _ (List.sublist_append_right _ _))) w c
    · rintro v' H1 ⟨a, cc, hs, rfl, rfl⟩
      rw [Array.setIfInBounds_comm _ _ (fun e => q6 e.symm)]
      exact h v H0 hφ gb gg a cc h1 h2 hs
  have D1 : ∀ v H0, φ v H0 → ∀ gb, w0.heap.size ≤ gb → FL P n M w0 S ops K i0 d0 e0 z (.own (ints eb []) (.slice (some ⟨gb, 0, none⟩) 0 0) :: (H0 ++ H)) ((db, .slice (some ⟨gb, 0, none⟩) 0 0) :: (dc, v) :: s) (fuel + 2) ((listed.setIfInBounds ic true).setIfInBounds ib true) := fun v H0 hφ gb h1 => by
    refine fl_alts [⟨ia, _, _, _⟩, ⟨ig, _, _, _⟩] [ia, ig] hi0 T hz (l0 (by simp) (l0 (by simp) hl0)) hd0 rfl k4 (sH _ (.cons _ (List.sublist_append_right _ _))) ⟨⟨ha, cI _ (by simp), stp_dup 0 T htb rfl (by simp only [ev]; rw [lk_eq]) (ev_sub (fun k u e => ?_) hy) hda hys (fun w c => hrd w (c.sub (.cons _ (List.sublist_append_right _ _)))), ?_, ?_⟩, ⟨hg, cI _ (by simp), stG, ?_, ?_⟩, trivial⟩
    · rw [lk_ne (fun e2 => by subst e2; rw [lb] at e; cases e), lk_ne (fun e2 => by subst e2; rw [lc] at e; cases e)]; exact e
    · rintro v' H1 ⟨a, cc, hs, rfl, rfl⟩ w c
      exact sH _ (.cons _ (List.sublist_append_right _ _)) w c
    · rintro v' H1 ⟨a, cc, hs, rfl, rfl⟩
      refine fl_alts [⟨ig, _, _, _⟩] [ig] hi0 T hz (l0 (by simp) (l0 (by simp) (l0 (by simp) hl0))) hd0 rfl k8 (sH _ (.cons _ (List.sublist_append_right _ _))) ⟨⟨hg, cI _ (by simp), stG, ?_, ?_⟩, trivial⟩
      · rintro v' H1 ⟨gg, h2, rfl, rfl⟩ w c
        exact sH _ (.cons _ (.cons _ (List.sublist_append_right _ _))) w c
      · rintro v' H1 ⟨gg, h2, rfl, rfl⟩
        exact FL.weak (l0 (by simp) (l0 (by simp) (l0 (by simp) (l0 (by simp) hl0)))) (List.Perm.swap ..) (sub_swap (fun e => nab e)) (h v H0 hφ gb gg a cc h1 h2 hs)
    · rintro v' H1 ⟨gg, h2, rfl, rfl⟩ w c
      exact sH _ (.cons _ (.cons _ (List.sublist_append_right _ _))) w c
    · rintro v' H1 ⟨gg, h2, rfl, rfl⟩
      exact FL.weak (l0 (by simp) (l0 (by simp) (l0 (by simp) hl0))) (List.Perm.swap ..) (Sub.refl _) (D2 v H0 hφ gb gg h1 h2)
  have sOne : ∀ {d : Nat} {v : Value}, lk s d = none → Sub s ((d, v) :: s) := fun hl => sub_cons hl
  refine fl_alts [⟨ic, _, _, _⟩, ⟨ib, _, _, _⟩, ⟨ig, _, _, _⟩] [ic, ib, ig] hi0 T hz hl0 hd0 rfl k0 hS ⟨⟨hc, cI _ (by simp), stC (List.Sublist.refl _) (Sub.refl _), ?_, ?_⟩, ⟨hb, cI _ (by simp), stB, ?_, ?_⟩, ⟨hg, cI _ (by simp), stG, ?_, ?_⟩, trivial⟩
  · rintro v H1 ⟨H0, hφ, rfl⟩ w c
    exact sH _ (List.sublist_append_right _ _) w c
  · rintro v H1 ⟨H0, hφ, rfl⟩
    refine fl_alts [⟨ib, _, _, _⟩, ⟨ig, _, _, _⟩] [ib, ig] hi0 T hz (l0 (by simp) hl0) hd0 rfl k1 (sH _ (List.sublist_append_right _ _)) ⟨⟨hb, cI _ (by simp), stB, ?_, ?_⟩, ⟨hg, cI _ (by simp), stG, ?_, ?_⟩, trivial⟩
    · rintro v' H1 ⟨gb, h1, rfl, rfl⟩ w c
      exact sH _ (.cons _ (List.sublist_append_right _ _)) w c
    · rintro v' H1 ⟨gb, h1, rfl, rfl⟩
      exact D1 v H0 hφ gb h1
    · rintro v' H1 ⟨gg, h2, rfl, rfl⟩ w c
      exact sH _ (.cons _ (List.sublist_append_right _ _)) w c
    · rintro v' H1 ⟨gg, h2, rfl, rfl⟩
      refine fl_alts [⟨ib, _, _, _⟩] [ib] hi0 T hz (l0 (by simp) (l0 (by simp) hl0)) hd0 rfl k5 (sH _ (.cons _ (List.sublist_append_right _ _))) ⟨⟨hb, cI _ (by simp), stB, ?_, ?_⟩, trivial⟩
      · rintro v' H1 ⟨gb, h1, rfl, rfl⟩ w c
        exact sH _ (.cons _ (.cons _ (List.sublist_append_right _ _))) w c
      · rintro v' H1 ⟨gb, h1, rfl, rfl⟩
        rw [Array.setIfInBounds_comm _ _ (fun e => q5 e.symm)]
        exact FL.weak (l0 (by simp) (l0 (by simp) (l0 (by simp) hl0))) (List.Perm.refl _) (sub_swap (fun e => nbc e)) (D2 v H0 hφ gb gg h1 h2)
  · rintro v' H1 ⟨gb, h1, rfl, rfl⟩ w c
    exact sH _ (.cons _ (List.Sublist.refl _)) w c
  · rintro v' H1 ⟨gb, h1, rfl, rfl⟩
    refine fl_alts [⟨ic, _, _, _⟩, ⟨ig, _, _, _⟩] [ic, ig] hi0 T hz (l0 (by simp) hl0) hd0 rfl k2 (sH _ (.cons _ (List.Sublist.refl _))) ⟨⟨hc, cI _ (by simp), stC (.cons _ (List.Sublist.refl _)) (sOne lb), ?_, ?_⟩, ⟨hg, cI _ (by simp), stG, ?_, ?_⟩, trivial⟩
    · rintro v H1 ⟨H0, hφ, rfl⟩ w c
      exact sH _ (.trans (.cons _ (List.Sublist.refl _)) (List.sublist_append_right _ _)) w c
    · rintro v H1 ⟨H0, hφ, rfl⟩
      rw [Array.setIfInBounds_comm _ _ (fun e => q1 e.symm)]
      exact FL.weak (l0 (by simp) (l0 (by simp) hl0)) List.perm_middle (sub_swap (fun e => ncd e)) (D1 v H0 hφ gb h1)
    · rintro v' H1 ⟨gg, h2, rfl, rfl⟩ w c
      exact sH _ (.cons _ (.cons _ (List.Sublist.refl _))) w c
    · rintro v' H1 ⟨gg, h2, rfl, rfl⟩
      refine fl_alts [⟨ic, _, _, _⟩] [ic] hi0 T hz (l0 (by simp) (l0 (by simp) hl0)) hd0 rfl k6 (sH _ (.cons _ (.cons _ (List.Sublist.refl _)))) ⟨⟨hc, cI _ (by simp), stC (.cons _ (.cons _ (List.Sublist.refl _))) (Sub.trans (sOne lb) (sub_cons (by rw [lk_ne (fun e => nbc e.symm)]; exact lg))), ?_, ?_⟩, trivial⟩
      · rintro v H1 ⟨H0, hφ, rfl⟩ w c
        exact sH _ (.trans (.cons _ (.cons _ (List.Sublist.refl _))) (List.sublist_append_right _ _)) w c
      · rintro v H1 ⟨H0, hφ, rfl⟩
        rw [Array.setIfInBounds_comm _ _ (fun e => q3 e.symm), Array.setIfInBounds_comm _ _ (fun e => q1 e.symm)]
        refine FL.weak (l0 (by simp) (l0 (by simp) (l0 (by simp) hl0))) ?_ ?_ (D2 v H0 hφ gb gg h1 h2)
        · exact (List.perm_middle.trans (List.Perm.cons _ List.perm_middle)).trans (List.Perm.swap ..)
        · exact sub_perm (L := [(dg, _), (db, _), (dc, v)]) (L' := [(dc, v), (dg, _), (db, _)]) (s := s) (List.perm_append_comm (l₁ := [(dg, _), (db, _)]) (l₂ := [(dc, v)])) (by simp; exact ⟨⟨nbc, nbd⟩, ncd⟩)
  · rintro v' H1 ⟨gg, h2, rfl, rfl⟩ w c
    exact sH _ (.cons _ (List.Sublist.refl _)) w c
  · rintro v' H1 ⟨gg, h2, rfl, rfl⟩
    refine fl_alts [⟨ic, _, _, _⟩, ⟨ib, _, _, _⟩] [ic, ib] hi0 T hz (l0 (by simp) hl0) hd0 rfl k3 (sH _ (.cons _ (List.Sublist.refl _))) ⟨⟨hc, cI _ (by simp), stC (.cons _ (List.Sublist.refl _)) (sOne lg), ?_, ?_⟩, ⟨hb, cI _ (by simp), stB, ?_, ?_⟩, trivial⟩
    · rintro v H1 ⟨H0, hφ, rfl⟩ w c
      exact sH _ (.trans (.cons _ (List.Sublist.refl _)) (List.sublist_append_right _ _)) w c
    · rintro v H1 ⟨H0, hφ, rfl⟩
      rw [Array.setIfInBounds_comm _ _ (fun e => q3 e.symm)]
      refine fl_alts [⟨ib, _, _, _⟩] [ib] hi0 T hz (l0 (by simp) (l0 (by simp) hl0)) hd0 rfl k5 (sH _ (.trans (.cons _ (List.Sublist.refl _)) (List.sublist_append_right _ _))) ⟨⟨hb, cI _ (by simp), stB, ?_, ?_⟩, trivial⟩
      · rintro v' H1 ⟨gb, h1, rfl, rfl⟩ w c
        exact sH _ (.cons _ (.trans (.cons _ (List.Sublist.refl _)) (List.sublist_append_right _ _))) w c
      · rintro v' H1 ⟨gb, h1, rfl, rfl⟩
        rw [Array.setIfInBounds_comm _ _ (fun e => q5 e.symm)]
        refine FL.weak (l0 (by simp) (l0 (by simp) (l0 (by simp) hl0))) (List.Perm.cons _ List.perm_middle) ?_ (D2 v H0 hφ gb gg h1 h2)
        exact sub_perm (L := [(dg, _), (db, _), (dc, v)]) (L' := [(db, _), (dc, v), (dg, _)]) (s := s) (List.perm_append_comm (l₁ := [(dg, _)]) (l₂ := [(db, _), (dc, v)])) (by simp; exact ⟨⟨nbc, nbd⟩, ncd⟩)
    · rintro v' H1 ⟨gb, h1, rfl, rfl⟩ w c
      exact sH _ (.cons _ (.cons _ (List.Sublist.refl _))) w c
    · rintro v' H1 ⟨gb, h1, rfl, rfl⟩
      rw [Array.setIfInBounds_comm _ _ (fun e => q5 e.symm)]
      refine fl_alts [⟨ic, _, _, _⟩] [ic] hi0 T hz (l0 (by simp) (l0 (by simp) hl0)) hd0 rfl k6 (sH _ (.cons _ (.cons _ (List.Sublist.refl _)))) ⟨⟨hc, cI _ (by simp), stC (.cons _ (.cons _ (List.Sublist.refl _))) (Sub.trans (sOne lg) (sub_cons (by rw [lk_ne (fun e => nbc e)]; exact lb))), ?_, ?_⟩, trivial⟩
      · rintro v H1 ⟨H0, hφ, rfl⟩ w c
        exact sH _ (.trans (.cons _ (.cons _ (List.Sublist.refl _))) (List.sublist_append_right _ _)) w c
      · rintro v H1 ⟨H0, hφ, rfl⟩
        rw [Array.setIfInBounds_comm _ _ (fun e => q3 e.symm), Array.setIfInBounds_comm _ _ (fun e => q1 e.symm)]
        refine FL.weak (l0 (by simp) (l0 (by simp) (l0 (by simp) hl0))) ?_ ?_ (D2 v H0 hφ gb gg h1 h2)
        · exact List.perm_middle.trans (List.Perm.cons _ List.perm_middle)
        · exact sub_perm (L := [(dg, _), (db, _), (dc, v)]) (L' := [(dc, v), (db, _), (dg, _)]) (s := s) (List.reverse_perm [(dg, _), (db, _), (dc, v)]).symm (by simp; exact ⟨⟨nbc, nbd⟩, ncd⟩)
end
end Go.Lg
