import Derived.Test.YtcplmeajmpkpkaaGreatLlsqsp
namespace Go.Lg
open Go.RowKit
theorem Rd.imp {w : World} {e e' k : Nat} {ts ts' : List T} {v : Value} (h : Rd w (.s e k ts) v) (hl : ts'.length = ts.length) (hp : ∀ (i : Nat) (t' : T), ts'[i]? = some t' → ∃ t, ts[i]? = some t ∧ ∀ u, Rd w t u → Rd w t' u) : Rd w (.s e' k ts') v := by
  simp only [Rd] at h ⊢
  obtain ⟨a', n', c', h1, h2, h3, h4, h5⟩ := h
  refine ⟨a', n', c', h1, h2, h3, by rw [hl]; exact h4, ?_⟩
  have key : ∀ i t, ts'[i]? = some t → ∃ b o u, a' = some ⟨b, o, none⟩ ∧ w.cell? ⟨b, o + (0 + i), none⟩ = some u ∧ Rd w t u := fun i t ht => by
    obtain ⟨t0, h6, h7⟩ := hp i t ht
    obtain ⟨b, o, u, g1, g2, g3⟩ := h5.get i t0 h6
    exact ⟨b, o, u, g1, g2, h7 u g3⟩
  cases hts : ts' with
  | nil => simp [RdL]
  | cons t0 tl =>
    obtain ⟨b, o, u, g1, _, _⟩ := key 0 t0 (by rw [hts]; rfl)
    subst g1
    rw [← hts]
    refine RdL.of_get (fun i t ht => ?_)
    obtain ⟨b', o', u', g1', g2', g3'⟩ := key i t ht
    cases g1'
    exact ⟨u', g2', g3'⟩
end Go.Lg
namespace Go.Proofs.YtcplmeajmpkpkaaGreat
open Go.Lg Go.Proofs Go.RowKit
attribute [local irreducible] Code.wp wpList bodyPost Exit.then Exit.inBlock Hp Again Calls Y AT ResV QT Qn QI wpAny wpAnyQ
set_option maxRecDepth 20000
set_option maxHeartbeats 4000000

theorem nm_rows {w : World} {e e' : Nat} {x : Nms} {u : Value} (h : Rd w (.s e 1 (x.1.map T.c)) u) (hr : RdC w (x.2.map iT) x.1) : Rd w (rowsT e' x.2) u := by
  have hl := hr.1
  rw [List.length_map] at hl
  refine rowsT_rd (Rd.imp h (by simp [hl]) (fun i t ht => ?_))
  obtain ⟨v, hv⟩ : ∃ v, x.1[i]? = some v := ⟨_, List.getElem?_eq_getElem (by have := (List.getElem?_eq_some_iff.1 ht).1; rw [List.length_map] at this; omega)⟩
  refine ⟨.c v, by rw [List.getElem?_map, hv]; rfl, fun u hu => ?_⟩
  simp only [Rd] at hu
  subst hu
  exact hr.2 i t _ ht hv
theorem ns_elems {w : World} {n : Int} : ∀ {L : List Nms}, (∀ x ∈ L, RdC w (x.2.map iT) x.1) → ∀ (i : Nat) (t' : T), ((L.map (fun x => (n, x.2))).flatMap spT)[i]? = some t' → ∃ t, (nsT n L)[i]? = some t ∧ ∀ u, Rd w t u → Rd w t' u
  | [], _, i, t', h => by simp at h
  | x :: L, hL, i, t', h => by
    rw [List.map_cons, List.flatMap_cons] at h
    rw [nsT, List.flatMap_cons]
    match i, h with
    | 0, h => exact ⟨t', h, fun u hu => hu⟩
    | 1, h =>
      refine ⟨_, rfl, fun u hu => ?_⟩
      have : rowsT 43 x.2 = t' := Option.some.inj h
      rw [← this]
      exact nm_rows hu (hL x List.mem_cons_self)
    | i + 2, h =>
      have h' : ((L.map (fun x => (n, x.2))).flatMap spT)[i]? = some t' := h
      obtain ⟨t, h1, h2⟩ := ns_elems (fun y hy => hL y (List.mem_cons_of_mem _ hy)) i t' h'
      exact ⟨t, h1, h2⟩
theorem ls_rd {M : List Nat} {w0 w : World} {H : List HE} {n : Int} {L : List Nms} {us : List Value} {vs : List (List Int)} {e e' : Nat} {v : Value} (i j : Nat) (hi : H[i]? = some (.own (.s e 2 (nsT n L)) v)) (hj : H[j]? = some (.ownL (vs.map iT) us)) (hN : NmOk us vs L) (c : Hp M w0 H w) : Rd w (spsT e' (L.map (fun x => (n, x.2)))) v := by
  refine Rd.imp (c.own_rd hi) ?_ (ns_elems (fun x hx => ?_))
  · rw [nsT_length, flatMap_length spT_length, List.length_map, Nat.mul_comm]
  · obtain ⟨h1, h2, h3⟩ := hN x hx
    refine ⟨by rw [List.length_map]; exact h1, fun k t u ht hu => ?_⟩
    rw [List.getElem?_map] at ht
    obtain ⟨xs, hxs, rfl⟩ := Option.map_eq_some_iff.1 ht
    obtain ⟨q, h4, h5⟩ := h3 k u xs hu hxs
    exact Hp.ownL_rd j hj (by rw [List.getElem?_map, h5]; rfl) h4 c
def SmP (p n k : Int) : Prop := CsP p n k → p ≤ 3 ∧ n ≤ 3
theorem CsP.small {p n k : Int} (h : CsP p n k) (hs : SmP p n k) : ∃ p' n' k' : Nat, p = p' ∧ n = n' ∧ k = k' ∧ p' ∈ [2, 3] ∧ n' ∈ [0, 1, 2, 3] ∧ k' ∈ List.range (n' + 1) ∧ FieldP (p' : Int) ∧ p' ^ n' ≤ 27 := by
  obtain ⟨p', n', k', rfl, rfl, rfl, hp, hn, hk⟩ := h.nat
  have h3 := hs h
  have hp2 : p' ∈ [2, 3] := by
    simp only [List.mem_cons, List.not_mem_nil, or_false] at hp ⊢
    omega
  have hn2 : n' ∈ [0, 1, 2, 3] := by
    simp only [List.mem_cons, List.not_mem_nil, or_false] at hn ⊢
    omega
  have key : ∀ p ∈ [2, 3], ∀ n ∈ [0, 1, 2, 3], p ^ n ≤ 27 := by decide
  exact ⟨p', n', k', rfl, rfl, rfl, hp2, hn2, hk, h.1, key p' hp2 n' hn2⟩
def lsF (p n k : Int) : List Sp := if CsP p n k then lstS p.toNat n.toNat k.toNat else []
def GivesLsB (n k p : Int) (r : Value) (H : List HE) : Prop := ∃ (L : List Nms) (us : List Value) (vs : List (List Int)) (a : Option Addr) (c : Nat), lsF p n k = L.map (fun x => (n, x.2)) ∧ us.length = vs.length ∧ NmOk us vs L ∧ r = .tuple #[.slice a L.length c, .bool (decide (CsP p n k))] ∧ SA a L.length ∧ H = [.own (.s 26 2 (nsT n L)) (.slice a L.length c), .ownL (vs.map iT) us]
theorem csF_small {p n k : Int} (h : CsP p n k) (hs : SmP p n k) : 0 ≤ csF p n k ∧ csF p n k ≤ 13 := by
  obtain ⟨p, n, k, rfl, rfl, rfl, hp, hn, hk, hF, hpn⟩ := h.small hs
  rw [csF, if_pos h]
  have := (ls_all p hp n hn k hk).2.2.2.2.1
  simp only [Int.toNat_natCast]
  omega
theorem spec_SpacesOf_ok {w : World} {p n k : Int} (hs : SmP p n k) : Does Tryz.prog 15 [iV p, iV n, iV k] w (GivesLsB n k p) := by
  refine fn_enter Tryz.func15 rfl Tryz.ntmps15 rfl ?_
  by_cases hP : CsP p n k
  · have hb := csF_small hP hs
    have e1 : lsF p n k = lstS p.toNat n.toNat k.toNat := if_pos hP
    obtain ⟨p, n, k, rfl, rfl, rfl, hp, hn, hk, hF, hpn⟩ := hP.small hs
    have hk4 := hP.2
    simp only [Int.toNat_natCast] at e1
    repeat' (first | (show oL; first | refine sMv rfl rfl ?_ | refine sAs rfl rfl ?_ | (show oA (.binOp _ _ _ _ _); first | refine sLs rfl rfl rfl ?_ | refine st_y (y_gtr rfl rfl) rfl ?_) | (show oA (.call _); first | (refine m_call (ent_of Tryz.func33 kr rfl) rfl rfl (fun w c => spec_CountSpaces_ok) ?_; rintro v H' ⟨rfl, rfl⟩) | (refine m_call (ent_of Tryz.func53 kr rfl) rfl rfl (fun w c => l5List_ok hF om hpn k om w) ?_; rintro v H' ⟨L, us, vs, a, c, hL, hl, hN, rfl, hsa, rfl⟩)) | (show oA (.pick _ _ _); refine st_y (y_pickf rfl aO rfl) rfl ?_) | refine st_gfy rfl rfl aO ?_) | refine xNt ?_ | (show oC; first | refine c_seq ?_ | refine c_region ?_ | refine c_skip (x_then ?_) | refine c_ret ?_ | refine c_iff rfl nN ?_))
    all_goals first | (exfalso; omega) | skip
    exact x_ret2 Tryz.results15 (res_tmp rfl) (res_tmp rfl) (fun w' c' => ⟨_, _, rfl, ⟨L, us, vs, a, c, e1.trans hL, hl, hN, by rw [decide_eq_true hP], hsa, rfl⟩, c'⟩)
  · have hc : csF p n k = -1 := by rw [csF, if_neg hP]
    repeat' (first | (show oL; first | refine sMv rfl rfl ?_ | refine sAs rfl rfl ?_ | refine sLs rfl rfl rfl ?_ | (show oA (.call _); (refine m_call (ent_of Tryz.func33 kr rfl) rfl rfl (fun w c => spec_CountSpaces_ok) ?_; rintro v H' ⟨rfl, rfl⟩)) | (show oA (.pick _ _ _); refine st_y (y_pickt rfl aO rfl) rfl ?_) | (show oA (.buildSlice _ _ _); refine m_build0 tabs rfl rfl (fun g hg => ?_)) | refine st_gfn rfl rfl aO rfl ?_) | refine xNt ?_ | (show oC; first | refine c_seq ?_ | refine c_region ?_ | refine c_ret ?_ | refine c_true rfl ?_) | (show AT _ _ _ _; refine x_then_ret ?_))
    all_goals first | (exfalso; omega) | skip
    exact x_ret2 Tryz.results15 (res_tmp rfl) (res_tmp rfl) (fun w' c' => ⟨_, _, rfl, ⟨[], [], [], _, _, by rw [lsF, if_neg hP]; rfl, rfl, fun x hx => (by cases hx), by rw [decide_eq_false hP]; rfl, .mk, rfl⟩, (c'.free []).swap⟩)
end Go.Proofs.YtcplmeajmpkpkaaGreat
