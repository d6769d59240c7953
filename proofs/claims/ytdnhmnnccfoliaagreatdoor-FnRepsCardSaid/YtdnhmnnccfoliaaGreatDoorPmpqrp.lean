import Derived.Test.YtdnhmnnccfoliaaGreatDoorAppqrp
import Derived.Test.YtdnhmnnccfoliaaGreatDoorQstqrp
import Derived.Test.YtdnhmnnccfoliaaGreatDoorWhoqrp
namespace Go.Proofs.YtdnhmnnccfoliaaGreatDoor
open Go.Lg Go.Proofs Go.RowKit
attribute [local irreducible] Code.wp wpList bodyPost Exit.then Exit.inBlock Hp Again Calls Y AT ResV QT Qn QI wpAny wpAnyQ
set_option maxRecDepth 20000
set_option maxHeartbeats 4000000

def MlP (p : Int) (a b : Mat) : Prop := MatP p a ∧ MatP p b ∧ a.2.1 = b.1
instance (p : Int) (a b : Mat) : Decidable (MlP p a b) := by unfold MlP; infer_instance
def mlM (p : Int) (a b : Mat) : Mat := if MlP p a b then (a.1, b.2.1, mk a.1.toNat b.2.1.toNat (mulF p a.2.1.toNat (matF a) (matF b))) else mat0
theorem mlM_mk {p : Int} {R N C : Nat} {f g : Nat → Nat → Int} (h : MlP p ((R : Int), (N : Int), mk R N f) ((N : Int), (C : Int), mk N C g)) : mlM p ((R : Int), (N : Int), mk R N f) ((N : Int), (C : Int), mk N C g) = ((R : Int), (C : Int), mk R C (mulF p N f g)) := by
  rw [mlM, if_pos h]
  simp only [Int.toNat_natCast]
  rw [mk_ext (g := mulF p N f g) (fun i j hi hj => mulF_ext (fun k hk => matF_mk hi hk) (fun k hk => matF_mk hk hj))]
theorem mlM_of {p : Int} {a b : Mat} (h : MlP p a b) : ∃ (R N C : Nat) (f g : Nat → Nat → Int), a = ((R : Int), (N : Int), mk R N f) ∧ b = ((N : Int), (C : Int), mk N C g) ∧ R ≤ 8 ∧ N ≤ 8 ∧ C ≤ 8 ∧ FieldP p ∧ inF p R N f ∧ inF p N C g ∧ mlM p a b = ((R : Int), (C : Int), mk R C (mulF p N f g)) := by
  obtain ⟨R, N, f, rfl, hR, hN, hF, hf⟩ := matP_mk h.1
  obtain ⟨N', C, g, rfl, _, hC, _, hg⟩ := matP_mk h.2.1
  have : N = N' := by have := h.2.2; simp only at this; omega
  subst this
  exact ⟨R, N, C, f, g, rfl, rfl, hR, hN, hC, hF, hf, hg, mlM_mk h⟩
end Go.Proofs.YtdnhmnnccfoliaaGreatDoor

namespace Go.Proofs.YtdnhmnnccfoliaaGreatDoor
open Go.Lg Go.Proofs Go.RowKit

theorem dg_ne2 {x : Int} (h0 : 0 ≤ x) (h9 : x ≤ 9) : dg x ≠ 47 ∧ dg x ≠ 120 := by
  obtain ⟨k, rfl⟩ : ∃ k : Nat, x = k := ⟨x.toNat, by omega⟩
  have hk : k < 10 := by omega
  match k, hk with
  | 0, _ => exact ⟨by decide, by decide⟩
  | 1, _ => exact ⟨by decide, by decide⟩
  | 2, _ => exact ⟨by decide, by decide⟩
  | 3, _ => exact ⟨by decide, by decide⟩
  | 4, _ => exact ⟨by decide, by decide⟩
  | 5, _ => exact ⟨by decide, by decide⟩
  | 6, _ => exact ⟨by decide, by decide⟩
  | 7, _ => exact ⟨by decide, by decide⟩
  | 8, _ => exact ⟨by decide, by decide⟩
  | 9, _ => exact ⟨by decide, by decide⟩
def cellsS (s : List UInt8) : List Int := (s.filter (fun x => x != 47)).map (fun x => (x.toNat : Int) - 48)
theorem cellsS_app (s t : List UInt8) : cellsS (s ++ t) = cellsS s ++ cellsS t := by simp [cellsS]
theorem cellsS_dg {x : Int} (h0 : 0 ≤ x) (h9 : x ≤ 9) : cellsS [dg x] = [x] := by
  have h1 := (dg_ne2 h0 h9).1
  have h2 := (dg_ne h0 h9).2.2
  simp [cellsS, h1, h2]
theorem cells_body {C : Nat} {xs : List Int} (hx : ∀ i, i < xs.length → 0 ≤ xs.getD i 0 ∧ xs.getD i 0 ≤ 9) : ∀ i, i ≤ xs.length → cellsS (bodyN C xs i) = xs.take i
  | 0, _ => rfl
  | i + 1, h => by
    obtain ⟨h0, h9⟩ := hx i om
    rw [bodyN, cellsS_app, cellsS_app, cells_body hx i om, cellsS_dg h0 h9, List.take_add_one]
    have e : (xs[i]?).toList = [xs.getD i 0] := by simp [List.getD, show i < xs.length by omega]
    rw [e]
    split <;> rfl
def candM (s : List UInt8) : Mat := (((s.getD 0 0).toNat : Int) - 48, ((s.getD 2 0).toNat : Int) - 48, cellsS (s.drop 4))
theorem matP_rng {p : Int} {m : Mat} (h : MatP p m) : ∀ i, i < m.2.2.length → 0 ≤ m.2.2.getD i 0 ∧ m.2.2.getD i 0 ≤ 9 := fun i hi => by
  have hp := fieldP_pos h.2.2.2.1
  have := inP_get h.2.2.2.2.2 hi
  omega
theorem fmtM_eq {p : Int} {m : Mat} (h : MatP p m) : fmtM p m = dg m.1 :: 120 :: dg m.2.1 :: 58 :: bodyN m.2.1.toNat m.2.2 m.2.2.length := by rw [fmtM, if_pos h]; rfl
theorem cand_fmtM {p : Int} {m : Mat} (h : MatP p m) : candM (fmtM p m) = m := by
  rw [fmtM_eq h]
  have h1 := (dg_ne (x := m.1) h.1.1 (by have := h.1.2; omega)).2.2
  have h2 := (dg_ne (x := m.2.1) h.2.1.1 (by have := h.2.1.2; omega)).2.2
  have h3 := cells_body (C := m.2.1.toNat) (matP_rng h) m.2.2.length (Nat.le_refl _)
  rw [List.take_length] at h3
  exact Prod.ext h1 (Prod.ext h2 h3)
def parM (p : Int) (s : List UInt8) : Prop := MatP p (candM s) ∧ fmtM p (candM s) = s
instance (p : Int) (s : List UInt8) : Decidable (parM p s) := by unfold parM; infer_instance
theorem parM_iff {p : Int} {s : List UInt8} : parM p s ↔ ∃ m, MatP p m ∧ fmtM p m = s := by
  constructor
  · exact fun h => ⟨_, h.1, h.2⟩
  · rintro ⟨m, h1, rfl⟩
    rw [parM, cand_fmtM h1]
    exact ⟨h1, rfl⟩
def parML (p : Int) (s : List UInt8) : Mat := if parM p s then candM s else mat0
theorem spR_app {d : UInt8} {s t : List UInt8} : spR d (s ++ t) = t.foldl (fun r x => if x = d then (r.1 ++ [r.2], []) else (r.1, r.2 ++ [x])) (spR d s) := by rw [spR, List.foldl_append]; rfl
theorem spR_word {d : UInt8} : ∀ (t : List UInt8) (r : List (List UInt8) × List UInt8), (∀ x ∈ t, x ≠ d) → t.foldl (fun r x => if x = d then (r.1 ++ [r.2], []) else (r.1, r.2 ++ [x])) r = (r.1, r.2 ++ t)
  | [], r, _ => by simp
  | y :: t, r, h => by
    rw [List.foldl_cons, if_neg (h y (by simp)), spR_word t _ (fun x hx => h x (by simp [hx]))]
    simp
theorem spL_words {d : UInt8} {w : List UInt8} : ∀ (ws : List (List UInt8)), (∀ v ∈ ws, ∀ x ∈ v, x ≠ d) → ∀ (pre : List (List UInt8)),
    (ws.flatMap (fun v => d :: v)).foldl (fun r x => if x = d then (r.1 ++ [r.2], []) else (r.1, r.2 ++ [x])) (pre, w) = ((pre ++ (w :: ws)).dropLast, (w :: ws).getLast (by simp))
  | [], _, pre => by simp
  | v :: ws, h, pre => by
    have hv : ∀ x ∈ v, x ≠ d := h v (by simp)
    rw [List.flatMap_cons, List.foldl_append, List.foldl_cons, if_pos rfl, spR_word v _ hv, List.nil_append, spL_words ws (fun u hu => h u (by simp [hu])) (pre ++ [w])]
    simp
theorem spL_fmt {d : UInt8} {w : List UInt8} {ws : List (List UInt8)} (hw : ∀ x ∈ w, x ≠ d) (h : ∀ v ∈ ws, ∀ x ∈ v, x ≠ d) : spL d (w ++ ws.flatMap (fun v => d :: v)) = w :: ws := by
  have e : spR d w = ([], w) := by
    have := spR_word (d := d) w ([], []) hw
    simpa [spR] using this
  rw [spL, spR_app, e, spL_words ws h []]
  simp only [List.nil_append]
  exact List.dropLast_concat_getLast (by simp)
theorem digL_ne {xs : List Int} (hx : ∀ x ∈ xs, 0 ≤ x ∧ x ≤ 9) : ∀ y ∈ digL xs, y ≠ 32 := fun y hy => by
  obtain ⟨x, hx1, rfl⟩ := List.mem_map.1 hy
  exact (dg_ne (hx x hx1).1 (hx x hx1).2).1
theorem body_ne {C : Nat} {xs : List Int} (hx : ∀ i, i < xs.length → 0 ≤ xs.getD i 0 ∧ xs.getD i 0 ≤ 9) : ∀ i, i ≤ xs.length → ∀ y ∈ bodyN C xs i, y ≠ 32 ∧ y ≠ 58
  | 0, _, y, hy => by simp [bodyN] at hy
  | i + 1, h, y, hy => by
    obtain ⟨h0, h9⟩ := hx i om
    rw [bodyN, List.mem_append, List.mem_append] at hy
    rcases hy with hy | hy | hy
    · exact body_ne hx i om y hy
    · split at hy
      · simp at hy; subst hy; exact ⟨by decide, by decide⟩
      · simp at hy
    · simp at hy; subst hy; exact ⟨(dg_ne h0 h9).1, (dg_ne h0 h9).2.1⟩
theorem fmtM_ne {p : Int} {m : Mat} (h : MatP p m) : ∀ y ∈ fmtM p m, y ≠ 32 := fun y hy => by
  rw [fmtM_eq h] at hy
  have h1 := dg_ne (x := m.1) h.1.1 (by have := h.1.2; omega)
  have h2 := dg_ne (x := m.2.1) h.2.1.1 (by have := h.2.1.2; omega)
  simp only [List.mem_cons] at hy
  rcases hy with rfl | rfl | rfl | rfl | hy
  · exact h1.1
  · decide
  · exact h2.1
  · decide
  · exact (body_ne (matP_rng h) _ (Nat.le_refl _) y hy).1
theorem cut_fmtR {r : Rp} (h : RepP r) : spL 32 (fmtR r) = digL r.d :: r.m.map (fmtM r.p) := by
  rw [fmtR, if_pos h]
  have e : r.m.flatMap (fun m => 32 :: fmtM r.p m) = (r.m.map (fmtM r.p)).flatMap (fun v => 32 :: v) := by rw [List.flatMap_map]
  rw [e]
  refine spL_fmt (digL_ne (fun x hx => ?_)) (fun v hv => ?_)
  · have := h.2.1.2.2.1 x hx
    omega
  · obtain ⟨m, hm, rfl⟩ := List.mem_map.1 hv
    obtain ⟨i, hi, e2⟩ := List.getElem_of_mem hm
    have := (h.2.2.2 i hi).1
    rw [List.getD, List.getElem?_eq_getElem hi, e2] at this
    exact fmtM_ne this
def numsS (s : List UInt8) : List Int := s.map (fun x => (x.toNat : Int) - 48)
theorem nums_dig {xs : List Int} (hx : ∀ x ∈ xs, 0 ≤ x ∧ x ≤ 9) : numsS (digL xs) = xs := by
  rw [numsS, digL, List.map_map]
  conv => rhs; rw [← List.map_id xs]
  exact List.map_congr_left (fun x h => (dg_ne (hx x h).1 (hx x h).2).2.2)
def candR (p : Int) (q : Qv) (s : List UInt8) : Rp := ⟨p, q, numsS ((spL 32 s).getD 0 []), ((spL 32 s).drop 1).map (parML p)⟩
theorem cand_fmtR {r : Rp} (h : RepP r) : candR r.p r.q (fmtR r) = r := by
  rw [candR, cut_fmtR h]
  have e1 : numsS ((digL r.d :: r.m.map (fmtM r.p)).getD 0 []) = r.d := nums_dig (fun x hx => by have := h.2.1.2.2.1 x hx; omega)
  have e2 : ((digL r.d :: r.m.map (fmtM r.p)).drop 1).map (parML r.p) = r.m := by
    rw [List.drop_one, List.tail_cons, List.map_map]
    conv => rhs; rw [← List.map_id r.m]
    refine List.map_congr_left (fun m hm => ?_)
    obtain ⟨i, hi, e3⟩ := List.getElem_of_mem hm
    have h3 := (h.2.2.2 i hi).1
    rw [List.getD, List.getElem?_eq_getElem hi] at h3
    have h4 : MatP r.p m := by rw [← e3]; exact h3
    show parML r.p (fmtM r.p m) = m
    rw [parML, if_pos (parM_iff.2 ⟨m, h4, rfl⟩), cand_fmtM h4]
  rw [e1, e2]
def parR (p : Int) (q : Qv) (s : List UInt8) : Prop := RepP (candR p q s) ∧ fmtR (candR p q s) = s
instance (p : Int) (q : Qv) (s : List UInt8) : Decidable (parR p q s) := by unfold parR; infer_instance
theorem parR_iff {p : Int} {q : Qv} {s : List UInt8} : parR p q s ↔ ∃ r, RepP r ∧ r.p = p ∧ r.q = q ∧ fmtR r = s := by
  constructor
  · exact fun h => ⟨_, h.1, rfl, rfl, h.2⟩
  · rintro ⟨r, h1, rfl, rfl, rfl⟩
    rw [parR, cand_fmtR h1]
    exact ⟨h1, rfl⟩
end Go.Proofs.YtdnhmnnccfoliaaGreatDoor
