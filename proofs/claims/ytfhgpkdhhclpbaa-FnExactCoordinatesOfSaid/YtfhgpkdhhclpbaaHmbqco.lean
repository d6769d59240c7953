import Derived.Test.YtfhgpkdhhclpbaaInvqco
import Derived.Test.YtfhgpkdhhclpbaaKerqco
import Derived.Test.YtfhgpkdhhclpbaaLEqco
import Derived.Test.YtfhgpkdhhclpbaaMphqco
import Derived.Test.YtfhgpkdhhclpbaaMssqco
import Derived.Test.YtfhgpkdhhclpbaaRrfqco
import Derived.Test.YtfhgpkdhhclpbaaSupqco
namespace Go.Proofs.Ytfhgpkdhhclpbaa
open Go.Lg Go.Proofs Go.RowKit
attribute [local irreducible] Code.wp wpList bodyPost Exit.then Exit.inBlock Hp Again Calls Y AT ResV QT Qn QI wpAny wpAnyQ
set_option maxRecDepth 20000
set_option maxHeartbeats 4000000

/-! ### lists of made matrices; products of matrices vertex by vertex -/
def tabM (F : Nat → Mat) (n : Nat) : List Mat := (List.range n).map F
@[simp] theorem tabM_length {F : Nat → Mat} {n : Nat} : (tabM F n).length = n := by simp [tabM]
theorem tabM_next {F : Nat → Mat} {i x y : Nat} {f : Nat → Nat → Int} (hz : F i = ((x : Int), (y : Int), mk x y f)) : (tabM F i).flatMap matT ++ (List.map T.c [iV x, iV y] ++ [iT (mk x y f)]) = (tabM F (i + 1)).flatMap matT := by
  have e1 : tabM F (i + 1) = tabM F i ++ [F i] := by simp [tabM, List.range_succ]
  rw [e1, List.flatMap_append, hz]; rfl
end Go.Proofs.Ytfhgpkdhhclpbaa

namespace Go.Proofs.Ytfhgpkdhhclpbaa
open Go.Lg Go.Proofs Go.RowKit
attribute [local irreducible] Code.wp wpList bodyPost Exit.then Exit.inBlock Hp Again Calls Y AT ResV QT Qn QI wpAny wpAnyQ
set_option maxRecDepth 20000
set_option maxHeartbeats 4000000

/-! ### the cells of all matrices between two representations; the equations of the morphisms, in plain -/
def szV (da db : List Int) (v : Nat) : Nat := (da.getD v 0).toNat * (db.getD v 0).toNat
def offN (da db : List Int) : Nat → Nat
  | 0 => 0
  | v + 1 => offN da db v + szV da db v
theorem offN_mono {da db : List Int} {u : Nat} : ∀ {v : Nat}, u ≤ v → offN da db u ≤ offN da db v
  | 0, h => by rw [Nat.le_zero.1 h]; exact Nat.le_refl _
  | v + 1, h => by
    by_cases e : u = v + 1
    · rw [e]; exact Nat.le_refl _
    · have := offN_mono (da := da) (db := db) (u := u) (v := v) (by omega)
      rw [offN]; omega
theorem off_lt {da db : List Int} {v n j k : Nat} (hv : v < n) (hj : j < (db.getD v 0).toNat) (hk : k < (da.getD v 0).toNat) : offN da db v + (j * (da.getD v 0).toNat + k) < offN da db n := by
  have h1 := offN_mono (da := da) (db := db) (u := v + 1) (v := n) hv
  have h2 := cell_lt hj hk
  rw [offN, szV, Nat.mul_comm] at h1
  omega
/-- matrices cut out of a list of cells -/
def cutM (da db : List Int) (x : List Int) (v : Nat) : Mat := (((db.getD v 0).toNat : Nat), ((da.getD v 0).toNat : Nat), (x.drop (offN da db v)).take (szV da db v))
theorem cut_get {da db x : List Int} {v i : Nat} (hi : i < szV da db v) : (cutM da db x v).2.2.getD i 0 = x.getD (offN da db v + i) 0 := by
  simp only [cutM, List.getD]
  rw [List.getElem?_take_of_lt hi, List.getElem?_drop]
theorem cut_matF {da db x : List Int} {v j k : Nat} (hj : j < (db.getD v 0).toNat) (hk : k < (da.getD v 0).toNat) : matF (cutM da db x v) j k = x.getD (offN da db v + (j * (da.getD v 0).toNat + k)) 0 := by
  have h := cell_lt hj hk
  rw [matF]
  exact cut_get (by rw [szV, Nat.mul_comm (da.getD v 0).toNat]; exact h)
theorem cut_len {da db x : List Int} {v n : Nat} (hv : v < n) (hx : x.length = offN da db n) : (cutM da db x v).2.2.length = szV da db v := by
  have h1 := offN_mono (da := da) (db := db) (u := v + 1) (v := n) hv
  rw [offN] at h1
  simp only [cutM, List.length_take, List.length_drop]
  omega
theorem getD_ix {l : List Int} {i : Nat} (h : i < l.length) : l.getD i 0 = l[i] := by rw [List.getD, List.getElem?_eq_getElem h]; rfl
def cutL (da db x : List Int) : List Mat := tabM (cutM da db x) da.length
theorem tabM_get {F : Nat → Mat} {n i : Nat} (h : i < n) : (tabM F n)[i]? = some (F i) := by simp [tabM, h]
theorem tabM_getD {F : Nat → Mat} {n i : Nat} (h : i < n) : (tabM F n).getD i mat0 = F i := by rw [List.getD, tabM_get h]; rfl
theorem cut_are {a b : Rp} {x : List Int} (hF : FitP a b) (hx : x.length = offN a.d b.d a.d.length) (hin : InP 0 (a.p - 1) x) : AreP a b (cutL a.d b.d x) := by
  refine ⟨hF, tabM_length, fun i hi => ?_⟩
  have hi' : i < a.d.length := by simpa [cutL] using hi
  have ha := hF.1.dg i
  have hb := hF.2.1.dg i
  rw [ElemP, cutL, tabM_getD hi']
  have hc := cut_len hi' hx
  have h16 : szV a.d b.d i ≤ 4 * 4 := Nat.mul_le_mul (by omega) (by omega)
  refine ⟨⟨⟨by simp only [cutM]; omega, by simp only [cutM]; omega⟩, ⟨by simp only [cutM]; omega, by simp only [cutM]; omega⟩, ?_, hF.1.1, by omega, fun y hy => hin y (List.mem_of_mem_drop (List.mem_of_mem_take hy))⟩, by simp only [cutM]; omega, by simp only [cutM]; omega⟩
  rw [hc, szV]
  simp only [cutM]
  rw [Nat.mul_comm, Int.natCast_mul]
/-- the entry of the equation of a cell of an arrow at a cell of a vertex -/
def at1 (a b : Rp) (i k j : Nat) : Nat := offN a.d b.d (a.q.2.1.getD i 0).toNat + (j * dN a.d (a.q.2.1.getD i 0) + k)
def at2 (a b : Rp) (i r j : Nat) : Nat := offN a.d b.d (a.q.2.2.getD i 0).toNat + (r * dN a.d (a.q.2.2.getD i 0) + j)
def sum1 (a b : Rp) (i r k c n : Nat) : Int := sumN (fun j => if at1 a b i k j = c then matF (b.m.getD i mat0) r j else 0) n
def sum2 (a b : Rp) (i r k c n : Nat) : Int := sumN (fun j => if at2 a b i r j = c then matF (a.m.getD i mat0) j k else 0) n
def eqE (a b : Rp) (i r k c : Nat) : Int := (sum1 a b i r k c (dN b.d (a.q.2.1.getD i 0)) - sum2 a b i r k c (dN a.d (a.q.2.2.getD i 0))) % a.p
theorem mod_minus {p x y : Int} (hF : FieldP p) : (x % p + (p - 1) * (y % p)) % p = (x - y) % p := by
  rcases hF with rfl | rfl | rfl <;> omega
/-- the coboundary of the matrices with a single cell 1 -/
theorem cob_unit {a b : Rp} {i c n : Nat} (hF : FitP a b) (hi : i < a.q.2.1.length) (hn : n = offN a.d b.d a.d.length) :
    mk (dN b.d (a.q.2.2.getD i 0)) (dN a.d (a.q.2.1.getD i 0)) (plusF a.p (a.p - 1) (firF a b (cutL a.d b.d (mkv n (fun q => if q = c then 1 else 0))) i) (secF a (cutL a.d b.d (mkv n (fun q => if q = c then 1 else 0))) i)) = mk (dN b.d (a.q.2.2.getD i 0)) (dN a.d (a.q.2.1.getD i 0)) (fun r k => eqE a b i r k c) := mk_ext (fun r k hr hk => by
  have hQ := hF.1.2.1.1
  have hs := inP_get hQ.2.2.2.1 (i := i) hi
  have ht := inP_get hQ.2.2.2.2 (i := i) (by have := hQ.2.2.1; omega)
  have hdl := hF.1.2.1.2.1
  have hs' : (a.q.2.1.getD i 0).toNat < a.d.length := by omega
  have ht' : (a.q.2.2.getD i 0).toNat < a.d.length := by omega
  rw [plusF, firF, secF, mulF, mulF, accF_sum, accF_sum, mod_minus hF.1.1, eqE, sum1, sum2]
  congr 1
  congr 1
  · refine sumN_congr (fun j hj => ?_)
    rw [cutL, tabM_getD hs', cut_matF hj hk, mkv_get (by subst hn; exact off_lt hs' hj hk), at1, dN]
    split <;> simp_all
  · refine sumN_congr (fun j hj => ?_)
    rw [cutL, tabM_getD ht', cut_matF hr hj, mkv_get (by subst hn; exact off_lt ht' hr hj), at2, dN]
    split <;> simp_all)
/-! the rows, one for each cell of each arrow -/
def rowsI (a b : Rp) (i : Nat) : List (Nat × Nat × Nat) := (List.range (dN b.d (a.q.2.2.getD i 0))).flatMap (fun r => (List.range (dN a.d (a.q.2.1.getD i 0))).map (fun k => (i, r, k)))
def idxN (a b : Rp) (n : Nat) : List (Nat × Nat × Nat) := (List.range n).flatMap (rowsI a b)
theorem mk_succ {R C : Nat} {f : Nat → Nat → Int} : mk (R + 1) C f = mk R C f ++ mkv C (f R) := by
  rw [mk, Nat.add_mul, Nat.one_mul, List.range_add, List.map_append, mk, mkv, List.map_map]
  congr 1
  refine List.map_congr_left (fun x hx => ?_)
  have hx := List.mem_range.1 hx
  have hC : 0 < C := by omega
  have h1 : (R * C + x) / C = R := by rw [Nat.mul_comm, Nat.mul_add_div hC, Nat.div_eq_of_lt hx]; rfl
  have h2 : (R * C + x) % C = x := by rw [Nat.mul_comm, Nat.mul_add_mod, Nat.mod_eq_of_lt hx]
  simp only [Function.comp, h1, h2]
theorem mk_rows {C : Nat} {f : Nat → Nat → Int} : ∀ R, mk R C f = (List.range R).flatMap (fun r => mkv C (f r))
  | 0 => by simp [mk]
  | R + 1 => by rw [mk_succ, mk_rows R, List.range_succ, List.flatMap_append]; simp
theorem rowsI_map {a b : Rp} {i : Nat} {F : Nat → Nat → Nat → Int} : (rowsI a b i).map (fun t => F t.1 t.2.1 t.2.2) = mk (dN b.d (a.q.2.2.getD i 0)) (dN a.d (a.q.2.1.getD i 0)) (F i) := by
  rw [mk_rows, rowsI, List.map_flatMap]
  simp only [List.map_map]
  rfl
theorem rowsI_length {a b : Rp} {i : Nat} : (rowsI a b i).length = dN b.d (a.q.2.2.getD i 0) * dN a.d (a.q.2.1.getD i 0) := by
  have := congrArg List.length (rowsI_map (a := a) (b := b) (i := i) (F := fun _ _ _ => 0))
  rwa [List.length_map, mk_length] at this
theorem idxN_succ {a b : Rp} {n : Nat} : idxN a b (n + 1) = idxN a b n ++ rowsI a b n := by rw [idxN, List.range_succ, List.flatMap_append]; simp [idxN]
theorem flat_rows {n : Nat} {F : Nat × Nat × Nat → Nat → Int} (l : List (Nat × Nat × Nat)) : l.flatMap (fun t => mkv n (F t)) = mk l.length n (fun i c => F (l.getD i (0, 0, 0)) c) := by
  rw [mk_rows]
  have e : l = (List.range l.length).map (fun i => l.getD i (0, 0, 0)) := by
    refine List.ext_getElem (by simp) (fun i hi _ => ?_)
    simp [List.getD, hi]
  conv => lhs; rw [e]
  rw [List.flatMap_map]
/-! the rows so far, in the midst of an arrow -/
def idxR (a b : Rp) (i r : Nat) : List (Nat × Nat × Nat) := idxN a b i ++ (List.range r).flatMap (fun r => (List.range (dN a.d (a.q.2.1.getD i 0))).map (fun k => (i, r, k)))
def idxK (a b : Rp) (i r k : Nat) : List (Nat × Nat × Nat) := idxR a b i r ++ (List.range k).map (fun k => (i, r, k))
theorem idxR_zero {a b : Rp} {i : Nat} : idxR a b i 0 = idxN a b i := by simp [idxR]
theorem idxR_end {a b : Rp} {i : Nat} : idxR a b i (dN b.d (a.q.2.2.getD i 0)) = idxN a b (i + 1) := by rw [idxN_succ]; rfl
theorem idxK_zero {a b : Rp} {i r : Nat} : idxK a b i r 0 = idxR a b i r := by simp [idxK]
theorem idxK_next {a b : Rp} {i r k : Nat} : idxK a b i r (k + 1) = idxK a b i r k ++ [(i, r, k)] := by simp [idxK, List.range_succ]
theorem idxK_end {a b : Rp} {i r : Nat} : idxK a b i r (dN a.d (a.q.2.1.getD i 0)) = idxR a b i (r + 1) := by simp [idxK, idxR, List.range_succ]
theorem idxR_length {a b : Rp} {i : Nat} : ∀ r, (idxR a b i r).length = (idxN a b i).length + r * dN a.d (a.q.2.1.getD i 0)
  | 0 => by simp [idxR]
  | r + 1 => by
    rw [← idxK_end, idxK, List.length_append, idxR_length r]
    simp only [List.length_map, List.length_range, Nat.add_mul]
    omega
theorem idxK_length {a b : Rp} {i r k : Nat} : (idxK a b i r k).length = (idxN a b i).length + (r * dN a.d (a.q.2.1.getD i 0) + k) := by
  rw [idxK, List.length_append, idxR_length]
  simp only [List.length_map, List.length_range]
  omega
def eqC (a b : Rp) (n : Nat) (l : List (Nat × Nat × Nat)) : List Int := l.flatMap (fun t => mkv n (eqE a b t.1 t.2.1 t.2.2))
theorem eqC_next {a b : Rp} {n i r k : Nat} : eqC a b n (idxK a b i r k) ++ mkv n (eqE a b i r k) = eqC a b n (idxK a b i r (k + 1)) := by
  rw [idxK_next, eqC, eqC, List.flatMap_append]
  simp
theorem eqC_length {a b : Rp} {n : Nat} : ∀ l : List (Nat × Nat × Nat), (eqC a b n l).length = l.length * n
  | [] => by simp [eqC]
  | t :: l => by
    have := eqC_length (a := a) (b := b) (n := n) l
    simp only [eqC, List.flatMap_cons, List.length_append, mkv_length, List.length_cons, Nat.add_mul] at this ⊢
    omega
/-- all cells of the coboundary of the matrices with a single cell 1 -/
theorem cobN_flat {a b : Rp} {c n : Nat} (hF : FitP a b) (hn : n = offN a.d b.d a.d.length) : ∀ k, k ≤ a.q.2.1.length → (cobN a b (cutL a.d b.d (mkv n (fun q => if q = c then 1 else 0))) k).flatMap (fun m => m.2.2) = (idxN a b k).map (fun t => eqE a b t.1 t.2.1 t.2.2 c)
  | 0, _ => rfl
  | k + 1, h => by
    rw [cobN, List.flatMap_append, cobN_flat hF hn k (by omega), idxN_succ, List.map_append, rowsI_map (F := fun i r k => eqE a b i r k c)]
    simp only [List.flatMap_cons, List.flatMap_nil, List.append_nil]
    rw [cobM, cob_unit hF (by omega) hn]
/-- the matrix of the equations -/
def eqsF (a b : Rp) : Nat → Nat → Int := fun t c => eqE a b ((idxN a b a.q.2.1.length).getD t (0, 0, 0)).1 ((idxN a b a.q.2.1.length).getD t (0, 0, 0)).2.1 ((idxN a b a.q.2.1.length).getD t (0, 0, 0)).2.2 c
theorem eqE_in {a b : Rp} (hF : FieldP a.p) {i r k c : Nat} : 0 ≤ eqE a b i r k c ∧ eqE a b i r k c < a.p := by
  have := fieldP_pos hF
  exact ⟨Int.emod_nonneg _ (by omega), Int.emod_lt_of_pos _ (by omega)⟩
theorem eqs_in {a b : Rp} (hF : FieldP a.p) {R C : Nat} : inF a.p R C (eqsF a b) := fun _ _ _ _ => eqE_in hF
theorem eqC_end {a b : Rp} {n : Nat} : eqC a b n (idxN a b a.q.2.1.length) = mk (idxN a b a.q.2.1.length).length n (eqsF a b) := by
  rw [eqC, flat_rows (F := fun t => eqE a b t.1 t.2.1 t.2.2)]
  rfl
/-! the rows of the reference, step by step -/
def row1 (a b : Rp) (i r k j : Nat) : Nat → Int := fun c => sum1 a b i r k c j % a.p
def row2 (a b : Rp) (i r k j : Nat) : Nat → Int := fun c => (sum1 a b i r k c (dN b.d (a.q.2.1.getD i 0)) - sum2 a b i r k c j) % a.p
theorem row1_next {a b : Rp} {i r k j n : Nat} : (mkv n (row1 a b i r k j)).set (at1 a b i k j) ((row1 a b i r k j (at1 a b i k j) + matF (b.m.getD i mat0) r j) % a.p) = mkv n (row1 a b i r k (j + 1)) := by
  rw [mkv_set]
  refine mkv_ext (fun q _ => ?_)
  by_cases h : q = at1 a b i k j
  · subst h
    rw [if_pos rfl, row1, row1, sum1, sum1, sumN, if_pos rfl, Int.emod_add_emod]
  · rw [if_neg h, row1, row1, sum1, sum1, sumN, if_neg (fun e => h e.symm), Int.add_zero]
theorem row2_zero {a b : Rp} {i r k n : Nat} : mkv n (row1 a b i r k (dN b.d (a.q.2.1.getD i 0))) = mkv n (row2 a b i r k 0) := mkv_ext (fun q _ => by rw [row1, row2, sum2, sumN, Int.sub_zero])
theorem row2_next {a b : Rp} {i r k j n : Nat} : (mkv n (row2 a b i r k j)).set (at2 a b i r j) ((row2 a b i r k j (at2 a b i r j) - matF (a.m.getD i mat0) j k) % a.p) = mkv n (row2 a b i r k (j + 1)) := by
  rw [mkv_set]
  refine mkv_ext (fun q _ => ?_)
  by_cases h : q = at2 a b i r j
  · subst h
    rw [if_pos rfl, row2, row2, sum2, sum2, sumN, if_pos rfl, Int.emod_sub_emod, Int.sub_sub]
  · rw [if_neg h, row2, row2, sum2, sum2, sumN, if_neg (fun e => h e.symm), Int.add_zero]
end Go.Proofs.Ytfhgpkdhhclpbaa

namespace Go.Proofs.Ytfhgpkdhhclpbaa
open Go.Lg Go.Proofs Go.RowKit
attribute [local irreducible] Code.wp wpList bodyPost Exit.then Exit.inBlock Hp Again Calls Y AT ResV QT Qn QI wpAny wpAnyQ
set_option maxRecDepth 20000
set_option maxHeartbeats 4000000

/-! ### dimensions and numbers of morphisms, in plain -/
theorem freeN_part {l : List Int} {K : Nat} (h0 : ∀ t, t < l.length → 0 ≤ l.getD t 0 ∧ l.getD t 0 < K) (h1 : ∀ t s, t < s → s < l.length → l.getD t 0 < l.getD s 0) :
    ∀ k, ∃ t, t ≤ l.length ∧ (freeN l k).length + t = k ∧ (∀ s, s < t → l.getD s 0 < k) ∧ ∀ s, t ≤ s → s < l.length → (k : Int) ≤ l.getD s 0
  | 0 => ⟨0, Nat.zero_le _, rfl, fun s hs => absurd hs (by omega), fun s _ hs => by have := h0 s hs; omega⟩
  | k + 1 => by
    obtain ⟨t, ht, hl, ha, hb⟩ := freeN_part h0 h1 k
    by_cases hk : t < l.length ∧ l.getD t 0 = k
    · have hm : (k : Int) ∈ l := by rw [← hk.2, getD_ix hk.1]; exact List.getElem_mem _
      refine ⟨t + 1, hk.1, by rw [freeN_yes hm]; omega, fun s hs => ?_, fun s hs hsl => ?_⟩
      · by_cases e : s = t
        · subst e; omega
        · have := ha s (by omega); omega
      · have := h1 t s (by omega) hsl; omega
    · have hm : ¬ (k : Int) ∈ l := fun hm => by
        obtain ⟨s, hs, e⟩ := List.getElem_of_mem hm
        rw [← getD_ix hs] at e
        rcases Nat.lt_trichotomy s t with h | h | h
        · have := ha s h; omega
        · subst h; exact hk ⟨hs, e⟩
        · have h2 := h1 t s h hs
          have h3 := hb t (Nat.le_refl _) (by omega)
          omega
      refine ⟨t, ht, by rw [freeN_no hm, List.length_append, List.length_singleton]; omega, fun s hs => by have := ha s hs; omega, fun s hs hsl => ?_⟩
      have h3 := hb s hs hsl
      by_cases e : l.getD s 0 = k
      · exact absurd (by rw [← e, getD_ix hsl]; exact List.getElem_mem _) hm
      · omega
/-- there are as many free columns as there are no pivots -/
theorem freeN_len {l : List Int} {K : Nat} (h0 : ∀ t, t < l.length → 0 ≤ l.getD t 0 ∧ l.getD t 0 < K) (h1 : ∀ t s, t < s → s < l.length → l.getD t 0 < l.getD s 0) : (freeN l K).length + l.length = K := by
  obtain ⟨t, ht, hl, _, hb⟩ := freeN_part h0 h1 K
  have : t = l.length := by
    refine Decidable.byContradiction (fun hn => ?_)
    have h2 := hb t (Nat.le_refl _) (by omega)
    have h3 := h0 t (by omega)
    omega
  omega
theorem ker_len {p : Int} {R C : Nat} {f : Nat → Nat → Int} (hF : FieldP p) (h : inF p R C f) : (freeN (redTo p R f C).2 C).length + (redTo p R f C).2.length = C := by
  have hr := redTo_rr hF h C (Nat.le_refl _)
  exact freeN_len hr.2.1 hr.2.2.1
def homN (a b : Rp) : Nat := (freeN (redTo a.p (idxN a b a.q.2.1.length).length (eqsF a b) (offN a.d b.d a.d.length)).2 (offN a.d b.d a.d.length)).length
theorem offN_sum {da db : List Int} (hb : ∀ n, db.getD n 0 ≤ 4) (ha : ∀ n, 0 ≤ da.getD n 0) : ∀ n, n ≤ da.length → ((offN da db n : Nat) : Int) ≤ 4 * (da.take n).sum
  | 0, _ => by simp [offN]
  | n + 1, h => by
    have ih := offN_sum hb ha n (by omega)
    have hb' := hb n
    have ha' := ha n
    have h1 : szV da db n ≤ (da.getD n 0).toNat * 4 := Nat.mul_le_mul (Nat.le_refl _) (by omega)
    have e1 : da[n]? = some (da.getD n 0) := by rw [List.getD, List.getElem?_eq_getElem (by omega)]; rfl
    rw [List.take_add_one, e1, offN]
    simp only [Option.toList_some, List.sum_append, List.sum_cons, List.sum_nil]
    omega
theorem off_le {a b : Rp} (hF : FitP a b) : offN a.d b.d a.d.length ≤ 32 := by
  have h := offN_sum (da := a.d) (db := b.d) (fun n => by have := hF.2.1.dg n; omega) (fun n => by have := hF.1.dg n; omega) a.d.length (Nat.le_refl _)
  rw [List.take_length] at h
  have := hF.1.2.1.2.2.2
  omega
theorem idxN_le {a b : Rp} (hF : FitP a b) : ∀ n, (idxN a b n).length ≤ 16 * n
  | 0 => Nat.le_refl _
  | n + 1 => by
    have h1 := hF.1.dg ((a.q.2.1.getD n 0).toNat)
    have h2 := hF.2.1.dg ((a.q.2.2.getD n 0).toNat)
    rw [idxN_succ, List.length_append, rowsI_length]
    have h3 := idxN_le hF n
    have h4 : dN b.d (a.q.2.2.getD n 0) * dN a.d (a.q.2.1.getD n 0) ≤ 4 * 4 := Nat.mul_le_mul (by unfold dN; omega) (by unfold dN; omega)
    omega
theorem idx_le {a b : Rp} (hF : FitP a b) : (idxN a b a.q.2.1.length).length ≤ 96 := by
  have h1 := idxN_le hF a.q.2.1.length
  have := hF.1.2.1.1.2.1
  omega
theorem homN_le {a b : Rp} (hF : FitP a b) : homN a b ≤ 32 := by
  have h1 := ker_len (f := eqsF a b) (R := (idxN a b a.q.2.1.length).length) (C := offN a.d b.d a.d.length) hF.1.1 (eqs_in hF.1.1)
  have h2 := off_le hF
  unfold homN
  omega
end Go.Proofs.Ytfhgpkdhhclpbaa

namespace Go.Proofs.Ytfhgpkdhhclpbaa
open Go.Lg Go.Proofs Go.RowKit
attribute [local irreducible] Code.wp wpList bodyPost Exit.then Exit.inBlock Hp Again Calls Y AT ResV QT Qn QI wpAny wpAnyQ
set_option maxRecDepth 20000
set_option maxHeartbeats 4000000

/-! ### cells of matrices, one after the other -/
def flatL (ms : List Mat) : List Int := ms.flatMap (fun m => m.2.2)
theorem flatL_next {ms : List Mat} {i : Nat} {m : Mat} (h : ms[i]? = some m) : flatL (ms.take i) ++ m.2.2 = flatL (ms.take (i + 1)) := by
  rw [List.take_add_one, h]
  simp [flatL]
theorem flatL_le {ms : List Mat} {i : Nat} : (flatL (ms.take i)).length ≤ (flatL ms).length := by
  have e : flatL ms = flatL (ms.take i) ++ flatL (ms.drop i) := by rw [flatL, flatL, flatL, ← List.flatMap_append, List.take_append_drop]
  rw [e, List.length_append]; omega
theorem flat_ok {w : World} {ms : List Mat} {e : Nat} {v : Value} (hr : Rd w (matsT e ms) v) (hb : (flatL ms).length ≤ 100000) : Does Try.prog 95 [v] w (GivesIL (flatL ms)) := by
  obtain ⟨a3, c3, rfl, hs3, hc3, hd3, hg3⟩ := rd_mats hr
  unfold maxLen at hd3
  refine fn_enter Try.func95 rfl Try.ntmps95 rfl ?_
  repeat' (first
    | (show AT _ _ _ (wpList _ _ _ (_ :: _)); first
       | (show AT _ _ _ (wpList _ _ _ (⟨_, Op.move _, _, _, _, _⟩ :: _)); refine st_y (y_move rfl) rfl ?_)
       | (show AT _ _ _ (wpList _ _ _ (⟨_, Op.assign _, _, _, _, _⟩ :: _)); refine st_y (y_assign rfl) rfl ?_)
       | (show AT _ _ _ (wpList _ _ _ (⟨_, Op.call _, _, _, _, _⟩ :: _)); refine st_y (y_len tabs rfl rfl) rfl ?_))
    | (show AT _ _ _ (wpList _ _ _ []); refine c_nil (x_then ?_))
    | (show AT _ _ _ (Code.wp _ _ _); first | refine c_seq ?_ | refine c_region ?_ | refine c_block ?_))
  refine c_loopH (α := Nat × Option Addr × Nat) [6, 7] (fun s => [(3, .slice s.2.1 (flatL (ms.take s.1)).length s.2.2), (8, .int .i64 s.1)]) (fun s => s.1 ≤ ms.length) (fun s => [.own (iT (flatL (ms.take s.1))) (.slice s.2.1 (flatL (ms.take s.1)).length s.2.2)]) (fun s => ms.length - s.1) (0, none, 0) rfl (by repeat' (first | exact Sub.nil | refine Sub.cons rfl ?_ | refine Sub.consi rfl (by omega) ?_)) ?_ ?_ ?_
  · exact Nat.zero_le _
  · exact fun w' c' => Hp.nilp _ _ c'
  · rintro ⟨i, al, cl⟩ hi
    simp only at hi ⊢
    have hle := flatL_le (ms := ms) (i := i)
    by_cases hin : i < ms.length
    · obtain ⟨m, hm⟩ : ∃ m, ms[i]? = some m := ⟨_, List.getElem?_eq_getElem hin⟩
      obtain ⟨a4, c4, g1, g2, g3, g4⟩ := hg3 i m hm
      have hn := flatL_next hm
      have hle2 := flatL_le (ms := ms) (i := i + 1)
      rw [← hn, List.length_append] at hle2
      repeat' (first
        | (show AT _ _ _ (wpList _ _ _ (_ :: _)); first
           | (show AT _ _ _ (wpList _ _ _ (⟨_, Op.move _, _, _, _, _⟩ :: _)); refine st_y (y_move rfl) rfl ?_)
           | (show AT _ _ _ (wpList _ _ _ (⟨_, Op.assign _, _, _, _, _⟩ :: _)); refine st_y (y_assign rfl) rfl ?_)
           | (show AT _ _ _ (wpList _ _ _ (⟨_, Op.fieldAddr _ _ _, _, _, _, _⟩ :: _)); refine st_y (y_field tabs rfl rfl rfl) rfl ?_)
           | (show AT _ _ _ (wpList _ _ _ (⟨_, Op.load _ _, _, _, _, _⟩ :: _)); first | refine st_y (y_load3 tabs rfl rfl (hc_w0 g1) (hc_w0 g2) (hc_w0 g3)) rfl ?_ | refine st_y (y_load tabs rfl rfl (hc_blk 0 rfl rfl)) rfl ?_)
           | (show AT _ _ _ (wpList _ _ _ (⟨_, Op.indexAddr _ _ _, _, _, _, _⟩ :: _)); refine st_y (y_ixa tabs rfl rfl rfl hs3 (by omega) (by omega)) rfl ?_)
           | (show AT _ _ _ (wpList _ _ _ (⟨_, Op.binOp _ _ _ _ _, _, _, _, _⟩ :: _)); first | refine st_y (y_add rfl rfl (by omega)) rfl ?_ | refine st_y (y_lss rfl rfl) rfl ?_)
           | (show AT _ _ _ (wpList _ _ _ (⟨_, Op.call _, _, _, _, _⟩ :: _)); refine m_appi 1 tabs (ys := m.2.2) rfl rfl rfl rfl rfl (by omega) (fun w' c' => rd_src (c'.rd g4)) (fun a6 c6 => ?_))
           | (show AT _ _ _ (wpList _ _ _ (⟨_, Op.store _ _ _, _, _, _, _⟩ :: _)); refine m_storeb 0 tabs rfl rfl rfl rfl rfl rfl rfl ?_)
           | (show AT _ _ _ (wpList _ _ _ (⟨_, Op.alloc _, _, _, _, _⟩ :: _)); refine m_alloc tabs rfl rfl (fun b5 hb5 => ?_)))
        | (show AT _ _ _ (wpList _ _ _ []); first | refine c_nil (x_then ?_) | refine c_nil ?_)
        | (show AT _ _ _ (Code.wp _ _ _); first | refine c_seq ?_ | refine c_region ?_ | refine c_skip (x_then ?_) | refine c_block ?_ | refine c_ift rfl (by first | assumption | omega) ?_)
        | (show AT _ _ _ _; first | refine x_then ?_ | refine x_blk ?_))
      refine x_nx (i + 1, a6, c6) (by rw [← hn, List.length_append]; exact (by repeat' (first | exact Sub.nil | refine Sub.cons rfl ?_ | refine Sub.consi rfl (by omega) ?_))) (by simp only; omega) (fun w' c' => ?_) (by simp only; omega)
      simp only [← hn, List.length_append]
      exact c'.sub (.cons_cons _ (List.nil_sublist _))
    · have : i = ms.length := by omega
      subst this
      rw [List.take_length]
      refine AT.fact (own_sl 0 rfl) (fun hsl => ?_)
      obtain ⟨a4, c4, e4, hs4⟩ := hsl
      cases e4
      repeat' (first
        | (show AT _ _ _ (wpList _ _ _ (_ :: _)); first
           | (show AT _ _ _ (wpList _ _ _ (⟨_, Op.move _, _, _, _, _⟩ :: _)); refine st_y (y_move rfl) rfl ?_)
           | (show AT _ _ _ (wpList _ _ _ (⟨_, Op.assign _, _, _, _, _⟩ :: _)); refine st_y (y_assign rfl) rfl ?_)
           | (show AT _ _ _ (wpList _ _ _ (⟨_, Op.binOp _ _ _ _ _, _, _, _, _⟩ :: _)); refine st_y (y_lss rfl rfl) rfl ?_))
        | (show AT _ _ _ (wpList _ _ _ []); refine c_nil (x_then ?_))
        | (show AT _ _ _ (Code.wp _ _ _); first | refine c_seq ?_ | refine c_region ?_ | refine c_ret ?_ | refine c_exit ?_ | refine c_iff rfl (by first | assumption | exact not_not_intro (by assumption) | omega) ?_)
        | (show AT _ _ _ _; first | refine x_then ?_ | refine x_then_exit ?_ | refine x_blk_exit rfl ?_))
      exact x_ret1 Try.results95 (res_tmp rfl) (fun w' c' => ⟨_, _, rfl, ⟨_, _, rfl, hs4, rfl⟩, c'.sub (.cons_cons _ (List.nil_sublist _))⟩)
/-! ### parts of a list of ints -/
theorem it_part {xs : List Int} {lo n : Nat} : ((it xs).drop (lo * 1)).take (n * 1) = it ((xs.drop lo).take n) := by
  rw [Nat.mul_one, Nat.mul_one, it, it, List.map_take, List.map_drop]
theorem rd_part {w : World} {e m c lo hi : Nat} {xs : List Int} {a : Option Addr} (hr : Rd w (ints e xs) (.slice a m c)) (h1 : lo ≤ hi) (h2 : hi ≤ m) : Rd w (ints e ((xs.drop lo).take (hi - lo))) (.slice (subA a 1 lo c) (hi - lo) (c - lo)) := by
  have := Rd.part (lo := lo) (hi := hi) hr h1 h2
  rwa [it_part] at this
theorem rd_head {w : World} {e m c hi : Nat} {xs : List Int} {a : Option Addr} (hr : Rd w (ints e xs) (.slice a m c)) (h2 : hi ≤ m) : Rd w (ints e (xs.take hi)) (.slice (subA a 1 0 c) hi c) := by
  have := rd_part (lo := 0) (hi := hi) hr (Nat.zero_le _) h2
  simpa using this
theorem rd_rest {w : World} {e m c lo : Nat} {xs : List Int} {a : Option Addr} (hr : Rd w (ints e xs) (.slice a m c)) (hm : xs.length = m) (h2 : lo ≤ m) : Rd w (ints e (xs.drop lo)) (.slice (subA a 1 lo c) (m - lo) (c - lo)) := by
  have := rd_part (lo := lo) (hi := m) hr h2 (Nat.le_refl _)
  rwa [List.take_of_length_le (by rw [List.length_drop]; omega)] at this
theorem cut_next {da db x : List Int} {i : Nat} : (tabM (cutM da db x) i).flatMap matT ++ (List.map T.c [iV ((db.getD i 0).toNat : Nat), iV ((da.getD i 0).toNat : Nat)] ++ [iT ((x.drop (offN da db i)).take (szV da db i))]) = (tabM (cutM da db x) (i + 1)).flatMap matT := by
  have e1 : tabM (cutM da db x) (i + 1) = tabM (cutM da db x) i ++ [cutM da db x i] := by simp [tabM, List.range_succ]
  rw [e1, List.flatMap_append]; rfl
theorem shaped_ok {w : World} {da db x : List Int} {e : Nat} {ul ux : Value} (hl : Rd w (matsT e (znMs da db da.length)) ul) (hx : Rd w (iT x) ux) (hlen : x.length = offN da db da.length) (hb : x.length ≤ 1024) (hd : da.length ≤ 1000) :
    Does Try.prog 135 [ul, ux] w (GivesMs (cutL da db x)) := by
  obtain ⟨a1, c1, rfl, hs1, _, hd1, hg1⟩ := rd_mats hl
  obtain ⟨ax, cx, rfl, hsx, hcx, hdx, hgx⟩ := hx.ints
  have hzl : (znMs da db da.length).length = da.length := by simp [znMs]
  unfold maxLen at hd1 hdx
  rw [hzl] at hs1
  simp only [hzl]
  refine fn_enter Try.func135 rfl Try.ntmps135 rfl ?_
  repeat' (first
    | (show AT _ _ _ (wpList _ _ _ (_ :: _)); first
       | (show AT _ _ _ (wpList _ _ _ (⟨_, Op.move _, _, _, _, _⟩ :: _)); refine st_y (y_move rfl) rfl ?_)
       | (show AT _ _ _ (wpList _ _ _ (⟨_, Op.assign _, _, _, _, _⟩ :: _)); refine st_y (y_assign rfl) rfl ?_)
       | (show AT _ _ _ (wpList _ _ _ (⟨_, Op.call _, _, _, _, _⟩ :: _)); refine st_y (y_len tabs rfl rfl) rfl ?_))
    | (show AT _ _ _ (wpList _ _ _ []); refine c_nil (x_then ?_))
    | (show AT _ _ _ (Code.wp _ _ _); first | refine c_seq ?_ | refine c_region ?_ | refine c_block ?_))
  refine c_loopH (α := Nat × (Option Addr × Nat) × Option Addr × Nat) [9, 10] (fun s => [(1, .slice s.2.1.1 (x.length - offN da db s.1) s.2.1.2), (5, .slice s.2.2.1 s.1 s.2.2.2), (11, .int .i64 s.1)]) (fun s => s.1 ≤ da.length ∧ Rd w (iT (x.drop (offN da db s.1))) (.slice s.2.1.1 (x.length - offN da db s.1) s.2.1.2) ∧ x.length - offN da db s.1 ≤ s.2.1.2) (fun s => [.own (matsT 81 (tabM (cutM da db x) s.1)) (.slice s.2.2.1 s.1 s.2.2.2)]) (fun s => da.length - s.1) (0, (ax, cx), none, 0) rfl (by repeat' (first | exact Sub.nil | refine Sub.cons rfl ?_ | refine Sub.consi rfl (by omega) ?_)) ?_ ?_ ?_
  · exact ⟨Nat.zero_le _, by simpa [offN] using hx, by simpa [offN] using hcx⟩
  · exact fun w' c' => Hp.nilp _ _ c'
  · rintro ⟨i, ⟨ad, cp⟩, al, cl⟩ ⟨hi, hri, hci⟩
    simp only at hi hri hci ⊢
    by_cases hin : i < da.length
    · have hm : (znMs da db da.length)[i]? = some (znM da db i) := by simp [znMs, hin]
      obtain ⟨a4, c4, g1, g2, g3, g4⟩ := hg1 i _ hm
      have hmo := offN_mono (da := da) (db := db) (u := i + 1) (v := da.length) hin
      rw [offN] at hmo
      have ez : (znM da db i).2.2.length = szV da db i := by rw [znM, mk_length, szV, Nat.mul_comm]
      rw [ez] at g3
      simp only [znM] at g1 g2
      have hpr := rd_head hri (hi := szV da db i) (by omega)
      have hrr := rd_rest hri (by rw [List.length_drop]) (lo := szV da db i) (by omega)
      rw [List.drop_drop] at hrr
      have hpl : ((x.drop (offN da db i)).take (szV da db i)).length = szV da db i := by rw [List.length_take, List.length_drop]; omega
      repeat' (first
        | (show AT _ _ _ (wpList _ _ _ (_ :: _)); first
           | (show AT _ _ _ (wpList _ _ _ (⟨_, Op.assign _, _, _, _, _⟩ :: _)); refine st_y (y_assign rfl) rfl ?_)
           | (show AT _ _ _ (wpList _ _ _ (⟨_, Op.fieldAddr _ _ _, _, _, _, _⟩ :: _)); refine st_y (y_field tabs rfl rfl rfl) rfl ?_)
           | (show AT _ _ _ (wpList _ _ _ (⟨_, Op.load _ _, _, _, _, _⟩ :: _)); first | refine st_y (y_load3 tabs rfl rfl (hc_w0 g1) (hc_w0 g2) (hc_w0 g3)) rfl ?_ | refine st_y (y_load tabs rfl rfl (hc_blk 0 rfl rfl)) rfl ?_)
           | (show AT _ _ _ (wpList _ _ _ (⟨_, Op.indexAddr _ _ _, _, _, _, _⟩ :: _)); refine st_y (y_ixa tabs rfl rfl rfl hs1 (by omega) (by omega)) rfl ?_)
           | (show AT _ _ _ (wpList _ _ _ (⟨_, Op.binOp _ _ _ _ _, _, _, _, _⟩ :: _)); refine st_y (y_lss rfl rfl) rfl ?_)
           | (show AT _ _ _ (wpList _ _ _ (⟨_, Op.call _, _, _, _, _⟩ :: _)); refine st_y (y_len tabs rfl rfl) rfl ?_)
           | (show AT _ _ _ (wpList _ _ _ (⟨_, Op.store _ _ _, _, _, _, _⟩ :: _)); refine m_storeb 0 tabs rfl rfl rfl rfl rfl rfl rfl ?_)
           | (show AT _ _ _ (wpList _ _ _ (⟨_, Op.alloc _, _, _, _, _⟩ :: _)); refine m_alloc tabs rfl rfl (fun b5 hb5 => ?_)))
        | (show AT _ _ _ (wpList _ _ _ []); refine c_nil (x_then ?_))
        | (show AT _ _ _ (Code.wp _ _ _); first | refine c_seq ?_ | refine c_region ?_ | refine c_skip (x_then ?_) | refine c_block ?_ | refine c_ift rfl (by first | assumption | omega) ?_))
      refine c_all (Hp [] w [.blk b5 #[iV ((db.getD i 0).toNat : Nat), iV ((da.getD i 0).toNat : Nat), .slice a4 (szV da db i) c4] 81]) (by kernel_rfl) (fun _ c => Hp.drew c) ?_
      refine h_take 0 rfl (by kernel_rfl) (by kernel_rfl) (by kernel_rfl) (by exact y_move rfl) rfl (fun w c => by exact c.sub (by repeat' first | exact List.Sublist.refl _ | exact List.nil_sublist _ | apply List.Sublist.cons_cons | apply List.Sublist.cons)) ?_
      refine h_take 1 rfl (by kernel_rfl) (by kernel_rfl) (by kernel_rfl) (by exact y_field tabs rfl rfl rfl) rfl (fun w c => by exact c.sub (by repeat' first | exact List.Sublist.refl _ | exact List.nil_sublist _ | apply List.Sublist.cons_cons | apply List.Sublist.cons)) ?_
      refine h_take 2 rfl (by kernel_rfl) (by kernel_rfl) (by kernel_rfl) (by exact y_load tabs rfl rfl (hc_blk 0 rfl rfl)) rfl (fun w c => by exact c.sub (by repeat' first | exact List.Sublist.refl _ | exact List.nil_sublist _ | apply List.Sublist.cons_cons | apply List.Sublist.cons)) ?_
      refine h_take 3 rfl (by kernel_rfl) (by kernel_rfl) (by kernel_rfl) (by exact y_field tabs rfl rfl rfl) rfl (fun w c => by exact c.sub (by repeat' first | exact List.Sublist.refl _ | exact List.nil_sublist _ | apply List.Sublist.cons_cons | apply List.Sublist.cons)) ?_
      refine h_take 4 rfl (by kernel_rfl) (by kernel_rfl) (by kernel_rfl) (by exact y_load tabs rfl rfl (hc_blk 0 rfl rfl)) rfl (fun w c => by exact c.sub (by repeat' first | exact List.Sublist.refl _ | exact List.nil_sublist _ | apply List.Sublist.cons_cons | apply List.Sublist.cons)) ?_
      refine h_take 5 rfl (by kernel_rfl) (by kernel_rfl) (by kernel_rfl) (by exact y_move rfl) rfl (fun w c => by exact c.sub (by repeat' first | exact List.Sublist.refl _ | exact List.nil_sublist _ | apply List.Sublist.cons_cons | apply List.Sublist.cons)) ?_
      refine h_take 6 rfl (by kernel_rfl) (by kernel_rfl) (by kernel_rfl) (by exact y_move rfl) rfl (fun w c => by exact c.sub (by repeat' first | exact List.Sublist.refl _ | exact List.nil_sublist _ | apply List.Sublist.cons_cons | apply List.Sublist.cons)) ?_
      refine h_take 7 rfl (by kernel_rfl) (by kernel_rfl) (by kernel_rfl) (by exact y_slh tabs (hi := szV da db i) rfl rfl rfl rfl (by omega)) rfl (fun w c => by exact c.sub (by repeat' first | exact List.Sublist.refl _ | exact List.nil_sublist _ | apply List.Sublist.cons_cons | apply List.Sublist.cons)) ?_
      refine h_only 8 rfl (by kernel_rfl) ?_
      first | (refine m_build1 tabs (us := [iV ((db.getD i 0).toNat : Nat), iV ((da.getD i 0).toNat : Nat), .slice a7 ((x.drop (offN da db i)).take (szV da db i)).length c7]) rfl rfl rfl rfl (by decide) rfl (fun g5 hg5 => ?_)) | (refine m_call (ent_of Try.func126 (by kernel_rfl) rfl) rfl rfl (fun w c => Clone_ok (c.rd hpr) (by omega)) ?_; rintro v H' ⟨a7, c7, rfl, hs7, rfl⟩) | (refine m_push1 [iV ((db.getD i 0).toNat : Nat), iV ((da.getD i 0).toNat : Nat)] 1 0 tabs (m' := i) rfl rfl rfl rfl rfl rfl rfl (by rw [flatMap_length matT_length, tabM_length]) (by rw [flatMap_length matT_length, tabM_length]; omega) (by decide) rfl rfl (fun a10 c10 => ?_))
      refine c_nil (x_one (h_keep (fun w c => by exact c.sub (by repeat' first | exact List.Sublist.refl _ | exact List.nil_sublist _ | apply List.Sublist.cons_cons | apply List.Sublist.cons)) ?_))
      refine h_take 9 rfl (by kernel_rfl) (by kernel_rfl) (by kernel_rfl) (by exact y_bld3 (bld_mat _ _ _ _ _) rfl rfl rfl) rfl (fun w c => by exact c.sub (by repeat' first | exact List.Sublist.refl _ | exact List.nil_sublist _ | apply List.Sublist.cons_cons | apply List.Sublist.cons)) ?_
      refine h_only 10 rfl (by kernel_rfl) ?_
      first | (refine m_build1 tabs (us := [iV ((db.getD i 0).toNat : Nat), iV ((da.getD i 0).toNat : Nat), .slice a7 ((x.drop (offN da db i)).take (szV da db i)).length c7]) rfl rfl rfl rfl (by decide) rfl (fun g5 hg5 => ?_)) | (refine m_call (ent_of Try.func126 (by kernel_rfl) rfl) rfl rfl (fun w c => Clone_ok (c.rd hpr) (by omega)) ?_; rintro v H' ⟨a7, c7, rfl, hs7, rfl⟩) | (refine m_push1 [iV ((db.getD i 0).toNat : Nat), iV ((da.getD i 0).toNat : Nat)] 1 0 tabs (m' := i) rfl rfl rfl rfl rfl rfl rfl (by rw [flatMap_length matT_length, tabM_length]) (by rw [flatMap_length matT_length, tabM_length]; omega) (by decide) rfl rfl (fun a10 c10 => ?_))
      refine c_nil (x_one (h_keep (fun w c => by exact c.sub (by repeat' first | exact List.Sublist.refl _ | exact List.nil_sublist _ | apply List.Sublist.cons_cons | apply List.Sublist.cons)) ?_))
      refine h_only 11 rfl (by kernel_rfl) ?_
      first | (refine m_build1 tabs (us := [iV ((db.getD i 0).toNat : Nat), iV ((da.getD i 0).toNat : Nat), .slice a7 ((x.drop (offN da db i)).take (szV da db i)).length c7]) rfl rfl rfl rfl (by decide) rfl (fun g5 hg5 => ?_)) | (refine m_call (ent_of Try.func126 (by kernel_rfl) rfl) rfl rfl (fun w c => Clone_ok (c.rd hpr) (by omega)) ?_; rintro v H' ⟨a7, c7, rfl, hs7, rfl⟩) | (refine m_push1 [iV ((db.getD i 0).toNat : Nat), iV ((da.getD i 0).toNat : Nat)] 1 0 tabs (m' := i) rfl rfl rfl rfl rfl rfl rfl (by rw [flatMap_length matT_length, tabM_length]) (by rw [flatMap_length matT_length, tabM_length]; omega) (by decide) rfl rfl (fun a10 c10 => ?_))
      refine c_nil (x_one (h_keep (fun w c => by exact c.drop) ?_))
      refine h_take 12 rfl (by kernel_rfl) (by kernel_rfl) (by kernel_rfl) (by exact y_assign rfl) rfl (fun w c => by exact c.drop) ?_
      refine h_end (by kernel_rfl) ?_
      repeat' (first
        | (show AT _ _ _ (wpList _ _ _ (_ :: _)); first
           | (show AT _ _ _ (wpList _ _ _ (⟨_, Op.move _, _, _, _, _⟩ :: _)); refine st_y (y_move rfl) rfl ?_)
           | (show AT _ _ _ (wpList _ _ _ (⟨_, Op.assign _, _, _, _, _⟩ :: _)); refine st_y (y_assign rfl) rfl ?_)
           | (show AT _ _ _ (wpList _ _ _ (⟨_, Op.binOp _ _ _ _ _, _, _, _, _⟩ :: _)); refine st_y (y_add rfl rfl (by omega)) rfl ?_)
           | (show AT _ _ _ (wpList _ _ _ (⟨_, Op.slice _ _ _ _ _, _, _, _, _⟩ :: _)); refine st_y (y_slo tabs (lo := szV da db i) rfl rfl rfl rfl (by omega)) rfl ?_))
        | (show AT _ _ _ (wpList _ _ _ []); first | refine c_nil (x_then ?_) | refine c_nil ?_)
        | (show AT _ _ _ (Code.wp _ _ _); refine c_region ?_)
        | (show AT _ _ _ _; first | refine x_then ?_ | refine x_blk ?_))
      refine x_nx (i + 1, (subA ad 1 (szV da db i) cp, cp - szV da db i), a10, c10) (by simp only [offN, ← Nat.sub_sub]; exact (by repeat' (first | exact Sub.nil | refine Sub.cons rfl ?_ | refine Sub.consi rfl (by omega) ?_))) ⟨by simp only; omega, by simp only [offN, ← Nat.sub_sub]; exact hrr, by simp only [offN]; omega⟩ (fun w' c' => ?_) (by simp only; omega)
      rw [cut_next] at c'
      exact c'.sub (by repeat' first | exact List.Sublist.refl _ | exact List.nil_sublist _ | apply List.Sublist.cons_cons | apply List.Sublist.cons)
    · have : i = da.length := by omega
      subst this
      refine AT.fact (mats_sl 0 rfl) (fun hsl => ?_)
      rw [tabM_length] at hsl
      repeat' (first
        | (show AT _ _ _ (wpList _ _ _ (_ :: _)); first
           | (show AT _ _ _ (wpList _ _ _ (⟨_, Op.move _, _, _, _, _⟩ :: _)); refine st_y (y_move rfl) rfl ?_)
           | (show AT _ _ _ (wpList _ _ _ (⟨_, Op.assign _, _, _, _, _⟩ :: _)); refine st_y (y_assign rfl) rfl ?_)
           | (show AT _ _ _ (wpList _ _ _ (⟨_, Op.binOp _ _ _ _ _, _, _, _, _⟩ :: _)); refine st_y (y_lss rfl rfl) rfl ?_))
        | (show AT _ _ _ (wpList _ _ _ []); refine c_nil (x_then ?_))
        | (show AT _ _ _ (Code.wp _ _ _); first | refine c_seq ?_ | refine c_region ?_ | refine c_ret ?_ | refine c_exit ?_ | refine c_iff rfl (by first | assumption | exact not_not_intro (by assumption) | omega) ?_)
        | (show AT _ _ _ _; first | refine x_then ?_ | refine x_then_exit ?_ | refine x_blk_exit rfl ?_))
      exact x_ret1 Try.results135 (res_tmp rfl) (fun w' c' => ⟨_, _, rfl, ⟨al, cl, by rw [cutL, tabM_length], by rw [cutL, tabM_length]; exact hsl, by rw [cutL, tabM_length]⟩, c'.sub (.cons_cons _ (List.nil_sublist _))⟩)
end Go.Proofs.Ytfhgpkdhhclpbaa
