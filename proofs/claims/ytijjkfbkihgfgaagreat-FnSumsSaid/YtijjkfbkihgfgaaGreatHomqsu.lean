import Derived.Test.YtijjkfbkihgfgaaGreatCmpqsu
import Derived.Test.YtijjkfbkihgfgaaGreatLCqsu
import Derived.Test.YtijjkfbkihgfgaaGreatRrfqsu
import Derived.Test.YtijjkfbkihgfgaaGreatSpbqsu
namespace Go.Proofs.YtijjkfbkihgfgaaGreat
open Go.Lg Go.Proofs Go.RowKit
attribute [local irreducible] Code.wp wpList bodyPost Exit.then Exit.inBlock Hp Again Calls Y AT ResV QT Qn QI wpAny wpAnyQ
set_option maxRecDepth 20000
set_option maxHeartbeats 4000000

def freeN (piv : List Int) : Nat → List Int
  | 0 => []
  | k + 1 => if (k : Int) ∈ piv then freeN piv k else freeN piv k ++ [(k : Int)]
theorem freeN_yes {piv : List Int} {k : Nat} (h : (k : Int) ∈ piv) : freeN piv (k + 1) = freeN piv k := by rw [freeN, if_pos h]
theorem freeN_no {piv : List Int} {k : Nat} (h : ¬ (k : Int) ∈ piv) : freeN piv (k + 1) = freeN piv k ++ [(k : Int)] := by rw [freeN, if_neg h]
theorem freeN_mem {piv : List Int} : ∀ {k : Nat} {x : Int}, x ∈ freeN piv k → 0 ≤ x ∧ x < k
  | 0, x, h => by simp [freeN] at h
  | k + 1, x, h => by
    rw [freeN] at h
    split at h
    · have := freeN_mem h; omega
    · rcases List.mem_append.1 h with h | h
      · have := freeN_mem h; omega
      · simp at h; omega
def kerV (p : Int) (g : Nat → Nat → Int) (piv : List Int) (k : Nat) : Nat → Nat → Int
  | 0 => fun q => if q = k then 1 else 0
  | i + 1 => fun q => if q = (piv.getD i 0).toNat then (p - g i k) % p else kerV p g piv k i q
def kerL (p : Int) (C : Nat) (g : Nat → Nat → Int) (piv l : List Int) : List (List Int) := l.map (fun k => mkv C (kerV p g piv k.toNat piv.length))
@[simp] theorem kerL_length {p : Int} {C : Nat} {g : Nat → Nat → Int} {piv l : List Int} : (kerL p C g piv l).length = l.length := by simp [kerL]
end Go.Proofs.YtijjkfbkihgfgaaGreat

namespace Go.Proofs.YtijjkfbkihgfgaaGreat
open Go.Lg Go.Proofs Go.RowKit
attribute [local irreducible] Code.wp wpList bodyPost Exit.then Exit.inBlock Hp Again Calls Y AT ResV QT Qn QI wpAny wpAnyQ
set_option maxRecDepth 20000
set_option maxHeartbeats 4000000

def szV (da db : List Int) (v : Nat) : Nat := (da.getD v 0).toNat * (db.getD v 0).toNat
def offN (da db : List Int) : Nat → Nat
  | 0 => 0
  | v + 1 => offN da db v + szV da db v
theorem offN_mono {da db : List Int} {u : Nat} : ∀ {v : Nat}, u ≤ v → offN da db u ≤ offN da db v
  | 0, h => by rw [Nat.le_zero.1 h]; exact Nat.le_refl _
  | v + 1, h => by
    by_cases e : u = v + 1
    · rw [e]; exact Nat.le_refl _
    · have := offN_mono (da := da) (db := db) (u := u) (v := v) om
      rw [offN]; omega
theorem off_lt {da db : List Int} {v n j k : Nat} (hv : v < n) (hj : j < (db.getD v 0).toNat) (hk : k < (da.getD v 0).toNat) : offN da db v + (j * (da.getD v 0).toNat + k) < offN da db n := by
  have h1 := offN_mono (da := da) (db := db) (u := v + 1) (v := n) hv
  have h2 := cell_lt hj hk
  rw [offN, szV, Nat.mul_comm] at h1
  omega
def cutM (da db : List Int) (x : List Int) (v : Nat) : Mat := (((db.getD v 0).toNat : Nat), ((da.getD v 0).toNat : Nat), (x.drop (offN da db v)).take (szV da db v))
theorem cut_get {da db x : List Int} {v i : Nat} (hi : i < szV da db v) : (cutM da db x v).2.2.getD i 0 = x.getD (offN da db v + i) 0 := by
  simp only [cutM, List.getD]
  rw [List.getElem?_take_of_lt hi, List.getElem?_drop]
theorem cut_matF {da db x : List Int} {v j k : Nat} (hj : j < (db.getD v 0).toNat) (hk : k < (da.getD v 0).toNat) : matF (cutM da db x v) j k = x.getD (offN da db v + (j * (da.getD v 0).toNat + k)) 0 := by
  have h := cell_lt hj hk
  rw [matF]
  exact cut_get (by rw [szV, Nat.mul_comm (da.getD v 0).toNat]; exact h)
theorem cut_len {da db x : List Int} {v n : Nat} (hv : v < n) (hx : x.length = offN da db n) : (cutM da db x v).2.2.length = szV da db v := by
  have h1 := offN_mono (da := da) (db := db) (u := v + 1) (v := n) hv
  rw [offN] at h1
  simp only [cutM, List.length_take, List.length_drop]
  omega
theorem getD_ix {l : List Int} {i : Nat} (h : i < l.length) : l.getD i 0 = l[i] := by rw [List.getD, List.getElem?_eq_getElem h]; rfl
def cutL (da db x : List Int) : List Mat := tabM (cutM da db x) da.length
theorem tabM_get {F : Nat → Mat} {n i : Nat} (h : i < n) : (tabM F n)[i]? = some (F i) := by simp [tabM, h]
theorem tabM_getD {F : Nat → Mat} {n i : Nat} (h : i < n) : (tabM F n).getD i mat0 = F i := by rw [List.getD, tabM_get h]; rfl
theorem cut_are {a b : Rp} {x : List Int} (hF : FitP a b) (hx : x.length = offN a.d b.d a.d.length) (hin : InP 0 (a.p - 1) x) : AreP a b (cutL a.d b.d x) := by
  refine ⟨hF, tabM_length, fun i hi => ?_⟩
  have hi' : i < a.d.length := by simpa [cutL] using hi
  have ha := hF.1.dg i
  have hb := hF.2.1.dg i
  rw [ElemP, cutL, tabM_getD hi']
  have hc := cut_len hi' hx
  have h16 : szV a.d b.d i ≤ 4 * 4 := Nat.mul_le_mul om om
  refine ⟨⟨⟨by simp only [cutM]; omega, by simp only [cutM]; omega⟩, ⟨by simp only [cutM]; omega, by simp only [cutM]; omega⟩, ?_, hF.1.1, by omega, fun y hy => hin y (List.mem_of_mem_drop (List.mem_of_mem_take hy))⟩, by simp only [cutM]; omega, by simp only [cutM]; omega⟩
  rw [hc, szV]
  simp only [cutM]
  rw [Nat.mul_comm, Int.natCast_mul]
def at1 (a b : Rp) (i k j : Nat) : Nat := offN a.d b.d (a.q.2.1.getD i 0).toNat + (j * dN a.d (a.q.2.1.getD i 0) + k)
def at2 (a b : Rp) (i r j : Nat) : Nat := offN a.d b.d (a.q.2.2.getD i 0).toNat + (r * dN a.d (a.q.2.2.getD i 0) + j)
def sum1 (a b : Rp) (i r k c n : Nat) : Int := sumN (fun j => if at1 a b i k j = c then matF (b.m.getD i mat0) r j else 0) n
def sum2 (a b : Rp) (i r k c n : Nat) : Int := sumN (fun j => if at2 a b i r j = c then matF (a.m.getD i mat0) j k else 0) n
def eqE (a b : Rp) (i r k c : Nat) : Int := (sum1 a b i r k c (dN b.d (a.q.2.1.getD i 0)) - sum2 a b i r k c (dN a.d (a.q.2.2.getD i 0))) % a.p
theorem mod_minus {p x y : Int} (hF : FieldP p) : (x % p + (p - 1) * (y % p)) % p = (x - y) % p := by
  rcases hF with rfl | rfl | rfl <;> omega
theorem cob_unit {a b : Rp} {i c n : Nat} (hF : FitP a b) (hi : i < a.q.2.1.length) (hn : n = offN a.d b.d a.d.length) :
    mk (dN b.d (a.q.2.2.getD i 0)) (dN a.d (a.q.2.1.getD i 0)) (plusF a.p (a.p - 1) (firF a b (cutL a.d b.d (mkv n (fun q => if q = c then 1 else 0))) i) (secF a (cutL a.d b.d (mkv n (fun q => if q = c then 1 else 0))) i)) = mk (dN b.d (a.q.2.2.getD i 0)) (dN a.d (a.q.2.1.getD i 0)) (fun r k => eqE a b i r k c) := mk_ext (fun r k hr hk => by
  have hQ := hF.1.2.1.1
  have hs := inP_get hQ.2.2.2.1 (i := i) hi
  have ht := inP_get hQ.2.2.2.2 (i := i) (by have := hQ.2.2.1; omega)
  have hdl := hF.1.2.1.2.1
  have hs' : (a.q.2.1.getD i 0).toNat < a.d.length := by omega
  have ht' : (a.q.2.2.getD i 0).toNat < a.d.length := by omega
  rw [plusF, firF, secF, mulF, mulF, accF_sum, accF_sum, mod_minus hF.1.1, eqE, sum1, sum2]
  congr 1
  congr 1
  · refine sumN_congr (fun j hj => ?_)
    rw [cutL, tabM_getD hs', cut_matF hj hk, mkv_get (by subst hn; exact off_lt hs' hj hk), at1, dN]
    split <;> simp_all
  · refine sumN_congr (fun j hj => ?_)
    rw [cutL, tabM_getD ht', cut_matF hr hj, mkv_get (by subst hn; exact off_lt ht' hr hj), at2, dN]
    split <;> simp_all)
def rowsI (a b : Rp) (i : Nat) : List (Nat × Nat × Nat) := (List.range (dN b.d (a.q.2.2.getD i 0))).flatMap (fun r => (List.range (dN a.d (a.q.2.1.getD i 0))).map (fun k => (i, r, k)))
def idxN (a b : Rp) (n : Nat) : List (Nat × Nat × Nat) := (List.range n).flatMap (rowsI a b)
theorem mk_succ {R C : Nat} {f : Nat → Nat → Int} : mk (R + 1) C f = mk R C f ++ mkv C (f R) := by
  rw [mk, Nat.add_mul, Nat.one_mul, List.range_add, List.map_append, mk, mkv, List.map_map]
  congr 1
  refine List.map_congr_left (fun x hx => ?_)
  have hx := List.mem_range.1 hx
  have hC : 0 < C := by omega
  have h1 : (R * C + x) / C = R := by rw [Nat.mul_comm, Nat.mul_add_div hC, Nat.div_eq_of_lt hx]; rfl
  have h2 : (R * C + x) % C = x := by rw [Nat.mul_comm, Nat.mul_add_mod, Nat.mod_eq_of_lt hx]
  simp only [Function.comp, h1, h2]
theorem mk_rows {C : Nat} {f : Nat → Nat → Int} : ∀ R, mk R C f = (List.range R).flatMap (fun r => mkv C (f r))
  | 0 => by simp [mk]
  | R + 1 => by rw [mk_succ, mk_rows R, List.range_succ, List.flatMap_append]; simp
theorem rowsI_map {a b : Rp} {i : Nat} {F : Nat → Nat → Nat → Int} : (rowsI a b i).map (fun t => F t.1 t.2.1 t.2.2) = mk (dN b.d (a.q.2.2.getD i 0)) (dN a.d (a.q.2.1.getD i 0)) (F i) := by
  rw [mk_rows, rowsI, List.map_flatMap]
  simp only [List.map_map]
  rfl
theorem rowsI_length {a b : Rp} {i : Nat} : (rowsI a b i).length = dN b.d (a.q.2.2.getD i 0) * dN a.d (a.q.2.1.getD i 0) := by
  have := congrArg List.length (rowsI_map (a := a) (b := b) (i := i) (F := fun _ _ _ => 0))
  rwa [List.length_map, mk_length] at this
theorem idxN_succ {a b : Rp} {n : Nat} : idxN a b (n + 1) = idxN a b n ++ rowsI a b n := by rw [idxN, List.range_succ, List.flatMap_append]; simp [idxN]
theorem cobN_flat {a b : Rp} {c n : Nat} (hF : FitP a b) (hn : n = offN a.d b.d a.d.length) : ∀ k, k ≤ a.q.2.1.length → (cobN a b (cutL a.d b.d (mkv n (fun q => if q = c then 1 else 0))) k).flatMap (fun m => m.2.2) = (idxN a b k).map (fun t => eqE a b t.1 t.2.1 t.2.2 c)
  | 0, _ => rfl
  | k + 1, h => by
    rw [cobN, List.flatMap_append, cobN_flat hF hn k om, idxN_succ, List.map_append, rowsI_map (F := fun i r k => eqE a b i r k c)]
    simp only [List.flatMap_cons, List.flatMap_nil, List.append_nil]
    rw [cobM, cob_unit hF om hn]
def eqsF (a b : Rp) : Nat → Nat → Int := fun t c => eqE a b ((idxN a b a.q.2.1.length).getD t (0, 0, 0)).1 ((idxN a b a.q.2.1.length).getD t (0, 0, 0)).2.1 ((idxN a b a.q.2.1.length).getD t (0, 0, 0)).2.2 c
theorem eqE_in {a b : Rp} (hF : FieldP a.p) {i r k c : Nat} : 0 ≤ eqE a b i r k c ∧ eqE a b i r k c < a.p := by
  have := fieldP_pos hF
  exact ⟨Int.emod_nonneg _ om, Int.emod_lt_of_pos _ om⟩
theorem eqs_in {a b : Rp} (hF : FieldP a.p) {R C : Nat} : inF a.p R C (eqsF a b) := fun _ _ _ _ => eqE_in hF
end Go.Proofs.YtijjkfbkihgfgaaGreat

namespace Go.Proofs.YtijjkfbkihgfgaaGreat
open Go.Lg Go.Proofs Go.RowKit
attribute [local irreducible] Code.wp wpList bodyPost Exit.then Exit.inBlock Hp Again Calls Y AT ResV QT Qn QI wpAny wpAnyQ
set_option maxRecDepth 20000
set_option maxHeartbeats 4000000

theorem freeN_part {l : List Int} {K : Nat} (h0 : ∀ t, t < l.length → 0 ≤ l.getD t 0 ∧ l.getD t 0 < K) (h1 : ∀ t s, t < s → s < l.length → l.getD t 0 < l.getD s 0) :
    ∀ k, ∃ t, t ≤ l.length ∧ (freeN l k).length + t = k ∧ (∀ s, s < t → l.getD s 0 < k) ∧ ∀ s, t ≤ s → s < l.length → (k : Int) ≤ l.getD s 0
  | 0 => ⟨0, Nat.zero_le _, rfl, fun s hs => absurd hs om, fun s _ hs => by have := h0 s hs; omega⟩
  | k + 1 => by
    obtain ⟨t, ht, hl, ha, hb⟩ := freeN_part h0 h1 k
    by_cases hk : t < l.length ∧ l.getD t 0 = k
    · have hm : (k : Int) ∈ l := by rw [← hk.2, getD_ix hk.1]; exact List.getElem_mem _
      refine ⟨t + 1, hk.1, by rw [freeN_yes hm]; omega, fun s hs => ?_, fun s hs hsl => ?_⟩
      · by_cases e : s = t
        · subst e; omega
        · have := ha s om; omega
      · have := h1 t s om hsl; omega
    · have hm : ¬ (k : Int) ∈ l := fun hm => by
        obtain ⟨s, hs, e⟩ := List.getElem_of_mem hm
        rw [← getD_ix hs] at e
        rcases Nat.lt_trichotomy s t with h | h | h
        · have := ha s h; omega
        · subst h; exact hk ⟨hs, e⟩
        · have h2 := h1 t s h hs
          have h3 := hb t (Nat.le_refl _) om
          omega
      refine ⟨t, ht, by rw [freeN_no hm, List.length_append, List.length_singleton]; omega, fun s hs => by have := ha s hs; omega, fun s hs hsl => ?_⟩
      have h3 := hb s hs hsl
      by_cases e : l.getD s 0 = k
      · exact absurd (by rw [← e, getD_ix hsl]; exact List.getElem_mem _) hm
      · omega
theorem freeN_len {l : List Int} {K : Nat} (h0 : ∀ t, t < l.length → 0 ≤ l.getD t 0 ∧ l.getD t 0 < K) (h1 : ∀ t s, t < s → s < l.length → l.getD t 0 < l.getD s 0) : (freeN l K).length + l.length = K := by
  obtain ⟨t, ht, hl, _, hb⟩ := freeN_part h0 h1 K
  have : t = l.length := by
    refine Decidable.byContradiction (fun hn => ?_)
    have h2 := hb t (Nat.le_refl _) om
    have h3 := h0 t om
    omega
  omega
theorem ker_len {p : Int} {R C : Nat} {f : Nat → Nat → Int} (hF : FieldP p) (h : inF p R C f) : (freeN (redTo p R f C).2 C).length + (redTo p R f C).2.length = C := by
  have hr := redTo_rr hF h C (Nat.le_refl _)
  exact freeN_len hr.2.1 hr.2.2.1
def homN (a b : Rp) : Nat := (freeN (redTo a.p (idxN a b a.q.2.1.length).length (eqsF a b) (offN a.d b.d a.d.length)).2 (offN a.d b.d a.d.length)).length
theorem offN_sum {da db : List Int} (hb : ∀ n, db.getD n 0 ≤ 4) (ha : ∀ n, 0 ≤ da.getD n 0) : ∀ n, n ≤ da.length → ((offN da db n : Nat) : Int) ≤ 4 * (da.take n).sum
  | 0, _ => by simp [offN]
  | n + 1, h => by
    have ih := offN_sum hb ha n om
    have hb' := hb n
    have ha' := ha n
    have h1 : szV da db n ≤ (da.getD n 0).toNat * 4 := Nat.mul_le_mul (Nat.le_refl _) om
    have e1 : da[n]? = some (da.getD n 0) := by rw [List.getD, List.getElem?_eq_getElem om]; rfl
    rw [List.take_add_one, e1, offN]
    simp only [Option.toList_some, List.sum_append, List.sum_cons, List.sum_nil]
    omega
theorem off_le {a b : Rp} (hF : FitP a b) : offN a.d b.d a.d.length ≤ 32 := by
  have h := offN_sum (da := a.d) (db := b.d) (fun n => by have := hF.2.1.dg n; omega) (fun n => by have := hF.1.dg n; omega) a.d.length (Nat.le_refl _)
  rw [List.take_length] at h
  have := hF.1.2.1.2.2.2
  omega
theorem idxN_le {a b : Rp} (hF : FitP a b) : ∀ n, (idxN a b n).length ≤ 16 * n
  | 0 => Nat.le_refl _
  | n + 1 => by
    have h1 := hF.1.dg ((a.q.2.1.getD n 0).toNat)
    have h2 := hF.2.1.dg ((a.q.2.2.getD n 0).toNat)
    rw [idxN_succ, List.length_append, rowsI_length]
    have h3 := idxN_le hF n
    have h4 : dN b.d (a.q.2.2.getD n 0) * dN a.d (a.q.2.1.getD n 0) ≤ 4 * 4 := Nat.mul_le_mul (by unfold dN; omega) (by unfold dN; omega)
    omega
theorem idx_le {a b : Rp} (hF : FitP a b) : (idxN a b a.q.2.1.length).length ≤ 96 := by
  have h1 := idxN_le hF a.q.2.1.length
  have := hF.1.2.1.1.2.1
  omega
theorem homN_le {a b : Rp} (hF : FitP a b) : homN a b ≤ 32 := by
  have h1 := ker_len (f := eqsF a b) (R := (idxN a b a.q.2.1.length).length) (C := offN a.d b.d a.d.length) hF.1.1 (eqs_in hF.1.1)
  have h2 := off_le hF
  unfold homN
  omega
end Go.Proofs.YtijjkfbkihgfgaaGreat
