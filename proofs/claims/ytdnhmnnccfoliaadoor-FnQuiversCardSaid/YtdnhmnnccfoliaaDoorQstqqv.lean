import Derived.Test.YtdnhmnnccfoliaaDoorDigqqv
import Derived.Test.YtdnhmnnccfoliaaDoorDrwqqv
import Derived.Test.YtdnhmnnccfoliaaDoorMxfqqv
import Derived.Test.YtdnhmnnccfoliaaDoorQupqqv
import Derived.Test.YtdnhmnnccfoliaaDoorShrqqv
namespace Go.Lg
open Go.RowKit
section
variable {P : Program} {n : Nat} {C : World → Prop} {s : List (Nat × Value)} {ty t : Nat} {x lo' hi' : Operand}
theorem y_sls {a : List UInt8} {i j : Nat} {p q : Int} (ht : P.underlying t = some .string) (hx : ev s x = some (sV a)) (hl : ev s lo' = some (.int .i64 p)) (hh : ev s hi' = some (.int .i64 q)) (hp : p = (i : Int)) (hq : q = (j : Int)) (h1 : i ≤ j) (h2 : j ≤ a.length) : Y P n C s (.slice t x (some lo') (some hi') none) ty (sV ((a.drop i).take (j - i))) := fun aa w f c d pos af g => by
  subst hp; subst hq
  simp only [sV] at hx
  have h := run_slice_string (P := P) w t ⟨a.toArray⟩ .i64 .i64 i j ht om om (by simp [ByteArray.size]; omega)
  simp only [Int.toNat_natCast, ByteArray.extract_mk] at h
  simp [execOp, f.ev hx, f.ev hl, f.ev hh, run_sliceAt_string, ht, h, sV]
end
end Go.Lg
namespace Go.Proofs.YtdnhmnnccfoliaaDoor
open Go.Lg Go.Proofs Go.RowKit
attribute [local irreducible] Code.wp wpList bodyPost Exit.then Exit.inBlock Hp Again Calls Y AT ResV QT Qn QI wpAny wpAnyQ
set_option maxRecDepth 20000
set_option maxHeartbeats 4000000

theorem dg_ne {x : Int} (h0 : 0 ≤ x) (h9 : x ≤ 9) : dg x ≠ 32 ∧ dg x ≠ 58 ∧ ((dg x).toNat : Int) - 48 = x := by
  obtain ⟨k, rfl⟩ : ∃ k : Nat, x = k := ⟨x.toNat, by omega⟩
  have hk : k < 10 := by omega
  match k, hk with
  | 0, _ => exact ⟨by decide, by decide, rfl⟩
  | 1, _ => exact ⟨by decide, by decide, rfl⟩
  | 2, _ => exact ⟨by decide, by decide, rfl⟩
  | 3, _ => exact ⟨by decide, by decide, rfl⟩
  | 4, _ => exact ⟨by decide, by decide, rfl⟩
  | 5, _ => exact ⟨by decide, by decide, rfl⟩
  | 6, _ => exact ⟨by decide, by decide, rfl⟩
  | 7, _ => exact ⟨by decide, by decide, rfl⟩
  | 8, _ => exact ⟨by decide, by decide, rfl⟩
  | 9, _ => exact ⟨by decide, by decide, rfl⟩
def prtQ (q : Qv) : Nat → List UInt8
  | 0 => [dg q.1, 58]
  | k + 1 => [dg (q.2.1.getD k 0), dg (q.2.2.getD k 0)]
def fmA (q : Qv) : Nat → List UInt8
  | 0 => prtQ q 0
  | i + 1 => fmA q i ++ 32 :: prtQ q (i + 1)
def fmtQ (q : Qv) : List UInt8 := if QuivP q then fmA q q.2.1.length else []
theorem fmA_len {q : Qv} : ∀ i, (fmA q i).length = 3 * i + 2
  | 0 => rfl
  | i + 1 => by
    rw [fmA, List.length_append, fmA_len i, prtQ]
    simp only [List.length_cons, List.length_nil]; omega
theorem fmtQ_len (q : Qv) : (fmtQ q).length ≤ 20 := by
  unfold fmtQ
  split
  · rename_i h
    have := h.2.1
    rw [fmA_len]; omega
  · simp
theorem fmA_get {q : Qv} : ∀ {i k : Nat}, k < i → (fmA q i).getD (3 * k + 3) 0 = dg (q.2.1.getD k 0) ∧ (fmA q i).getD (3 * k + 4) 0 = dg (q.2.2.getD k 0)
  | 0, k, h => by omega
  | i + 1, k, h => by
    have hl := fmA_len (q := q) i
    by_cases hk : k < i
    · have := fmA_get (q := q) hk
      rw [fmA]
      simp only [List.getD, List.getElem?_append_left (show 3 * k + 3 < (fmA q i).length by omega), List.getElem?_append_left (show 3 * k + 4 < (fmA q i).length by omega)]
      exact this
    · have : k = i := by omega
      subst this
      rw [fmA]
      simp only [List.getD, List.getElem?_append_right (show (fmA q k).length ≤ 3 * k + 3 by omega), List.getElem?_append_right (show (fmA q k).length ≤ 3 * k + 4 by omega), hl]
      rw [show 3 * k + 3 - (3 * k + 2) = 1 by omega, show 3 * k + 4 - (3 * k + 2) = 2 by omega]
      exact ⟨rfl, rfl⟩
theorem fmA_head {q : Qv} : ∀ i, (fmA q i).getD 0 0 = dg q.1
  | 0 => rfl
  | i + 1 => by
    have hl := fmA_len (q := q) i
    rw [fmA]
    simp only [List.getD, List.getElem?_append_left (show 0 < (fmA q i).length by omega)]
    exact fmA_head i
def candQ (s : List UInt8) : Qv := (((s.getD 0 0).toNat : Int) - 48, (List.range ((s.length - 2) / 3)).map (fun i => ((s.getD (3 * i + 3) 0).toNat : Int) - 48), (List.range ((s.length - 2) / 3)).map (fun i => ((s.getD (3 * i + 4) 0).toNat : Int) - 48))
def parP (s : List UInt8) : Prop := QuivP (candQ s) ∧ fmtQ (candQ s) = s
instance (s : List UInt8) : Decidable (parP s) := by unfold parP; infer_instance
def parQ (s : List UInt8) : Qv := if parP s then candQ s else (0, [], [])
theorem quiv_rng {q : Qv} (h : QuivP q) : (∀ k, k < q.2.1.length → 0 ≤ q.2.1.getD k 0 ∧ q.2.1.getD k 0 ≤ 4) ∧ ∀ k, k < q.2.1.length → 0 ≤ q.2.2.getD k 0 ∧ q.2.2.getD k 0 ≤ 4 := by
  obtain ⟨hV, h6, ht, hf, hg⟩ := h
  constructor
  · intro k hk
    have := hf _ (getD_in hk)
    omega
  · intro k hk
    have := hg _ (getD_in (show k < q.2.2.length by omega))
    omega
theorem list_range {l : List Int} {n : Nat} (h : l.length = n) : (List.range n).map (fun i => l.getD i 0) = l := (mkv_of h).symm
theorem cand_fmt {q : Qv} (h : QuivP q) : candQ (fmtQ q) = q := by
  have hr := quiv_rng h
  obtain ⟨V, F, T⟩ := q
  have hV := h.1
  have hT := h.2.2.1
  simp only at hr hV hT
  rw [fmtQ, if_pos h, candQ, fmA_len]
  simp only
  rw [show (3 * F.length + 2 - 2) / 3 = F.length by omega, fmA_head]
  have e1 : (List.range F.length).map (fun i => (((fmA (V, F, T) F.length).getD (3 * i + 3) 0).toNat : Int) - 48) = F := by
    rw [← list_range (l := F) rfl, List.length_map, List.length_range]
    refine List.map_congr_left (fun i hi => ?_)
    have hi' := List.mem_range.1 hi
    rw [list_range rfl, (fmA_get hi').1]
    exact (dg_ne (hr.1 i hi').1 (by have := hr.1 i hi'; omega)).2.2
  have e2 : (List.range F.length).map (fun i => (((fmA (V, F, T) F.length).getD (3 * i + 4) 0).toNat : Int) - 48) = T := by
    rw [← list_range (l := T) hT]
    refine List.map_congr_left (fun i hi => ?_)
    have hi' := List.mem_range.1 hi
    rw [list_range hT, (fmA_get hi').2]
    exact (dg_ne (hr.2 i hi').1 (by have := hr.2 i hi'; omega)).2.2
  rw [e1, e2, (dg_ne (x := V) om om).2.2]
theorem par_iff {s : List UInt8} : parP s ↔ ∃ q, QuivP q ∧ fmtQ q = s := by
  constructor
  · exact fun h => ⟨_, h⟩
  · rintro ⟨q, h, rfl⟩
    rw [parP, cand_fmt h]
    exact ⟨h, rfl⟩
theorem parQ_fmt {q : Qv} (h : QuivP q) : parQ (fmtQ q) = q := by rw [parQ, if_pos (par_iff.2 ⟨q, h, rfl⟩), cand_fmt h]
def spR (d : UInt8) (s : List UInt8) : List (List UInt8) × List UInt8 := s.foldl (fun r x => if x = d then (r.1 ++ [r.2], []) else (r.1, r.2 ++ [x])) ([], [])
def spL (d : UInt8) (s : List UInt8) : List (List UInt8) := (spR d s).1 ++ [(spR d s).2]
theorem spR_next {d : UInt8} {s : List UInt8} {i : Nat} (h : i < s.length) : spR d (s.take (i + 1)) = if s.getD i 0 = d then ((spR d (s.take i)).1 ++ [(spR d (s.take i)).2], []) else ((spR d (s.take i)).1, (spR d (s.take i)).2 ++ [s.getD i 0]) := by
  rw [List.take_add_one, List.getElem?_eq_getElem h, spR, List.foldl_append]
  simp only [Option.toList_some, List.foldl_cons, List.foldl_nil, List.getD, List.getElem?_eq_getElem h, Option.getD_some]
  rfl
theorem spR_len {d : UInt8} {s : List UInt8} : ∀ i, i ≤ s.length → (spR d (s.take i)).1.length ≤ i ∧ (spR d (s.take i)).2.length ≤ i
  | 0, _ => by simp [spR]
  | i + 1, h => by
    have ih := spR_len (d := d) (s := s) i om
    rw [spR_next om]
    split
    · simp only [List.length_append, List.length_singleton, List.length_nil]; omega
    · simp only [List.length_append, List.length_singleton]; omega
def preQ (q : Qv) : Nat → List (List UInt8)
  | 0 => []
  | i + 1 => preQ q i ++ [prtQ q i]
theorem preQ_len {q : Qv} : ∀ i, (preQ q i).length = i
  | 0 => rfl
  | i + 1 => by rw [preQ, List.length_append, preQ_len i]; rfl
theorem preQ_get {q : Qv} : ∀ {i k : Nat}, k < i → (preQ q i)[k]? = some (prtQ q k)
  | 0, k, h => by omega
  | i + 1, k, h => by
    have hl := preQ_len (q := q) i
    rw [preQ]
    by_cases hk : k < i
    · rw [List.getElem?_append_left om]; exact preQ_get hk
    · have : k = i := by omega
      subst this
      rw [List.getElem?_append_right om, hl, Nat.sub_self]; rfl
theorem cut_fmA {q : Qv} (hV : 0 ≤ q.1 ∧ q.1 ≤ 9) (hr : (∀ k, k < q.2.1.length → 0 ≤ q.2.1.getD k 0 ∧ q.2.1.getD k 0 ≤ 4) ∧ ∀ k, k < q.2.1.length → 0 ≤ q.2.2.getD k 0 ∧ q.2.2.getD k 0 ≤ 4) : ∀ i, i ≤ q.2.1.length → spR 32 (fmA q i) = (preQ q i, prtQ q i)
  | 0, _ => by
    have h1 := (dg_ne hV.1 hV.2).1
    simp [fmA, prtQ, spR, preQ, h1]
  | i + 1, h => by
    have ih := cut_fmA hV hr i om
    have a1 := hr.1 i om
    have a2 := hr.2 i om
    have h1 := (dg_ne a1.1 om).1
    have h2 := (dg_ne a2.1 om).1
    rw [fmA, spR, List.foldl_append]
    rw [spR] at ih
    rw [ih, show prtQ q (i + 1) = [dg (q.2.1.getD i 0), dg (q.2.2.getD i 0)] from rfl, preQ]
    simp only [List.foldl_cons, List.foldl_nil, if_true, if_neg h1, if_neg h2]
    rfl
theorem cut_fmtQ {q : Qv} (h : QuivP q) : spL 32 (fmtQ q) = preQ q (q.2.1.length + 1) := by
  have hV := h.1
  rw [fmtQ, if_pos h, spL, cut_fmA om (quiv_rng h) _ (Nat.le_refl _)]
  rfl
end Go.Proofs.YtdnhmnnccfoliaaDoor
