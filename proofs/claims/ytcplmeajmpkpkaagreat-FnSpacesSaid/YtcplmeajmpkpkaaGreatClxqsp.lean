import Derived.Sort.Statements
import Derived.Test.YtcplmeajmpkpkaaGreatLspqsp
import Derived.Test.YtcplmeajmpkpkaaGreatZsbqsp
namespace Go.Proofs.YtcplmeajmpkpkaaGreat
open Go.Lg Go.Proofs Go.RowKit

def leadOf : List Int → Nat
  | [] => 0
  | x :: xs => if x = 0 then leadOf xs + 1 else 0
theorem leadOf_lt : ∀ {r : List Int} {j : Nat}, j < leadOf r → r.getD j 0 = 0
  | [], j, h => by simp [leadOf] at h
  | x :: xs, j, h => by
    rw [leadOf] at h
    split at h
    · rename_i hx
      match j, h with
      | 0, _ => simpa using hx
      | j + 1, h => simpa using leadOf_lt (r := xs) (j := j) om
    · omega
theorem leadOf_at : ∀ {r : List Int} {k : Nat}, (∀ j, j < k → r.getD j 0 = 0) → r.getD k 0 ≠ 0 → leadOf r = k
  | [], k, _, h => by simp at h
  | x :: xs, 0, _, h => by
    rw [leadOf, if_neg (by simpa using h)]
  | x :: xs, k + 1, h0, h => by
    have := h0 0 om
    rw [leadOf, if_pos (by simpa using this)]
    rw [leadOf_at (r := xs) (k := k) (fun j hj => by simpa using h0 (j + 1) om) (by simpa using h)]
def RrD (n : Nat) (B : List (List Int)) : Prop := (∀ t, t < B.length → leadOf (B.getD t []) < n) ∧ (∀ s, s < B.length → ∀ t, t < s → leadOf (B.getD t []) < leadOf (B.getD s [])) ∧ ∀ t, t < B.length → ∀ i, i < B.length → rowsF B i (leadOf (B.getD t [])) = if i = t then 1 else 0
instance (n : Nat) (B : List (List Int)) : Decidable (RrD n B) := by unfold RrD; infer_instance
def leadL (B : List (List Int)) : List Int := B.map (fun r => (leadOf r : Int))
theorem leadL_get {B : List (List Int)} {t : Nat} (h : t < B.length) : (leadL B).getD t 0 = (leadOf (B.getD t []) : Int) ∧ pv (leadL B) t = leadOf (B.getD t []) := by
  have : (leadL B).getD t 0 = (leadOf (B.getD t []) : Int) := by simp [leadL, List.getD, h]
  exact ⟨this, by rw [pv, this, Int.toNat_natCast]⟩
theorem RrD.rr {n : Nat} {B : List (List Int)} (h : RrD n B) : RR B.length (rowsF B) (leadL B) n := by
  obtain ⟨h1, h2, h3⟩ := h
  have hl : (leadL B).length = B.length := by simp [leadL]
  refine ⟨by omega, fun t ht => ?_, fun t s hts hs => ?_, fun t i ht hi => ?_, fun i j hi hi2 => by omega, fun t j ht hj => ?_⟩
  · rw [(leadL_get om).1]
    have := h1 t om
    omega
  · rw [(leadL_get om).1, (leadL_get om).1]
    have := h2 s om t hts
    omega
  · rw [(leadL_get om).2]
    exact h3 t om i hi
  · rw [(leadL_get om).2] at hj
    exact leadOf_lt hj
theorem rrD_of {n : Nat} {B : List (List Int)} {l : List Int} (h : RR B.length (rowsF B) l n) (hl : l.length = B.length) : RrD n B := by
  have hk : ∀ t, t < B.length → leadOf (B.getD t []) = pv l t := fun t ht => leadOf_at (fun j hj => h.2.2.2.2.2 t j om hj) (by
    have := h.2.2.2.1 t t om ht
    rw [if_pos rfl] at this
    unfold rowsF at this
    rw [this]
    decide)
  refine ⟨fun t ht => ?_, fun s hs t ht => ?_, fun t ht i hi => ?_⟩
  · rw [hk t ht]
    exact pv_lt h om
  · rw [hk t om, hk s hs]
    exact pv_mono h ht om
  · rw [hk t ht]
    exact h.2.2.2.1 t i om hi
theorem rr_basL {p : Int} {C : Nat} {B : List (List Int)} (hF : FieldP p) (hB : RowsP p C B) (h : RrD C B) : basL p C B = B := by
  have hp := fieldP_pos hF
  have hR := h.rr
  have hl : (leadL B).length = B.length := by simp [leadL]
  have r1 := redTo_rr hF hB.inF C (Nat.le_refl _)
  have s1 := redTo_spn hF hB.inF C (Nat.le_refl _)
  have i1 := (redTo_in om hB.inF C).1
  obtain ⟨a1, a2⟩ := rr_sub hp.1 hR r1 hB.inF i1 (fun i hi => s1.2 i om)
  have b1 := r1.1
  obtain ⟨c1, c2⟩ := a2 om
  have e : basL p C B = rowL C (rowsF B) B.length := by
    unfold basL
    rw [← c1, hl]
    exact rowL_congr (fun i j hi hj => (c2 i j om hj).symm)
  rw [e]
  refine List.ext_getElem (by rw [rowL_length]) (fun i h1 h2 => ?_)
  have hx := hB.len B[i] (List.getElem_mem h2)
  simp only [rowL, List.getElem_map, List.getElem_range]
  refine List.ext_getElem (by rw [mkv_length, hx]) (fun j h3 h4 => ?_)
  have h5 : j < C := by omega
  have h6 := mkv_get (g := rowsF B i) h5
  rw [List.getD_eq_getElem?_getD, List.getElem?_eq_getElem h3, Option.getD_some] at h6
  rw [h6]
  simp [rowsF, List.getD, h2, h4]
theorem spc_iff {p : Int} {n : Nat} {B : List (List Int)} : SpcP p ((n : Int), B) ↔ FineP p n B ∧ RrD n B := by
  refine ⟨fun h => ⟨h.1, ?_⟩, fun ⟨h1, h2⟩ => ⟨h1, ?_⟩⟩
  · obtain ⟨C, hc, hC, hl, hF, _, hk, hg⟩ := h.rows
    have : C = n := by simp only at hc; omega
    subst this
    simp only at hl hk hg
    have r1 := redTo_rr hF hl.inF C (Nat.le_refl _)
    unfold rkL at hk
    have hr : RR B.length (rowsF B) (redTo p B.length (rowsF B) C).2 C := by
      obtain ⟨q1, q2, q3, q4, q5, q6⟩ := id r1
      exact ⟨q1, q2, q3, fun t i ht hi => by rw [← hg i _ hi (pv_lt r1 ht)]; exact q4 t i ht hi, fun i j h1 h2 => by omega, fun t j ht hj => by
        rw [← hg t j om (by have := pv_lt r1 ht; omega)]
        exact q6 t j ht hj⟩
    exact rrD_of hr hk
  · obtain ⟨C, hc, hC, hl⟩ := h1.rows
    have : C = n := by omega
    subst this
    simp only [Int.toNat_natCast]
    exact rr_basL h1.1 hl h2

def liJ (p : Int) (n : Nat) (v : List Int) (rest : List Sp) : Nat → List Sp
  | 0 => []
  | i + 1 => if SpcP p ((n : Int), v :: (rest.getD i (0, [])).2) then liJ p n v rest i ++ [((n : Int), v :: (rest.getD i (0, [])).2)] else liJ p n v rest i
def liC (p n : Nat) (rest : List Sp) : Nat → List Sp
  | 0 => []
  | c + 1 => liC p n rest c ++ liJ p n (vl p n c) rest rest.length
def lstS (p n : Nat) : Nat → List Sp
  | 0 => [((n : Int), [])]
  | k + 1 => liC p n (lstS p n k) (p ^ n)
def ljJ (n : Nat) (v : List Int) (rest : List Sp) : Nat → List Sp
  | 0 => []
  | i + 1 => if RrD n (v :: (rest.getD i (0, [])).2) then ljJ n v rest i ++ [((n : Int), v :: (rest.getD i (0, [])).2)] else ljJ n v rest i
def ljC (p n : Nat) (rest : List Sp) : Nat → List Sp
  | 0 => []
  | c + 1 => ljC p n rest c ++ ljJ n (vl p n c) rest rest.length
def ltS (p n : Nat) : Nat → List Sp
  | 0 => [((n : Int), [])]
  | k + 1 => ljC p n (ltS p n k) (p ^ n)
theorem liJ_mem {p : Int} {n : Nat} {v : List Int} {rest : List Sp} : ∀ {i : Nat} {s : Sp}, s ∈ liJ p n v rest i → ∃ j, j < i ∧ s = ((n : Int), v :: (rest.getD j (0, [])).2) ∧ SpcP p s
  | 0, s, h => by cases h
  | i + 1, s, h => by
    rw [liJ] at h
    split at h
    · rename_i hs
      rcases List.mem_append.1 h with h | h
      · obtain ⟨j, hj, e⟩ := liJ_mem h; exact ⟨j, by omega, e⟩
      · simp only [List.mem_singleton] at h
        subst h
        exact ⟨i, by omega, rfl, hs⟩
    · obtain ⟨j, hj, e⟩ := liJ_mem h; exact ⟨j, by omega, e⟩
theorem liC_mem {p n : Nat} {rest : List Sp} : ∀ {c : Nat} {s : Sp}, s ∈ liC p n rest c → ∃ q j, q < c ∧ j < rest.length ∧ s = ((n : Int), vl p n q :: (rest.getD j (0, [])).2) ∧ SpcP p s
  | 0, s, h => by cases h
  | c + 1, s, h => by
    rw [liC] at h
    rcases List.mem_append.1 h with h | h
    · obtain ⟨q, j, hq, e⟩ := liC_mem h; exact ⟨q, j, by omega, e⟩
    · obtain ⟨j, hj, e⟩ := liJ_mem h; exact ⟨c, j, by omega, hj, e⟩
theorem vl_vec {p n c : Nat} (hF : FieldP (p : Int)) (hn : n ≤ 8) : ((vl p n c).length : Int) = n ∧ VecP p (vl p n c) := by
  have hp := fieldP_pos hF
  refine ⟨by simp [vl], hF, by simp [vl]; omega, fun x hx => ?_⟩
  obtain ⟨t, _, rfl⟩ := List.mem_map.1 hx
  have := Nat.mod_lt (c / p ^ (n - 1 - t)) (show 0 < p by omega)
  unfold vlF dgt
  omega
theorem lstS_ok {p n : Nat} : ∀ {k : Nat} {s : Sp}, s ∈ lstS p n k → s.1 = n ∧ s.2.length = k ∧ (k = 0 ∨ SpcP p s)
  | 0, s, h => by
    rw [lstS, List.mem_singleton] at h
    subst h
    exact ⟨rfl, rfl, .inl rfl⟩
  | k + 1, s, h => by
    obtain ⟨q, j, hq, hj, e, hs⟩ := liC_mem h
    have hm : (lstS p n k).getD j (0, []) ∈ lstS p n k := by
      rw [List.getD, List.getElem?_eq_getElem hj]
      exact List.getElem_mem hj
    have h2 := (lstS_ok hm).2.1
    subst e
    exact ⟨rfl, by simp only [List.length_cons]; omega, .inr hs⟩
theorem lstS_eq {p n : Nat} (hF : FieldP (p : Int)) (hn : n ≤ 8) : ∀ {k : Nat}, k ≤ 15 → lstS p n k = ltS p n k
  | 0, _ => rfl
  | k + 1, hk => by
    have ih := lstS_eq hF hn (k := k) om
    rw [lstS, ltS, ← ih]
    have hv : ∀ c i, i ≤ (lstS p n k).length → liJ p n (vl p n c) (lstS p n k) i = ljJ n (vl p n c) (lstS p n k) i := fun c i => by
      induction i with
      | zero => intro _; rfl
      | succ i ih2 =>
        intro hi
        have hm : (lstS p n k).getD i (0, []) ∈ lstS p n k := by
          rw [List.getD, List.getElem?_eq_getElem om]
          exact List.getElem_mem om
        obtain ⟨h1, h2, h3⟩ := lstS_ok hm
        have hiff : SpcP p ((n : Int), vl p n c :: ((lstS p n k).getD i (0, [])).2) ↔ RrD n (vl p n c :: ((lstS p n k).getD i (0, [])).2) := by
          rw [spc_iff]
          refine ⟨fun h => h.2, fun h => ⟨⟨hF, by omega, ?_, fun v hv => ?_⟩, h⟩⟩
          · simp only [List.length_cons]; omega
          · rcases List.mem_cons.1 hv with e | hv
            · subst e; exact vl_vec hF hn
            · rcases h3 with h3 | h3
              · rw [List.length_eq_zero_iff.1 (h2.trans h3)] at hv; cases hv
              · have := h3.1.2.2.2 v hv
                rw [h1] at this
                exact this
        rw [liJ, ljJ, ih2 om]
        by_cases h4 : RrD n (vl p n c :: ((lstS p n k).getD i (0, [])).2)
        · rw [if_pos h4, if_pos (hiff.2 h4)]
        · rw [if_neg h4, if_neg (fun h => h4 (hiff.1 h))]
    have hc : ∀ c, liC p n (lstS p n k) c = ljC p n (lstS p n k) c := fun c => by
      induction c with
      | zero => rfl
      | succ c ih3 => rw [liC, ljC, ih3, hv c _ (Nat.le_refl _)]
    exact hc _
end Go.Proofs.YtcplmeajmpkpkaaGreat

namespace Go.Proofs.YtcplmeajmpkpkaaGreat
open Go.Lg Go.Proofs Go.RowKit

def lxI (x y : Int) : Int := if x < y then -1 else if y < x then 1 else 0
def lxL {α : Type} (c : α → α → Int) : List α → List α → Int
  | [], [] => 0
  | [], _ :: _ => -1
  | _ :: _, [] => 1
  | x :: xs, y :: ys => if c x y = 0 then lxL c xs ys else c x y
structure Lin {α : Type} (c : α → α → Int) : Prop where
  zero : ∀ x y, c x y = 0 ↔ x = y
  anti : ∀ x y, c x y < 0 ↔ 0 < c y x
  tr : ∀ x y z, c x y < 0 → c y z < 0 → c x z < 0
theorem lxI_lin : Lin lxI := by
  refine ⟨fun x y => ?_, fun x y => ?_, fun x y z => ?_⟩
  · unfold lxI
    by_cases h : x < y
    · rw [if_pos h]; omega
    · rw [if_neg h]
      by_cases h2 : y < x
      · rw [if_pos h2]; omega
      · rw [if_neg h2]; omega
  · unfold lxI
    by_cases h : x < y
    · rw [if_pos h, if_neg om, if_pos h]; omega
    · rw [if_neg h]
      by_cases h2 : y < x
      · rw [if_pos h2, if_pos h2]; omega
      · rw [if_neg h2, if_neg h2, if_neg h]
  · unfold lxI
    by_cases h : x < y
    · rw [if_pos h]
      by_cases h2 : y < z
      · rw [if_pos h2, if_pos om]; omega
      · rw [if_neg h2]; intro _ h3; split at h3 <;> omega
    · rw [if_neg h]; intro h3; split at h3 <;> omega
theorem lxL_lin {α : Type} {c : α → α → Int} (h : Lin c) : Lin (lxL c) := by
  have c0 : ∀ x, c x x = 0 := fun x => (h.zero x x).2 rfl
  refine ⟨fun x => ?_, fun x => ?_, fun x => ?_⟩
  · induction x with
    | nil => intro y; cases y <;> simp [lxL]
    | cons a x ih =>
      intro y
      cases y with
      | nil => simp [lxL]
      | cons b y =>
        rw [lxL]
        by_cases e : c a b = 0
        · rw [if_pos e, ih, List.cons.injEq]
          exact ⟨fun k => ⟨(h.zero _ _).1 e, k⟩, fun k => k.2⟩
        · rw [if_neg e, List.cons.injEq]
          exact ⟨fun k => absurd k e, fun k => absurd ((h.zero _ _).2 k.1) e⟩
  · induction x with
    | nil => intro y; cases y <;> simp [lxL]
    | cons a x ih =>
      intro y
      cases y with
      | nil => simp [lxL]
      | cons b y =>
        rw [lxL, lxL]
        by_cases e : c a b = 0
        · have := (h.zero _ _).1 e
          subst this
          rw [if_pos e, if_pos e]
          exact ih y
        · rw [if_neg e, if_neg (fun k => e ((h.zero _ _).2 ((h.zero _ _).1 k).symm))]
          exact h.anti a b
  · induction x with
    | nil =>
      intro y z
      cases y with
      | nil => intro h1; simp [lxL] at h1
      | cons b y => cases z <;> simp [lxL]
    | cons a x ih =>
      intro y z
      cases y with
      | nil => intro h1; simp [lxL] at h1
      | cons b y =>
        cases z with
        | nil => intro _ h2; simp [lxL] at h2
        | cons d z =>
          rw [lxL, lxL, lxL]
          by_cases e1 : c a b = 0
          · have := (h.zero _ _).1 e1
            subst this
            rw [if_pos e1]
            by_cases e2 : c a d = 0
            · rw [if_pos e2, if_pos e2]; exact ih y z
            · rw [if_neg e2, if_neg e2]; exact fun _ k => k
          · rw [if_neg e1]
            by_cases e2 : c b d = 0
            · have := (h.zero _ _).1 e2
              subst this
              rw [if_pos e2, if_neg e1]; exact fun k _ => k
            · rw [if_neg e2]
              intro k1 k2
              have k3 := h.tr _ _ _ k1 k2
              rw [if_neg om]
              exact k3
theorem lin_swo {α β : Type} {c : β → β → Int} (h : Lin c) (f : α → β) : Go.Sort.SWO (fun x y => decide (c (f x) (f y) < 0)) := by
  refine ⟨fun x => ?_, fun x y z h1 h2 => ?_, fun x y z h1 h2 => ?_⟩
  · rw [(h.zero _ _).2 rfl]; rfl
  · simp only [decide_eq_true_eq] at h1 h2 ⊢
    exact h.tr _ _ _ h1 h2
  · simp only [decide_eq_false_iff_not] at h1 h2 ⊢
    intro h3
    by_cases e1 : c (f x) (f y) = 0
    · rw [(h.zero _ _).1 e1] at h3; exact h2 h3
    · have h4 : c (f y) (f x) < 0 := (h.anti _ _).2 om
      exact h2 (h.tr _ _ _ h4 h3)
theorem sorted_one {α β : Type} {c : β → β → Int} (h : Lin c) {f : α → β} {l m : List α} (hp : l.Perm m) (hs : l.Pairwise (fun x y => ¬ c (f y) (f x) < 0)) (hm : m.Pairwise (fun x y => c (f x) (f y) < 0)) : l = m := by
  refine hp.eq_of_pairwise (le := fun x y => ¬ c (f y) (f x) < 0) (fun x y hx hy h1 h2 => ?_) hs (hm.imp (fun {x y} h1 => ?_))
  · have hxy : f x = f y := by
      refine (h.zero _ _).1 ?_
      have := h.anti (f y) (f x)
      omega
    apply Classical.byContradiction
    intro hne
    have hxm : x ∈ m := hp.mem_iff.1 hx
    have : ∀ {m : List α}, m.Pairwise (fun x y => c (f x) (f y) < 0) → x ∈ m → y ∈ m → False := fun {m} hm => by
      induction hm with
      | nil => intro k; cases k
      | cons h1 _ ih =>
        intro k1 k2
        have c0 : c (f y) (f y) = 0 := (h.zero _ _).2 rfl
        rcases List.mem_cons.1 k1 with e1 | e1
        · rcases List.mem_cons.1 k2 with e2 | e2
          · exact hne (e1.trans e2.symm)
          · have := h1 _ e2
            rw [← e1, hxy] at this; omega
        · rcases List.mem_cons.1 k2 with e2 | e2
          · have := h1 _ e1
            rw [← e2, hxy] at this; omega
          · exact ih e1 e2
    exact this hm hxm hy
  · have := (h.anti (f x) (f y)).1 h1
    omega
end Go.Proofs.YtcplmeajmpkpkaaGreat
