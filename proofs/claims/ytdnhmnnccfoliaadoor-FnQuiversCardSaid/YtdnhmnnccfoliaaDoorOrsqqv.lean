import Derived.Test.YtdnhmnnccfoliaaDoorCopqqv
import Derived.Test.YtdnhmnnccfoliaaDoorDatqqv
import Derived.Test.YtdnhmnnccfoliaaDoorFitqqv
import Derived.Test.YtdnhmnnccfoliaaDoorInvqqv
import Derived.Test.YtdnhmnnccfoliaaDoorKerqqv
import Derived.Test.YtdnhmnnccfoliaaDoorLBqqv
import Derived.Test.YtdnhmnnccfoliaaDoorLCqqv
import Derived.Test.YtdnhmnnccfoliaaDoorLEqqv
import Derived.Test.YtdnhmnnccfoliaaDoorLwsqqv
import Derived.Test.YtdnhmnnccfoliaaDoorMxfqqv
import Derived.Test.YtdnhmnnccfoliaaDoorPatqqv
import Derived.Test.YtdnhmnnccfoliaaDoorPrmqqv
import Derived.Test.YtdnhmnnccfoliaaDoorQupqqv
import Derived.Test.YtdnhmnnccfoliaaDoorRdPqqv
import Derived.Test.YtdnhmnnccfoliaaDoorSpbqqv
import Derived.Test.YtdnhmnnccfoliaaDoorSpmqqv
import Derived.Test.YtdnhmnnccfoliaaDoorTabqqv
import Derived.Test.YtdnhmnnccfoliaaDoorZerqqv
namespace Go.Proofs.YtdnhmnnccfoliaaDoor
open Go.Lg Go.Proofs Go.RowKit

def Rdy (q : Qv) (out : List Int) (v : Int) : Prop := v ∉ out ∧ ∀ i, i < q.2.2.length → q.2.2.getD i 0 = v → q.2.1.getD i 0 ∈ out
instance (q : Qv) (out : List Int) (v : Int) : Decidable (Rdy q out v) := by unfold Rdy; infer_instance
def bst (q : Qv) (out : List Int) (n : Nat) : Nat → Int
  | 0 => -1
  | j + 1 => if Rdy q out ((n : Int) - 1 - j) then (n : Int) - 1 - j else bst q out n j
theorem bst_is {q : Qv} {out : List Int} {n : Nat} : ∀ j, j ≤ n → bst q out n j = -1 ∨ (0 ≤ bst q out n j ∧ bst q out n j < n ∧ Rdy q out (bst q out n j))
  | 0, _ => .inl rfl
  | j + 1, h => by
    rw [bst]
    split
    · rename_i hr
      exact .inr ⟨by omega, by omega, hr⟩
    · exact bst_is j om
def ordN (q : Qv) (n : Nat) : Nat → Option (List Int)
  | 0 => some []
  | t + 1 => (ordN q n t).bind (fun out => if bst q out n n < 0 then none else some (out ++ [bst q out n n]))
structure Ord (q : Qv) (n : Nat) (out : List Int) : Prop where
  nd : out.Nodup
  rng : ∀ x ∈ out, 0 ≤ x ∧ x < n
  lead : ∀ k i, k < out.length → i < q.2.2.length → q.2.2.getD i 0 = out.getD k 0 → q.2.1.getD i 0 ∈ out.take k
theorem ord_next {q : Qv} {n : Nat} {out : List Int} (h : Ord q n out) (hb : ¬ bst q out n n < 0) : Ord q n (out ++ [bst q out n n]) := by
  obtain h0 | ⟨h1, h2, h3, h4⟩ := bst_is (q := q) (out := out) (n := n) n (Nat.le_refl n)
  · omega
  · refine ⟨?_, ?_, ?_⟩
    · refine List.nodup_append.2 ⟨h.nd, by simp, fun a ha b hb' e => ?_⟩
      simp only [List.mem_singleton] at hb'
      subst e; subst hb'
      exact h3 ha
    · intro x hx
      rcases List.mem_append.1 hx with hx | hx
      · exact h.rng x hx
      · simp only [List.mem_singleton] at hx
        subst hx
        exact ⟨h1, h2⟩
    · intro k i hk hi e
      rw [List.length_append, List.length_singleton] at hk
      by_cases hkl : k < out.length
      · rw [List.take_append_of_le_length om]
        refine h.lead k i hkl hi ?_
        rw [e, List.getD, List.getD, List.getElem?_append_left hkl]
      · have : k = out.length := by omega
        subst this
        rw [List.take_left']
        · refine h4 i hi ?_
          rw [e, List.getD, List.getElem?_append_right (Nat.le_refl _)]
          simp
        · rfl
theorem ordN_ord {q : Qv} {n : Nat} : ∀ t out, ordN q n t = some out → out.length = t ∧ Ord q n out
  | 0, out, h => by
    simp only [ordN, Option.some.injEq] at h
    subst h
    exact ⟨rfl, ⟨List.nodup_nil, by simp, by simp⟩⟩
  | t + 1, out, h => by
    rw [ordN] at h
    cases h0 : ordN q n t with
    | none => rw [h0] at h; simp at h
    | some o =>
      rw [h0] at h
      obtain ⟨hl, ho⟩ := ordN_ord t o h0
      simp only [Option.bind_some] at h
      split at h
      · simp at h
      · rename_i hb
        simp only [Option.some.injEq] at h
        subst h
        exact ⟨by simp [hl], ord_next ho hb⟩
theorem ordN_none {q : Qv} {n t : Nat} (h : ordN q n t = none) : ∀ u, ordN q n (t + u) = none
  | 0 => h
  | u + 1 => by rw [show t + (u + 1) = (t + u) + 1 by omega, ordN, ordN_none h u]; rfl
def OrdP (q : Qv) : Prop := QuivP q ∧ (ordN q q.1.toNat q.1.toNat).isSome = true
instance (q : Qv) : Decidable (OrdP q) := by unfold OrdP; infer_instance
def ordL (q : Qv) : List Int := if QuivP q then (ordN q q.1.toNat q.1.toNat).getD [] else []
theorem ordL_of {q : Qv} (h : OrdP q) : ordN q q.1.toNat q.1.toNat = some (ordL q) ∧ (ordL q).length = q.1.toNat ∧ Ord q q.1.toNat (ordL q) := by
  obtain ⟨out, ho⟩ := Option.isSome_iff_exists.1 h.2
  have e : ordL q = out := by rw [ordL, if_pos h.1, ho]; rfl
  rw [e]
  exact ⟨ho, ordN_ord _ _ ho⟩
theorem full_mem {n : Nat} {m : List Int} (hd : m.Nodup) (hr : ∀ x ∈ m, 0 ≤ x ∧ x < (n : Int)) (hl : m.length = n) {v : Int} (h0 : 0 ≤ v) (h1 : v < n) : v ∈ m := by
  have hnd : ((List.range n).map Int.ofNat).Nodup := by
    rw [List.Nodup, List.pairwise_map]
    exact List.nodup_range.imp (fun h e => h (Int.ofNat.inj e))
  have hp : (((List.range n).map Int.ofNat).filter (fun x => decide (x ∈ m))).Perm m := by
    refine (List.perm_ext_iff_of_nodup (hnd.filter _) hd).2 (fun x => ?_)
    simp only [List.mem_filter, decide_eq_true_eq, List.mem_map, List.mem_range]
    constructor
    · exact fun h => h.2
    · exact fun h => ⟨⟨x.toNat, by have := hr x h; omega, by have := hr x h; exact Int.toNat_of_nonneg this.1⟩, h⟩
  have hlen := hp.length_eq
  rw [hl] at hlen
  have hall := (List.length_filter_eq_length_iff (l := (List.range n).map Int.ofNat) (p := fun x => decide (x ∈ m))).1 (by rw [hlen]; simp)
  have := hall v (by simp only [List.mem_map, List.mem_range]; exact ⟨v.toNat, by omega, Int.toNat_of_nonneg h0⟩)
  simpa using this
theorem ord_at {m : List Int} {x : Int} (h : x ∈ m) : ∃ k, k < m.length ∧ m.getD k 0 = x := by
  obtain ⟨k, hk, e⟩ := List.getElem_of_mem h
  exact ⟨k, hk, by rw [List.getD, List.getElem?_eq_getElem hk, e]; rfl⟩
theorem ord_one {m : List Int} (hd : m.Nodup) {j k : Nat} (hj : j < m.length) (hk : k < m.length) (e : m.getD j 0 = m.getD k 0) : j = k := by
  rw [List.getD, List.getD, List.getElem?_eq_getElem hj, List.getElem?_eq_getElem hk] at e
  simp only [Option.getD_some] at e
  exact (List.getElem_inj hd).1 e
theorem ord_ahead {q : Qv} (h : OrdP q) {i : Nat} (hi : i < q.2.1.length) : ∃ a b, a < b ∧ b < (ordL q).length ∧ (ordL q).getD a 0 = q.2.1.getD i 0 ∧ (ordL q).getD b 0 = q.2.2.getD i 0 := by
  obtain ⟨_, hl, ho⟩ := ordL_of h
  obtain ⟨⟨h1, h5⟩, h6, hlen, hf, ht⟩ := h.1
  have hi2 : i < q.2.2.length := by omega
  have hm : q.2.2.getD i 0 ∈ q.2.2 := by rw [List.getD, List.getElem?_eq_getElem hi2]; exact List.getElem_mem hi2
  have hin := ht _ hm
  have hmem : q.2.2.getD i 0 ∈ ordL q := full_mem ho.nd ho.rng hl om om
  obtain ⟨b, hb, eb⟩ := ord_at hmem
  have hlead := ho.lead b i hb hi2 eb.symm
  obtain ⟨a, ha, ea⟩ := ord_at hlead
  have hab : a < b := by rw [List.length_take] at ha; omega
  refine ⟨a, b, hab, hb, ?_, eb⟩
  rw [← ea, List.getD, List.getD, List.getElem?_take_of_lt hab]
end Go.Proofs.YtdnhmnnccfoliaaDoor

namespace Go.Proofs.YtdnhmnnccfoliaaDoor
open Go.Lg Go.Proofs Go.RowKit
attribute [local irreducible] Code.wp wpList bodyPost Exit.then Exit.inBlock Hp Again Calls Y AT ResV QT Qn QI wpAny wpAnyQ
set_option maxRecDepth 20000
set_option maxHeartbeats 4000000

abbrev GivesIB (x : List Int) (b : Bool) (r : Value) (H : List HE) : Prop := ∃ a c, r = .tuple #[.slice a x.length c, .bool b] ∧ SA a x.length ∧ H = [.own (iT x) (.slice a x.length c)]
end Go.Proofs.YtdnhmnnccfoliaaDoor

namespace Go.Lg
open Go.RowKit
theorem y_neqi_ne {P : Program} {n : Nat} {C : World → Prop} {s : List (Nat × Value)} {x y : Operand} {p q : Int} {t t' ty : Nat} (hx : ev s x = some (.int .i64 p)) (hy : ev s y = some (.int .i64 q)) (h : p ≠ q) : Y P n C s (.binOp .neq t x y t') ty (.bool true) := by
  have := y_neq (P := P) (n := n) (C := C) (s := s) (t := t) (t' := t') (ty := ty) hx hy
  rwa [decide_eq_true h] at this
theorem y_neqi_e {P : Program} {n : Nat} {C : World → Prop} {s : List (Nat × Value)} {x y : Operand} {p q : Int} {t t' ty : Nat} (hx : ev s x = some (.int .i64 p)) (hy : ev s y = some (.int .i64 q)) (h : p = q) : Y P n C s (.binOp .neq t x y t') ty (.bool false) := by
  have := y_neq (P := P) (n := n) (C := C) (s := s) (t := t) (t' := t') (ty := ty) hx hy
  rwa [decide_eq_false (fun k => k h)] at this
end Go.Lg
namespace Go.Proofs.YtdnhmnnccfoliaaDoor
open Go.Lg Go.Proofs Go.RowKit
attribute [local irreducible] Code.wp wpList bodyPost Exit.then Exit.inBlock Hp Again Calls Y AT ResV QT Qn QI wpAny wpAnyQ
set_option maxRecDepth 20000
set_option maxHeartbeats 4000000

theorem spec_OrderOf_ok {w : World} {q : Qv} {u0 u1 : Value} (h0 : Rd w (iT q.2.1) u0) (h1 : Rd w (iT q.2.2) u1) : Does Tryd.prog 20 [.agg #[iV q.1, u0, u1]] w (GivesIB (ordL q) (decide (OrdP q))) := by
  by_cases hQ : QuivP q
  · obtain ⟨q1, F, T⟩ := q
    obtain ⟨n, rfl⟩ : ∃ n : Nat, q1 = n := ⟨q1.toNat, by have := hQ.1; omega⟩
    have hn5 : n ≤ 5 := by have := hQ.1; omega
    have hn1 : 1 ≤ n := by have := hQ.1; omega
    have hF6 : F.length ≤ 6 := hQ.2.1
    have hFT : T.length = F.length := hQ.2.2.1
    have eO : ordL ((n : Int), F, T) = (ordN ((n : Int), F, T) n n).getD [] := by rw [ordL, if_pos hQ]; rfl
    have eP : decide (OrdP ((n : Int), F, T)) = (ordN ((n : Int), F, T) n n).isSome := by
      cases h : (ordN ((n : Int), F, T) n n).isSome with
      | true => exact decide_eq_true ⟨hQ, h⟩
      | false => exact decide_eq_false (fun k => by have := k.2; rw [show ((n : Int), F, T).1.toNat = n from rfl, h] at this; cases this)
    rw [eO, eP]
    simp only at h0 h1
    obtain ⟨a0, c0, rfl, hs0, _, hm0, hg0⟩ := h0.ints
    obtain ⟨a1, c1, rfl, hs1, _, hm1, hg1⟩ := h1.ints
    have ISQ : True := trivial
    refine fn_enter Tryd.func20 rfl Tryd.ntmps20 rfl ?_
    repeat' (first | (show oL; first | refine sAs rfl rfl ?_ | (show oA (.box _ _); refine m_box rfl rfl (fun b hb => ?_)) | (show oA (.buildSlice _ _ _); refine m_build0 tabs rfl rfl (fun gb hgb => ?_))) | refine xNt ?_ | (show oC; first | refine c_seq ?_ | refine c_region ?_ | refine c_block ?_))
    refine c_loopH (α := Nat × List Int × Option Addr × Nat) [1] (fun s => [(4, .slice s.2.2.1 s.1 s.2.2.2)]) (fun s => (s.1 ≤ n ∧ s.2.1.length = s.1) ∧ ordN ((n : Int), F, T) n s.1 = some s.2.1) (fun s => [.own (iT s.2.1) (.slice s.2.2.1 s.1 s.2.2.2), .blk b #[iV n, .slice a0 F.length c0, .slice a1 T.length c1] 26]) (fun s => n - s.1) (0, [], some ⟨gb, 0, none⟩, 0) rfl sB ?_ ?_ ?_
    · exact ⟨⟨Nat.zero_le _, rfl⟩, rfl⟩
    · exact fun w' c' => c'
    · rintro ⟨t, out, ao, co⟩ ⟨⟨ht, hol⟩, hor⟩
      simp only at ht hol hor ⊢
      by_cases htn : t < n
      · repeat' (first | (show oL; first | refine sMv rfl rfl ?_ | refine sAs rfl rfl ?_ | refine sFd tabs rfl rfl rfl rfl ?_ | (show oA (.load _ _); first | refine sLd 1 tabs rfl rfl rfl rfl rfl ?_ | refine sLb 1 tabs rfl rfl rfl rfl rfl ?_) | (show oA (.binOp _ _ _ _ _); first | refine st_y (y_sub rfl rfl om) rfl ?_ | refine sLs rfl rfl rfl ?_) | (show oA (.call _); first | (refine m_call (ent_of Tryd.func11 kr rfl) rfl rfl (fun w c => spec_IsQuiver_ok (q := ((n : Int), F, T)) (c.rd h0) (c.rd h1)) ?_; rw [decide_eq_true hQ]; rintro v H' ⟨rfl, rfl⟩) | refine sLn tabs rfl rfl rfl ?_) | (show oA (.pick _ _ _); refine st_y (y_pick rfl rfl rfl) rfl ?_) | refine st_gy rfl rfl ?_) | refine xNt ?_ | (show oC; first | refine c_seq ?_ | refine c_region ?_ | refine c_skip (x_then ?_) | refine c_block ?_ | refine c_ift rfl aO ?_))
        refine c_loopH (α := Nat) [1, 4] (fun j => [(5, iV (bst ((n : Int), F, T) out n j)), (6, iV ((n : Int) - 1 - j))]) (fun j => j ≤ n) (fun j => [.own (iT out) (.slice ao t co), .blk b #[iV n, .slice a0 F.length c0, .slice a1 T.length c1] 26]) (fun j => n - j) 0 rfl sB ?_ ?_ ?_
        · exact Nat.zero_le _
        · exact fun w' c' => c'
        · intro j hj
          by_cases hjn : j < n
          · repeat' (first | (show oL; first | refine sMv rfl rfl ?_ | refine sAs rfl rfl ?_ | (show oA (.binOp _ _ _ _ _); refine st_y (y_geq rfl rfl) rfl ?_) | (show oA (.unOp _ _ _); refine st_y (y_notd rfl) rfl ?_) | (show oA (.call _); (refine m_call (ent_of Tryd.func51 kr rfl) rfl rfl (fun w c => l4Has_ok (xs := out) (c.own_rd (i := 0) rfl)) ?_; rintro v H' ⟨rfl, rfl⟩))) | refine xNt ?_ | (show oC; first | refine c_seq ?_ | refine c_region ?_ | refine c_skip (x_then ?_) | refine c_block ?_ | refine c_ift rfl aO ?_))
            refine c_loopH (α := Bool × Nat) [1, 4, 5, 6] (fun s => [(7, .bool s.1), (8, iV s.2)]) (fun s => s.2 ≤ F.length ∧ (s.1 = decide ((n : Int) - 1 - j ∉ out ∧ ∀ i, i < s.2 → T.getD i 0 = (n : Int) - 1 - j → F.getD i 0 ∈ out))) (fun s => [.own (iT out) (.slice ao t co), .blk b #[iV n, .slice a0 F.length c0, .slice a1 T.length c1] 26]) (fun s => F.length - s.2) (decide (¬ (n : Int) - 1 - j ∈ out), 0) rfl sB ?_ ?_ ?_
            · refine ⟨Nat.zero_le _, ?_⟩
              simp
            · exact fun w' c' => c'
            · rintro ⟨bb, i⟩ ⟨hi, hbb⟩
              simp only at hi hbb ⊢
              by_cases hin : i < F.length
              · have hin1 : i < T.length := by omega
                cases bb with
                | false =>
                  repeat' (first | (show oL; first | refine sMv rfl rfl ?_ | refine sAs rfl rfl ?_ | refine sFd tabs rfl rfl rfl rfl ?_ | refine sLd 1 tabs rfl rfl rfl rfl rfl ?_ | (show oA (.binOp _ _ _ _ _); first | refine sAd rfl rfl om rfl ?_ | refine sLs rfl rfl rfl ?_) | refine sLn tabs rfl rfl rfl ?_ | (show oA (.pick _ _ _); refine st_y (y_pick rfl rfl rfl) rfl ?_) | refine st_gn rfl rfl rfl ?_ | refine st_gu rfl rfl rfl ?_) | (show oN; first | refine c_nil (x_then ?_) | refine c_nil ?_) | (show oC; first | refine c_seq ?_ | refine c_region ?_ | refine c_skip (x_then ?_) | refine c_block ?_ | refine c_ift rfl aO ?_) | (show AT _ _ _ _; first | refine x_then ?_ | refine x_blk ?_))
                  exact x_nx (false, i + 1) sB ⟨by simp only; omega, by
                    refine (decide_eq_false (fun k => ?_)).symm
                    exact of_decide_eq_false hbb.symm ⟨k.1, fun i' hi' => k.2 i' om⟩⟩ (fun w' c' => c') (by simp only; omega)
                | true =>
                  have hb2 := of_decide_eq_true hbb.symm
                  by_cases hv : T.getD i 0 = (n : Int) - 1 - j
                  · repeat' (first | (show oL; first | refine sMv rfl rfl ?_ | refine sAs rfl rfl ?_ | refine sFd tabs rfl rfl rfl rfl ?_ | (show oA (.load _ _); first | refine st_y (y_load tabs rfl rfl (hc_w0 (hg0 i hin))) rfl ?_ | refine st_y (y_load tabs rfl rfl (hc_w0 (hg1 i hin1))) rfl ?_ | refine sLd 1 tabs rfl rfl rfl rfl rfl ?_) | (show oA (.indexAddr _ _ _); first | refine st_y (y_ix1 tabs (j := i) rfl rfl rfl hs0 rfl hin) rfl ?_ | refine st_y (y_ix1 tabs (j := i) rfl rfl rfl hs1 rfl hin1) rfl ?_) | (show oA (.binOp _ _ _ _ _); first | refine st_y (y_neqi_e rfl rfl hv) rfl ?_ | refine sAd rfl rfl om rfl ?_ | refine sLs rfl rfl rfl ?_) | (show oA (.call _); first | (refine m_call (ent_of Tryd.func51 kr rfl) rfl rfl (fun w c => l4Has_ok (xs := out) (c.own_rd (i := 0) rfl)) ?_; rintro v H' ⟨rfl, rfl⟩) | refine sLn tabs rfl rfl rfl ?_) | (show oA (.pick _ _ _); refine st_y (y_pick rfl rfl rfl) rfl ?_) | refine st_gy rfl rfl ?_) | (show oN; first | refine c_nil (x_then ?_) | refine c_nil ?_) | (show oC; first | refine c_seq ?_ | refine c_region ?_ | refine c_skip (x_then ?_) | refine c_block ?_ | refine c_ift rfl aO ?_) | (show AT _ _ _ _; first | refine x_then ?_ | refine x_blk ?_))
                    exact x_nx (decide (F.getD i 0 ∈ out), i + 1) sB ⟨by simp only; omega, by
                      by_cases hf : F.getD i 0 ∈ out
                      · rw [decide_eq_true hf]
                        refine (decide_eq_true ⟨hb2.1, fun i' hi' e => ?_⟩).symm
                        by_cases he : i' = i
                        · subst he; exact hf
                        · exact hb2.2 i' om e
                      · rw [decide_eq_false hf]
                        exact (decide_eq_false (fun k => hf (k.2 i om hv))).symm⟩ (fun w' c' => c') (by simp only; omega)
                  · repeat' (first | (show oL; first | refine sMv rfl rfl ?_ | refine sAs rfl rfl ?_ | refine sFd tabs rfl rfl rfl rfl ?_ | (show oA (.load _ _); first | refine st_y (y_load tabs rfl rfl (hc_w0 (hg1 i hin1))) rfl ?_ | refine sLd 1 tabs rfl rfl rfl rfl rfl ?_) | (show oA (.indexAddr _ _ _); refine st_y (y_ix1 tabs (j := i) rfl rfl rfl hs1 rfl hin1) rfl ?_) | (show oA (.binOp _ _ _ _ _); first | refine st_y (y_neqi_ne rfl rfl hv) rfl ?_ | refine sAd rfl rfl om rfl ?_ | refine sLs rfl rfl rfl ?_) | refine sLn tabs rfl rfl rfl ?_ | (show oA (.pick _ _ _); refine st_y (y_pick rfl rfl rfl) rfl ?_) | refine st_gy rfl rfl ?_ | refine st_gn rfl rfl rfl ?_) | (show oN; first | refine c_nil (x_then ?_) | refine c_nil ?_) | (show oC; first | refine c_seq ?_ | refine c_region ?_ | refine c_skip (x_then ?_) | refine c_block ?_ | refine c_ift rfl aO ?_) | (show AT _ _ _ _; first | refine x_then ?_ | refine x_blk ?_))
                    exact x_nx (true, i + 1) sB ⟨by simp only; omega, by
                      refine (decide_eq_true ⟨hb2.1, fun i' hi' e => ?_⟩).symm
                      by_cases he : i' = i
                      · subst he; exact absurd e hv
                      · exact hb2.2 i' om e⟩ (fun w' c' => c') (by simp only; omega)
              · have : i = F.length := by omega
                subst this
                have eR : decide (Rdy ((n : Int), F, T) out ((n : Int) - 1 - j)) = bb := by
                  rw [hbb]
                  refine decide_eq_decide.2 ?_
                  unfold Rdy
                  simp only [hFT]
                cases bb with
                | false =>
                  have hr := of_decide_eq_false eR
                  repeat' (first | (show oL; first | refine sMv rfl rfl ?_ | refine sAs rfl rfl ?_ | refine sFd tabs rfl rfl rfl rfl ?_ | refine sLd 1 tabs rfl rfl rfl rfl rfl ?_ | (show oA (.binOp _ _ _ _ _); first | refine st_y (y_sub rfl rfl om) rfl ?_ | refine sLs rfl rfl rfl ?_) | refine sLn tabs rfl rfl rfl ?_) | refine xNt ?_ | (show oC; first | refine c_seq ?_ | refine c_region ?_ | refine c_skip (x_blk ?_) | refine c_exit ?_ | refine c_false rfl ?_ | refine c_iff rfl nN ?_) | (show AT _ _ _ _; first | refine x_then ?_ | refine x_then_exit ?_ | refine x_blk_exit rfl ?_))
                  exact x_nx (j + 1) (by rw [bst, if_neg hr]; exact sB) om (fun w' c' => c') om
                | true =>
                  have hr := of_decide_eq_true eR
                  repeat' (first | (show oL; first | refine sMv rfl rfl ?_ | refine sAs rfl rfl ?_ | refine sFd tabs rfl rfl rfl rfl ?_ | refine sLd 1 tabs rfl rfl rfl rfl rfl ?_ | (show oA (.binOp _ _ _ _ _); first | refine st_y (y_sub rfl rfl om) rfl ?_ | refine sLs rfl rfl rfl ?_) | refine sLn tabs rfl rfl rfl ?_) | (show oN; first | refine c_nil (x_then ?_) | refine c_nil ?_) | (show oC; first | refine c_seq ?_ | refine c_region ?_ | refine c_exit ?_ | refine c_true rfl ?_ | refine c_iff rfl nN ?_) | (show AT _ _ _ _; first | refine x_then ?_ | refine x_then_exit ?_ | refine x_blk_exit rfl ?_ | refine x_blk ?_))
                  exact x_nx (j + 1) (by rw [bst, if_pos hr]; exact sB) om (fun w' c' => c') om
          · have : j = n := by omega
            subst this
            have hbd := bst_is (q := ((j : Int), F, T)) (out := out) (n := j) j (Nat.le_refl j)
            have hN : ordN ((j : Int), F, T) j (t + 1) = if bst ((j : Int), F, T) out j j < 0 then none else some (out ++ [bst ((j : Int), F, T) out j j]) := by rw [ordN, hor]; rfl
            repeat' (first | (show oL; first | refine sMv rfl rfl ?_ | refine sAs rfl rfl ?_ | (show oA (.binOp _ _ _ _ _); first | refine sLs rfl rfl rfl ?_ | refine st_y (y_geq rfl rfl) rfl ?_) | (show oA (.call _); refine m_pushn 0 tabs rfl rfl rfl rfl rfl hol om (fun a9 c9 => ?_)) | (show oA (.buildSlice _ _ _); first | refine m_build0 tabs rfl rfl (fun gc hgc => ?_) | refine m_build1 tabs (us := [iV (bst ((j : Int), F, T) out j j)]) rfl rfl rfl rfl (by decide) rfl (fun g5 hg5 => ?_))) | (show oN; first | refine c_nil (x_then ?_) | refine c_nil ?_) | (show oC; first | refine c_seq ?_ | refine c_region ?_ | refine c_skip (x_then ?_) | refine c_ret ?_ | refine c_exit ?_ | refine c_iff rfl nN ?_ | refine c_if rfl (fun h => ?_) (fun h => ?_)) | (show AT _ _ _ _; first | refine x_then ?_ | refine x_then_ret ?_ | refine x_blk_ret ?_ | refine x_then_exit ?_ | refine x_blk_exit rfl ?_ | refine x_blk ?_))
            · have hb : bst ((j : Int), F, T) out j j < 0 := by assumption
              have hno : ordN ((j : Int), F, T) j j = none := by
                have := ordN_none (q := ((j : Int), F, T)) (n := j) (t := t + 1) (by rw [hN, if_pos hb]) (j - (t + 1))
                rwa [show t + 1 + (j - (t + 1)) = j by omega] at this
              rw [hno]
              exact x_ret2 Tryd.results20 (res_tmp rfl) (res_tmp rfl) (fun w' c' => ⟨_, _, rfl, ⟨_, _, rfl, .inl rfl, rfl⟩, c'.sub (.cons_cons _ (List.nil_sublist _))⟩)
            · have hb : ¬ bst ((j : Int), F, T) out j j < 0 := by assumption
              exact x_nx (t + 1, out ++ [bst ((j : Int), F, T) out j j], a9, c9) sB ⟨⟨by simp only; omega, by simp only [List.length_append, List.length_singleton]; omega⟩, by simp only; rw [hN, if_neg hb]⟩ (fun w' c' => c') (by simp only; omega)
      · have : t = n := by omega
        subst this
        refine AT.fact (own_sl 0 rfl) (fun hsl => ?_)
        obtain ⟨a4, c4, e4, hs4⟩ := hsl
        rw [hol] at e4 hs4
        cases e4
        rw [hor]
        repeat' (first | (show oL; first | refine sMv rfl rfl ?_ | refine sAs rfl rfl ?_ | refine sFd tabs rfl rfl rfl rfl ?_ | (show oA (.load _ _); first | refine sLd 1 tabs rfl rfl rfl rfl rfl ?_ | refine sLb 1 tabs rfl rfl rfl rfl rfl ?_) | refine sLs rfl rfl rfl ?_ | (show oA (.call _); first | (refine m_call (ent_of Tryd.func11 kr rfl) rfl rfl (fun w c => spec_IsQuiver_ok (q := ((t : Int), F, T)) (c.rd h0) (c.rd h1)) ?_; rw [decide_eq_true hQ]; rintro v H' ⟨rfl, rfl⟩) | refine sLn tabs rfl rfl rfl ?_) | (show oA (.pick _ _ _); refine st_y (y_pick rfl rfl rfl) rfl ?_) | refine st_gy rfl rfl ?_) | refine xNt ?_ | (show oC; first | refine c_seq ?_ | refine c_region ?_ | refine c_ret ?_ | refine c_exit ?_ | refine c_iff rfl nN ?_) | (show AT _ _ _ _; first | refine x_then ?_ | refine x_then_exit ?_ | refine x_blk_exit rfl ?_))
        exact x_ret2 Tryd.results20 (res_tmp rfl) (res_tmp rfl) (fun w' c' => ⟨_, _, rfl, ⟨ao, co, by show _ = Value.tuple #[.slice ao out.length co, _]; rw [hol]; rfl, by show SA ao out.length; rw [hol]; exact hs4, by show _ = [HE.own (iT out) (.slice ao out.length co)]; rw [hol]⟩, c'.sub (.cons_cons _ (List.nil_sublist _))⟩)
  · have eO : ordL q = [] := by rw [ordL, if_neg hQ]
    have eP : decide (OrdP q) = false := decide_eq_false (fun k => hQ k.1)
    rw [eO, eP]
    refine fn_enter Tryd.func20 rfl Tryd.ntmps20 rfl ?_
    repeat' (first | (show oL; first | refine sAs rfl rfl ?_ | (show oA (.box _ _); refine m_box rfl rfl (fun b hb => ?_)) | (show oA (.buildSlice _ _ _); refine m_build0 tabs rfl rfl (fun gb hgb => ?_))) | refine xNt ?_ | (show oC; first | refine c_seq ?_ | refine c_region ?_ | refine c_block ?_))
    refine c_loopH (α := Nat) [1] (fun t => [(4, .slice (some ⟨gb, 0, none⟩) 0 0)]) (fun t => t = 0) (fun t => [.own (iT []) (.slice (some ⟨gb, 0, none⟩) 0 0), .blk b #[iV q.1, u0, u1] 26]) (fun t => 0) 0 rfl sB ?_ ?_ ?_
    · rfl
    · exact fun w' c' => c'
    · intro t ht
      repeat' (first | (show oL; first | refine sMv rfl rfl ?_ | refine sAs rfl rfl ?_ | refine sLb 1 tabs rfl rfl rfl rfl rfl ?_ | (show oA (.call _); (refine m_call (ent_of Tryd.func11 kr rfl) rfl rfl (fun w c => spec_IsQuiver_ok (q := q) (c.rd h0) (c.rd h1)) ?_; rw [decide_eq_false hQ]; rintro v H' ⟨rfl, rfl⟩)) | (show oA (.pick _ _ _); refine st_y (y_pick rfl rfl rfl) rfl ?_) | refine st_gn rfl rfl rfl ?_) | refine xNt ?_ | (show oC; first | refine c_seq ?_ | refine c_region ?_ | refine c_ret ?_ | refine c_exit ?_ | refine c_false rfl ?_) | (show AT _ _ _ _; first | refine x_then ?_ | refine x_then_exit ?_ | refine x_blk_exit rfl ?_))
      exact x_ret2 Tryd.results20 (res_tmp rfl) (res_tmp rfl) (fun w' c' => ⟨_, _, rfl, ⟨_, _, rfl, .inl rfl, rfl⟩, c'.sub (.cons_cons _ (List.nil_sublist _))⟩)
end Go.Proofs.YtdnhmnnccfoliaaDoor
