import Derived.Test.YtdnhmnnccfoliaaGreatDoorAloqmt
import Derived.Test.YtdnhmnnccfoliaaGreatDoorCopqmt
import Derived.Test.YtdnhmnnccfoliaaGreatDoorEqmqmt
import Derived.Test.YtdnhmnnccfoliaaGreatDoorLCqmt
import Derived.Test.YtdnhmnnccfoliaaGreatDoorZerqmt
namespace Go.Proofs.YtdnhmnnccfoliaaGreatDoor
open Go.Lg Go.Proofs Go.RowKit
attribute [local irreducible] Code.wp wpList bodyPost Exit.then Exit.inBlock Hp Again Calls Y AT ResV QT Qn QI wpAny wpAnyQ
set_option maxRecDepth 20000
set_option maxHeartbeats 4000000

def plusF (p k : Int) (f g : Nat → Nat → Int) : Nat → Nat → Int := fun i j => (f i j + k * g i j) % p
theorem addTo_all {p k : Int} {C : Nat} {f : Nat → Int} {ys : List Int} : addTo p k (mkv C f) 0 ys C = mkv C (fun b => (f b + k * ys.getD b 0) % p) := by
  have key : ∀ n, n ≤ C → addTo p k (mkv C f) 0 ys n = mkv C (fun b => if b < n then (f b + k * ys.getD b 0) % p else f b) := fun n => by
    induction n with
    | zero => intro _; simp [addTo]
    | succ n ih =>
      intro hn
      rw [addTo, ih om, Nat.zero_add, mkv_get om, mkv_set]
      exact mkv_ext (fun b hb => by
        by_cases h : b = n
        · subst h; simp
        · rw [if_neg h]
          by_cases h2 : b < n
          · rw [if_pos h2, if_pos om]
          · rw [if_neg h2, if_neg om])
  rw [key C (Nat.le_refl _)]
  exact mkv_ext (fun b hb => by rw [if_pos hb])
theorem addTo_plus {p k : Int} {R C : Nat} {f g : Nat → Nat → Int} : addTo p k (mk R C f) 0 (mk R C g) (R * C) = mk R C (plusF p k f g) := by
  have h := addTo_all (p := p) (k := k) (C := R * C) (f := fun q => f (q / C) (q % C)) (ys := mk R C g)
  have e : mkv (R * C) (fun b => (f (b / C) (b % C) + k * (mk R C g).getD b 0) % p) = mk R C (plusF p k f g) := mkv_ext (g := fun q => plusF p k f g (q / C) (q % C)) (fun b hb => by
    have : (mk R C g).getD b 0 = g (b / C) (b % C) := mkv_get (g := fun q => g (q / C) (q % C)) hb
    rw [this]; rfl)
  rw [← e]
  exact h
theorem plus_ok {w : World} {p k : Int} {R C : Nat} {f g : Nat → Nat → Int} {u u' : Value} (hr : Rd w (iT (mk R C f)) u) (hr' : Rd w (iT (mk R C g)) u') (hF : FieldP p) (hk : 0 ≤ k ∧ k ≤ 5) (hR : R ≤ 64) (hC : C ≤ 64) (hf : inF p R C f) (hg : inF p R C g) :
    Does Tryz.prog 114 [iV p, .agg #[iV R, iV C, u], iV k, .agg #[iV R, iV C, u']] w (GivesK R C (plusF p k f g)) := by
  have hp := fieldP_pos hF
  obtain ⟨av, cv, rfl, hsv, hcv⟩ := rd_mk hr'
  have hRC := rc_le (R := R) (C := C) om om
  have hcell : ∀ (h : Nat → Nat → Int), inF p R C h → ∀ j, j < R * C → 0 ≤ (mk R C h).getD j 0 ∧ (mk R C h).getD j 0 ≤ 5 := fun h hh j hj => by
    have e : (mk R C h).getD j 0 = h (j / C) (j % C) := mkv_get (g := fun q => h (q / C) (q % C)) hj
    have hC0 : 0 < C := by
      rcases Nat.eq_zero_or_pos C with h0 | h0
      · subst h0; simp at hj
      · exact h0
    have h1 : j / C < R := Nat.div_lt_of_lt_mul (by rw [Nat.mul_comm]; exact hj)
    have := hh (j / C) (j % C) h1 (Nat.mod_lt _ hC0)
    rw [e]; omega
  refine fn_enter Tryz.func114 rfl Tryz.ntmps114 rfl ?_
  repeat' (first | (show oL; first | refine sMv rfl rfl ?_ | refine sFd tabs rfl rfl rfl rfl ?_ | (show oA (.load _ _); first | refine sLb 2 tabs rfl rfl rfl rfl rfl ?_ | refine sLd 3 tabs rfl rfl rfl rfl rfl ?_ | refine sLd 0 tabs rfl rfl rfl rfl rfl ?_ | refine sLb 1 tabs rfl rfl rfl rfl rfl ?_) | (show oA (.call _); first | (refine m_call (ent_of Tryz.func166 kr rfl) rfl rfl (fun w c => clone_ok (m := (↑R, ↑C, mk R C f)) (c.rd hr) (by rw [mk_length]; exact hRC)) ?_; rintro v H' ⟨ac, cc, rfl, hsc, rfl⟩) | (refine m_callL 1 (ent_of Tryz.func164 kr rfl) rfl rfl rfl (fun w M' hl => (by rw [mk_length]; exact addMultiple_ok (o := 0) (n := R * C) (xs := mk R C f) (ys := mk R C g) hF hk hl (fun h => by have := hsc.get (by simpa using h); exact this) (by rw [mk_length]; omega) om (fun j hj => by rw [Nat.zero_add]; exact hcell f hf j hj) (fun j hj => hcell g hg j hj) hsv (fun w' xs' c' hxl hxo j hj => by have h := (RdOut.rd (hl.old hr') c').ints; obtain ⟨_, _, e, _, _, _, hh⟩ := h; rw [mk_length] at e hh; cases e; exact hh j hj))) ?_; rintro v H' ⟨rfl, rfl⟩)) | (show oA (.store _ _ _); first | refine m_storeb 0 tabs rfl rfl rfl rfl rfl rfl rfl ?_ | refine m_storeb 2 tabs rfl rfl rfl rfl rfl rfl rfl ?_) | (show oA (.box _ _); refine m_box rfl rfl (fun b7 hb7 => ?_)) | (show oA (.alloc _); refine m_alloc tabs rfl rfl (fun b9 hb9 => ?_))) | refine xNt ?_ | (show oC; first | refine c_seq ?_ | refine c_region ?_ | refine c_ret ?_))
  rw [mk_length] at hsc
  rw [addTo_plus, mk_length]
  exact x_ret1 Tryz.results114 (res_cellb 2 tabs rfl rfl rfl rfl) (fun w' c' => ⟨_, _, rfl, ⟨ac, cc, rfl, hsc, rfl⟩, c'.sub (.cons_cons _ (List.nil_sublist _))⟩)
def dN (d : List Int) (v : Int) : Nat := (d.getD v.toNat 0).toNat
end Go.Proofs.YtdnhmnnccfoliaaGreatDoor
