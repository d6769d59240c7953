import Derived.Test.YtfhgpkdhhclpbaaRptqpo
import Derived.Test.YtfhgpkdhhclpbaaSmsqpo
namespace Go.Proofs.Ytfhgpkdhhclpbaa
open Go.Lg Go.Proofs Go.RowKit
attribute [local irreducible] Code.wp wpList bodyPost Exit.then Exit.inBlock Hp Again Calls Y AT ResV QT Qn QI wpAny wpAnyQ
set_option maxRecDepth 20000
set_option maxHeartbeats 4000000

/-! ### powers of representations -/
theorem rdC_rp {w : World} {r : Rp} {e : Nat} {u0 u1 u2 u3 : Value} (h0 : Rd w (iT r.q.2.1) u0) (h1 : Rd w (iT r.q.2.2) u1) (h2 : Rd w (iT r.d) u2) (h3 : Rd w (matsT e r.m) u3) : RdC w (rpT r) [iV r.p, iV r.q.1, u0, u1, u2, u3] := ⟨rfl, fun j t u ht hu => by
  match j, ht, hu with
  | 0, ht, hu => simp [rpT] at ht hu; subst ht; subst hu; simp only [Rd]
  | 1, ht, hu => simp [rpT] at ht hu; subst ht; subst hu; simp only [Rd]
  | 2, ht, hu => simp [rpT] at ht hu; subst ht; subst hu; exact h0
  | 3, ht, hu => simp [rpT] at ht hu; subst ht; subst hu; exact h1
  | 4, ht, hu => simp [rpT] at ht hu; subst ht; subst hu; exact h2
  | 5, ht, hu => simp [rpT] at ht hu; subst ht; subst hu; simpa only [matsT, Rd] using h3⟩
theorem rdC_rep {w : World} {ts : List T} {us : List Value} (h : RdC w ts us) : ∀ n, RdC w ((List.replicate n ts).flatten) ((List.replicate n us).flatten)
  | 0 => RdC.nil
  | n + 1 => by
    rw [List.replicate_succ, List.replicate_succ, List.flatten_cons, List.flatten_cons]
    exact h.append (rdC_rep h n)
theorem rps_rep (r : Rp) (n : Nat) : (List.replicate n r).flatMap rpT = (List.replicate n (rpT r)).flatten := flatMap_rep rpT r n
/-- a list whose cells are named -/
theorem rd_namedk {w : World} {e e' k : Nat} {ts : List T} {us : List Value} {v : Value} (h : Rd w (.s e k (us.map T.c)) v) (hr : RdC w ts us) : Rd w (.s e' k ts) v := by
  simp only [Rd] at h ⊢
  obtain ⟨a', n', c', h1, h2, h3, h4, h5⟩ := h
  subst h1
  refine ⟨_, _, _, rfl, h2, h3, by rw [← hr.1]; simpa using h4, ?_⟩
  have key : ∀ i t, ts[i]? = some t → ∃ b o u, a' = some ⟨b, o, none⟩ ∧ w.cell? ⟨b, o + (0 + i), none⟩ = some u ∧ Rd w t u := fun i t ht => by
    have hil : i < us.length := by rw [hr.1]; exact (List.getElem?_eq_some_iff.1 ht).1
    obtain ⟨b, o, u, g1, g2, g3⟩ := h5.get i (.c us[i]) (by simp [hil])
    simp only [Rd] at g3
    subst g3
    exact ⟨b, o, _, g1, g2, hr.2 i t _ ht (List.getElem?_eq_getElem hil)⟩
  cases hts : ts with
  | nil => simp [RdL]
  | cons t0 tl =>
    obtain ⟨b, o, u, g1, _, _⟩ := key 0 t0 (by rw [hts]; rfl)
    subst g1
    rw [← hts]
    refine RdL.of_get (fun i t ht => ?_)
    obtain ⟨b', o', u', g1', g2', g3'⟩ := key i t ht
    cases g1'
    exact ⟨u', g2', g3'⟩
/-- .. and of a block -/
theorem rd_block {w : World} {e k b m c : Nat} {ts : List T} {us : List Value} (hm : us.length = m * k) (hc1 : m ≤ c) (hc2 : c ≤ maxLen) (hb : ∀ (j : Nat) (u : Value), us[j]? = some u → w.cell? ⟨b, 0 + j, none⟩ = some u) (hr : RdC w ts us) : Rd w (.s e k ts) (.slice (some ⟨b, 0, none⟩) m c) := by
  simp only [Rd]
  refine ⟨_, _, _, rfl, hc1, hc2, by rw [← hr.1, hm], RdL.of_get (fun i t ht => ?_)⟩
  have hil : i < us.length := by rw [hr.1]; exact (List.getElem?_eq_some_iff.1 ht).1
  refine ⟨us[i], ?_, hr.2 i t _ ht (List.getElem?_eq_getElem hil)⟩
  have := hb i _ (List.getElem?_eq_getElem hil)
  simpa using this
def pwL (r : Rp) (n : Int) : List Rp := List.replicate (min n.toNat 9) r
theorem pw_no {r : Rp} {n : Int} (h : ¬ (1 ≤ n ∧ n ≤ 8)) : ¬ SoP (pwL r n) := fun hs => by
  have := hs.1
  rw [pwL, List.length_replicate] at this
  omega
theorem impl_PowerOfRep_ok {w : World} {r : Rp} {n : Int} {e : Nat} {u0 u1 u2 u3 : Value} (h0 : Rd w (iT r.q.2.1) u0) (h1 : Rd w (iT r.q.2.2) u1) (h2 : Rd w (iT r.d) u2) (h3 : Rd w (matsT e r.m) u3) :
    Does Try.prog 58 [.agg #[iV r.p, iV r.q.1, u0, u1, u2, u3], iV n] w (GivesRB (soR (pwL r n)) (decide (SoP (pwL r n)))) := by
  obtain ⟨a0, c0, rfl, hs0, _, _, _⟩ := h0.ints
  obtain ⟨a1, c1, rfl, hs1, _, _, _⟩ := h1.ints
  obtain ⟨a2, c2, rfl, hs2, _, _, _⟩ := h2.ints
  obtain ⟨a3, c3, rfl, hs3, _, _, _⟩ := rd_mats h3
  have hC := rdC_rp h0 h1 h2 h3
  by_cases hn : 1 ≤ n ∧ n ≤ 8
  · obtain ⟨nn, rfl⟩ : ∃ nn : Nat, n = nn := ⟨n.toNat, by omega⟩
    have hn' := not_not_intro hn
    have ep : pwL r (nn : Int) = List.replicate nn r := by rw [pwL, Int.toNat_natCast, Nat.min_eq_left (by omega)]
    rw [ep]
    refine fn_enter Try.func58 rfl Try.ntmps58 rfl ?_
    repeat' (first
      | (show AT _ _ _ (wpList _ _ _ (_ :: _)); first
         | (show AT _ _ _ (wpList _ _ _ (⟨_, Op.move _, _, _, _, _⟩ :: _)); refine st_y (y_move rfl) rfl ?_)
         | (show AT _ _ _ (wpList _ _ _ (⟨_, Op.assign _, _, _, _, _⟩ :: _)); refine st_y (y_assign rfl) rfl ?_)
         | (show AT _ _ _ (wpList _ _ _ (⟨_, Op.load _ _, _, _, _, _⟩ :: _)); refine st_y (y_loadb 1 tabs rfl rfl rfl rfl) rfl ?_)
         | (show AT _ _ _ (wpList _ _ _ (⟨_, Op.unOp _ _ _, _, _, _, _⟩ :: _)); refine st_y (y_notd rfl) rfl ?_)
         | (show AT _ _ _ (wpList _ _ _ (⟨_, Op.call _, _, _, _, _⟩ :: _)); first | (refine m_call (ent_of Try.func82 (by kernel_rfl) rfl) rfl rfl (fun w c' => within_ok _ 1 8) ?_; rintro v H' ⟨rfl, rfl⟩) | (refine m_call (ent_of Try.func111 (by kernel_rfl) rfl) rfl rfl (fun w c => Repeat_ok (nn := nn) (us := [iV r.p, iV r.q.1, .slice a0 r.q.2.1.length c0, .slice a1 r.q.2.2.length c1, .slice a2 r.d.length c2, .slice a3 r.m.length c3]) rfl (by simp [Value.oneCell']) (fun j u hj => hc_blk 0 rfl (by rw [Nat.zero_add, ← Array.getElem?_toList]; exact hj) w c) (by omega) (by omega)) ?_; rintro v H' ⟨b7, rfl, rfl⟩) | (refine m_call (ent_of Try.func54 (by kernel_rfl) rfl) rfl rfl (fun w c => impl_SumOf_ok (l := List.replicate nn r) (e := 35) (by rw [rpsT, rps_rep]; exact rd_block (by rw [flat_len (m := 6) rfl]) (Nat.le_refl _) (by unfold maxLen; omega) (fun j u hj => hc_blk 0 rfl (by rw [Nat.zero_add, List.getElem?_toArray]; exact hj) w c) (rdC_rep (c.rdC hC) nn))) ?_; rintro v H' ⟨aF, cF, aT, cT, ad, cd, am, cm, rfl, hsF, hsT, hsd, hsm, rfl⟩))
         | (show AT _ _ _ (wpList _ _ _ (⟨_, Op.extract _ _, _, _, _, _⟩ :: _)); refine st_y (y_ext rfl rfl) rfl ?_)
         | (show AT _ _ _ (wpList _ _ _ (⟨_, Op.store _ _ _, _, _, _, _⟩ :: _)); refine m_storeb 6 tabs rfl rfl rfl rfl rfl rfl rfl ?_)
         | (show AT _ _ _ (wpList _ _ _ (⟨_, Op.box _ _, _, _, _, _⟩ :: _)); refine m_box rfl rfl (fun b2 hb2 => ?_))
         | (show AT _ _ _ (wpList _ _ _ (⟨_, Op.alloc _, _, _, _, _⟩ :: _)); refine m_alloc tabs rfl rfl (fun b4 hb4 => ?_))
         | (show AT _ _ _ (wpList _ _ _ (⟨_, Op.buildSlice _ _ _, _, _, _, _⟩ :: _)); refine m_build1 tabs (us := [iV r.p, iV r.q.1, .slice a0 r.q.2.1.length c0, .slice a1 r.q.2.2.length c1, .slice a2 r.d.length c2, .slice a3 r.m.length c3]) rfl rfl rfl rfl (by decide) rfl (fun g5 hg5 => ?_)))
      | (show AT _ _ _ (wpList _ _ _ []); refine c_nil (x_then ?_))
      | (show AT _ _ _ (Code.wp _ _ _); first | refine c_seq ?_ | refine c_region ?_ | refine c_skip (x_then ?_) | refine c_ret ?_ | refine c_iff rfl (by first | assumption | exact not_not_intro (by assumption) | omega) ?_))
    all_goals first | exact absurd hn (by assumption) | skip
    exact x_ret2 Try.results58 (res_cellb 6 tabs rfl rfl rfl rfl) (res_tmp rfl) (fun w' c' => ⟨_, _, rfl, ⟨aF, cF, aT, cT, ad, cd, am, cm, rfl, hsF, hsT, hsd, hsm, rfl⟩, c'.sub (.cons_cons _ (.cons_cons _ (.cons_cons _ (.cons_cons _ (List.nil_sublist _)))))⟩)
  · have hno := pw_no (r := r) hn
    rw [soR, if_neg hno, decide_eq_false hno]
    refine fn_enter Try.func58 rfl Try.ntmps58 rfl ?_
    repeat' (first
      | (show AT _ _ _ (wpList _ _ _ (_ :: _)); first
         | (show AT _ _ _ (wpList _ _ _ (⟨_, Op.move _, _, _, _, _⟩ :: _)); refine st_y (y_move rfl) rfl ?_)
         | (show AT _ _ _ (wpList _ _ _ (⟨_, Op.assign _, _, _, _, _⟩ :: _)); refine st_y (y_assign rfl) rfl ?_)
         | (show AT _ _ _ (wpList _ _ _ (⟨_, Op.unOp _ _ _, _, _, _, _⟩ :: _)); refine st_y (y_notd rfl) rfl ?_)
         | (show AT _ _ _ (wpList _ _ _ (⟨_, Op.call _, _, _, _, _⟩ :: _)); (refine m_call (ent_of Try.func82 (by kernel_rfl) rfl) rfl rfl (fun w c' => within_ok _ 1 8) ?_; rintro v H' ⟨rfl, rfl⟩))
         | (show AT _ _ _ (wpList _ _ _ (⟨_, Op.store _ _ _, _, _, _, _⟩ :: _)); refine m_storeb 0 tabs rfl rfl rfl rfl rfl rfl rfl ?_)
         | (show AT _ _ _ (wpList _ _ _ (⟨_, Op.box _ _, _, _, _, _⟩ :: _)); refine m_box rfl rfl (fun b2 hb2 => ?_))
         | (show AT _ _ _ (wpList _ _ _ (⟨_, Op.alloc _, _, _, _, _⟩ :: _)); refine m_alloc tabs rfl rfl (fun b4 hb4 => ?_))
         | (show AT _ _ _ (wpList _ _ _ (⟨_, Op.build _ _, _, _, _, _⟩ :: _)); refine st_y (y_bld0 bld_rp0) rfl ?_))
      | (show AT _ _ _ (wpList _ _ _ []); refine c_nil (x_then ?_))
      | (show AT _ _ _ (Code.wp _ _ _); first | refine c_seq ?_ | refine c_region ?_ | refine c_ret ?_ | refine c_ift rfl (by first | assumption | omega) ?_)
      | (show AT _ _ _ _; refine x_then_ret ?_))
    all_goals first | exact absurd (by assumption) hn | skip
    refine x_ret2 Try.results58 (res_cellb 0 tabs rfl rfl rfl rfl) (res_tmp rfl) (fun w' c' => ⟨_, _, rfl, ⟨none, 0, none, 0, none, 0, none, 0, rfl, .inl rfl, .inl rfl, .inl rfl, .inl rfl, rfl⟩, ?_⟩)
    exact Hp.nilp _ _ (Hp.nilp _ _ (Hp.nilp _ _ (Hp.nilp _ _ (c'.sub (List.nil_sublist _)))))
end Go.Proofs.Ytfhgpkdhhclpbaa
