import Derived.Test.YtfhgpkdhhclpbaaCbnqcb
import Derived.Test.YtfhgpkdhhclpbaaMphqcb
import Derived.Test.YtfhgpkdhhclpbaaPrmqcb
namespace Go.Proofs.Ytfhgpkdhhclpbaa
open Go.Lg Go.Proofs Go.RowKit
attribute [local irreducible] Code.wp wpList bodyPost Exit.then Exit.inBlock Hp Again Calls Y AT ResV QT Qn QI wpAny wpAnyQ
set_option maxRecDepth 20000
set_option maxHeartbeats 4000000

/-! ### lists of lists of matrices: search; combinations of morphisms, by the program -/
theorem IndexFuncL_ok {w : World} {v : Value} {e e' : Nat} {rs : List (List Mat)} {g : Nat} {cap : Array Value} {p : List Mat → Prop} [DecidablePred p] (hr : Rd w (mssT e e' rs) v) (he : Ent Try.prog g)
    (hf : ∀ w' xs u, xs ∈ rs → Rd w' (matsT e' xs) u → Hp [] w [] w' → Does Try.prog g ([u] ++ cap.toList) w' (fun r H => r = .bool (decide (p xs)) ∧ H = [])) :
    Does Try.prog 155 [v, .func (.func g) #[] cap] w (fun r H => (∃ k, r = iV k ∧ (0 ≤ k ↔ ∃ x ∈ rs, p x)) ∧ H = []) := by
  obtain ⟨a, c, rfl, hs, hc1, hc2, hget⟩ := rd_mss hr
  unfold maxLen at hc2
  refine fn_enter Try.func155 rfl Try.ntmps155 rfl ?_
  repeat' (first
    | (show AT _ _ _ (wpList _ _ _ (_ :: _)); first
       | (show AT _ _ _ (wpList _ _ _ (⟨_, Op.move _, _, _, _, _⟩ :: _)); refine st_y (y_move rfl) rfl ?_)
       | (show AT _ _ _ (wpList _ _ _ (⟨_, Op.assign _, _, _, _, _⟩ :: _)); refine st_y (y_assign rfl) rfl ?_)
       | (show AT _ _ _ (wpList _ _ _ (⟨_, Op.call _, _, _, _, _⟩ :: _)); refine st_y (y_len tabs rfl rfl) rfl ?_))
    | (show AT _ _ _ (wpList _ _ _ []); refine c_nil (x_then ?_))
    | (show AT _ _ _ (Code.wp _ _ _); first | refine c_seq ?_ | refine c_region ?_ | refine c_block ?_))
  refine c_loopH (α := Nat) [0, 1, 7] (fun i => [(8, .int .i64 i)]) (fun i => i ≤ rs.length ∧ ∀ x ∈ rs.take i, ¬ p x) (fun i => []) (fun i => rs.length - i) 0 rfl (by repeat' (first | exact Sub.nil | refine Sub.cons rfl ?_ | refine Sub.consi rfl (by omega) ?_)) ?_ ?_ ?_
  · exact ⟨Nat.zero_le _, by simp⟩
  · exact fun w' c' => c'
  · rintro i ⟨hi, hn⟩
    by_cases hin : i < rs.length
    · obtain ⟨xs, hx⟩ : ∃ xs, rs[i]? = some xs := ⟨_, List.getElem?_eq_getElem hin⟩
      obtain ⟨a2, c2, g1, g2⟩ := hget i xs hx
      have hmem := List.mem_of_getElem? hx
      repeat' (first
        | (show AT _ _ _ (wpList _ _ _ (_ :: _)); first
           | (show AT _ _ _ (wpList _ _ _ (⟨_, Op.move _, _, _, _, _⟩ :: _)); refine st_y (y_move rfl) rfl ?_)
           | (show AT _ _ _ (wpList _ _ _ (⟨_, Op.assign _, _, _, _, _⟩ :: _)); refine st_y (y_assign rfl) rfl ?_)
           | (show AT _ _ _ (wpList _ _ _ (⟨_, Op.load _ _, _, _, _, _⟩ :: _)); refine st_y (y_load tabs rfl rfl (hc_w0 g1)) rfl ?_)
           | (show AT _ _ _ (wpList _ _ _ (⟨_, Op.indexAddr _ _ _, _, _, _, _⟩ :: _)); refine st_y (y_ix1 tabs (j := i) rfl rfl rfl hs rfl hin) rfl ?_)
           | (show AT _ _ _ (wpList _ _ _ (⟨_, Op.binOp _ _ _ _ _, _, _, _, _⟩ :: _)); first | refine st_y (y_add rfl rfl (by omega)) rfl ?_ | refine st_y (y_lss rfl rfl) rfl ?_)
           | (show AT _ _ _ (wpList _ _ _ (⟨_, Op.call _, _, _, _, _⟩ :: _)); (refine m_callv rfl he rfl rfl (fun w c => hf w _ _ hmem (c.rd g2) c) ?_; rintro v H' ⟨rfl, rfl⟩)))
        | (show AT _ _ _ (wpList _ _ _ []); refine c_nil (x_then ?_))
        | (show AT _ _ _ (Code.wp _ _ _); first | refine c_seq ?_ | refine c_region ?_ | refine c_skip (x_then ?_) | refine c_skip (x_blk ?_) | refine c_block ?_ | refine c_ret ?_ | refine c_ift rfl (by first | assumption | omega) ?_ | refine c_if rfl (fun h => ?_) (fun h => ?_))
        | (show AT _ _ _ _; first | refine x_then ?_ | refine x_then_ret ?_ | refine x_blk_ret ?_))
      · exact x_ret1 Try.results155 (res_tmp rfl) (fun w' c' => ⟨_, _, rfl, ⟨⟨i, rfl, fun _ => ⟨xs, hmem, by assumption⟩, fun _ => by omega⟩, rfl⟩, c'⟩)
      · refine x_nx (i + 1) (by repeat' (first | exact Sub.nil | refine Sub.cons rfl ?_ | refine Sub.consi rfl (by omega) ?_)) ⟨by omega, fun x hxm => ?_⟩ (fun w' c' => c') (by omega)
        rw [List.take_add_one, hx] at hxm
        rcases List.mem_append.1 hxm with hxm | hxm
        · exact hn x hxm
        · simp at hxm
          subst hxm
          assumption
    · repeat' (first
        | (show AT _ _ _ (wpList _ _ _ (_ :: _)); first
           | (show AT _ _ _ (wpList _ _ _ (⟨_, Op.assign _, _, _, _, _⟩ :: _)); refine st_y (y_assign rfl) rfl ?_)
           | (show AT _ _ _ (wpList _ _ _ (⟨_, Op.binOp _ _ _ _ _, _, _, _, _⟩ :: _)); refine st_y (y_lss rfl rfl) rfl ?_))
        | (show AT _ _ _ (wpList _ _ _ []); refine c_nil (x_then ?_))
        | (show AT _ _ _ (Code.wp _ _ _); first | refine c_seq ?_ | refine c_region ?_ | refine c_ret ?_ | refine c_exit ?_ | refine c_iff rfl (by first | assumption | exact not_not_intro (by assumption) | omega) ?_)
        | (show AT _ _ _ _; first | refine x_then ?_ | refine x_then_exit ?_ | refine x_blk_exit rfl ?_))
      refine x_ret1 Try.results155 (res_tmp rfl) (fun w' c' => ⟨_, _, rfl, ⟨⟨-1, rfl, fun h => by omega, ?_⟩, rfl⟩, c'⟩)
      rw [take_end (by omega)] at hn
      rintro ⟨x, hx, hp⟩
      exact absurd hp (hn x hx)
theorem ContainsFuncL_ok {w : World} {v : Value} {e e' : Nat} {rs : List (List Mat)} {g : Nat} {cap : Array Value} {p : List Mat → Prop} [DecidablePred p] (hr : Rd w (mssT e e' rs) v) (he : Ent Try.prog g)
    (hf : ∀ w' xs u, xs ∈ rs → Rd w' (matsT e' xs) u → Hp [] w [] w' → Does Try.prog g ([u] ++ cap.toList) w' (fun r H => r = .bool (decide (p xs)) ∧ H = [])) :
    Does Try.prog 103 [v, .func (.func g) #[] cap] w (fun r H => r = .bool (decide (∃ x ∈ rs, p x)) ∧ H = []) := by
  refine fn_enter Try.func103 rfl Try.ntmps103 rfl ?_
  repeat' (first
    | (show AT _ _ _ (wpList _ _ _ (_ :: _)); first
       | (show AT _ _ _ (wpList _ _ _ (⟨_, Op.move _, _, _, _, _⟩ :: _)); refine st_y (y_move rfl) rfl ?_)
       | (show AT _ _ _ (wpList _ _ _ (⟨_, Op.assign _, _, _, _, _⟩ :: _)); refine st_y (y_assign rfl) rfl ?_)
       | (show AT _ _ _ (wpList _ _ _ (⟨_, Op.binOp _ _ _ _ _, _, _, _, _⟩ :: _)); refine st_y (y_geq rfl rfl) rfl ?_)
       | (show AT _ _ _ (wpList _ _ _ (⟨_, Op.call _, _, _, _, _⟩ :: _)); (refine m_call (ent_of Try.func155 (by kernel_rfl) rfl) rfl rfl (fun w c => IndexFuncL_ok (c.rd hr) he (fun w' x u hm hru c' => hf w' x u hm hru (c.trans c'))) ?_; rintro v H' ⟨⟨k, rfl, hk⟩, rfl⟩)))
    | (show AT _ _ _ (wpList _ _ _ []); refine c_nil (x_then ?_))
    | (show AT _ _ _ (Code.wp _ _ _); first | refine c_seq ?_ | refine c_region ?_ | refine c_ret ?_))
  refine x_ret1 Try.results103 (res_tmp rfl) (fun w' c' => ⟨_, _, rfl, ⟨?_, rfl⟩, c'⟩)
  simp [hk]
theorem CombineMorphisms1_ok {w : World} {a b : Rp} {ms : List Mat} {e e' e2 ba bb : Nat} {u0 u1 u2 u3 v0 v1 v2 v3 um : Value} (h0 : Rd w (iT a.q.2.1) u0) (h1 : Rd w (iT a.q.2.2) u1) (h2 : Rd w (iT a.d) u2) (h3 : Rd w (matsT e a.m) u3) (k0 : Rd w (iT b.q.2.1) v0) (k1 : Rd w (iT b.q.2.2) v1) (k2 : Rd w (iT b.d) v2) (k3 : Rd w (matsT e' b.m) v3) (hm : Rd w (matsT e2 ms) um)
    (ca : ∀ (j : Nat) (v : Value), [iV a.p, iV a.q.1, u0, u1, u2, u3][j]? = some v → w.cell? ((⟨ba, 0, none⟩ : Addr).add j) = some v) (cb : ∀ (j : Nat) (v : Value), [iV b.p, iV b.q.1, v0, v1, v2, v3][j]? = some v → w.cell? ((⟨bb, 0, none⟩ : Addr).add j) = some v) :
    Does Try.prog 104 [um, .pointer (some ⟨ba, 0, none⟩), .pointer (some ⟨bb, 0, none⟩)] w (fun r H => r = .bool (decide (¬ MorP a b ms)) ∧ H = []) := by
  refine fn_enter Try.func104 rfl Try.ntmps104 rfl ?_
  repeat' (first
    | (show AT _ _ _ (wpList _ _ _ (_ :: _)); first
       | (show AT _ _ _ (wpList _ _ _ (⟨_, Op.move _, _, _, _, _⟩ :: _)); refine st_y (y_move rfl) rfl ?_)
       | (show AT _ _ _ (wpList _ _ _ (⟨_, Op.assign _, _, _, _, _⟩ :: _)); refine st_y (y_assign rfl) rfl ?_)
       | (show AT _ _ _ (wpList _ _ _ (⟨_, Op.load _ _, _, _, _, _⟩ :: _)); first | refine st_y (y_loads tabs (cs := [iV a.p, iV a.q.1, u0, u1, u2, u3]) rfl rfl rfl (fun w c j v h => c.cell (ca j v h))) rfl ?_ | refine st_y (y_loads tabs (cs := [iV b.p, iV b.q.1, v0, v1, v2, v3]) rfl rfl rfl (fun w c j v h => c.cell (cb j v h))) rfl ?_)
       | (show AT _ _ _ (wpList _ _ _ (⟨_, Op.unOp _ _ _, _, _, _, _⟩ :: _)); refine st_y (y_notd rfl) rfl ?_)
       | (show AT _ _ _ (wpList _ _ _ (⟨_, Op.call _, _, _, _, _⟩ :: _)); (refine m_call (ent_of Try.func91 (by kernel_rfl) rfl) rfl rfl (fun w c => impl_IsMorphism_ok (a := a) (b := b) (c.rd h0) (c.rd h1) (c.rd h2) (c.rd h3) (c.rd k0) (c.rd k1) (c.rd k2) (c.rd k3) (c.rd hm)) ?_; rintro v H' ⟨rfl, rfl⟩)))
    | (show AT _ _ _ (wpList _ _ _ []); refine c_nil (x_then ?_))
    | (show AT _ _ _ (Code.wp _ _ _); first | refine c_seq ?_ | refine c_region ?_ | refine c_ret ?_))
  exact x_ret1 Try.results104 (res_tmp rfl) (fun w' c' => ⟨_, _, rfl, ⟨rfl, rfl⟩, c'⟩)
def CmbP (a b : Rp) (l : List (List Mat)) (ks : List Int) : Prop := FitP a b ∧ VecP a.p ks ∧ ks.length = l.length ∧ ¬ ∃ ms ∈ l, ¬ MorP a b ms
instance (a b : Rp) (l : List (List Mat)) (ks : List Int) : Decidable (CmbP a b l ks) := by unfold CmbP; infer_instance
def cbL (a b : Rp) (l : List (List Mat)) (ks : List Int) : List Mat := if CmbP a b l ks then cutL a.d b.d (mkv (offN a.d b.d a.d.length) (cmS a.p ks l l.length)) else []
theorem impl_CombineMorphisms_ok {w : World} {a b : Rp} {l : List (List Mat)} {ks : List Int} {e e' f f' : Nat} {u0 u1 u2 u3 v0 v1 v2 v3 ul uk : Value} (h0 : Rd w (iT a.q.2.1) u0) (h1 : Rd w (iT a.q.2.2) u1) (h2 : Rd w (iT a.d) u2) (h3 : Rd w (matsT e a.m) u3) (k0 : Rd w (iT b.q.2.1) v0) (k1 : Rd w (iT b.q.2.2) v1) (k2 : Rd w (iT b.d) v2) (k3 : Rd w (matsT e' b.m) v3) (hl : Rd w (mssT f f' l) ul) (hk : Rd w (iT ks) uk) :
    Does Try.prog 50 [.agg #[iV a.p, iV a.q.1, u0, u1, u2, u3], .agg #[iV b.p, iV b.q.1, v0, v1, v2, v3], ul, uk] w (GivesMsB (cbL a b l ks) (decide (CmbP a b l ks))) := by
  obtain ⟨al, cl, rfl, hsl, hcl, hdl, _⟩ := rd_mss hl
  obtain ⟨ak, ck, rfl, hsk, hck, hdk, _⟩ := hk.ints
  unfold maxLen at hdl hdk
  by_cases hP : CmbP a b l ks
  · rw [cbL, if_pos hP, decide_eq_true hP]
    obtain ⟨hF, hV, hL, hM⟩ := hP
    have hF' := not_not_intro hF
    have hV' := not_not_intro hV
    have hx : ∀ (i : Nat) (ms : List Mat), l[i]? = some ms → AreP a b ms := fun i ms h => by
      have : MorP a b ms := Decidable.byContradiction (fun hn => hM ⟨ms, List.mem_of_getElem? h, hn⟩)
      exact this.1
    refine fn_enter Try.func50 rfl Try.ntmps50 rfl ?_
    repeat' (first
      | (show AT _ _ _ (wpList _ _ _ (_ :: _)); first
         | (show AT _ _ _ (wpList _ _ _ (⟨_, Op.move _, _, _, _, _⟩ :: _)); refine st_y (y_move rfl) rfl ?_)
         | (show AT _ _ _ (wpList _ _ _ (⟨_, Op.assign _, _, _, _, _⟩ :: _)); refine st_y (y_assign rfl) rfl ?_)
         | (show AT _ _ _ (wpList _ _ _ (⟨_, Op.fieldAddr _ _ _, _, _, _, _⟩ :: _)); refine st_y (y_field tabs rfl rfl rfl) rfl ?_)
         | (show AT _ _ _ (wpList _ _ _ (⟨_, Op.load _ _, _, _, _, _⟩ :: _)); first | refine st_y (y_loadb 0 tabs rfl rfl rfl rfl) rfl ?_ | refine st_y (y_loadb 1 tabs rfl rfl rfl rfl) rfl ?_ | refine st_y (y_load tabs rfl rfl (hc_blk 1 rfl rfl)) rfl ?_)
         | (show AT _ _ _ (wpList _ _ _ (⟨_, Op.binOp _ _ _ _ _, _, _, _, _⟩ :: _)); refine st_y (y_neq rfl rfl) rfl ?_)
         | (show AT _ _ _ (wpList _ _ _ (⟨_, Op.unOp _ _ _, _, _, _, _⟩ :: _)); refine st_y (y_notd rfl) rfl ?_)
         | (show AT _ _ _ (wpList _ _ _ (⟨_, Op.call _, _, _, _, _⟩ :: _)); first | (refine m_call (ent_of Try.func78 (by kernel_rfl) rfl) rfl rfl (fun w c => fit_ok (a := a) (b := b) (c.rd h0) (c.rd h1) (c.rd h2) (c.rd h3) (c.rd k0) (c.rd k1) (c.rd k2) (c.rd k3)) ?_; rintro v H' ⟨rfl, rfl⟩) | (refine m_call (ent_of Try.func102 (by kernel_rfl) rfl) rfl rfl (fun w c => impl_IsVector_ok (c.rd hk)) ?_; rintro v H' ⟨rfl, rfl⟩) | (refine m_call (ent_of Try.func103 (by kernel_rfl) rfl) rfl rfl (fun w c => ContainsFuncL_ok (p := fun ms => ¬ MorP a b ms) (c.rd hl) (ent_of Try.func104 (by kernel_rfl) rfl) (fun w' xs u hm hu' c' => CombineMorphisms1_ok (a := a) (b := b) (c'.rd (c.rd h0)) (c'.rd (c.rd h1)) (c'.rd (c.rd h2)) (c'.rd (c.rd h3)) (c'.rd (c.rd k0)) (c'.rd (c.rd k1)) (c'.rd (c.rd k2)) (c'.rd (c.rd k3)) hu' (fun j v h => c'.cell (hcs_blk 1 rfl (fun j v h => by rw [Nat.zero_add, ← Array.getElem?_toList]; exact h) w c j v h)) (fun j v h => c'.cell (hcs_blk 0 rfl (fun j v h => by rw [Nat.zero_add, ← Array.getElem?_toList]; exact h) w c j v h)))) ?_; rintro v H' ⟨rfl, rfl⟩) | (refine m_call (ent_of Try.func105 (by kernel_rfl) rfl) rfl rfl (fun w c' => combined_ok (a := a) (b := b) (l := l) (ks := ks) (c'.rd h2) (c'.rd k2) (c'.rd hl) (c'.rd hk) hF hL hV.2.2 hx) ?_; rintro v H' ⟨an, cn, rfl, hs2, rfl⟩) | refine st_y (y_len tabs rfl rfl) rfl ?_)
         | (show AT _ _ _ (wpList _ _ _ (⟨_, Op.pick _ _ _, _, _, _, _⟩ :: _)); refine st_y (y_pickf rfl (by first | assumption | omega) rfl) rfl ?_)
         | (show AT _ _ _ (wpList _ _ _ (⟨_, Op.makeFunc _ _ _, _, _, _, _⟩ :: _)); refine st_y (y_fn rfl rfl) rfl ?_)
         | (show AT _ _ _ (wpList _ _ _ (⟨_, Op.box _ _, _, _, _, _⟩ :: _)); refine m_box rfl rfl (fun b4 hb4 => ?_))
         | refine st_gfy rfl rfl (by first | assumption | omega) ?_)
      | (show AT _ _ _ (wpList _ _ _ []); refine c_nil (x_then ?_))
      | (show AT _ _ _ (Code.wp _ _ _); first | refine c_seq ?_ | refine c_region ?_ | refine c_skip (x_then ?_) | refine c_ret ?_ | refine c_iff rfl (by first | assumption | exact not_not_intro (by assumption) | omega) ?_))
    all_goals first | (exfalso; first | exact absurd hF (by assumption) | exact absurd hV (by assumption) | omega | exact absurd (by assumption) hM) | skip
    exact x_ret2 Try.results50 (res_tmp rfl) (res_tmp rfl) (fun w' c' => ⟨_, _, rfl, ⟨an, cn, rfl, hs2, rfl⟩, c'.sub (.cons_cons _ (List.nil_sublist _))⟩)
  · rw [cbL, if_neg hP, decide_eq_false hP]
    refine fn_enter Try.func50 rfl Try.ntmps50 rfl ?_
    repeat' (first
      | (show AT _ _ _ (wpList _ _ _ (_ :: _)); first
         | (show AT _ _ _ (wpList _ _ _ (⟨_, Op.move _, _, _, _, _⟩ :: _)); refine st_y (y_move rfl) rfl ?_)
         | (show AT _ _ _ (wpList _ _ _ (⟨_, Op.assign _, _, _, _, _⟩ :: _)); refine st_y (y_assign rfl) rfl ?_)
         | (show AT _ _ _ (wpList _ _ _ (⟨_, Op.fieldAddr _ _ _, _, _, _, _⟩ :: _)); refine st_y (y_field tabs rfl rfl rfl) rfl ?_)
         | (show AT _ _ _ (wpList _ _ _ (⟨_, Op.load _ _, _, _, _, _⟩ :: _)); first | refine st_y (y_loadb 0 tabs rfl rfl rfl rfl) rfl ?_ | refine st_y (y_loadb 1 tabs rfl rfl rfl rfl) rfl ?_ | refine st_y (y_load tabs rfl rfl (hc_blk 1 rfl rfl)) rfl ?_)
         | (show AT _ _ _ (wpList _ _ _ (⟨_, Op.binOp _ _ _ _ _, _, _, _, _⟩ :: _)); refine st_y (y_neq rfl rfl) rfl ?_)
         | (show AT _ _ _ (wpList _ _ _ (⟨_, Op.unOp _ _ _, _, _, _, _⟩ :: _)); refine st_y (y_notd rfl) rfl ?_)
         | (show AT _ _ _ (wpList _ _ _ (⟨_, Op.call _, _, _, _, _⟩ :: _)); first | (refine m_call (ent_of Try.func78 (by kernel_rfl) rfl) rfl rfl (fun w c => fit_ok (a := a) (b := b) (c.rd h0) (c.rd h1) (c.rd h2) (c.rd h3) (c.rd k0) (c.rd k1) (c.rd k2) (c.rd k3)) ?_; rintro v H' ⟨rfl, rfl⟩) | (refine m_call (ent_of Try.func102 (by kernel_rfl) rfl) rfl rfl (fun w c => impl_IsVector_ok (c.rd hk)) ?_; rintro v H' ⟨rfl, rfl⟩) | (refine m_call (ent_of Try.func103 (by kernel_rfl) rfl) rfl rfl (fun w c => ContainsFuncL_ok (p := fun ms => ¬ MorP a b ms) (c.rd hl) (ent_of Try.func104 (by kernel_rfl) rfl) (fun w' xs u hm hu' c' => CombineMorphisms1_ok (a := a) (b := b) (c'.rd (c.rd h0)) (c'.rd (c.rd h1)) (c'.rd (c.rd h2)) (c'.rd (c.rd h3)) (c'.rd (c.rd k0)) (c'.rd (c.rd k1)) (c'.rd (c.rd k2)) (c'.rd (c.rd k3)) hu' (fun j v h => c'.cell (hcs_blk 1 rfl (fun j v h => by rw [Nat.zero_add, ← Array.getElem?_toList]; exact h) w c j v h)) (fun j v h => c'.cell (hcs_blk 0 rfl (fun j v h => by rw [Nat.zero_add, ← Array.getElem?_toList]; exact h) w c j v h)))) ?_; rintro v H' ⟨rfl, rfl⟩) | refine st_y (y_len tabs rfl rfl) rfl ?_)
         | (show AT _ _ _ (wpList _ _ _ (⟨_, Op.pick _ _ _, _, _, _, _⟩ :: _)); first | refine st_y (y_pickt rfl (by first | assumption | omega) rfl) rfl ?_ | refine st_y (y_pickf rfl (by first | assumption | omega) rfl) rfl ?_ | refine st_y (y_pick rfl rfl rfl) rfl ?_)
         | (show AT _ _ _ (wpList _ _ _ (⟨_, Op.makeFunc _ _ _, _, _, _, _⟩ :: _)); refine st_y (y_fn rfl rfl) rfl ?_)
         | (show AT _ _ _ (wpList _ _ _ (⟨_, Op.box _ _, _, _, _, _⟩ :: _)); refine m_box rfl rfl (fun b4 hb4 => ?_))
         | refine st_gn rfl rfl rfl ?_ | refine st_gfy rfl rfl (by first | assumption | omega) ?_ | refine st_gfn rfl rfl (by first | assumption | omega) rfl ?_ | refine st_gd rfl rfl (fun h => ?_) (fun h => ?_))
      | (show AT _ _ _ (wpList _ _ _ []); refine c_nil (x_then ?_))
      | (show AT _ _ _ (Code.wp _ _ _); first | refine c_seq ?_ | refine c_region ?_ | refine c_skip (x_then ?_) | refine c_ret ?_ | refine c_true rfl ?_ | refine c_if rfl (fun h => ?_) (fun h => ?_))
      | (show AT _ _ _ _; refine x_then_ret ?_))
    all_goals first | exact x_ret2 Try.results50 (res_tmp rfl) (res_tmp rfl) (fun w' c' => ⟨_, _, rfl, ⟨none, 0, rfl, .inl rfl, rfl⟩, Hp.nilp _ _ (c'.sub (List.nil_sublist _))⟩) | skip
    all_goals exact absurd ⟨by first | assumption | exact Decidable.not_not.1 (by assumption), by first | assumption | exact Decidable.not_not.1 (by assumption), by omega, by assumption⟩ hP
end Go.Proofs.Ytfhgpkdhhclpbaa
