import Derived.Test.YtcplmeajmpkpkaaGreatCntqsp
import Derived.Test.YtcplmeajmpkpkaaGreatLGqsp
import Derived.Test.YtcplmeajmpkpkaaGreatSpdqsp
namespace Go.Lg
open Go.RowKit
theorem y_remn {P : Program} {n : Nat} {C : World → Prop} {s : List (Nat × Value)} {x y : Operand} {t t' ty : Nat} {p q : Int} {a b : Nat} (hx : ev s x = some (.int .i64 p)) (hy : ev s y = some (.int .i64 q)) (hp : p = (a : Int)) (hq : q = (b : Int)) (hb : 0 < b) : Y P n C s (.binOp .rem t x y t') ty (.int .i64 ((a % b : Nat) : Int)) := by
  subst hp; subst hq
  have := y_rem (P := P) (n := n) (C := C) (s := s) (t := t) (t' := t') (ty := ty) hx hy om
  have e : (a : Int).tmod (b : Int) = ((a % b : Nat) : Int) := by rw [Int.tmod_eq_emod_of_nonneg om]; rfl
  rwa [e] at this
theorem Hp.one1 {M : List Nat} {w0 w : World} {H : List HE} {g e : Nat} {pre : List Value} {u : Value} {t1 : T} {cs : Array Value} (hcs : cs.toList = pre ++ [u]) (c : Hp M w0 (.blk g cs e :: .own t1 u :: H) w) : Hp M w0 (.own (.s e (pre.length + 1) (pre.map T.c ++ [t1])) (.slice (some ⟨g, 0, none⟩) 1 1) :: H) w :=
  Hp.join (H1 := [.blk g cs e, .own t1 u]) c (fun f hf => by
    obtain ⟨f1, f2, rfl, ⟨h1, rfl⟩, f3, f4, rfl, h3, h4⟩ := hf
    simp only [satL] at h4
    subst h4
    refine ⟨[g] ++ (f3 ++ []), List.Perm.refl _, ?_⟩
    have hsz : cs.size = pre.length + 1 := by
      have := congrArg List.length hcs
      simpa using this
    simp only [HE.sat, Own]
    refine .inr ⟨g, 1, 1, cs, f3, rfl, h1, by simp, Nat.le_refl _, by unfold maxLen; omega, by omega, ?_, by simp⟩
    rw [List.take_of_length_le (by simp [hsz]), hcs]
    have := OwnL.append (OwnL.consts (w := w) pre) (t2 := [t1]) (v2 := [u]) (f2 := f3) (by
      simp only [OwnL]
      exact ⟨u, [], f3, [], rfl, by simp, h3, rfl, rfl⟩)
    simpa using this)
theorem Hp.consL {M : List Nat} {w0 w : World} {H : List HE} {t : T} {ts : List T} {v : Value} {vs : List Value} (c : Hp M w0 (.own t v :: .ownL ts vs :: H) w) : Hp M w0 (.ownL (t :: ts) (v :: vs) :: H) w :=
  Hp.join (H1 := [.own t v, .ownL ts vs]) c (fun f hf => by
    obtain ⟨f1, f2, rfl, h1, f3, f4, rfl, h3, h4⟩ := hf
    simp only [satL] at h4
    subst h4
    refine ⟨f1 ++ (f3 ++ []), List.Perm.refl _, ?_⟩
    simp only [HE.sat, OwnL] at h1 h3 ⊢
    exact ⟨v, vs, f1, f3, rfl, by simp, h1, h3⟩)
theorem Hp.blk1 {M : List Nat} {w0 w : World} {H : List HE} {g e : Nat} {u : Value} (c : Hp M w0 (.blk g #[u] e :: H) w) : Hp M w0 (.own (.s e 1 ([u].map T.c)) (.slice (some ⟨g, 0, none⟩) 1 1) :: H) w :=
  Hp.join (H1 := [.blk g #[u] e]) c (fun f hf => by
    obtain ⟨f1, f2, rfl, ⟨h1, rfl⟩, h4⟩ := hf
    simp only [satL] at h4
    subst h4
    refine ⟨[g], List.Perm.refl _, ?_⟩
    simp only [HE.sat, Own]
    exact .inr ⟨g, 1, 1, #[u], [], rfl, h1, by simp, Nat.le_refl _, by unfold maxLen; omega, by simp, by simpa using OwnL.consts (w := w) [u], rfl⟩)
end Go.Lg
namespace Go.Proofs.YtcplmeajmpkpkaaGreat
open Go.Lg Go.Proofs Go.RowKit
attribute [local irreducible] Code.wp wpList bodyPost Exit.then Exit.inBlock Hp Again Calls Y AT ResV QT Qn QI wpAny wpAnyQ
set_option maxRecDepth 20000
set_option maxHeartbeats 4000000

def vdF (p n c q : Nat) : Nat → Int := fun t => if n - q ≤ t then vlF p n c t else 0
theorem vd_next {p n c q : Nat} (hq : q < n) : (mkv n (vdF p n c q)).set (n - 1 - q) ((c / p ^ q % p : Nat) : Int) = mkv n (vdF p n c (q + 1)) := by
  rw [mkv_set]
  refine mkv_ext (fun t ht => ?_)
  unfold vdF
  by_cases h : t = n - 1 - q
  · subst h
    rw [if_pos rfl, if_pos om, vlF, dgt, show n - 1 - (n - 1 - q) = q by omega]
  · rw [if_neg h]
    by_cases h2 : n - q ≤ t
    · rw [if_pos h2, if_pos om]
    · rw [if_neg h2, if_neg om]
theorem VectorOf_ok {w : World} {p n c : Nat} (hF : FieldP (p : Int)) (hn : n ≤ 8) (hc : c < p ^ n) : Does Tryz.prog 102 [iV p, iV n, iV c] w (fun r H => ∃ a cc, r = .tuple #[.slice a n cc, .bool true] ∧ SA a n ∧ H = [.own (iT (vl p n c)) (.slice a n cc)]) := by
  have hp := fieldP_pos hF
  have hpn := pow_le (p := p) (i := n) om hn
  have hN : 0 ≤ (n : Int) ∧ (n : Int) ≤ 8 := by omega
  refine fn_enter Tryz.func102 rfl Tryz.ntmps102 rfl ?_
  repeat' (first | (show oL; first | refine sMv rfl rfl ?_ | refine sAs rfl rfl ?_ | (show oA (.binOp _ _ _ _ _); first | refine st_y (y_sub rfl rfl om) rfl ?_ | refine sLs rfl rfl rfl ?_) | (show oA (.unOp _ _ _); refine st_y (y_notd rfl) rfl ?_) | (show oA (.call _); first | (refine m_call (ent_of Tryz.func74 kr rfl) rfl rfl (fun w c => spec_IsField_ok _) ?_; rintro v H' ⟨rfl, rfl⟩) | (refine m_call (ent_of Tryz.func75 kr rfl) rfl rfl (fun w c => l1In_ok _ _ _) ?_; rintro v H' ⟨rfl, rfl⟩)) | (show oA (.pick _ _ _); first | refine st_y (y_pickt rfl aO rfl) rfl ?_ | refine st_y (y_pickf rfl aO rfl) rfl ?_ | refine st_y (y_pick rfl rfl rfl) rfl ?_) | (show oA (.makeSlice _ _ _); refine m_maken tabs (m := n) rfl rfl rfl rfl om rfl (fun gg hgg => ?_)) | (show oA (.buildSlice _ _ _); refine m_build0 tabs rfl rfl (fun g hg => ?_)) | refine st_gn rfl rfl rfl ?_ | refine st_gfy rfl rfl aO ?_ | refine st_gfn rfl rfl aO rfl ?_ | refine st_gd rfl rfl (fun h => ?_) (fun h => ?_)) | refine xNt ?_ | (show oC; first | refine c_seq ?_ | refine c_region ?_ | refine c_skip (x_then ?_) | refine c_block ?_ | refine c_ret ?_ | refine c_true rfl ?_ | refine c_false rfl ?_) | (show AT _ _ _ _; refine x_then_ret ?_))
  all_goals first | exact absurd hF aS | exact absurd hN aS | (exfalso; omega) | skip
  have e00 : ((c / p ^ 0 : Nat) : Int) = c := by simp
  refine c_loopH (α := Nat) [0, 8] (fun q => [(2, iV ((c / p ^ q : Nat) : Int)), (9, iV ((n : Int) - 1 - q))]) (fun q => q ≤ n) (fun q => [.own (iT (mkv n (vdF p n c q))) (.slice (some ⟨gg, 0, none⟩) n n)]) (fun q => n - q) 0 rfl sB ?_ ?_ ?_
  · exact Nat.zero_le _
  · intro w' c'
    have e0 : List.replicate n (0 : Int) = mkv n (vdF p n c 0) := by
      rw [mkv_zero]
      exact mkv_ext (fun q hq => by rw [vdF, if_neg om])
    rw [e0] at c'
    exact c'
  · intro q hq
    by_cases hqn : q < n
    · have hle := Nat.div_le_self c (p ^ q)
      have e1 : c / p ^ q / p = c / p ^ (q + 1) := by rw [Nat.div_div_eq_div_mul, Nat.pow_succ]
      repeat' (first | (show oL; first | refine sMv rfl rfl ?_ | refine sAs rfl rfl ?_ | (show oA (.indexAddr _ _ _); refine st_y (y_ix1 tabs (j := n - 1 - q) rfl rfl rfl .mk om om) rfl ?_) | (show oA (.binOp _ _ _ _ _); first | refine st_y (y_remn (a := c / p ^ q) (b := p) rfl rfl rfl rfl om) rfl ?_ | refine st_y (y_quon (a := c / p ^ q) (b := p) rfl rfl rfl rfl om om) rfl ?_ | refine st_y (y_sub rfl rfl om) rfl ?_ | refine st_y (y_geq rfl rfl) rfl ?_) | (show oA (.store _ _ _); refine m_storeo 0 tabs rfl rfl rfl rfl (by rw [mkv_length]; omega) ?_)) | (show oN; first | refine c_nil (x_then ?_) | refine c_nil ?_) | (show oC; first | refine c_seq ?_ | refine c_region ?_ | refine c_skip (x_then ?_) | refine c_block ?_ | refine c_ift rfl aO ?_) | (show AT _ _ _ _; first | refine x_then ?_ | refine x_blk ?_))
      refine x_nx (q + 1) (by rw [← e1, show ((n : Int) - 1 - ((q + 1 : Nat) : Int)) = (n : Int) - 1 - q - 1 by omega]; exact sB) om (fun w' c' => ?_) om
      simp only [List.set_cons_zero] at c'
      rw [vd_next hqn] at c'
      exact c'
    · have : q = n := by omega
      subst this
      have e2 : c / p ^ q = 0 := Nat.div_eq_of_lt hc
      rw [e2]
      repeat' (first | (show oL; first | refine sMv rfl rfl ?_ | refine sAs rfl rfl ?_ | (show oA (.binOp _ _ _ _ _); first | refine st_y (y_gtr rfl rfl) rfl ?_ | refine st_y (y_geq rfl rfl) rfl ?_)) | refine xNt ?_ | (show oC; first | refine c_seq ?_ | refine c_region ?_ | refine c_skip (x_then ?_) | refine c_ret ?_ | refine c_exit ?_ | refine c_false rfl ?_ | refine c_iff rfl nN ?_) | (show AT _ _ _ _; first | refine x_then ?_ | refine x_then_exit ?_ | refine x_blk_exit rfl ?_))
      all_goals first | (exfalso; omega) | skip
      have e4 : mkv q (vdF p q c q) = vl p q c := mkv_ext (fun t ht => by rw [vdF, if_pos om])
      rw [e4]
      exact x_ret2 Tryz.results102 (res_tmp rfl) (res_tmp rfl) (fun w' c' => ⟨_, _, rfl, ⟨_, _, rfl, .mk, rfl⟩, c'⟩)
abbrev Nms := List Value × List (List Int)
def nsT (n : Int) (L : List Nms) : List T := L.flatMap (fun x => [T.c (iV n), T.s 43 1 (x.1.map T.c)])
def NmOk (us : List Value) (vs : List (List Int)) (L : List Nms) : Prop := ∀ x ∈ L, x.1.length = x.2.length ∧ (∀ u ∈ x.1, u.oneCell' = true) ∧ ∀ (i : Nat) (u : Value) (xs : List Int), x.1[i]? = some u → x.2[i]? = some xs → ∃ q : Nat, us[q]? = some u ∧ vs[q]? = some xs
def GivesLs (n : Nat) (l : List Sp) (r : Value) (H : List HE) : Prop := ∃ (L : List Nms) (us : List Value) (vs : List (List Int)) (a : Option Addr) (c : Nat), l = L.map (fun x => ((n : Int), x.2)) ∧ us.length = vs.length ∧ NmOk us vs L ∧ r = .slice a L.length c ∧ SA a L.length ∧ H = [.own (.s 26 2 (nsT n L)) (.slice a L.length c), .ownL (vs.map iT) us]
theorem nsT_length (n : Int) (L : List Nms) : (nsT n L).length = 2 * L.length := by
  rw [nsT, flatMap_length (k := 2) (fun _ => rfl), Nat.mul_comm]
theorem nsT_get {n : Int} {L : List Nms} {i : Nat} {x : Nms} (h : L[i]? = some x) : (nsT n L)[i * 2 + 1]? = some (T.s 43 1 (x.1.map T.c)) ∧ (nsT n L)[i * 2]? = some (T.c (iV n)) := by
  have h1 := flatMap_get (f := fun x : Nms => [T.c (iV n), T.s 43 1 (x.1.map T.c)]) (k := 2) (fun _ => rfl) h (q := 1) (by decide)
  have h2 := flatMap_get (f := fun x : Nms => [T.c (iV n), T.s 43 1 (x.1.map T.c)]) (k := 2) (fun _ => rfl) h (q := 0) (by decide)
  exact ⟨h1, h2⟩
theorem nsT_snoc (n : Int) (L : List Nms) (x : Nms) : nsT n (L ++ [x]) = nsT n L ++ ([T.c (iV n)] ++ [T.s 43 1 (x.1.map T.c)]) := by
  rw [nsT, List.flatMap_append]
  rfl
theorem liJ_len {p : Int} {n : Nat} {v : List Int} {rest : List Sp} : ∀ i, (liJ p n v rest i).length ≤ i
  | 0 => Nat.le_refl _
  | i + 1 => by
    have := liJ_len (p := p) (n := n) (v := v) (rest := rest) i
    rw [liJ]
    split
    · rw [List.length_append, List.length_singleton]; omega
    · omega
theorem liC_len {p n : Nat} {rest : List Sp} : ∀ c, (liC p n rest c).length ≤ c * rest.length
  | 0 => by simp [liC]
  | c + 1 => by
    have h1 := liC_len (p := p) (n := n) (rest := rest) c
    have h2 := liJ_len (p := p) (n := n) (v := vl p n c) (rest := rest) rest.length
    rw [liC, List.length_append, Nat.succ_mul]; omega
theorem lstS_len {p n : Nat} (h : p ^ n ≤ 27) : ∀ k, (lstS p n k).length ≤ 27 ^ k
  | 0 => by simp [lstS]
  | k + 1 => by
    have h1 := liC_len (p := p) (n := n) (rest := lstS p n k) (p ^ n)
    have h2 := Nat.mul_le_mul h (lstS_len h k)
    rw [lstS, Nat.pow_succ, Nat.mul_comm (27 ^ k)]; omega
theorem nm_sl {w : World} {e : Nat} {us : List Value} {u : Value} (h : Rd w (.s e 1 (us.map T.c)) u) : ∃ a c, u = .slice a us.length c := by
  obtain ⟨a, m, c, rfl, _, _, _, hm, _⟩ := Rd.open (by decide) h
  rw [List.length_map, Nat.mul_one] at hm
  subst hm
  exact ⟨a, c, rfl⟩
theorem nm_src {w : World} {e m c : Nat} {us : List Value} {a : Option Addr} (h : Rd w (.s e 1 (us.map T.c)) (.slice a m c)) : us.length = m ∧ (m = 0 ∨ ∃ ad, a = some ad ∧ ∀ j u, us[j]? = some u → w.cell? (ad.add j) = some u) := by
  obtain ⟨us', h1, h2, h3, h4⟩ := rd_cells h
  rw [List.length_map] at h1
  refine ⟨h1, ?_⟩
  rcases h3 with h3 | h3
  · exact .inl h3
  · refine .inr ⟨_, h3, fun j u hj => ?_⟩
    rw [Addr.add_lit]
    have hl := h2.1
    rw [List.length_map] at hl
    obtain ⟨u', hu'⟩ : ∃ u', us'[j]? = some u' := ⟨_, List.getElem?_eq_getElem (by have := (List.getElem?_eq_some_iff.1 hj).1; omega)⟩
    have := h2.2 j (.c u) u' (by simp [hj]) hu'
    simp only [Rd] at this
    rw [← this]
    exact h4 j u' hu'
theorem nm_rdc {M : List Nat} {w0 w : World} {H : List HE} {us us0 : List Value} {vs vs0 : List (List Int)} {x : Nms} (i j : Nat) (hi : H[i]? = some (.ownL (vs.map iT) us)) (hj : H[j]? = some (.ownL (vs0.map iT) us0)) (hl : us.length = vs.length) (c : Hp M w0 H w)
    (hx : x.1.length = x.2.length ∧ (∀ u ∈ x.1, u.oneCell' = true) ∧ ∀ (i : Nat) (u : Value) (xs : List Int), x.1[i]? = some u → x.2[i]? = some xs → ∃ q : Nat, (us ++ us0)[q]? = some u ∧ (vs ++ vs0)[q]? = some xs) : RdC w (x.2.map iT) x.1 := by
  refine ⟨by rw [List.length_map]; exact hx.1, fun k t u ht hu => ?_⟩
  rw [List.getElem?_map] at ht
  obtain ⟨xs, hxs, rfl⟩ := Option.map_eq_some_iff.1 ht
  obtain ⟨q, h1, h2⟩ := hx.2.2 k u xs hu hxs
  rw [List.getElem?_append] at h1 h2
  by_cases hq : q < us.length
  · rw [if_pos hq] at h1
    rw [if_pos om] at h2
    exact Hp.ownL_rd i hi (by rw [List.getElem?_map, h2]; rfl) h1 c
  · rw [if_neg hq] at h1
    rw [if_neg om, ← hl] at h2
    exact Hp.ownL_rd j hj (by rw [List.getElem?_map, h2]; rfl) h1 c
theorem nm_up {us us0 : List Value} {vs vs0 : List (List Int)} {x : Nms} (hl : us.length = vs.length) (h : x.1.length = x.2.length ∧ (∀ u ∈ x.1, u.oneCell' = true) ∧ ∀ (i : Nat) (u : Value) (xs : List Int), x.1[i]? = some u → x.2[i]? = some xs → ∃ q : Nat, us0[q]? = some u ∧ vs0[q]? = some xs) : x.1.length = x.2.length ∧ (∀ u ∈ x.1, u.oneCell' = true) ∧ ∀ (i : Nat) (u : Value) (xs : List Int), x.1[i]? = some u → x.2[i]? = some xs → ∃ q : Nat, (us ++ us0)[q]? = some u ∧ (vs ++ vs0)[q]? = some xs := by
  refine ⟨h.1, h.2.1, fun i u xs h1 h2 => ?_⟩
  obtain ⟨q, h3, h4⟩ := h.2.2 i u xs h1 h2
  refine ⟨us.length + q, ?_, ?_⟩
  · rw [List.getElem?_append_right om, Nat.add_sub_cancel_left]; exact h3
  · rw [hl, List.getElem?_append_right om, Nat.add_sub_cancel_left]; exact h4
theorem rowsT_rd {w : World} {e : Nat} {rs : List (List Int)} {v : Value} (h : Rd w (.s e 1 (rs.map iT)) v) : Rd w (rowsT e rs) v := by
  unfold rowsT
  rw [rowT_map]
  exact h
theorem own_sa {M : List Nat} {w0 : World} {H : List HE} (i : Nat) {e k m c : Nat} {ts : List T} {a : Option Addr} (hk : 0 < k) (hi : H[i]? = some (.own (.s e k ts) (.slice a m c))) : ∀ w, Hp M w0 H w → SA a m := fun w cw => by
  obtain ⟨a', m', cap, h1, h2, _⟩ := Rd.open hk (cw.own_rd hi)
  cases h1
  exact h2
theorem l5List_ok {p n : Nat} (hF : FieldP (p : Int)) (hn : n ≤ 8) (hpn : p ^ n ≤ 27) : ∀ (k : Nat), k ≤ 4 → ∀ w, Does Tryz.prog 53 [iV p, iV n, iV k] w (GivesLs n (lstS p n k))
  | 0, _, w => by
    refine fn_enter Tryz.func53 rfl Tryz.ntmps53 rfl ?_
    repeat' (first | (show oL; first | refine sMv rfl rfl ?_ | refine sAs rfl rfl ?_ | (show oA (.binOp _ _ _ _ _); refine st_y (y_eql rfl rfl) rfl ?_) | (show oA (.buildSlice _ _ _); first | refine m_build1 tabs (us := [iV n, .slice (some ⟨g, 0, none⟩) 0 0]) rfl rfl rfl rfl (by decide) rfl (fun g2 hg2 => ?_) | refine m_build0 tabs rfl rfl (fun g hg => ?_)) | (show oA (.build _ _); refine st_y (y_bld2 (bld_sp _ _ _ _) rfl rfl) rfl ?_)) | refine xNt ?_ | (show oC; first | refine c_seq ?_ | refine c_region ?_ | refine c_ret ?_ | refine c_true rfl ?_) | (show AT _ _ _ _; refine x_then_ret ?_))
    all_goals first | (exfalso; omega) | skip
    exact x_ret1 Tryz.results53 (res_tmp rfl) (fun w' c' => ⟨_, _, rfl, ⟨[([], [])], [], [], _, _, rfl, rfl, fun x hx => by
      simp only [List.mem_singleton] at hx
      subst hx
      exact ⟨rfl, (fun u hu => by cases hu), fun i u xs h => by simp at h⟩, rfl, .mk, rfl⟩, by
      have h := (Hp.one1 (pre := [iV n]) rfl c').free []
      exact h.front (i := 1) rfl⟩)
  | k + 1, hk, w => by
    have IH := l5List_ok hF hn hpn k om
    have hp := fieldP_pos hF
    have hll := lstS_len hpn k
    have h27 : 27 ^ k ≤ 27 ^ 3 := Nat.pow_le_pow_right (by decide) om
    have hk1 : ((k + 1 : Nat) : Int) - 1 = (k : Int) := by omega
    refine fn_enter Tryz.func53 rfl Tryz.ntmps53 rfl ?_
    repeat' (first | (show oL; first | refine sMv rfl rfl ?_ | refine sAs rfl rfl ?_ | (show oA (.binOp _ _ _ _ _); first | refine st_y (y_sub rfl rfl om) rfl ?_ | refine st_y (y_eql rfl rfl) rfl ?_) | (show oA (.call _); (refine m_call (ent_of Tryz.func53 kr rfl) rfl rfl (fun w c => by rw [hk1]; exact IH w) ?_; rintro v H' ⟨L0, us0, vs0, a0, c0, hL0, hl0, hN0, rfl, hs0, rfl⟩)) | (show oA (.buildSlice _ _ _); refine m_build0 tabs rfl rfl (fun g hg => ?_))) | refine xNt ?_ | (show oC; first | refine c_seq ?_ | refine c_region ?_ | refine c_skip (x_then ?_) | refine c_block ?_ | refine c_false rfl ?_))
    all_goals first | (exfalso; omega) | skip
    have hLl : L0.length = (lstS p n k).length := by rw [hL0, List.length_map]
    have e00 : ((p ^ 0 : Nat) : Int) = 1 := by simp
    refine c_loopH (α := Nat) [0, 1, 7, 8] (fun i => [(9, iV ((p ^ i : Nat) : Int)), (10, .int .i64 i)]) (fun i => i ≤ n) (fun i => [.own (.s 26 2 (nsT n L0)) (.slice a0 L0.length c0), .ownL (vs0.map iT) us0, .own (.s 26 2 []) (.slice (some ⟨g, 0, none⟩) 0 0)]) (fun i => n - i) 0 rfl sB ?_ ?_ ?_
    · exact Nat.zero_le _
    · exact fun w' c' => c'
    · intro i hi
      by_cases hin : i < n
      · have hb := pow_le (p := p) (i := i) om om
        have hm := Nat.mul_le_mul hb (show p ≤ 5 by omega)
        repeat' (first | (show oL; first | refine sMv rfl rfl ?_ | refine sAs rfl rfl ?_ | (show oA (.binOp _ _ _ _ _); first | refine st_y (y_muln rfl rfl rfl rfl om) rfl ?_ | refine sAd rfl rfl om rfl ?_ | refine sLs rfl rfl rfl ?_)) | (show oN; first | refine c_nil (x_then ?_) | refine c_nil ?_) | (show oC; first | refine c_seq ?_ | refine c_region ?_ | refine c_skip (x_then ?_) | refine c_block ?_ | refine c_ift rfl aO ?_) | (show AT _ _ _ _; first | refine x_then ?_ | refine x_blk ?_))
        exact x_nx (i + 1) (by rw [Nat.pow_succ]; exact sB) om (fun w' c' => c') om
      · have : i = n := by omega
        subst this
        repeat' (first | (show oL; first | refine sMv rfl rfl ?_ | refine sAs rfl rfl ?_ | refine sLs rfl rfl rfl ?_) | refine xNt ?_ | (show oC; first | refine c_seq ?_ | refine c_region ?_ | refine c_block ?_ | refine c_exit ?_ | refine c_iff rfl nN ?_) | (show AT _ _ _ _; first | refine x_then ?_ | refine x_then_exit ?_ | refine x_blk_exit rfl ?_))
        refine AT.opn 0 rfl (fun ws hws => ?_)
        rw [nsT_length] at hws
        simp only [List.eraseIdx_cons_zero]
        refine c_loopH (α := Nat × List Nms × List Value × List (List Int) × Option Addr × Nat) [0, 1, 8, 9] (fun s => [(7, .slice s.2.2.2.2.1 s.2.1.length s.2.2.2.2.2), (11, .int .i64 s.1)]) (fun s => s.1 ≤ p ^ i ∧ liC p i (lstS p i k) s.1 = s.2.1.map (fun x => ((i : Int), x.2)) ∧ s.2.2.1.length = s.2.2.2.1.length ∧ NmOk (s.2.2.1 ++ us0) (s.2.2.2.1 ++ vs0) s.2.1) (fun s => [.own (.s 26 2 (nsT i s.2.1)) (.slice s.2.2.2.2.1 s.2.1.length s.2.2.2.2.2), .ownL (s.2.2.2.1.map iT) s.2.2.1, .own (.s 26 2 (ws.map T.c)) (.slice a0 L0.length c0), .ownL (nsT i L0) ws, .ownL (vs0.map iT) us0]) (fun s => p ^ i - s.1) (0, [], [], [], some ⟨g, 0, none⟩, 0) rfl sB ?_ ?_ ?_
        · exact ⟨Nat.zero_le _, rfl, rfl, fun x hx => by cases hx⟩
        · intro w' c'
          exact ((c'.front (i := 3) rfl).free []).swap
        · rintro ⟨c, L, us, vs, al, cl⟩ ⟨hc, hL, hl, hN⟩
          simp only at hc hL hl hN ⊢
          by_cases hcn : c < p ^ i
          · repeat' (first | (show oL; first | refine sMv rfl rfl ?_ | refine sAs rfl rfl ?_ | refine sLs rfl rfl rfl ?_ | (show oA (.call _); (refine m_call (ent_of Tryz.func102 kr rfl) rfl rfl (fun w c => VectorOf_ok hF hn hcn) ?_; rintro v H' ⟨av, cv, rfl, hsv, rfl⟩)) | (show oA (.extract _ _); refine st_y (y_ext rfl rfl) rfl ?_)) | refine xNt ?_ | (show oC; first | refine c_seq ?_ | refine c_region ?_ | refine c_skip (x_then ?_) | refine c_block ?_ | refine c_ift rfl aO ?_))
            have hvl : (vl p i c).length = i := by simp [vl]
            refine c_loopH (α := Nat × List Nms × Option Addr × Nat) [0, 1, 8, 9, 11, 12] (fun s => [(7, .slice s.2.2.1 s.2.1.length s.2.2.2), (14, .int .i64 s.1)]) (fun s => s.1 ≤ L0.length ∧ liC p i (lstS p i k) c ++ liJ p i (vl p i c) (lstS p i k) s.1 = s.2.1.map (fun x => ((i : Int), x.2)) ∧ NmOk ((.slice av i cv :: us) ++ us0) ((vl p i c :: vs) ++ vs0) s.2.1) (fun s => [.own (iT (vl p i c)) (.slice av i cv), .own (.s 26 2 (nsT i s.2.1)) (.slice s.2.2.1 s.2.1.length s.2.2.2), .ownL (vs.map iT) us, .own (.s 26 2 (ws.map T.c)) (.slice a0 L0.length c0), .ownL (nsT i L0) ws, .ownL (vs0.map iT) us0]) (fun s => L0.length - s.1) (0, L, al, cl) rfl sB ?_ ?_ ?_
            · refine ⟨Nat.zero_le _, by rw [liJ, List.append_nil]; exact hL, fun x hx => ⟨(hN x hx).1, (hN x hx).2.1, fun j u xs h1 h2 => ?_⟩⟩
              obtain ⟨q, h3, h4⟩ := (hN x hx).2.2 j u xs h1 h2
              exact ⟨q + 1, by simpa using h3, by simpa using h4⟩
            · exact fun w' c' => c'
            · rintro ⟨j, L, al, cl⟩ ⟨hj, hL, hN⟩
              simp only at hj hL hN ⊢
              by_cases hjn : j < L0.length
              · obtain ⟨x, hx⟩ : ∃ x, L0[j]? = some x := ⟨_, List.getElem?_eq_getElem hjn⟩
                obtain ⟨u, hu⟩ : ∃ u, ws[j * 2 + 1]? = some u := ⟨_, List.getElem?_eq_getElem om⟩
                have hxl : (lstS p i k)[j]? = some ((i : Int), x.2) := by rw [hL0, List.getElem?_map, hx]; rfl
                have hxk := (lstS_ok (List.mem_of_getElem? hxl)).2.1
                simp only at hxk
                have hxn := hN0 x (List.mem_of_getElem? hx)
                have hLb := liJ_len (p := (p : Int)) (n := i) (v := vl p i c) (rest := lstS p i k) j
                have hLc := liC_len (p := p) (n := i) (rest := lstS p i k) c
                have hLm := Nat.mul_le_mul (show c ≤ 27 by omega) (show (lstS p i k).length ≤ 19683 by omega)
                have hLn : L.length = (liC p i (lstS p i k) c).length + (liJ (p : Int) i (vl p i c) (lstS p i k) j).length := by
                  rw [← List.length_append, hL, List.length_map]
                have hgd : ((lstS p i k).getD j (0, [])).2 = x.2 := by rw [List.getD, hxl]; rfl
                refine AT.fact (fun w' c' => by have h := Hp.ownL_rd 4 rfl (nsT_get (n := (i : Int)) hx).1 hu c'; exact nm_sl h) (fun hop => ?_)
                obtain ⟨ax, cx, rfl⟩ := hop
                repeat' (first | (show oL; first | refine sMv rfl rfl ?_ | refine sAs rfl rfl ?_ | refine sFd tabs rfl rfl rfl rfl ?_ | (show oA (.load _ _); first | refine st_y (y_load tabs rfl rfl (fun w' c' => hc_nmk 4 (by decide) rfl hu w' c')) rfl ?_ | refine sLb 0 tabs rfl rfl rfl rfl rfl ?_) | (show oA (.indexAddr _ _ _); refine st_y (y_ixa tabs rfl rfl rfl hs0 om om) rfl ?_) | (show oA (.binOp _ _ _ _ _); first | refine sAd rfl rfl om rfl ?_ | refine sLs rfl rfl rfl ?_) | (show oA (.call _); first | refine m_apps tabs (us := [.slice av i cv]) (us' := x.1) (m' := 1 + x.1.length) rfl rfl rfl rfl rfl hxn.2.1 (by simp) (by simp; omega) (by decide) (fun w' c' => c'.blk1) (fun w' c' => (nm_src (Hp.ownL_rd 5 rfl (nsT_get (n := (i : Int)) hx).1 hu c')).2) (fun a9 c9 => ?_) | (refine m_call (ent_of Tryz.func32 kr rfl) rfl rfl (fun w' c' => spec_IsSpace_ok (s := ((i : Int), vl p i c :: x.2)) (rowsT_rd (rd_named 1 rfl c' (RdC.append (RdC.one (c'.own_rd (i := 2) rfl)) (nm_rdc 4 7 rfl rfl hl c' (nm_up hl hxn)))))) ?_; rintro v H' ⟨rfl, rfl⟩) | refine m_push1 [iV i] 2 1 tabs (m' := L.length) rfl rfl rfl rfl rfl rfl rfl (by rw [nsT_length]; omega) (by rw [nsT_length]; omega) (by decide) rfl rfl (fun a10 c10 => ?_) | refine sLn tabs rfl rfl rfl ?_) | (show oA (.store _ _ _); refine m_storeb 0 tabs rfl rfl rfl rfl rfl rfl rfl ?_) | (show oA (.alloc _); refine m_alloc tabs rfl rfl (fun b15 hb15 => ?_)) | (show oA (.buildSlice _ _ _); first | refine m_build1 tabs (us := [.slice av i cv]) rfl rfl rfl rfl (by decide) rfl (fun g2 hg2 => ?_) | refine m_build1 tabs (us := [iV i, .slice a9 (1 + x.1.length) c9]) rfl rfl rfl rfl (by decide) rfl (fun g3 hg3 => ?_)) | (show oA (.build _ _); refine st_y (y_bld2 (bld_sp _ _ _ _) rfl rfl) rfl ?_)) | (show oN; first | refine c_nil (x_then ?_) | refine c_nil ?_) | (show oC; first | refine c_seq ?_ | refine c_region ?_ | refine c_skip (x_then ?_) | refine c_skip (x_blk ?_) | refine c_block ?_ | refine c_ift rfl aO ?_ | refine c_if rfl (fun h => ?_) (fun h => ?_)) | (show AT _ _ _ _; first | refine x_then ?_ | refine x_blk ?_))
                · have hS : SpcP (p : Int) ((i : Int), vl p i c :: x.2) := by assumption
                  refine x_nx (j + 1, L ++ [(.slice av i cv :: x.1, vl p i c :: x.2)], a10, c10) (by rw [List.length_append, List.length_singleton]; exact sB) ⟨by omega, ?_, ?_⟩ (fun w' c' => ?_) (by simp only; omega)
                  · rw [liJ, hgd, if_pos hS, ← List.append_assoc, hL, List.map_append]
                    rfl
                  · intro y hy
                    rcases List.mem_append.1 hy with hy | hy
                    · exact hN y hy
                    · rw [List.mem_singleton] at hy
                      subst hy
                      have hup := nm_up hl hxn
                      refine ⟨by simp [hup.1], fun u hu => ?_, fun q u xs h1 h2 => ?_⟩
                      · rcases List.mem_cons.1 hu with e | hu
                        · subst e; rfl
                        · exact hup.2.1 u hu
                      · match q, h1, h2 with
                        | 0, h1, h2 => exact ⟨0, by simpa using h1, by simpa using h2⟩
                        | q + 1, h1, h2 =>
                          obtain ⟨r, h3, h4⟩ := hup.2.2 q u xs (by simpa using h1) (by simpa using h2)
                          exact ⟨r + 1, by simpa using h3, by simpa using h4⟩
                  · have h := c'.sel [2, 0, 3, 4, 5, 6] rfl
                    simp only [List.length_append, List.length_singleton]
                    rw [nsT_snoc]
                    exact h
                · have hS : ¬ SpcP (p : Int) ((i : Int), vl p i c :: x.2) := by assumption
                  refine x_nx (j + 1, L, al, cl) sB ⟨by omega, ?_, hN⟩ (fun w' c' => ?_) (by simp only; omega)
                  · rw [liJ, hgd, if_neg hS]
                    exact hL
                  · exact c'.sel [2, 3, 4, 5, 6, 7] rfl
              · have : j = L0.length := by omega
                subst this
                repeat' (first | (show oL; first | refine sMv rfl rfl ?_ | refine sAs rfl rfl ?_ | (show oA (.binOp _ _ _ _ _); first | refine sAd rfl rfl om rfl ?_ | refine sLs rfl rfl rfl ?_) | refine sLn tabs rfl rfl rfl ?_) | refine xNt ?_ | (show oC; first | refine c_seq ?_ | refine c_region ?_ | refine c_exit ?_ | refine c_iff rfl nN ?_) | (show AT _ _ _ _; first | refine x_then ?_ | refine x_then_exit ?_ | refine x_blk_exit rfl ?_ | refine x_blk ?_))
                refine x_nx (c + 1, L, .slice av i cv :: us, vl p i c :: vs, al, cl) sB ⟨by omega, by rw [liC, ← hLl]; exact hL, by simp only [List.length_cons]; omega, hN⟩ (fun w' c' => ?_) (by simp only; omega)
                exact ((c'.sel [0, 2, 1, 3, 4, 5] rfl).consL).swap
          · have : c = p ^ i := by omega
            subst this
            repeat' (first | (show oL; first | refine sMv rfl rfl ?_ | refine sAs rfl rfl ?_ | refine sLs rfl rfl rfl ?_) | refine xNt ?_ | (show oC; first | refine c_seq ?_ | refine c_region ?_ | refine c_ret ?_ | refine c_exit ?_ | refine c_iff rfl nN ?_) | (show AT _ _ _ _; first | refine x_then ?_ | refine x_then_exit ?_ | refine x_blk_exit rfl ?_))
            refine AT.fact (own_sa 0 (by decide) rfl) (fun hsl => ?_)
            exact x_ret1 Tryz.results53 (res_tmp rfl) (fun w' c' => ⟨_, _, rfl, ⟨L, us ++ us0, vs ++ vs0, al, cl, hL, by simp; omega, hN, rfl, hsl, rfl⟩, by
              have h := (c'.sel [1, 4, 0] rfl).cat
              rw [List.map_append]
              exact h.swap⟩)
end Go.Proofs.YtcplmeajmpkpkaaGreat
