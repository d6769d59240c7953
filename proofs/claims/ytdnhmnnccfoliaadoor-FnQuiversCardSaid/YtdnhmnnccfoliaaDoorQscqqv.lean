import Derived.Test.YtdnhmnnccfoliaaDoorQstqqv
namespace Go.Lg
open Go.RowKit
section
variable {P : Program} {n : Nat} {M : List Nat} {w0 : World} {H : List HE} {s : List (Nat × Value)} {Q : Exit → Act → World → Prop} {ops : Array Oper} {rest : List Oper}
variable {d ty t t' : Nat} {pos : String} {af : Array Edge} {v : Value} {x y : Operand}
theorem y_eqlk {C : World → Prop} {k : IntKind} {p q : Int} (hx : ev s x = some (.int k p)) (hy : ev s y = some (.int k q)) : Y P n C s (.binOp .eql t x y t') ty (.bool (decide (p = q))) := fun a w f c d pos af g => by
  simp [execOp, f.ev hx, f.ev hy, eqGuard, binOp, Op.intCmp, ibeq]
theorem m_pushc (i : Nat) (T0 : Tabs P) {e g e' b c : Nat} {z us : List Value} {u : Value} (ht : lk T0.sl t = some (e, 1, b, z)) (hi : H[i]? = some (.own (.s e 1 (us.map T.c)) v)) (hx : ev s x = some v) (hy : ev s y = some (.slice (some ⟨g, 0, none⟩) 1 c)) (hd : Nat.blt d n = true)
    (hu : u.oneCell' = true) (hb : us.length ≤ 1099511627) (hb1 : Nat.ble 1 b = true) (hb2 : Nat.ble b 1024 = true)
    (h : ∀ a cc, AT n (Hp M w0 (.own (.s e 1 ((us ++ [u]).map T.c)) (.slice a (us.length + 1) cc) :: H.eraseIdx i)) ((d, .slice a (us.length + 1) cc) :: s) (wpList P ops Q rest)) :
    AT n (Hp M w0 (.blk g #[u] e' :: H)) s (wpList P ops Q (⟨some d, .call ⟨.builtin .append, #[x, y], #[t, t]⟩, ty, pos, af, none⟩ :: rest)) := by
  have hb1' := Nat.le_of_ble_eq_true hb1
  have hb2' := Nat.le_of_ble_eq_true hb2
  refine m_app (ts := us.map T.c) (tn := [T.c u]) (news := [u]) (m' := us.length + 1) (m := 1) (H' := H.eraseIdx i) T0 ht hx hy hd (by simp) (by simpa using hu) (by simp) ?_ om
    (fun w c => ?_) (fun w c => .inr ⟨_, rfl, fun j q hq => ?_⟩) ?_
  · simp only [List.length_map, List.length_singleton]
    have := Nat.mul_le_mul (show us.length + 1 ≤ 1099511628 by omega) hb2'
    omega
  · have := (c.drop.front hi).free [u]
    exact this.swap
  · match j, hq with
    | 0, hq =>
      have := hc_blk (M := M) (w0 := w0) 0 (o := 0) (v := u) (H := .blk g #[u] e' :: H) rfl rfl w c
      simp at hq
      subst hq
      simpa [Addr.add] using this
    | j + 1, hq => simp at hq
  · intro a cc
    have := h a cc
    rwa [List.map_append] at this
end
end Go.Lg
namespace Go.Proofs.YtdnhmnnccfoliaaDoor
open Go.Lg Go.Proofs Go.RowKit
attribute [local irreducible] Code.wp wpList bodyPost Exit.then Exit.inBlock Hp Again Calls Y AT ResV QT Qn QI wpAny wpAnyQ
set_option maxRecDepth 20000
set_option maxHeartbeats 4000000

abbrev strT (l : List (List UInt8)) : T := .s 9 1 ((l.map sV).map T.c)
theorem str_snoc {l : List (List UInt8)} {x : List UInt8} : strT (l ++ [x]) = .s 9 1 ((l.map sV ++ [sV x]).map T.c) := by simp [strT]
theorem l6Cut_ok2 {w : World} {s : List UInt8} {by' : Int} {d : UInt8} (hd : by' = (d.toNat : Int)) (hl : s.length ≤ 2000000) : Does Tryd.prog 41 [sV s, .int .u8 by'] w (fun v H => ∃ a c, v = .slice a (spL d s).length c ∧ H = [.own (strT (spL d s)) (.slice a (spL d s).length c)]) := by
  subst hd
  refine fn_enter Tryd.func41 rfl Tryd.ntmps41 rfl ?_
  repeat' (first | (show oL; first | refine sAs rfl rfl ?_ | (show oA (.buildSlice _ _ _); refine m_build0 tabs rfl rfl (fun g hg => ?_))) | refine xNt ?_ | (show oC; first | refine c_seq ?_ | refine c_region ?_ | refine c_block ?_))
  refine c_loopH (α := Nat × Option Addr × Nat) [0, 1] (fun x => [(5, .slice x.2.1 (spR d (s.take x.1)).1.length x.2.2), (6, sV (spR d (s.take x.1)).2), (7, iV x.1)]) (fun x => x.1 ≤ s.length) (fun x => [.own (strT (spR d (s.take x.1)).1) (.slice x.2.1 (spR d (s.take x.1)).1.length x.2.2)]) (fun x => s.length - x.1) (0, some ⟨g, 0, none⟩, 0) rfl sB ?_ ?_ ?_
  · exact Nat.zero_le _
  · exact fun w' c' => c'
  · rintro ⟨i, a, c⟩ hi
    simp only at hi ⊢
    have hlen := spR_len (d := d) (s := s) i hi
    by_cases hin : i < s.length
    · have en := spR_next (d := d) hin
      have hget : (i : Int).toNat = i := Int.toNat_natCast i
      have hsl : (s.drop i).take (i + 1 - i) = [s.getD i 0] := by
        rw [Nat.add_sub_cancel_left, List.drop_eq_getElem_cons hin, List.take_succ_cons, List.take_zero, List.getD, List.getElem?_eq_getElem hin]
        rfl
      by_cases hx : s.getD i 0 = d
      · rw [if_pos hx] at en
        have e1 := congrArg Prod.fst en
        have e2 := congrArg Prod.snd en
        simp only at e1 e2
        have hb : ((s.getD ((i : Int).toNat) 0).toNat : Int) = (d.toNat : Int) := by rw [hget, hx]
        repeat' (first | (show oL; first | refine sMv rfl rfl ?_ | refine sAs rfl rfl ?_ | (show oA (.binOp _ _ _ _ _); first | refine st_y (y_eqlk rfl rfl) rfl ?_ | refine sAd rfl rfl om rfl ?_ | refine sLs rfl rfl rfl ?_) | (show oA (.call _); first | refine st_y (y_lens Tryd.underlying9 rfl) rfl ?_ | refine m_pushc 0 tabs rfl rfl rfl rfl rfl rfl (by rw [List.length_map]; omega) rfl rfl (fun a9 c9 => ?_)) | (show oA (.buildSlice _ _ _); refine m_build1 tabs (us := [sV (spR d (s.take i)).2]) rfl rfl rfl rfl (by decide) rfl (fun g5 hg5 => ?_)) | (show oA (.index _ _ _); refine st_y (y_indexs Tryd.underlying9 rfl rfl om om) rfl ?_)) | (show oN; first | refine c_nil (x_then ?_) | refine c_nil ?_) | (show oC; first | refine c_seq ?_ | refine c_region ?_ | refine c_skip (x_then ?_) | refine c_block ?_ | refine c_ift rfl aO ?_) | (show AT _ _ _ _; first | refine x_then ?_ | refine x_blk ?_))
        exact x_nx (i + 1, a9, c9) (by simp only [e1, e2, List.length_append, List.length_singleton, List.length_map]; repeat' (first | exact Sub.nil | refine Sub.cons rfl ?_ | refine Sub.consi rfl om ?_)) (by simp only; omega) (fun w' c' => by rw [e1, str_snoc, List.length_append]; rw [List.length_map] at c'; exact c') (by simp only; omega)
      · rw [if_neg hx] at en
        have e1 := congrArg Prod.fst en
        have e2 := congrArg Prod.snd en
        simp only at e1 e2
        have hb : ¬ ((s.getD ((i : Int).toNat) 0).toNat : Int) = (d.toNat : Int) := by
          rw [hget]
          intro e
          exact hx (UInt8.toNat_inj.1 om)
        repeat' (first | (show oL; first | refine sMv rfl rfl ?_ | refine sAs rfl rfl ?_ | (show oA (.binOp _ _ _ _ _); first | refine st_y (y_eqlk rfl rfl) rfl ?_ | refine st_y (y_cat rfl rfl om (by rw [hsl]; simp)) rfl ?_ | refine sAd rfl rfl om rfl ?_ | refine sLs rfl rfl rfl ?_) | (show oA (.call _); refine st_y (y_lens Tryd.underlying9 rfl) rfl ?_) | (show oA (.slice _ _ _ _ _); refine st_y (y_sls Tryd.underlying9 rfl rfl rfl rfl (show ((i : Int) + 1) = ((i + 1 : Nat) : Int) by omega) om om) rfl ?_) | (show oA (.index _ _ _); refine st_y (y_indexs Tryd.underlying9 rfl rfl om om) rfl ?_)) | (show oN; first | refine c_nil (x_then ?_) | refine c_nil ?_) | (show oC; first | refine c_seq ?_ | refine c_region ?_ | refine c_skip (x_then ?_) | refine c_block ?_ | refine c_ift rfl aO ?_ | refine c_iff rfl nN ?_) | (show AT _ _ _ _; first | refine x_then ?_ | refine x_blk ?_))
        rw [hsl]
        exact x_nx (i + 1, a, c) (by simp only [e1, e2]; repeat' (first | exact Sub.nil | refine Sub.cons rfl ?_ | refine Sub.consi rfl om ?_)) (by simp only; omega) (fun w' c' => by simp only [e1] at c' ⊢; exact c') (by simp only; omega)
    · have : i = s.length := by omega
      subst this
      repeat' (first | (show oL; first | refine sMv rfl rfl ?_ | refine sAs rfl rfl ?_ | refine sLs rfl rfl rfl ?_ | (show oA (.call _); first | refine st_y (y_lens Tryd.underlying9 rfl) rfl ?_ | refine m_pushc 0 tabs rfl rfl rfl rfl rfl rfl (by rw [List.length_map]; omega) rfl rfl (fun a9 c9 => ?_)) | (show oA (.buildSlice _ _ _); refine m_build1 tabs (us := [sV (spR d (s.take s.length)).2]) rfl rfl rfl rfl (by decide) rfl (fun g5 hg5 => ?_))) | refine xNt ?_ | (show oC; first | refine c_seq ?_ | refine c_region ?_ | refine c_ret ?_ | refine c_exit ?_ | refine c_iff rfl nN ?_) | (show AT _ _ _ _; first | refine x_then ?_ | refine x_then_exit ?_ | refine x_blk_exit rfl ?_))
      rw [List.take_length]
      have ec : (spL d s).length = (spR d s).1.length + 1 := by rw [spL, List.length_append]; rfl
      exact x_ret1 Tryd.results41 (res_tmp rfl) (fun w' c' => ⟨_, _, rfl, ⟨a9, c9, by rw [ec, List.length_map], rfl⟩, by
        rw [ec]
        rw [spL, str_snoc]
        rw [List.length_map] at c'
        exact c'⟩)
theorem l6Cut_ok {w : World} {s : List UInt8} {by' : Int} {d : UInt8} (hd : by' = (d.toNat : Int)) (hl : s.length ≤ 1000000) : Does Tryd.prog 41 [sV s, .int .u8 by'] w (fun v H => ∃ a c, v = .slice a (spL d s).length c ∧ H = [.own (strT (spL d s)) (.slice a (spL d s).length c)]) := l6Cut_ok2 hd om
theorem spec_FormatQuiver_ok {w : World} {q : Qv} {u0 u1 : Value} (h0 : Rd w (iT q.2.1) u0) (h1 : Rd w (iT q.2.2) u1) : Does Tryd.prog 10 [.agg #[iV q.1, u0, u1]] w (fun v H => v = sV (fmtQ q) ∧ H = []) := by
  obtain ⟨V, F, T⟩ := q
  simp only at h0 h1 ⊢
  by_cases hQ : QuivP (V, F, T)
  · have hr := quiv_rng hQ
    have hV := hQ.1
    have h6 := hQ.2.1
    have hT := hQ.2.2.1
    simp only at hr hV h6 hT
    rw [fmtQ, if_pos hQ]
    obtain ⟨a0, c0, rfl, hs0, _, _, hg0⟩ := h0.ints
    obtain ⟨a1, c1, rfl, hs1, _, _, hg1⟩ := h1.ints
    have hQ1 := not_not_intro hQ
    refine fn_enter Tryd.func10 rfl Tryd.ntmps10 rfl ?_
    repeat' (first | (show oL; first | refine sAs rfl rfl ?_ | refine sFd tabs rfl rfl rfl rfl ?_ | (show oA (.load _ _); first | refine sLd 0 tabs rfl rfl rfl rfl rfl ?_ | refine sLb 0 tabs rfl rfl rfl rfl rfl ?_) | (show oA (.binOp _ _ _ _ _); refine st_y (y_cat rfl rfl (by simp) (by simp)) rfl ?_) | (show oA (.unOp _ _ _); refine st_y (y_notd rfl) rfl ?_) | (show oA (.call _); first | (refine m_call (ent_of Tryd.func11 kr rfl) rfl rfl (fun w c => spec_IsQuiver_ok (q := (V, F, T)) (c.rd h0) (c.rd h1)) ?_; rintro v H' ⟨rfl, rfl⟩) | (refine m_call (ent_of Tryd.func42 kr rfl) rfl rfl (fun w c => spec_FormatInt_ok (n := V) om om) ?_; rintro v H' ⟨rfl, rfl⟩)) | (show oA (.box _ _); refine m_box rfl rfl (fun b hb => ?_))) | refine xNt ?_ | (show oC; first | refine c_seq ?_ | refine c_region ?_ | refine c_skip (x_then ?_) | refine c_block ?_ | refine c_iff rfl nN ?_))
    all_goals first | exact absurd hQ aS | skip
    refine c_loopH (α := Nat) [1] (fun i => [(3, sV (fmA (V, F, T) i)), (4, iV i)]) (fun i => i ≤ F.length) (fun i => [.blk b #[iV V, .slice a0 F.length c0, .slice a1 T.length c1] 26]) (fun i => F.length - i) 0 rfl sB ?_ ?_ ?_
    · exact Nat.zero_le _
    · exact fun w' c' => c'
    · intro i hi
      have hfl := fmA_len (q := (V, F, T)) i
      by_cases hin : i < F.length
      · have hi0 := hr.1 i hin
        have hi1 := hr.2 i hin
        have en : fmA (V, F, T) (i + 1) = fmA (V, F, T) i ++ [32] ++ [dg (F.getD i 0)] ++ [dg (T.getD i 0)] := by
          rw [fmA, prtQ]; simp
        repeat' (first | (show oL; first | refine sMv rfl rfl ?_ | refine sAs rfl rfl ?_ | refine sFd tabs rfl rfl rfl rfl ?_ | refine sLd 0 tabs rfl rfl rfl rfl rfl ?_ | (show oA (.binOp _ _ _ _ _); first | refine sAd rfl rfl om rfl ?_ | refine sLs rfl rfl rfl ?_) | refine sLn tabs rfl rfl rfl ?_) | refine xNt ?_ | (show oC; first | refine c_seq ?_ | refine c_region ?_ | refine c_skip (x_then ?_) | refine c_block ?_ | refine c_draw kr kr (fun _ c => Hp.drew c) ?_ | refine c_ift rfl aO ?_) | (show QT _ _ _ _ _ _ (_ :: _); first | refine qMv rfl rfl ?_ | refine qAs rfl rfl ?_ | refine qFd tabs rfl rfl rfl rfl ?_ | (show qA (.load _ _); first | refine qLd 0 tabs rfl rfl rfl rfl rfl ?_ | refine q_y (y_load tabs rfl rfl (hc_w0 (hg0 i hin))) rfl ?_ | refine q_y (y_load tabs rfl rfl (hc_w0 (hg1 i om))) rfl ?_) | (show qA (.indexAddr _ _ _); first | refine q_y (y_ix1 tabs (j := i) rfl rfl rfl hs0 rfl hin) rfl ?_ | refine q_y (y_ix1 tabs (j := i) rfl rfl rfl hs1 rfl om) rfl ?_) | (show qA (.binOp _ _ _ _ _); first | refine q_y (y_cat rfl rfl (by simp only [List.length_append, List.length_singleton]; omega) (by simp)) rfl ?_ | refine q_y (y_cat rfl rfl om (by simp)) rfl ?_) | (show qA (.call _); first | refine q_call (ent_of Tryd.func42 kr rfl) rfl rfl (fun w c => spec_FormatInt_ok (n := F.getD i 0) om om) (fun u H' h => h.1) ?_ | refine q_call (ent_of Tryd.func42 kr rfl) rfl rfl (fun w c => spec_FormatInt_ok (n := T.getD i 0) om om) (fun u H' h => h.1) ?_)) | (show QT _ _ _ _ _ _ []; refine q_nil ?_) | (show AT _ _ _ _; first | refine x_then ?_ | refine x_blk ?_))
        rw [← en]
        exact x_nx (i + 1) sB om (fun w' c' => c') om
      · have : i = F.length := by omega
        subst this
        repeat' (first | (show oL; first | refine sMv rfl rfl ?_ | refine sAs rfl rfl ?_ | refine sFd tabs rfl rfl rfl rfl ?_ | refine sLd 0 tabs rfl rfl rfl rfl rfl ?_ | refine sLs rfl rfl rfl ?_ | refine sLn tabs rfl rfl rfl ?_) | refine xNt ?_ | (show oC; first | refine c_seq ?_ | refine c_region ?_ | refine c_ret ?_ | refine c_exit ?_ | refine c_iff rfl nN ?_) | (show AT _ _ _ _; first | refine x_then ?_ | refine x_then_exit ?_ | refine x_blk_exit rfl ?_))
        exact x_ret1 Tryd.results10 (res_tmp rfl) (fun w' c' => ⟨_, _, rfl, ⟨rfl, rfl⟩, c'.sub (List.nil_sublist _)⟩)
  · have e0 : fmtQ (V, F, T) = [] := by rw [fmtQ, if_neg hQ]
    rw [e0]
    refine fn_enter Tryd.func10 rfl Tryd.ntmps10 rfl ?_
    repeat' (first | (show oL; first | refine sAs rfl rfl ?_ | refine sLb 0 tabs rfl rfl rfl rfl rfl ?_ | (show oA (.unOp _ _ _); refine st_y (y_notd rfl) rfl ?_) | (show oA (.call _); (refine m_call (ent_of Tryd.func11 kr rfl) rfl rfl (fun w c => spec_IsQuiver_ok (q := (V, F, T)) (c.rd h0) (c.rd h1)) ?_; rintro v H' ⟨rfl, rfl⟩)) | (show oA (.box _ _); refine m_box rfl rfl (fun b hb => ?_))) | refine xNt ?_ | (show oC; first | refine c_seq ?_ | refine c_region ?_ | refine c_ret ?_ | refine c_ift rfl aO ?_) | (show AT _ _ _ _; refine x_then_ret ?_))
    all_goals first | exact absurd aS hQ | skip
    exact x_ret1 Tryd.results10 (res_tmp rfl) (fun w' c' => ⟨_, _, rfl, ⟨rfl, rfl⟩, c'.sub (List.nil_sublist _)⟩)
def GivesQn (q : Qv) (b : Bool) (r : Value) (H : List HE) : Prop := ∃ a c a' c', r = .tuple #[.agg #[iV q.1, .slice a q.2.1.length c, .slice a' q.2.2.length c'], .bool b] ∧ H = [.own (iT q.2.2) (.slice a' q.2.2.length c'), .own (iT q.2.1) (.slice a q.2.1.length c)]
theorem bld_qn (r : Int) (a a' : Option Addr) (m c m' c' : Nat) (w : World) : (Instr.build 26 #[(0, iV r), (1, .slice a m c), (2, .slice a' m' c')]).run Tryd.prog w = .ok (.agg #[iV r, .slice a m c, .slice a' m' c']) w := by kernel_rfl
theorem bld_q0 (w : World) : (Instr.build 26 #[]).run Tryd.prog w = .ok (.agg #[iV 0, .slice none 0 0, .slice none 0 0]) w := by kernel_rfl
theorem str_sl (i : Nat) {M : List Nat} {w0 : World} {H : List HE} {l : List (List UInt8)} {a : Option Addr} {m c : Nat} (hi : H[i]? = some (.own (strT l) (.slice a m c))) : ∀ w, Hp M w0 H w → SA a l.length ∧ m = l.length := fun w cw => by
  obtain ⟨a', m', cap, h1, h2, _, _, h5, _⟩ := Rd.open (by decide) (cw.own_rd hi)
  cases h1
  have hm : l.length = m := by simpa using h5
  subst hm
  exact ⟨h2, rfl⟩
theorem byte_i64 (b : UInt8) : IntKind.i64.wrap (b.toNat : Int) = (b.toNat : Int) := by
  have := b.toNat_lt
  rw [IntKind.wrap_i64]; omega
def gA (o : Nat) (ws : List (List UInt8)) (k : Nat) : List Int := (List.range k).map (fun j => (((ws.getD (j + 1) []).getD o 0).toNat : Int) - 48)
theorem gA_len {o : Nat} {ws : List (List UInt8)} {k : Nat} : (gA o ws k).length = k := by simp [gA]
theorem gA_next {o : Nat} {ws : List (List UInt8)} {k : Nat} : gA o ws (k + 1) = gA o ws k ++ [(((ws.getD (k + 1) []).getD o 0).toNat : Int) - 48] := by simp [gA, List.range_succ]
def wsQ (ws : List (List UInt8)) (k : Nat) : Qv := ((((ws.getD 0 []).getD 0 0).toNat : Int) - 48, gA 0 ws k, gA 1 ws k)
theorem cut_pos (d : UInt8) (s : List UInt8) : 0 < (spL d s).length := by rw [spL, List.length_append]; simp
theorem par_ws {s : List UInt8} (h : parP s) : s.length ≤ 20 ∧ ((spL 32 s).getD 0 []).length = 2 ∧ (∀ j, j + 1 < (spL 32 s).length → ((spL 32 s).getD (j + 1) []).length = 2) ∧ wsQ (spL 32 s) ((spL 32 s).length - 1) = candQ s := by
  obtain ⟨q, hq, rfl⟩ := par_iff.1 h
  have hr := quiv_rng hq
  have hV := hq.1
  have hT := hq.2.2.1
  rw [cand_fmt hq, cut_fmtQ hq, preQ_len]
  have hg : ∀ k, k < q.2.1.length + 1 → (preQ q (q.2.1.length + 1)).getD k [] = prtQ q k := fun k hk => by rw [List.getD, preQ_get hk]; rfl
  refine ⟨fmtQ_len q, by rw [hg 0 om]; rfl, fun j hj => by rw [hg (j + 1) hj]; rfl, ?_⟩
  rw [wsQ, hg 0 om, Nat.add_sub_cancel]
  have e0 : (((prtQ q 0).getD 0 0).toNat : Int) - 48 = q.1 := (dg_ne (x := q.1) om om).2.2
  have e1 : gA 0 (preQ q (q.2.1.length + 1)) q.2.1.length = q.2.1 := by
    refine Eq.trans ?_ (list_range (l := q.2.1) rfl)
    rw [gA]
    refine List.map_congr_left (fun i hi => ?_)
    have hi' := List.mem_range.1 hi
    rw [hg (i + 1) om]
    exact (dg_ne (hr.1 i hi').1 (by have := hr.1 i hi'; omega)).2.2
  have e2 : gA 1 (preQ q (q.2.1.length + 1)) q.2.1.length = q.2.2 := by
    refine Eq.trans ?_ (list_range (l := q.2.2) hT)
    rw [gA]
    refine List.map_congr_left (fun i hi => ?_)
    have hi' := List.mem_range.1 hi
    rw [hg (i + 1) om]
    exact (dg_ne (hr.2 i hi').1 (by have := hr.2 i hi'; omega)).2.2
  rw [e0, e1, e2]
theorem spec_ParseQuiver_ok {w : World} {s : List UInt8} (hl : s.length ≤ 1000000) : Does Tryd.prog 9 [sV s] w (GivesQn (parQ s) (decide (parP s))) := by
  have hpos := cut_pos 32 s
  have hlw : (spL 32 s).length ≤ s.length + 1 := by
    have := spR_len (d := 32) (s := s) s.length (Nat.le_refl _)
    rw [List.take_length] at this
    rw [spL, List.length_append, List.length_singleton]; omega
  have hpw := par_ws (s := s)
  have hg : ∀ j, j < (spL 32 s).length → ((spL 32 s).map sV)[j]? = some (sV ((spL 32 s).getD j [])) := fun j hj => by
    rw [List.getElem?_map, List.getD, List.getElem?_eq_getElem hj]; rfl
  refine fn_enter Tryd.func9 rfl Tryd.ntmps9 rfl ?_
  repeat' (first | (show oL; first | refine sMv rfl rfl ?_ | refine sAs rfl rfl ?_ | (show oA (.call _); (refine m_call (ent_of Tryd.func41 kr rfl) rfl rfl (fun w c => l6Cut_ok (d := 32) rfl hl) ?_; rintro v H' ⟨a, c, rfl, rfl⟩)) | (show oA (.alloc _); refine m_alloc tabs rfl rfl (fun b2 hb2 => ?_))) | refine xNt ?_ | (show oC; first | refine c_seq ?_ | refine c_region ?_))
  refine AT.fact (str_sl 0 rfl) (fun hsl => ?_)
  have hs := hsl.1
  repeat' (first | (show oL; first | refine sMv rfl rfl ?_ | refine sAs rfl rfl ?_ | (show oA (.load _ _); refine st_y (y_load tabs rfl rfl (hc_nm 0 rfl (hg 0 hpos))) rfl ?_) | (show oA (.indexAddr _ _ _); refine st_y (y_ix1 tabs (j := 0) rfl rfl rfl hs rfl hpos) rfl ?_) | (show oA (.binOp _ _ _ _ _); first | refine st_y (y_sub rfl rfl (by have := (((spL 32 s).getD 0 []).getD ((0 : Int).toNat) 0).toNat_lt; omega)) rfl ?_ | refine st_y (y_gtr rfl rfl) rfl ?_ | refine st_y (y_neq rfl rfl) rfl ?_) | (show oA (.call _); refine st_y (y_lens Tryd.underlying9 rfl) rfl ?_) | (show oA (.pick _ _ _); first | refine st_y (y_pickt rfl aO rfl) rfl ?_ | refine st_y (y_pickf rfl aO rfl) rfl ?_) | (show oA (.store _ _ _); first | refine m_storeb 1 tabs rfl rfl rfl rfl rfl rfl rfl ?_ | refine m_storeb 0 tabs rfl rfl rfl rfl rfl rfl rfl ?_) | (show oA (.alloc _); refine m_alloc tabs rfl rfl (fun bq hbq => ?_)) | (show oA (.buildSlice _ _ _); refine m_build0 tabs rfl rfl (fun g hg0 => ?_)) | (show oA (.build _ _); first | refine st_y (y_bld0 bld_q0) rfl ?_ | refine st_y (y_bld3 (bld_qn _ _ _ _ _ _ _) rfl rfl rfl) rfl ?_) | (show oA (.convert _ _ _); refine st_y (y_convk (t := 5) (t' := 3) (k := .u8) (k' := .i64) kr kr kr rfl (byte_i64 _)) rfl ?_) | (show oA (.index _ _ _); refine st_y (y_indexs Tryd.underlying9 rfl rfl om om) rfl ?_) | refine st_gfy rfl rfl aO ?_ | refine st_gfn rfl rfl aO rfl ?_ | refine st_gd rfl rfl (fun h => ?_) (fun h => ?_)) | refine xNt ?_ | (show oC; first | refine c_seq ?_ | refine c_region ?_ | refine c_skip (x_then ?_) | refine c_block ?_ | refine c_ret ?_ | refine c_true rfl ?_ | refine c_if rfl (fun h => ?_) (fun h => ?_)) | (show AT _ _ _ _; refine x_then_ret ?_))
  · have hn : ¬ parP s := fun h => by have := hpw h; omega
    rw [parQ, if_neg hn, decide_eq_false hn]
    exact x_ret2 Tryd.results9 (res_cellb 1 tabs rfl rfl rfl rfl) (res_tmp rfl) (fun w' c' => ⟨_, _, rfl, ⟨none, 0, none, 0, rfl, rfl⟩, Hp.nilp _ _ (Hp.nilp _ _ (c'.sub (List.nil_sublist _)))⟩)
  · have hn : ¬ parP s := fun h => by have := hpw h; omega
    rw [parQ, if_neg hn, decide_eq_false hn]
    exact x_ret2 Tryd.results9 (res_cellb 1 tabs rfl rfl rfl rfl) (res_tmp rfl) (fun w' c' => ⟨_, _, rfl, ⟨none, 0, none, 0, rfl, rfl⟩, Hp.nilp _ _ (Hp.nilp _ _ (c'.sub (List.nil_sublist _)))⟩)
  · rename_i g1 hg1
    refine c_loopH (α := Nat × Option Addr × Nat × Option Addr × Nat) [0, 2, 4, 5] (fun x => [(6, iV (x.1 + 1))]) (fun x => x.1 + 1 ≤ (spL 32 s).length ∧ ∀ j, j < x.1 → ((spL 32 s).getD (j + 1) []).length = 2) (fun x => [.blk bq #[iV ((((spL 32 s).getD 0 []).getD ((0 : Int).toNat) 0).toNat - 48), .slice x.2.1 x.1 x.2.2.1, .slice x.2.2.2.1 x.1 x.2.2.2.2] 26, .own (iT (gA 1 (spL 32 s) x.1)) (.slice x.2.2.2.1 x.1 x.2.2.2.2), .own (iT (gA 0 (spL 32 s) x.1)) (.slice x.2.1 x.1 x.2.2.1), .own (strT (spL 32 s)) (.slice a (spL 32 s).length c), .blk b2 #[iV 0, .slice none 0 0, .slice none 0 0] 26]) (fun x => (spL 32 s).length - x.1) (0, some ⟨g1, 0, none⟩, 0, some ⟨g, 0, none⟩, 0) rfl sB ?_ ?_ ?_
    · exact ⟨by simp only; omega, fun j hj => by simp only at hj; omega⟩
    · exact fun w' c' => c'
    · rintro ⟨k, aF, cF, aT, cT⟩ ⟨hk, h2⟩
      simp only at hk h2 ⊢
      by_cases hin : k + 1 < (spL 32 s).length
      · have hlF : (gA 0 (spL 32 s) k).length = k := gA_len
        have hlT : (gA 1 (spL 32 s) k).length = k := gA_len
        by_cases hp : ((spL 32 s).getD (k + 1) []).length = 2
        · have hp' : ((((spL 32 s).getD (k + 1) []).length : Nat) : Int) = 2 := by omega
          repeat' (first | (show oL; first | refine sMv rfl rfl ?_ | (show oA (.load _ _); refine st_y (y_load tabs rfl rfl (hc_nm 3 rfl (hg (k + 1) hin))) rfl ?_) | (show oA (.indexAddr _ _ _); refine st_y (y_ix1 tabs (j := k + 1) rfl rfl rfl hs om hin) rfl ?_) | (show oA (.binOp _ _ _ _ _); first | refine sLs rfl rfl rfl ?_ | refine st_y (y_neq rfl rfl) rfl ?_) | (show oA (.call _); first | refine st_y (y_lens Tryd.underlying9 rfl) rfl ?_ | refine sLn tabs rfl rfl rfl ?_)) | refine xNt ?_ | (show oC; first | refine c_seq ?_ | refine c_region ?_ | refine c_skip (x_then ?_) | refine c_block ?_ | refine c_ift rfl aO ?_ | refine c_iff rfl nN ?_))
          refine c_mixR (Hp [] w [.blk bq #[iV ((((spL 32 s).getD 0 []).getD ((0 : Int).toNat) 0).toNat - 48), .slice aF k cF, .slice aT k cT] 26, .own (strT (spL 32 s)) (.slice a (spL 32 s).length c)]) 11 kr kr kr kr kr (fun _ c => Hp.drew c) ?_
          refine h_take 0 rfl kr kr kr (by exact y_field tabs rfl rfl rfl) rfl sS ?_
          refine h_take 1 rfl kr kr kr (by exact y_load tabs rfl rfl (hc_blk 0 rfl rfl)) rfl sS ?_
          refine h_take 2 rfl kr kr kr (by exact y_move rfl) rfl sS ?_
          refine h_take 3 rfl kr kr kr (by exact y_move rfl) rfl sS ?_
          refine h_take 4 rfl kr kr kr (by exact y_ix1 tabs (j := k + 1) rfl rfl rfl hs om hin) rfl sS ?_
          refine h_take 5 rfl kr kr kr (by exact y_load tabs rfl rfl (hc_nm 1 rfl (hg (k + 1) hin))) rfl sS ?_
          refine h_take 6 rfl kr kr kr (by exact y_indexs Tryd.underlying9 rfl rfl om om) rfl sS ?_
          refine h_take 7 rfl kr kr kr (by exact y_convk (t := 5) (t' := 3) (k := .u8) (k' := .i64) kr kr kr rfl (byte_i64 _)) rfl sS ?_
          refine h_take 8 rfl kr kr kr (by exact y_sub rfl rfl (by have := (((spL 32 s).getD (k + 1) []).getD ((0 : Int).toNat) 0).toNat_lt; omega)) rfl sS ?_
          refine h_only 9 rfl kr ?_
          first | (refine m_build1 tabs (us := [iV ((((spL 32 s).getD (k + 1) []).getD ((0 : Int).toNat) 0).toNat - 48)]) rfl rfl rfl rfl (by decide) rfl (fun g5 hg5 => ?_)) | (refine m_pushi 2 tabs rfl rfl rfl rfl rfl om (fun a7 c7 => ?_))
          refine c_nil (x_one (h_keep sS ?_))
          refine h_only 10 rfl kr ?_
          first | (refine m_build1 tabs (us := [iV ((((spL 32 s).getD (k + 1) []).getD ((0 : Int).toNat) 0).toNat - 48)]) rfl rfl rfl rfl (by decide) rfl (fun g5 hg5 => ?_)) | (refine m_pushi 2 tabs rfl rfl rfl rfl rfl om (fun a7 c7 => ?_))
          refine c_nil (x_one (h_keep sS ?_))
          refine h_end kr ?_
          repeat' (first | (show oL; first | refine sFd tabs rfl rfl rfl rfl ?_ | (show oA (.store _ _ _); refine m_storef 1 tabs rfl rfl rfl rfl rfl rfl ?_)) | refine xNt ?_)
          rw [hlF]
          refine c_mixR (Hp [] w [.blk bq #[iV ((((spL 32 s).getD 0 []).getD ((0 : Int).toNat) 0).toNat - 48), .slice a7 (k + 1) c7, .slice aT k cT] 26, .own (strT (spL 32 s)) (.slice a (spL 32 s).length c)]) 11 kr kr kr kr kr (fun _ c => Hp.drew c) ?_
          refine h_take 0 rfl kr kr kr (by exact y_field tabs rfl rfl rfl) rfl sS ?_
          refine h_take 1 rfl kr kr kr (by exact y_load tabs rfl rfl (hc_blk 0 rfl rfl)) rfl sS ?_
          refine h_take 2 rfl kr kr kr (by exact y_move rfl) rfl sS ?_
          refine h_take 3 rfl kr kr kr (by exact y_move rfl) rfl sS ?_
          refine h_take 4 rfl kr kr kr (by exact y_ix1 tabs (j := k + 1) rfl rfl rfl hs om hin) rfl sS ?_
          refine h_take 5 rfl kr kr kr (by exact y_load tabs rfl rfl (hc_nm 1 rfl (hg (k + 1) hin))) rfl sS ?_
          refine h_take 6 rfl kr kr kr (by exact y_indexs Tryd.underlying9 rfl rfl om om) rfl sS ?_
          refine h_take 7 rfl kr kr kr (by exact y_convk (t := 5) (t' := 3) (k := .u8) (k' := .i64) kr kr kr rfl (byte_i64 _)) rfl sS ?_
          refine h_take 8 rfl kr kr kr (by exact y_sub rfl rfl (by have := (((spL 32 s).getD (k + 1) []).getD ((1 : Int).toNat) 0).toNat_lt; omega)) rfl sS ?_
          refine h_only 9 rfl kr ?_
          first | (refine m_build1 tabs (us := [iV ((((spL 32 s).getD (k + 1) []).getD ((1 : Int).toNat) 0).toNat - 48)]) rfl rfl rfl rfl (by decide) rfl (fun g5 hg5 => ?_)) | (refine m_pushi 2 tabs rfl rfl rfl rfl rfl om (fun a8 c8 => ?_))
          refine c_nil (x_one (h_keep sS ?_))
          refine h_only 10 rfl kr ?_
          first | (refine m_build1 tabs (us := [iV ((((spL 32 s).getD (k + 1) []).getD ((1 : Int).toNat) 0).toNat - 48)]) rfl rfl rfl rfl (by decide) rfl (fun g5 hg5 => ?_)) | (refine m_pushi 2 tabs rfl rfl rfl rfl rfl om (fun a8 c8 => ?_))
          refine c_nil (x_one (h_keep sS ?_))
          refine h_end kr ?_
          repeat' (first | (show oL; first | refine sMv rfl rfl ?_ | refine sAs rfl rfl ?_ | refine sFd tabs rfl rfl rfl rfl ?_ | refine sAd rfl rfl om rfl ?_ | (show oA (.store _ _ _); refine m_storef 2 tabs rfl rfl rfl rfl rfl rfl ?_)) | (show oN; first | refine c_nil (x_then ?_) | refine c_nil ?_) | (show oC; refine c_region ?_) | (show AT _ _ _ _; first | refine x_then ?_ | refine x_blk ?_))
          rw [hlT]
          exact x_nx (k + 1, a7, c7, a8, c8) sB ⟨by simp only; omega, fun j hj => by
            simp only at hj
            by_cases hjk : j < k
            · exact h2 j hjk
            · have : j = k := by omega
              subst this; exact hp⟩ (fun w' c' => by
            simp only [gA_next]
            exact c'.front (i := 2) rfl) (by simp only; omega)
        · skip
          repeat' (first | (show oL; first | refine sMv rfl rfl ?_ | refine sAs rfl rfl ?_ | (show oA (.load _ _); refine st_y (y_load tabs rfl rfl (hc_nm 3 rfl (hg (k + 1) hin))) rfl ?_) | (show oA (.indexAddr _ _ _); refine st_y (y_ix1 tabs (j := k + 1) rfl rfl rfl hs om hin) rfl ?_) | (show oA (.binOp _ _ _ _ _); first | refine sLs rfl rfl rfl ?_ | refine st_y (y_neq rfl rfl) rfl ?_) | (show oA (.call _); first | refine st_y (y_lens Tryd.underlying9 rfl) rfl ?_ | refine sLn tabs rfl rfl rfl ?_) | (show oA (.store _ _ _); refine m_storeb 4 tabs rfl rfl rfl rfl rfl rfl rfl ?_) | (show oA (.build _ _); refine st_y (y_bld0 bld_q0) rfl ?_)) | refine xNt ?_ | (show oC; first | refine c_seq ?_ | refine c_region ?_ | refine c_skip (x_then ?_) | refine c_block ?_ | refine c_ret ?_ | refine c_ift rfl aO ?_) | (show AT _ _ _ _; first | refine x_then_ret ?_ | refine x_blk_ret ?_))
          have hn : ¬ parP s := fun h => by
            have h1 := (hpw h).2.2.1 k om
            omega
          rw [parQ, if_neg hn, decide_eq_false hn]
          exact x_ret2 Tryd.results9 (res_cellb 4 tabs rfl rfl rfl rfl) (res_tmp rfl) (fun w' c' => ⟨_, _, rfl, ⟨none, 0, none, 0, rfl, rfl⟩, Hp.nilp _ _ (Hp.nilp _ _ (c'.sub (List.nil_sublist _)))⟩)
      · skip
        have hk1 : k + 1 = (spL 32 s).length := by omega
        repeat' (first | (show oL; first | refine sMv rfl rfl ?_ | refine sAs rfl rfl ?_ | refine sLb 0 tabs rfl rfl rfl rfl rfl ?_ | (show oA (.binOp _ _ _ _ _); first | refine st_y (y_neqs rfl rfl) rfl ?_ | refine sLs rfl rfl rfl ?_) | (show oA (.call _); first | (refine m_call (ent_of Tryd.func10 kr rfl) rfl rfl (fun w c => spec_FormatQuiver_ok (q := wsQ (spL 32 s) k) (by have := c.own_rd (i := 2) rfl; exact this) (by have := c.own_rd (i := 1) rfl; exact this)) ?_; rintro v H' ⟨rfl, rfl⟩) | refine sLn tabs rfl rfl rfl ?_) | (show oA (.store _ _ _); refine m_storeb 4 tabs rfl rfl rfl rfl rfl rfl rfl ?_) | (show oA (.build _ _); refine st_y (y_bld0 bld_q0) rfl ?_)) | refine xNt ?_ | (show oC; first | refine c_seq ?_ | refine c_region ?_ | refine c_skip (x_then ?_) | refine c_ret ?_ | refine c_exit ?_ | refine c_iff rfl nN ?_ | refine c_ifnd rfl (fun h => ?_) (fun h => ?_)) | (show AT _ _ _ _; first | refine x_then ?_ | refine x_then_ret ?_ | refine x_then_exit ?_ | refine x_blk_exit rfl ?_))
        · have hn : ¬ parP s := fun hP => by
            have h1 := (hpw hP).2.2.2
            have h2 := hP.2
            rw [← hk1, Nat.add_sub_cancel] at h1
            rw [← h1] at h2
            exact h h2
          rw [parQ, if_neg hn, decide_eq_false hn]
          exact x_ret2 Tryd.results9 (res_cellb 4 tabs rfl rfl rfl rfl) (res_tmp rfl) (fun w' c' => ⟨_, _, rfl, ⟨none, 0, none, 0, rfl, rfl⟩, Hp.nilp _ _ (Hp.nilp _ _ (c'.sub (List.nil_sublist _)))⟩)
        · have he : fmtQ (wsQ (spL 32 s) k) = s := by first | exact Decidable.not_not.1 h | exact h
          have hQ : QuivP (wsQ (spL 32 s) k) := Decidable.by_contra (fun hq => by
            have e0 : s = [] := by rw [← he, fmtQ, if_neg hq]
            have e1 : ((spL 32 s).getD 0 []).length = 0 := by rw [e0]; rfl
            omega)
          have eQ : parQ s = wsQ (spL 32 s) k := by
            have := parQ_fmt hQ
            rwa [he] at this
          have l0 : (wsQ (spL 32 s) k).2.1.length = k := gA_len
          have l1 : (wsQ (spL 32 s) k).2.2.length = k := gA_len
          rw [eQ, decide_eq_true (par_iff.2 ⟨_, hQ, he⟩)]
          exact x_ret2 Tryd.results9 (res_cellb 4 tabs rfl rfl rfl rfl) (res_tmp rfl) (fun w' c' => ⟨_, _, rfl, ⟨aF, cF, aT, cT, by rw [l0, l1]; rfl, rfl⟩, by rw [l0, l1]; exact c'.sub (.cons _ (.cons_cons _ (.cons_cons _ (List.nil_sublist _))))⟩)
end Go.Proofs.YtdnhmnnccfoliaaDoor
