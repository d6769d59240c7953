import Derived.Test.YtdnhmnnccfoliaaGreatDoorQstqpr
namespace Go.Lg
open Go.RowKit
section
variable {P : Program} {n : Nat} {M : List Nat} {w0 : World} {H : List HE} {s : List (Nat × Value)} {Q : Exit → Act → World → Prop} {ops : Array Oper} {rest : List Oper}
variable {d ty t t' : Nat} {pos : String} {af : Array Edge} {v : Value} {x y : Operand}
theorem y_eqlk {C : World → Prop} {k : IntKind} {p q : Int} (hx : ev s x = some (.int k p)) (hy : ev s y = some (.int k q)) : Y P n C s (.binOp .eql t x y t') ty (.bool (decide (p = q))) := fun a w f c d pos af g => by
  simp [execOp, f.ev hx, f.ev hy, eqGuard, binOp, Op.intCmp, ibeq]
theorem y_neqk {C : World → Prop} {k : IntKind} {p q : Int} (hx : ev s x = some (.int k p)) (hy : ev s y = some (.int k q)) : Y P n C s (.binOp .neq t x y t') ty (.bool (decide (p ≠ q))) := fun a w f c d pos af g => by
  simp [execOp, f.ev hx, f.ev hy, eqGuard, binOp, Op.intCmp]
  by_cases h : p = q <;> simp [h]
theorem m_pushc (i : Nat) (T0 : Tabs P) {e g e' b c : Nat} {z us : List Value} {u : Value} (ht : lk T0.sl t = some (e, 1, b, z)) (hi : H[i]? = some (.own (.s e 1 (us.map T.c)) v)) (hx : ev s x = some v) (hy : ev s y = some (.slice (some ⟨g, 0, none⟩) 1 c)) (hd : Nat.blt d n = true)
    (hu : u.oneCell' = true) (hb : us.length ≤ 1099511627) (hb1 : Nat.ble 1 b = true) (hb2 : Nat.ble b 1024 = true)
    (h : ∀ a cc, AT n (Hp M w0 (.own (.s e 1 ((us ++ [u]).map T.c)) (.slice a (us.length + 1) cc) :: H.eraseIdx i)) ((d, .slice a (us.length + 1) cc) :: s) (wpList P ops Q rest)) :
    AT n (Hp M w0 (.blk g #[u] e' :: H)) s (wpList P ops Q (⟨some d, .call ⟨.builtin .append, #[x, y], #[t, t]⟩, ty, pos, af, none⟩ :: rest)) := by
  have hb1' := Nat.le_of_ble_eq_true hb1
  have hb2' := Nat.le_of_ble_eq_true hb2
  refine m_app (ts := us.map T.c) (tn := [T.c u]) (news := [u]) (m' := us.length + 1) (m := 1) (H' := H.eraseIdx i) T0 ht hx hy hd (by simp) (by simpa using hu) (by simp) ?_ om
    (fun w c => ?_) (fun w c => .inr ⟨_, rfl, fun j q hq => ?_⟩) ?_
  · simp only [List.length_map, List.length_singleton]
    have := Nat.mul_le_mul (show us.length + 1 ≤ 1099511628 by omega) hb2'
    omega
  · have := (c.drop.front hi).free [u]
    exact this.swap
  · match j, hq with
    | 0, hq =>
      have := hc_blk (M := M) (w0 := w0) 0 (o := 0) (v := u) (H := .blk g #[u] e' :: H) rfl rfl w c
      simp at hq
      subst hq
      simpa [Addr.add] using this
    | j + 1, hq => simp at hq
  · intro a cc
    have := h a cc
    rwa [List.map_append] at this
end
end Go.Lg
namespace Go.Proofs.YtdnhmnnccfoliaaGreatDoor
open Go.Lg Go.Proofs Go.RowKit
attribute [local irreducible] Code.wp wpList bodyPost Exit.then Exit.inBlock Hp Again Calls Y AT ResV QT Qn QI wpAny wpAnyQ
set_option maxRecDepth 20000
set_option maxHeartbeats 4000000

abbrev strT (l : List (List UInt8)) : T := .s 9 1 ((l.map sV).map T.c)
theorem str_snoc {l : List (List UInt8)} {x : List UInt8} : strT (l ++ [x]) = .s 9 1 ((l.map sV ++ [sV x]).map T.c) := by simp [strT]
theorem l6Cut_ok2 {w : World} {s : List UInt8} {by' : Int} {d : UInt8} (hd : by' = (d.toNat : Int)) (hl : s.length ≤ 2000000) : Does Tryz.prog 75 [sV s, .int .u8 by'] w (fun v H => ∃ a c, v = .slice a (spL d s).length c ∧ H = [.own (strT (spL d s)) (.slice a (spL d s).length c)]) := by
  subst hd
  refine fn_enter Tryz.func75 rfl Tryz.ntmps75 rfl ?_
  repeat' (first | (show oL; first | refine sAs rfl rfl ?_ | (show oA (.buildSlice _ _ _); refine m_build0 tabs rfl rfl (fun g hg => ?_))) | refine xNt ?_ | (show oC; first | refine c_seq ?_ | refine c_region ?_ | refine c_block ?_))
  refine c_loopH (α := Nat × Option Addr × Nat) [0, 1] (fun x => [(5, .slice x.2.1 (spR d (s.take x.1)).1.length x.2.2), (6, sV (spR d (s.take x.1)).2), (7, iV x.1)]) (fun x => x.1 ≤ s.length) (fun x => [.own (strT (spR d (s.take x.1)).1) (.slice x.2.1 (spR d (s.take x.1)).1.length x.2.2)]) (fun x => s.length - x.1) (0, some ⟨g, 0, none⟩, 0) rfl sB ?_ ?_ ?_
  · exact Nat.zero_le _
  · exact fun w' c' => c'
  · rintro ⟨i, a, c⟩ hi
    simp only at hi ⊢
    have hlen := spR_len (d := d) (s := s) i hi
    by_cases hin : i < s.length
    · have en := spR_next (d := d) hin
      have hget : (i : Int).toNat = i := Int.toNat_natCast i
      have hsl : (s.drop i).take (i + 1 - i) = [s.getD i 0] := by
        rw [Nat.add_sub_cancel_left, List.drop_eq_getElem_cons hin, List.take_succ_cons, List.take_zero, List.getD, List.getElem?_eq_getElem hin]
        rfl
      by_cases hx : s.getD i 0 = d
      · rw [if_pos hx] at en
        have e1 := congrArg Prod.fst en
        have e2 := congrArg Prod.snd en
        simp only at e1 e2
        have hb : ((s.getD ((i : Int).toNat) 0).toNat : Int) = (d.toNat : Int) := by rw [hget, hx]
        repeat' (first | (show oL; first | refine sMv rfl rfl ?_ | refine sAs rfl rfl ?_ | (show oA (.binOp _ _ _ _ _); first | refine st_y (y_eqlk rfl rfl) rfl ?_ | refine sAd rfl rfl om rfl ?_ | refine sLs rfl rfl rfl ?_) | (show oA (.call _); first | refine st_y (y_lens Tryz.underlying9 rfl) rfl ?_ | refine m_pushc 0 tabs rfl rfl rfl rfl rfl rfl (by rw [List.length_map]; omega) rfl rfl (fun a9 c9 => ?_)) | (show oA (.buildSlice _ _ _); refine m_build1 tabs (us := [sV (spR d (s.take i)).2]) rfl rfl rfl rfl (by decide) rfl (fun g5 hg5 => ?_)) | (show oA (.index _ _ _); refine st_y (y_indexs Tryz.underlying9 rfl rfl om om) rfl ?_)) | (show oN; first | refine c_nil (x_then ?_) | refine c_nil ?_) | (show oC; first | refine c_seq ?_ | refine c_region ?_ | refine c_skip (x_then ?_) | refine c_block ?_ | refine c_ift rfl aO ?_) | (show AT _ _ _ _; first | refine x_then ?_ | refine x_blk ?_))
        exact x_nx (i + 1, a9, c9) (by simp only [e1, e2, List.length_append, List.length_singleton, List.length_map]; repeat' (first | exact Sub.nil | refine Sub.cons rfl ?_ | refine Sub.consi rfl om ?_)) (by simp only; omega) (fun w' c' => by rw [e1, str_snoc, List.length_append]; rw [List.length_map] at c'; exact c') (by simp only; omega)
      · rw [if_neg hx] at en
        have e1 := congrArg Prod.fst en
        have e2 := congrArg Prod.snd en
        simp only at e1 e2
        have hb : ¬ ((s.getD ((i : Int).toNat) 0).toNat : Int) = (d.toNat : Int) := by
          rw [hget]
          intro e
          exact hx (UInt8.toNat_inj.1 om)
        repeat' (first | (show oL; first | refine sMv rfl rfl ?_ | refine sAs rfl rfl ?_ | (show oA (.binOp _ _ _ _ _); first | refine st_y (y_eqlk rfl rfl) rfl ?_ | refine st_y (y_cat rfl rfl om (by rw [hsl]; simp)) rfl ?_ | refine sAd rfl rfl om rfl ?_ | refine sLs rfl rfl rfl ?_) | (show oA (.call _); refine st_y (y_lens Tryz.underlying9 rfl) rfl ?_) | (show oA (.slice _ _ _ _ _); refine st_y (y_sls Tryz.underlying9 rfl rfl rfl rfl (show ((i : Int) + 1) = ((i + 1 : Nat) : Int) by omega) om om) rfl ?_) | (show oA (.index _ _ _); refine st_y (y_indexs Tryz.underlying9 rfl rfl om om) rfl ?_)) | (show oN; first | refine c_nil (x_then ?_) | refine c_nil ?_) | (show oC; first | refine c_seq ?_ | refine c_region ?_ | refine c_skip (x_then ?_) | refine c_block ?_ | refine c_ift rfl aO ?_ | refine c_iff rfl nN ?_) | (show AT _ _ _ _; first | refine x_then ?_ | refine x_blk ?_))
        rw [hsl]
        exact x_nx (i + 1, a, c) (by simp only [e1, e2]; repeat' (first | exact Sub.nil | refine Sub.cons rfl ?_ | refine Sub.consi rfl om ?_)) (by simp only; omega) (fun w' c' => by simp only [e1] at c' ⊢; exact c') (by simp only; omega)
    · have : i = s.length := by omega
      subst this
      repeat' (first | (show oL; first | refine sMv rfl rfl ?_ | refine sAs rfl rfl ?_ | refine sLs rfl rfl rfl ?_ | (show oA (.call _); first | refine st_y (y_lens Tryz.underlying9 rfl) rfl ?_ | refine m_pushc 0 tabs rfl rfl rfl rfl rfl rfl (by rw [List.length_map]; omega) rfl rfl (fun a9 c9 => ?_)) | (show oA (.buildSlice _ _ _); refine m_build1 tabs (us := [sV (spR d (s.take s.length)).2]) rfl rfl rfl rfl (by decide) rfl (fun g5 hg5 => ?_))) | refine xNt ?_ | (show oC; first | refine c_seq ?_ | refine c_region ?_ | refine c_ret ?_ | refine c_exit ?_ | refine c_iff rfl nN ?_) | (show AT _ _ _ _; first | refine x_then ?_ | refine x_then_exit ?_ | refine x_blk_exit rfl ?_))
      rw [List.take_length]
      have ec : (spL d s).length = (spR d s).1.length + 1 := by rw [spL, List.length_append]; rfl
      exact x_ret1 Tryz.results75 (res_tmp rfl) (fun w' c' => ⟨_, _, rfl, ⟨a9, c9, by rw [ec, List.length_map], rfl⟩, by
        rw [ec]
        rw [spL, str_snoc]
        rw [List.length_map] at c'
        exact c'⟩)
theorem str_sl (i : Nat) {M : List Nat} {w0 : World} {H : List HE} {l : List (List UInt8)} {a : Option Addr} {m c : Nat} (hi : H[i]? = some (.own (strT l) (.slice a m c))) : ∀ w, Hp M w0 H w → SA a l.length ∧ m = l.length := fun w cw => by
  obtain ⟨a', m', cap, h1, h2, _, _, h5, _⟩ := Rd.open (by decide) (cw.own_rd hi)
  cases h1
  have hm : l.length = m := by simpa using h5
  subst hm
  exact ⟨h2, rfl⟩
theorem byte_i64 (b : UInt8) : IntKind.i64.wrap (b.toNat : Int) = (b.toNat : Int) := by
  have := b.toNat_lt
  rw [IntKind.wrap_i64]; omega
theorem cut_pos (d : UInt8) (s : List UInt8) : 0 < (spL d s).length := by rw [spL, List.length_append]; simp
end Go.Proofs.YtdnhmnnccfoliaaGreatDoor
