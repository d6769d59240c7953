import Derived.Shelf.Bits.Mul64
import Derived.Test.YtfhgpkdhhclpbaaLEqpo
import Derived.Test.YtfhgpkdhhclpbaaRpsqpo
namespace Go.Lg
open Go.RowKit
section
variable {P : Program} {n : Nat} {C : World → Prop} {M : List Nat} {w0 : World} {H : List HE} {s : List (Nat × Value)} {Q : Exit → Act → World → Prop} {ops : Array Oper} {rest : List Oper}
variable {d ty t t' : Nat} {pos : String} {af : Array Edge} {v : Value} {x y : Operand}
/-- between kinds of whole numbers -/
theorem y_convi {k k' : IntKind} {p q : Int} (hs : (P.underlying t).isSome = true) (hd : P.underlying t' = some (.int k')) (hk : P.intKind t' = k') (hx : ev s x = some (.int k p)) (hq : k'.wrap p = q) : Y P n C s (.convert t t' x) ty (.int k' q) := fun a w f c d pos af g => by
  have h := run_convert_int (P := P) w t t' k p hs (by rw [hk]; exact hd)
  rw [hk, hq] at h
  simp [execOp, f.ev hx, h]
theorem y_gtru {p q : Int} (hx : ev s x = some (.int .u64 p)) (hy : ev s y = some (.int .u64 q)) : Y P n C s (.binOp .gtr t x y t') ty (.bool (decide (q < p))) := fun a w f c d pos af g => by
  simp [execOp, f.ev hx, f.ev hy, eqGuard, binOp, Op.intCmp]
/-- copy into a block of ours: all is read before anything is written -/
theorem m_copyb (i : Nat) (T0 : Tabs P) {e0 k bz e g o m c m' c' : Nat} {z us : List Value} {cur : Array Value} {ad : Addr} (ht : lk T0.sl t = some (e0, k, bz, z)) (hx : ev s x = some (.slice (some ⟨g, o, none⟩) m c)) (hy : ev s y = some (.slice (some ad) m' c')) (hd : Nat.blt d n = true)
    (hi : H[i]? = some (.blk g cur e)) (hl : us.length = Nat.min m' m * k) (hs : ∀ w, Hp M w0 H w → ∀ j u, us[j]? = some u → w.cell? (ad.add j) = some u) (hu : ∀ u ∈ us, u.oneCell' = true) (ho : o + us.length ≤ cur.size)
    (h : AT n (Hp M w0 (H.set i (.blk g (cur.toList.take o ++ us ++ cur.toList.drop (o + us.length)).toArray e))) ((d, .int .i64 (Nat.min m' m : Nat)) :: s) (wpList P ops Q rest)) :
    AT n (Hp M w0 H) s (wpList P ops Q (⟨some d, .call ⟨.builtin .copy, #[x, y], #[t, t]⟩, ty, pos, af, none⟩ :: rest)) := st_go hd (fun a w f cw => by
  have hb := cw.blk hi
  obtain ⟨q1, q2, q3, i0, zv, q4, q5, q6, q7, q8⟩ := T0.sl_ok _ _ _ _ _ ht
  have h1 := run_loadCells_list (P := P) w ad us (hs w cw)
  have h2 := run_storeCells_at P g o e us 0 cur w hb (by omega) hu
  simp only [Nat.add_zero] at h2
  refine ⟨w.setRow g (cur.toList.take o ++ us ++ cur.toList.drop (o + us.length)).toArray, cw.turn hi (fun f hf => ?_) rfl rfl rfl (by simp), ?_⟩
  · obtain ⟨h1, h2⟩ := hf
    subst h2
    exact ⟨⟨setRow_heap w g cur _ e _ h1, rfl⟩, fun k _ hk => setRow_other w g k _ (by simpa using hk)⟩
  · have hr : (Builtin.copy_ #[t, t] ty #[.slice (some ⟨g, o, none⟩) m c, .slice (some ad) m' c']).run P w = .ok (.int .i64 (Nat.min m' m : Nat)) (w.setRow g (cur.toList.take o ++ us ++ cur.toList.drop (o + us.length)).toArray) := by
      simp [Builtin.copy_, run_underlying q1, Builtin.lenOf, Builtin.firstCells, sizeOf, typeInfo, q4, q5, ← hl, h1, h2, goInt]
    simp [execOp, resolve, invoke, builtin, f.ev hx, f.ev hy, hr]) h
theorem y_slol (T : Tabs P) {e k b m cap lo g o : Nat} {z : List Value} {p : Int} {lo' : Operand} (ht : lk T.sl t = some (e, k, b, z)) (hx : ev s x = some (.slice (some ⟨g, o, none⟩) m cap)) (hl : ev s lo' = some (.int .i64 p)) (hp : p = (lo : Int)) (h1 : lo ≤ m) (h2 : lo < cap) :
    Y P n C s (.slice t x (some lo') none none) ty (.slice (some ⟨g, o + lo * k, none⟩) (m - lo) (cap - lo)) := by
  have h := y_slo (n := n) (C := C) (ty := ty) T ht hx hl hp h1
  have e : subA (some ⟨g, o, none⟩) k lo cap = some ⟨g, o + lo * k, none⟩ := by unfold subA; rw [if_neg (by omega)]; simp [Addr.add_lit]
  rwa [e] at h
theorem y_slhl (T : Tabs P) {e k b m cap hi g o : Nat} {z : List Value} {p : Int} {hi' : Operand} (ht : lk T.sl t = some (e, k, b, z)) (hx : ev s x = some (.slice (some ⟨g, o, none⟩) m cap)) (hh : ev s hi' = some (.int .i64 p)) (hp : p = (hi : Int)) (h1 : hi ≤ cap) (h2 : 0 < cap) :
    Y P n C s (.slice t x none (some hi') none) ty (.slice (some ⟨g, o, none⟩) hi cap) := by
  have h := y_slh (n := n) (C := C) (ty := ty) T ht hx hh hp h1
  have e : subA (some ⟨g, o, none⟩) k 0 cap = some ⟨g, o, none⟩ := by unfold subA; rw [if_neg (by omega)]; simp [Addr.add_lit]
  rwa [e] at h
end
end Go.Lg
namespace Go.Proofs.Ytfhgpkdhhclpbaa
open Go.Lg Go.Proofs Go.RowKit Go.Shelf
def mulRen : Ren := ⟨fun k => match k with | 212 => 162 | 263 => 182 | 264 => 183 | _ => 0,
  fun k => match k with | 46 => 142 | 51 => 154 | 53 => 157 | 146 => 155 | 148 => 158 | _ => 4, fun _ => 0⟩
theorem mulLays : Lays.n212 Try.prog mulRen := by
  constructor <;> first | kernel_rfl | (intro w; kernel_rfl) | rfl
attribute [local irreducible] Code.wp wpList bodyPost Exit.then Exit.inBlock Hp Again Calls Y AT ResV QT Qn QI wpAny wpAnyQ
set_option maxRecDepth 20000
set_option maxHeartbeats 4000000
theorem bitsMul_ok {w : World} {x y : Nat} (hx : x < 18446744073709551616) (hy : y < 18446744073709551616) :
    Does Try.prog 162 [.int .u64 x, .int .u64 y] w (fun r H => r = .tuple #[.int .u64 ((x * y / 18446744073709551616 : Nat) : Int), .int .u64 ((x * y % 18446744073709551616 : Nat) : Int)] ∧ H = []) :=
  (Any.bits_Mul mulLays x y hx hy w).mono (by
    rintro e w' ⟨rfl, rfl⟩
    exact ⟨_, _, rfl, ⟨rfl, rfl⟩, Hp.nil⟩)

/-! ### one representation, over and over -/
/-- the cells of a list under way: i elements are there, of n -/
def rptC (us z : List Value) (n i : Nat) : List Value := (List.replicate i us).flatten ++ (List.replicate (n - i) z).flatten
theorem flat_len {z : List Value} {m n : Nat} (h : z.length = m) : ((List.replicate n z).flatten).length = n * m := by
  simp [h]
theorem rptC_len {us z : List Value} {m n i : Nat} (h1 : us.length = m) (h2 : z.length = m) (hi : i ≤ n) : (rptC us z n i).length = n * m := by
  rw [rptC, List.length_append, flat_len h1, flat_len h2, ← Nat.add_mul]
  congr 1; omega
theorem rptC_take {us z : List Value} {m n i : Nat} (h1 : us.length = m) : (rptC us z n i).take (i * m) = (List.replicate i us).flatten := by
  rw [rptC, List.take_append_of_le_length (by rw [flat_len h1]; exact Nat.le_refl _), List.take_of_length_le (by rw [flat_len h1]; exact Nat.le_refl _)]
theorem rptC_drop {us z : List Value} {m n i d : Nat} (h1 : us.length = m) (h2 : z.length = m) : (rptC us z n i).drop (i * m + d * m) = (List.replicate (n - (i + d)) z).flatten := by
  rw [rptC, List.drop_append, flat_len h1, List.drop_of_length_le (by rw [flat_len h1]; omega), List.nil_append, Nat.add_sub_cancel_left]
  have e : n - (i + d) = n - i - d := by omega
  rw [e]
  generalize n - i = q
  by_cases hd : d ≤ q
  · have e2 : List.replicate q z = List.replicate d z ++ List.replicate (q - d) z := by rw [List.replicate_append_replicate]; congr 1; omega
    conv => lhs; rw [e2]
    rw [List.flatten_append, List.drop_append, flat_len h2, List.drop_of_length_le (by rw [flat_len h2]; exact Nat.le_refl _), Nat.sub_self]
    rfl
  · rw [List.drop_of_length_le (by rw [flat_len h2]; exact Nat.mul_le_mul_right _ (by omega)), show q - d = 0 by omega]
    rfl
theorem rptC_next {us z : List Value} {m n i d : Nat} (h1 : us.length = m) (h2 : z.length = m) : (rptC us z n i).take (i * m) ++ (List.replicate d us).flatten ++ (rptC us z n i).drop (i * m + ((List.replicate d us).flatten).length) = rptC us z n (i + d) := by
  rw [flat_len h1, rptC_take h1, rptC_drop h1 h2, rptC, ← List.flatten_append, List.replicate_append_replicate]
theorem rptC_get {us z : List Value} {n i j : Nat} {u : Value} (h : ((List.replicate i us).flatten)[j]? = some u) : (rptC us z n i)[j]? = some u := by
  rw [rptC, List.getElem?_append_left ((List.getElem?_eq_some_iff.1 h).1)]; exact h
theorem flat_pre2 {us : List Value} {d i j : Nat} {u : Value} (hd : d ≤ i) (h : ((List.replicate d us).flatten)[j]? = some u) : ((List.replicate i us).flatten)[j]? = some u := by
  have e2 : List.replicate i us = List.replicate d us ++ List.replicate (i - d) us := by rw [List.replicate_append_replicate]; congr 1; omega
  rw [e2, List.flatten_append, List.getElem?_append_left ((List.getElem?_eq_some_iff.1 h).1)]; exact h
theorem Repeat_ok {w : World} {us : List Value} {g o c nn : Nat} (hu : us.length = 6) (hu1 : ∀ u ∈ us, u.oneCell' = true) (hc : ∀ j u, us[j]? = some u → w.cell? ⟨g, o + j, none⟩ = some u) (h1 : 1 ≤ nn) (h8 : nn ≤ 8) :
    Does Try.prog 111 [.slice (some ⟨g, o, none⟩) 1 c, iV nn] w (fun r H => ∃ b, r = .slice (some ⟨b, 0, none⟩) nn nn ∧ H = [.blk b ((List.replicate nn us).flatten).toArray 35]) := by
  have hz6 : ([.int .i64 0, .int .i64 0, .slice none 0 0, .slice none 0 0, .slice none 0 0, .slice none 0 0] : List Value).length = 6 := rfl
  have e1 : (1 * nn : Nat) / 18446744073709551616 = 0 := by omega
  have e2 : (1 * nn : Nat) % 18446744073709551616 = nn := by omega
  refine fn_enter Try.func111 rfl Try.ntmps111 rfl ?_
  repeat' (first
    | (show AT _ _ _ (wpList _ _ _ (_ :: _)); first
       | (show AT _ _ _ (wpList _ _ _ (⟨_, Op.move _, _, _, _, _⟩ :: _)); refine st_y (y_move rfl) rfl ?_)
       | (show AT _ _ _ (wpList _ _ _ (⟨_, Op.assign _, _, _, _, _⟩ :: _)); refine st_y (y_assign rfl) rfl ?_)
       | (show AT _ _ _ (wpList _ _ _ (⟨_, Op.binOp _ _ _ _ _, _, _, _, _⟩ :: _)); first | refine st_y (y_gtru rfl rfl) rfl ?_ | refine st_y (y_lss rfl rfl) rfl ?_)
       | (show AT _ _ _ (wpList _ _ _ (⟨_, Op.call _, _, _, _, _⟩ :: _)); first | (refine m_call (ent_of Try.func162 (by kernel_rfl) rfl) rfl rfl (fun w c' => bitsMul_ok (x := 1) (y := nn) (by omega) (by omega)) ?_; rintro v H' ⟨rfl, rfl⟩; rw [e1, e2]) | refine st_y (y_len tabs rfl rfl) rfl ?_)
       | (show AT _ _ _ (wpList _ _ _ (⟨_, Op.extract _ _, _, _, _, _⟩ :: _)); refine st_y (y_ext rfl rfl) rfl ?_)
       | (show AT _ _ _ (wpList _ _ _ (⟨_, Op.pick _ _ _, _, _, _, _⟩ :: _)); refine st_y (y_pickf rfl (by first | assumption | omega) rfl) rfl ?_)
       | (show AT _ _ _ (wpList _ _ _ (⟨_, Op.makeSlice _ _ _, _, _, _, _⟩ :: _)); refine m_make tabs rfl rfl rfl (by omega) (by omega) (by omega) (by omega) rfl (fun b hb => ?_))
       | (show AT _ _ _ (wpList _ _ _ (⟨_, Op.convert _ _ _, _, _, _, _⟩ :: _)); first | refine st_y (y_convi (t' := 142) (k' := .u64) (p := ((1 : Nat) : Int)) (q := ((1 : Nat) : Int)) (by kernel_rfl) (by kernel_rfl) (by kernel_rfl) rfl (by decide)) rfl ?_ | refine st_y (y_convi (t' := 142) (k' := .u64) (p := ((nn : Nat) : Int)) (q := ((nn : Nat) : Int)) (by kernel_rfl) (by kernel_rfl) (by kernel_rfl) rfl (by rw [IntKind.wrap_u64]; omega)) rfl ?_ | refine st_y (y_convi (t' := 3) (k' := .i64) (q := ((nn : Nat) : Int)) (by kernel_rfl) (by kernel_rfl) (by kernel_rfl) rfl (by rw [IntKind.wrap_i64]; omega)) rfl ?_)
       | refine st_gy rfl rfl ?_)
    | (show AT _ _ _ (wpList _ _ _ []); refine c_nil (x_then ?_))
    | (show AT _ _ _ (Code.wp _ _ _); first | refine c_seq ?_ | refine c_region ?_ | refine c_skip (x_then ?_) | refine c_false rfl ?_ | refine c_iff rfl (by first | assumption | exact not_not_intro (by assumption) | omega) ?_))
  all_goals first | (exfalso; omega) | skip
  obtain ⟨z, hz⟩ : ∃ z : List Value, z = [.int .i64 0, .int .i64 0, .slice none 0 0, .slice none 0 0, .slice none 0 0, .slice none 0 0] := ⟨_, rfl⟩
  rw [← hz] at hz6 ⊢
  have ez : zeros z ((nn : Nat) : Int).toNat = (rptC us z nn 0).toArray := by
    have h := zeros_eq z nn (by omega)
    rw [rptC, List.replicate_zero, List.flatten_nil, List.nil_append, Nat.sub_zero, ← h]
    rfl
  have em : Nat.min 1 nn = 1 := Nat.min_eq_left h1
  have hlen : ∀ i, i ≤ nn → (rptC us z nn i).length = nn * 6 := fun i hi => rptC_len hu hz6 hi
  have e0 : (List.take 0 (rptC us z nn 0) ++ us ++ List.drop (0 + us.length) (rptC us z nn 0)) = rptC us z nn 1 := by
    have h := rptC_next (us := us) (z := z) (n := nn) (i := 0) (d := 1) hu hz6
    simpa using h
  rw [ez]
  repeat' (first
    | (show AT _ _ _ (wpList _ _ _ (_ :: _)); first
       | (show AT _ _ _ (wpList _ _ _ (⟨_, Op.assign _, _, _, _, _⟩ :: _)); refine st_y (y_assign rfl) rfl ?_)
       | (show AT _ _ _ (wpList _ _ _ (⟨_, Op.call _, _, _, _, _⟩ :: _)); refine m_copyb 0 tabs (m := nn) (c := nn) (us := us) rfl rfl rfl rfl rfl (by rw [em, hu]) (fun w' c' j u hj => by rw [Addr.add_lit]; exact c'.cell (hc j u hj)) hu1 (by have := hlen 0 (Nat.zero_le _); simp only [List.size_toArray]; omega) ?_))
    | (show AT _ _ _ (wpList _ _ _ []); refine c_nil (x_then ?_))
    | (show AT _ _ _ (Code.wp _ _ _); first | refine c_seq ?_ | refine c_block ?_))
  rw [em]
  simp only [e0, List.set_cons_zero]
  refine c_loopH (α := Nat) [7] (fun i => [(8, .int .i64 i)]) (fun i => 1 ≤ i ∧ i ≤ nn) (fun i => [.blk b (rptC us z nn i).toArray 35]) (fun i => nn - i) 1 rfl (by repeat' (first | exact Sub.nil | refine Sub.cons rfl ?_ | refine Sub.consi rfl (by omega) ?_)) ?_ ?_ ?_
  · omega
  · exact fun w' c' => c'
  · rintro i ⟨hi1, hi⟩
    by_cases hin : i < nn
    · have hd1 : Nat.min i (nn - i) ≤ i := Nat.min_le_left _ _
      have hd2 : Nat.min i (nn - i) ≤ nn - i := Nat.min_le_right _ _
      have hd0 : 0 < Nat.min i (nn - i) := Nat.lt_min.2 ⟨by omega, by omega⟩
      generalize hd : Nat.min i (nn - i) = d at *
      have hfl := flat_len (n := d) hu
      have hw := hlen i hi
      have hmul := Nat.mul_le_mul_right 6 (show i + d ≤ nn by omega)
      rw [Nat.add_mul] at hmul
      have enx := rptC_next (us := us) (z := z) (n := nn) (i := i) (d := d) hu hz6
      repeat' (first
        | (show AT _ _ _ (wpList _ _ _ (_ :: _)); first
           | (show AT _ _ _ (wpList _ _ _ (⟨_, Op.move _, _, _, _, _⟩ :: _)); refine st_y (y_move rfl) rfl ?_)
           | (show AT _ _ _ (wpList _ _ _ (⟨_, Op.binOp _ _ _ _ _, _, _, _, _⟩ :: _)); refine st_y (y_lss rfl rfl) rfl ?_)
           | (show AT _ _ _ (wpList _ _ _ (⟨_, Op.call _, _, _, _, _⟩ :: _)); refine st_y (y_len tabs rfl rfl) rfl ?_))
        | (show AT _ _ _ (wpList _ _ _ []); refine c_nil (x_then ?_))
        | (show AT _ _ _ (Code.wp _ _ _); first | refine c_seq ?_ | refine c_region ?_ | refine c_skip (x_then ?_) | refine c_block ?_ | refine c_ift rfl (by first | assumption | omega) ?_))
      refine c_all (Hp [] w []) (by kernel_rfl) (fun _ c => Hp.drew c) ?_
      refine h_take 0 rfl (by kernel_rfl) (by kernel_rfl) (by kernel_rfl) (by exact y_move rfl) rfl (fun w c => by exact c.drop) ?_
      refine h_take 1 rfl (by kernel_rfl) (by kernel_rfl) (by kernel_rfl) (by exact y_move rfl) rfl (fun w c => by exact c.drop) ?_
      refine h_take 2 rfl (by kernel_rfl) (by kernel_rfl) (by kernel_rfl) (by exact y_move rfl) rfl (fun w c => by exact c.drop) ?_
      refine h_take 3 rfl (by kernel_rfl) (by kernel_rfl) (by kernel_rfl) (by exact y_slol (lo := i) (m := nn) (cap := nn) tabs rfl rfl rfl rfl (by omega) (by omega)) rfl (fun w c => by exact c.drop) ?_
      refine h_take 4 rfl (by kernel_rfl) (by kernel_rfl) (by kernel_rfl) (by exact y_move rfl) rfl (fun w c => by exact c.drop) ?_
      refine h_take 5 rfl (by kernel_rfl) (by kernel_rfl) (by kernel_rfl) (by exact y_move rfl) rfl (fun w c => by exact c.drop) ?_
      refine h_take 6 rfl (by kernel_rfl) (by kernel_rfl) (by kernel_rfl) (by exact y_slhl (hi := i) (m := nn) (cap := nn) tabs rfl rfl rfl rfl (by omega) (by omega)) rfl (fun w c => by exact c.drop) ?_
      refine h_only 7 rfl (by kernel_rfl) ?_
      (refine m_copyb 0 tabs (us := (List.replicate d us).flatten) rfl rfl rfl rfl rfl (by rw [hd, hfl]) (fun w' c' j u hj => by rw [Addr.add_lit]; exact hc_blk 0 rfl (by rw [Nat.zero_add, List.getElem?_toArray]; exact rptC_get (flat_pre2 (by omega) hj)) w' c') (fun u hm => by obtain ⟨l, hl, hm⟩ := List.mem_flatten.1 hm; rw [List.eq_of_mem_replicate hl] at hm; exact hu1 u hm) (by simp only [List.size_toArray]; omega) ?_)
      refine c_nil (x_one (h_keep (fun w c => by exact c.drop) ?_))
      refine h_take 8 rfl (by kernel_rfl) (by kernel_rfl) (by kernel_rfl) (by exact y_add rfl rfl (by omega)) rfl (fun w c => by exact c.drop) ?_
      refine h_take 9 rfl (by kernel_rfl) (by kernel_rfl) (by kernel_rfl) (by exact y_assign rfl) rfl (fun w c => by exact c.drop) ?_
      refine h_end (by kernel_rfl) ?_
      repeat' (first
        | (show AT _ _ _ _; first | refine x_then ?_ | refine x_blk ?_))
      refine x_nx (i + d) (by repeat' (first | exact Sub.nil | refine Sub.cons rfl ?_ | refine Sub.consi rfl (by omega) ?_)) (by omega) (fun w' c' => ?_) (by omega)
      simp only [Nat.zero_add, enx, List.set_cons_zero] at c'
      exact c'
    · have : i = nn := by omega
      subst this
      repeat' (first
        | (show AT _ _ _ (wpList _ _ _ (_ :: _)); first
           | (show AT _ _ _ (wpList _ _ _ (⟨_, Op.move _, _, _, _, _⟩ :: _)); refine st_y (y_move rfl) rfl ?_)
           | (show AT _ _ _ (wpList _ _ _ (⟨_, Op.assign _, _, _, _, _⟩ :: _)); refine st_y (y_assign rfl) rfl ?_)
           | (show AT _ _ _ (wpList _ _ _ (⟨_, Op.binOp _ _ _ _ _, _, _, _, _⟩ :: _)); refine st_y (y_lss rfl rfl) rfl ?_)
           | (show AT _ _ _ (wpList _ _ _ (⟨_, Op.call _, _, _, _, _⟩ :: _)); refine st_y (y_len tabs rfl rfl) rfl ?_))
        | (show AT _ _ _ (wpList _ _ _ []); refine c_nil (x_then ?_))
        | (show AT _ _ _ (Code.wp _ _ _); first | refine c_seq ?_ | refine c_region ?_ | refine c_ret ?_ | refine c_exit ?_ | refine c_iff rfl (by first | assumption | exact not_not_intro (by assumption) | omega) ?_)
        | (show AT _ _ _ _; first | refine x_then ?_ | refine x_then_exit ?_ | refine x_blk_exit rfl ?_))
      refine x_ret1 Try.results111 (res_tmp rfl) (fun w' c' => ⟨_, _, rfl, ⟨b, rfl, rfl⟩, ?_⟩)
      have ee : rptC us z i i = (List.replicate i us).flatten := by rw [rptC, Nat.sub_self]; simp
      rw [ee] at c'
      exact c'
end Go.Proofs.Ytfhgpkdhhclpbaa
