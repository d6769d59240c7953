import Derived.Shelf.Bits.Mul64
import Derived.Test.YtijjkfbkihgfgaaGreatLEqsu
import Derived.Test.YtijjkfbkihgfgaaGreatRpsqsu
import Derived.Test.YtijjkfbkihgfgaaGreatSmsqsu
namespace Go.Lg
open Go.RowKit
section
variable {P : Program} {n : Nat} {C : World → Prop} {M : List Nat} {w0 : World} {H : List HE} {s : List (Nat × Value)} {Q : Exit → Act → World → Prop} {ops : Array Oper} {rest : List Oper}
variable {d ty t t' : Nat} {pos : String} {af : Array Edge} {v : Value} {x y : Operand}
theorem y_convi {k k' : IntKind} {p q : Int} (hs : (P.underlying t).isSome = true) (hd : P.underlying t' = some (.int k')) (hk : P.intKind t' = k') (hx : ev s x = some (.int k p)) (hq : k'.wrap p = q) : Y P n C s (.convert t t' x) ty (.int k' q) := fun a w f c d pos af g => by
  have h := run_convert_int (P := P) w t t' k p hs (by rw [hk]; exact hd)
  rw [hk, hq] at h
  simp [execOp, f.ev hx, h]
theorem y_gtru {p q : Int} (hx : ev s x = some (.int .u64 p)) (hy : ev s y = some (.int .u64 q)) : Y P n C s (.binOp .gtr t x y t') ty (.bool (decide (q < p))) := fun a w f c d pos af g => by
  simp [execOp, f.ev hx, f.ev hy, eqGuard, binOp, Op.intCmp]
theorem m_copyb (i : Nat) (T0 : Tabs P) {e0 k bz e g o m c m' c' : Nat} {z us : List Value} {cur : Array Value} {ad : Addr} (ht : lk T0.sl t = some (e0, k, bz, z)) (hx : ev s x = some (.slice (some ⟨g, o, none⟩) m c)) (hy : ev s y = some (.slice (some ad) m' c')) (hd : Nat.blt d n = true)
    (hi : H[i]? = some (.blk g cur e)) (hl : us.length = Nat.min m' m * k) (hs : ∀ w, Hp M w0 H w → ∀ j u, us[j]? = some u → w.cell? (ad.add j) = some u) (hu : ∀ u ∈ us, u.oneCell' = true) (ho : o + us.length ≤ cur.size)
    (h : AT n (Hp M w0 (H.set i (.blk g (cur.toList.take o ++ us ++ cur.toList.drop (o + us.length)).toArray e))) ((d, .int .i64 (Nat.min m' m : Nat)) :: s) (wpList P ops Q rest)) :
    AT n (Hp M w0 H) s (wpList P ops Q (⟨some d, .call ⟨.builtin .copy, #[x, y], #[t, t]⟩, ty, pos, af, none⟩ :: rest)) := st_go hd (fun a w f cw => by
  have hb := cw.blk hi
  obtain ⟨q1, q2, q3, i0, zv, q4, q5, q6, q7, q8⟩ := T0.sl_ok _ _ _ _ _ ht
  have h1 := run_loadCells_list (P := P) w ad us (hs w cw)
  have h2 := run_storeCells_at P g o e us 0 cur w hb om hu
  simp only [Nat.add_zero] at h2
  refine ⟨w.setRow g (cur.toList.take o ++ us ++ cur.toList.drop (o + us.length)).toArray, cw.turn hi (fun f hf => ?_) rfl rfl rfl (by simp), ?_⟩
  · obtain ⟨h1, h2⟩ := hf
    subst h2
    exact ⟨⟨setRow_heap w g cur _ e _ h1, rfl⟩, fun k _ hk => setRow_other w g k _ (by simpa using hk)⟩
  · have hr : (Builtin.copy_ #[t, t] ty #[.slice (some ⟨g, o, none⟩) m c, .slice (some ad) m' c']).run P w = .ok (.int .i64 (Nat.min m' m : Nat)) (w.setRow g (cur.toList.take o ++ us ++ cur.toList.drop (o + us.length)).toArray) := by
      simp [Builtin.copy_, run_underlying q1, Builtin.lenOf, Builtin.firstCells, sizeOf, typeInfo, q4, q5, ← hl, h1, h2, goInt]
    simp [execOp, resolve, invoke, builtin, f.ev hx, f.ev hy, hr]) h
theorem y_slol (T : Tabs P) {e k b m cap lo g o : Nat} {z : List Value} {p : Int} {lo' : Operand} (ht : lk T.sl t = some (e, k, b, z)) (hx : ev s x = some (.slice (some ⟨g, o, none⟩) m cap)) (hl : ev s lo' = some (.int .i64 p)) (hp : p = (lo : Int)) (h1 : lo ≤ m) (h2 : lo < cap) :
    Y P n C s (.slice t x (some lo') none none) ty (.slice (some ⟨g, o + lo * k, none⟩) (m - lo) (cap - lo)) := by
  have h := y_slo (n := n) (C := C) (ty := ty) T ht hx hl hp h1
  have e : subA (some ⟨g, o, none⟩) k lo cap = some ⟨g, o + lo * k, none⟩ := by unfold subA; rw [if_neg om]; simp [Addr.add_lit]
  rwa [e] at h
theorem y_slhl (T : Tabs P) {e k b m cap hi g o : Nat} {z : List Value} {p : Int} {hi' : Operand} (ht : lk T.sl t = some (e, k, b, z)) (hx : ev s x = some (.slice (some ⟨g, o, none⟩) m cap)) (hh : ev s hi' = some (.int .i64 p)) (hp : p = (hi : Int)) (h1 : hi ≤ cap) (h2 : 0 < cap) :
    Y P n C s (.slice t x none (some hi') none) ty (.slice (some ⟨g, o, none⟩) hi cap) := by
  have h := y_slh (n := n) (C := C) (ty := ty) T ht hx hh hp h1
  have e : subA (some ⟨g, o, none⟩) k 0 cap = some ⟨g, o, none⟩ := by unfold subA; rw [if_neg om]; simp [Addr.add_lit]
  rwa [e] at h
end
end Go.Lg
namespace Go.Proofs.YtijjkfbkihgfgaaGreat
open Go.Lg Go.Proofs Go.RowKit Go.Shelf
def mulRen : Ren := ⟨fun k => match k with | 212 => 266 | 263 => 291 | 264 => 292 | _ => 0,
  fun k => match k with | 46 => 221 | 51 => 237 | 53 => 240 | 146 => 238 | 148 => 241 | _ => 4, fun _ => 0⟩
theorem mulLays : Lays.n212 Tryz.prog mulRen := by
  constructor <;> first | kernel_rfl | (intro w; kernel_rfl) | rfl
attribute [local irreducible] Code.wp wpList bodyPost Exit.then Exit.inBlock Hp Again Calls Y AT ResV QT Qn QI wpAny wpAnyQ
set_option maxRecDepth 20000
set_option maxHeartbeats 4000000
theorem bitsMul_ok {w : World} {x y : Nat} (hx : x < 18446744073709551616) (hy : y < 18446744073709551616) :
    Does Tryz.prog 266 [.int .u64 x, .int .u64 y] w (fun r H => r = .tuple #[.int .u64 ((x * y / 18446744073709551616 : Nat) : Int), .int .u64 ((x * y % 18446744073709551616 : Nat) : Int)] ∧ H = []) :=
  (Any.bits_Mul mulLays x y hx hy w).mono (by
    rintro e w' ⟨rfl, rfl⟩
    exact ⟨_, _, rfl, ⟨rfl, rfl⟩, Hp.nil⟩)

def rptC (us z : List Value) (n i : Nat) : List Value := (List.replicate i us).flatten ++ (List.replicate (n - i) z).flatten
theorem rflat_len {z : List Value} {m n : Nat} (h : z.length = m) : ((List.replicate n z).flatten).length = n * m := by
  simp [h]
theorem rptC_len {us z : List Value} {m n i : Nat} (h1 : us.length = m) (h2 : z.length = m) (hi : i ≤ n) : (rptC us z n i).length = n * m := by
  rw [rptC, List.length_append, rflat_len h1, rflat_len h2, ← Nat.add_mul]
  congr 1; omega
theorem rptC_take {us z : List Value} {m n i : Nat} (h1 : us.length = m) : (rptC us z n i).take (i * m) = (List.replicate i us).flatten := by
  rw [rptC, List.take_append_of_le_length (by rw [rflat_len h1]; exact Nat.le_refl _), List.take_of_length_le (by rw [rflat_len h1]; exact Nat.le_refl _)]
theorem rptC_drop {us z : List Value} {m n i d : Nat} (h1 : us.length = m) (h2 : z.length = m) : (rptC us z n i).drop (i * m + d * m) = (List.replicate (n - (i + d)) z).flatten := by
  rw [rptC, List.drop_append, rflat_len h1, List.drop_of_length_le (by rw [rflat_len h1]; omega), List.nil_append, Nat.add_sub_cancel_left]
  have e : n - (i + d) = n - i - d := by omega
  rw [e]
  generalize n - i = q
  by_cases hd : d ≤ q
  · have e2 : List.replicate q z = List.replicate d z ++ List.replicate (q - d) z := by rw [List.replicate_append_replicate]; congr 1; omega
    conv => lhs; rw [e2]
    rw [List.flatten_append, List.drop_append, rflat_len h2, List.drop_of_length_le (by rw [rflat_len h2]; exact Nat.le_refl _), Nat.sub_self]
    rfl
  · rw [List.drop_of_length_le (by rw [rflat_len h2]; exact Nat.mul_le_mul_right _ om), show q - d = 0 by omega]
    rfl
theorem rptC_next {us z : List Value} {m n i d : Nat} (h1 : us.length = m) (h2 : z.length = m) : (rptC us z n i).take (i * m) ++ (List.replicate d us).flatten ++ (rptC us z n i).drop (i * m + ((List.replicate d us).flatten).length) = rptC us z n (i + d) := by
  rw [rflat_len h1, rptC_take h1, rptC_drop h1 h2, rptC, ← List.flatten_append, List.replicate_append_replicate]
theorem rptC_get {us z : List Value} {n i j : Nat} {u : Value} (h : ((List.replicate i us).flatten)[j]? = some u) : (rptC us z n i)[j]? = some u := by
  rw [rptC, List.getElem?_append_left ((List.getElem?_eq_some_iff.1 h).1)]; exact h
theorem flat_pre2 {us : List Value} {d i j : Nat} {u : Value} (hd : d ≤ i) (h : ((List.replicate d us).flatten)[j]? = some u) : ((List.replicate i us).flatten)[j]? = some u := by
  have e2 : List.replicate i us = List.replicate d us ++ List.replicate (i - d) us := by rw [List.replicate_append_replicate]; congr 1; omega
  rw [e2, List.flatten_append, List.getElem?_append_left ((List.getElem?_eq_some_iff.1 h).1)]; exact h
theorem Repeat_ok {w : World} {us : List Value} {g o c nn : Nat} (hu : us.length = 6) (hu1 : ∀ u ∈ us, u.oneCell' = true) (hc : ∀ j u, us[j]? = some u → w.cell? ⟨g, o + j, none⟩ = some u) (h1 : 1 ≤ nn) (h8 : nn ≤ 8) :
    Does Tryz.prog 190 [.slice (some ⟨g, o, none⟩) 1 c, iV nn] w (fun r H => ∃ b, r = .slice (some ⟨b, 0, none⟩) nn nn ∧ H = [.blk b ((List.replicate nn us).flatten).toArray 60]) := by
  have hz6 : ([.int .i64 0, .int .i64 0, .slice none 0 0, .slice none 0 0, .slice none 0 0, .slice none 0 0] : List Value).length = 6 := rfl
  have e1 : (1 * nn : Nat) / 18446744073709551616 = 0 := by omega
  have e2 : (1 * nn : Nat) % 18446744073709551616 = nn := by omega
  refine fn_enter Tryz.func190 rfl Tryz.ntmps190 rfl ?_
  repeat' (first | (show oL; first | refine sMv rfl rfl ?_ | refine sAs rfl rfl ?_ | (show oA (.binOp _ _ _ _ _); first | refine st_y (y_gtru rfl rfl) rfl ?_ | refine sLs rfl rfl rfl ?_) | (show oA (.call _); first | (refine m_call (ent_of Tryz.func266 kr rfl) rfl rfl (fun w c' => bitsMul_ok (x := 1) (y := nn) om om) ?_; rintro v H' ⟨rfl, rfl⟩; rw [e1, e2]) | refine sLn tabs rfl rfl rfl ?_) | (show oA (.extract _ _); refine st_y (y_ext rfl rfl) rfl ?_) | (show oA (.pick _ _ _); refine st_y (y_pickf rfl aO rfl) rfl ?_) | (show oA (.makeSlice _ _ _); refine m_make tabs rfl rfl rfl om om om om rfl (fun b hb => ?_)) | (show oA (.convert _ _ _); first | refine st_y (y_convi (t' := 221) (k' := .u64) (p := ((1 : Nat) : Int)) (q := ((1 : Nat) : Int)) kr kr kr rfl (by decide)) rfl ?_ | refine st_y (y_convi (t' := 221) (k' := .u64) (p := ((nn : Nat) : Int)) (q := ((nn : Nat) : Int)) kr kr kr rfl (by rw [IntKind.wrap_u64]; omega)) rfl ?_ | refine st_y (y_convi (t' := 3) (k' := .i64) (q := ((nn : Nat) : Int)) kr kr kr rfl (by rw [IntKind.wrap_i64]; omega)) rfl ?_) | refine st_gy rfl rfl ?_) | refine xNt ?_ | (show oC; first | refine c_seq ?_ | refine c_region ?_ | refine c_skip (x_then ?_) | refine c_false rfl ?_ | refine c_iff rfl nN ?_))
  all_goals first | (exfalso; omega) | skip
  obtain ⟨z, hz⟩ : ∃ z : List Value, z = [.int .i64 0, .int .i64 0, .slice none 0 0, .slice none 0 0, .slice none 0 0, .slice none 0 0] := ⟨_, rfl⟩
  rw [← hz] at hz6 ⊢
  have ez : zeros z ((nn : Nat) : Int).toNat = (rptC us z nn 0).toArray := by
    have h := zeros_eq z nn om
    rw [rptC, List.replicate_zero, List.flatten_nil, List.nil_append, Nat.sub_zero, ← h]
    rfl
  have em : Nat.min 1 nn = 1 := Nat.min_eq_left h1
  have hlen : ∀ i, i ≤ nn → (rptC us z nn i).length = nn * 6 := fun i hi => rptC_len hu hz6 hi
  have e0 : (List.take 0 (rptC us z nn 0) ++ us ++ List.drop (0 + us.length) (rptC us z nn 0)) = rptC us z nn 1 := by
    have h := rptC_next (us := us) (z := z) (n := nn) (i := 0) (d := 1) hu hz6
    simpa using h
  rw [ez]
  repeat' (first | (show oL; first | refine sAs rfl rfl ?_ | (show oA (.call _); refine m_copyb 0 tabs (m := nn) (c := nn) (us := us) rfl rfl rfl rfl rfl (by rw [em, hu]) (fun w' c' j u hj => by rw [Addr.add_lit]; exact c'.cell (hc j u hj)) hu1 (by have := hlen 0 (Nat.zero_le _); simp only [List.size_toArray]; omega) ?_)) | refine xNt ?_ | (show oC; first | refine c_seq ?_ | refine c_block ?_))
  rw [em]
  simp only [e0, List.set_cons_zero]
  refine c_loopH (α := Nat) [7] (fun i => [(8, .int .i64 i)]) (fun i => 1 ≤ i ∧ i ≤ nn) (fun i => [.blk b (rptC us z nn i).toArray 60]) (fun i => nn - i) 1 rfl sB ?_ ?_ ?_
  · omega
  · exact fun w' c' => c'
  · rintro i ⟨hi1, hi⟩
    by_cases hin : i < nn
    · have hd1 : Nat.min i (nn - i) ≤ i := Nat.min_le_left _ _
      have hd2 : Nat.min i (nn - i) ≤ nn - i := Nat.min_le_right _ _
      have hd0 : 0 < Nat.min i (nn - i) := Nat.lt_min.2 ⟨by omega, by omega⟩
      generalize hd : Nat.min i (nn - i) = d at *
      have hfl := rflat_len (n := d) hu
      have hw := hlen i hi
      have hmul := Nat.mul_le_mul_right 6 (show i + d ≤ nn by omega)
      rw [Nat.add_mul] at hmul
      have enx := rptC_next (us := us) (z := z) (n := nn) (i := i) (d := d) hu hz6
      repeat' (first | (show oL; first | refine sMv rfl rfl ?_ | refine sLs rfl rfl rfl ?_ | refine sLn tabs rfl rfl rfl ?_) | refine xNt ?_ | (show oC; first | refine c_seq ?_ | refine c_region ?_ | refine c_skip (x_then ?_) | refine c_block ?_ | refine c_ift rfl aO ?_))
      refine c_all (Hp [] w []) kr (fun _ c => Hp.drew c) ?_
      refine h_take 0 rfl kr kr kr (by exact y_move rfl) rfl (fun w c => by exact c.drop) ?_
      refine h_take 1 rfl kr kr kr (by exact y_move rfl) rfl (fun w c => by exact c.drop) ?_
      refine h_take 2 rfl kr kr kr (by exact y_move rfl) rfl (fun w c => by exact c.drop) ?_
      refine h_take 3 rfl kr kr kr (by exact y_slol (lo := i) (m := nn) (cap := nn) tabs rfl rfl rfl rfl om om) rfl (fun w c => by exact c.drop) ?_
      refine h_take 4 rfl kr kr kr (by exact y_move rfl) rfl (fun w c => by exact c.drop) ?_
      refine h_take 5 rfl kr kr kr (by exact y_move rfl) rfl (fun w c => by exact c.drop) ?_
      refine h_take 6 rfl kr kr kr (by exact y_slhl (hi := i) (m := nn) (cap := nn) tabs rfl rfl rfl rfl om om) rfl (fun w c => by exact c.drop) ?_
      refine h_only 7 rfl kr ?_
      (refine m_copyb 0 tabs (us := (List.replicate d us).flatten) rfl rfl rfl rfl rfl (by rw [hd, hfl]) (fun w' c' j u hj => by rw [Addr.add_lit]; exact hc_blk 0 rfl (by rw [Nat.zero_add, List.getElem?_toArray]; exact rptC_get (flat_pre2 om hj)) w' c') (fun u hm => by obtain ⟨l, hl, hm⟩ := List.mem_flatten.1 hm; rw [List.eq_of_mem_replicate hl] at hm; exact hu1 u hm) (by simp only [List.size_toArray]; omega) ?_)
      refine c_nil (x_one (h_keep (fun w c => by exact c.drop) ?_))
      refine h_take 8 rfl kr kr kr (by exact y_add rfl rfl om) rfl (fun w c => by exact c.drop) ?_
      refine h_take 9 rfl kr kr kr (by exact y_assign rfl) rfl (fun w c => by exact c.drop) ?_
      refine h_end kr ?_
      repeat' (first | (show AT _ _ _ _; first | refine x_then ?_ | refine x_blk ?_))
      refine x_nx (i + d) sB om (fun w' c' => ?_) om
      simp only [Nat.zero_add, enx, List.set_cons_zero] at c'
      exact c'
    · have : i = nn := by omega
      subst this
      repeat' (first | (show oL; first | refine sMv rfl rfl ?_ | refine sAs rfl rfl ?_ | refine sLs rfl rfl rfl ?_ | refine sLn tabs rfl rfl rfl ?_) | refine xNt ?_ | (show oC; first | refine c_seq ?_ | refine c_region ?_ | refine c_ret ?_ | refine c_exit ?_ | refine c_iff rfl nN ?_) | (show AT _ _ _ _; first | refine x_then ?_ | refine x_then_exit ?_ | refine x_blk_exit rfl ?_))
      refine x_ret1 Tryz.results190 (res_tmp rfl) (fun w' c' => ⟨_, _, rfl, ⟨b, rfl, rfl⟩, ?_⟩)
      have ee : rptC us z i i = (List.replicate i us).flatten := by rw [rptC, Nat.sub_self]; simp
      rw [ee] at c'
      exact c'
end Go.Proofs.YtijjkfbkihgfgaaGreat

namespace Go.Proofs.YtijjkfbkihgfgaaGreat
open Go.Lg Go.Proofs Go.RowKit
attribute [local irreducible] Code.wp wpList bodyPost Exit.then Exit.inBlock Hp Again Calls Y AT ResV QT Qn QI wpAny wpAnyQ
set_option maxRecDepth 20000
set_option maxHeartbeats 4000000

theorem rdC_rp {w : World} {r : Rp} {e : Nat} {u0 u1 u2 u3 : Value} (h0 : Rd w (iT r.q.2.1) u0) (h1 : Rd w (iT r.q.2.2) u1) (h2 : Rd w (iT r.d) u2) (h3 : Rd w (matsT e r.m) u3) : RdC w (rpT r) [iV r.p, iV r.q.1, u0, u1, u2, u3] := ⟨rfl, fun j t u ht hu => by
  match j, ht, hu with
  | 0, ht, hu => simp [rpT] at ht hu; subst ht; subst hu; simp only [Rd]
  | 1, ht, hu => simp [rpT] at ht hu; subst ht; subst hu; simp only [Rd]
  | 2, ht, hu => simp [rpT] at ht hu; subst ht; subst hu; exact h0
  | 3, ht, hu => simp [rpT] at ht hu; subst ht; subst hu; exact h1
  | 4, ht, hu => simp [rpT] at ht hu; subst ht; subst hu; exact h2
  | 5, ht, hu => simp [rpT] at ht hu; subst ht; subst hu; simpa only [matsT, Rd] using h3⟩
theorem rdC_rep {w : World} {ts : List T} {us : List Value} (h : RdC w ts us) : ∀ n, RdC w ((List.replicate n ts).flatten) ((List.replicate n us).flatten)
  | 0 => RdC.nil
  | n + 1 => by
    rw [List.replicate_succ, List.replicate_succ, List.flatten_cons, List.flatten_cons]
    exact h.append (rdC_rep h n)
theorem rps_rep (r : Rp) (n : Nat) : (List.replicate n r).flatMap rpT = (List.replicate n (rpT r)).flatten := flatMap_rep rpT r n
theorem rd_namedk {w : World} {e e' k : Nat} {ts : List T} {us : List Value} {v : Value} (h : Rd w (.s e k (us.map T.c)) v) (hr : RdC w ts us) : Rd w (.s e' k ts) v := by
  simp only [Rd] at h ⊢
  obtain ⟨a', n', c', h1, h2, h3, h4, h5⟩ := h
  subst h1
  refine ⟨_, _, _, rfl, h2, h3, by rw [← hr.1]; simpa using h4, ?_⟩
  have key : ∀ i t, ts[i]? = some t → ∃ b o u, a' = some ⟨b, o, none⟩ ∧ w.cell? ⟨b, o + (0 + i), none⟩ = some u ∧ Rd w t u := fun i t ht => by
    have hil : i < us.length := by rw [hr.1]; exact (List.getElem?_eq_some_iff.1 ht).1
    obtain ⟨b, o, u, g1, g2, g3⟩ := h5.get i (.c us[i]) (by simp [hil])
    simp only [Rd] at g3
    subst g3
    exact ⟨b, o, _, g1, g2, hr.2 i t _ ht (List.getElem?_eq_getElem hil)⟩
  cases hts : ts with
  | nil => simp [RdL]
  | cons t0 tl =>
    obtain ⟨b, o, u, g1, _, _⟩ := key 0 t0 (by rw [hts]; rfl)
    subst g1
    rw [← hts]
    refine RdL.of_get (fun i t ht => ?_)
    obtain ⟨b', o', u', g1', g2', g3'⟩ := key i t ht
    cases g1'
    exact ⟨u', g2', g3'⟩
theorem rd_block {w : World} {e k b m c : Nat} {ts : List T} {us : List Value} (hm : us.length = m * k) (hc1 : m ≤ c) (hc2 : c ≤ maxLen) (hb : ∀ (j : Nat) (u : Value), us[j]? = some u → w.cell? ⟨b, 0 + j, none⟩ = some u) (hr : RdC w ts us) : Rd w (.s e k ts) (.slice (some ⟨b, 0, none⟩) m c) := by
  simp only [Rd]
  refine ⟨_, _, _, rfl, hc1, hc2, by rw [← hr.1, hm], RdL.of_get (fun i t ht => ?_)⟩
  have hil : i < us.length := by rw [hr.1]; exact (List.getElem?_eq_some_iff.1 ht).1
  refine ⟨us[i], ?_, hr.2 i t _ ht (List.getElem?_eq_getElem hil)⟩
  have := hb i _ (List.getElem?_eq_getElem hil)
  simpa using this
def pwL (r : Rp) (n : Int) : List Rp := List.replicate (min n.toNat 9) r
theorem pw_no {r : Rp} {n : Int} (h : ¬ (1 ≤ n ∧ n ≤ 8)) : ¬ SoP (pwL r n) := fun hs => by
  have := hs.1
  rw [pwL, List.length_replicate] at this
  omega
theorem impl_PowerOfRep_ok {w : World} {r : Rp} {n : Int} {e : Nat} {u0 u1 u2 u3 : Value} (h0 : Rd w (iT r.q.2.1) u0) (h1 : Rd w (iT r.q.2.2) u1) (h2 : Rd w (iT r.d) u2) (h3 : Rd w (matsT e r.m) u3) :
    Does Tryz.prog 77 [.agg #[iV r.p, iV r.q.1, u0, u1, u2, u3], iV n] w (GivesRB (soR (pwL r n)) (decide (SoP (pwL r n)))) := by
  obtain ⟨a0, c0, rfl, hs0, _, _, _⟩ := h0.ints
  obtain ⟨a1, c1, rfl, hs1, _, _, _⟩ := h1.ints
  obtain ⟨a2, c2, rfl, hs2, _, _, _⟩ := h2.ints
  obtain ⟨a3, c3, rfl, hs3, _, _, _⟩ := rd_mats h3
  have hC := rdC_rp h0 h1 h2 h3
  by_cases hn : 1 ≤ n ∧ n ≤ 8
  · obtain ⟨nn, rfl⟩ : ∃ nn : Nat, n = nn := ⟨n.toNat, by omega⟩
    have hn' := not_not_intro hn
    have ep : pwL r (nn : Int) = List.replicate nn r := by rw [pwL, Int.toNat_natCast, Nat.min_eq_left om]
    rw [ep]
    refine fn_enter Tryz.func77 rfl Tryz.ntmps77 rfl ?_
    repeat' (first | (show oL; first | refine sMv rfl rfl ?_ | refine sAs rfl rfl ?_ | refine sLb 1 tabs rfl rfl rfl rfl rfl ?_ | (show oA (.unOp _ _ _); refine st_y (y_notd rfl) rfl ?_) | (show oA (.call _); first | (refine m_call (ent_of Tryz.func121 kr rfl) rfl rfl (fun w c' => within_ok _ 1 8) ?_; rintro v H' ⟨rfl, rfl⟩) | (refine m_call (ent_of Tryz.func190 kr rfl) rfl rfl (fun w c => Repeat_ok (nn := nn) (us := [iV r.p, iV r.q.1, .slice a0 r.q.2.1.length c0, .slice a1 r.q.2.2.length c1, .slice a2 r.d.length c2, .slice a3 r.m.length c3]) rfl (by simp [Value.oneCell']) (fun j u hj => hc_blk 0 rfl (by rw [Nat.zero_add, ← Array.getElem?_toList]; exact hj) w c) om om) ?_; rintro v H' ⟨b7, rfl, rfl⟩) | (refine m_call (ent_of Tryz.func74 kr rfl) rfl rfl (fun w c => impl_SumOf_ok (l := List.replicate nn r) (e := 60) (by rw [rpsT, rps_rep]; exact rd_block (by rw [rflat_len (m := 6) rfl]) (Nat.le_refl _) (by unfold maxLen; omega) (fun j u hj => hc_blk 0 rfl (by rw [Nat.zero_add, List.getElem?_toArray]; exact hj) w c) (rdC_rep (c.rdC hC) nn))) ?_; rintro v H' ⟨aF, cF, aT, cT, ad, cd, am, cm, rfl, hsF, hsT, hsd, hsm, rfl⟩)) | (show oA (.extract _ _); refine st_y (y_ext rfl rfl) rfl ?_) | (show oA (.store _ _ _); refine m_storeb 6 tabs rfl rfl rfl rfl rfl rfl rfl ?_) | (show oA (.box _ _); refine m_box rfl rfl (fun b2 hb2 => ?_)) | (show oA (.alloc _); refine m_alloc tabs rfl rfl (fun b4 hb4 => ?_)) | (show oA (.buildSlice _ _ _); refine m_build1 tabs (us := [iV r.p, iV r.q.1, .slice a0 r.q.2.1.length c0, .slice a1 r.q.2.2.length c1, .slice a2 r.d.length c2, .slice a3 r.m.length c3]) rfl rfl rfl rfl (by decide) rfl (fun g5 hg5 => ?_))) | refine xNt ?_ | (show oC; first | refine c_seq ?_ | refine c_region ?_ | refine c_skip (x_then ?_) | refine c_ret ?_ | refine c_iff rfl nN ?_))
    all_goals first | exact absurd hn aS | skip
    exact x_ret2 Tryz.results77 (res_cellb 6 tabs rfl rfl rfl rfl) (res_tmp rfl) (fun w' c' => ⟨_, _, rfl, ⟨aF, cF, aT, cT, ad, cd, am, cm, rfl, hsF, hsT, hsd, hsm, rfl⟩, c'.sub (.cons_cons _ (.cons_cons _ (.cons_cons _ (.cons_cons _ (List.nil_sublist _)))))⟩)
  · have hno := pw_no (r := r) hn
    rw [soR, if_neg hno, decide_eq_false hno]
    refine fn_enter Tryz.func77 rfl Tryz.ntmps77 rfl ?_
    repeat' (first | (show oL; first | refine sMv rfl rfl ?_ | refine sAs rfl rfl ?_ | (show oA (.unOp _ _ _); refine st_y (y_notd rfl) rfl ?_) | (show oA (.call _); (refine m_call (ent_of Tryz.func121 kr rfl) rfl rfl (fun w c' => within_ok _ 1 8) ?_; rintro v H' ⟨rfl, rfl⟩)) | (show oA (.store _ _ _); refine m_storeb 0 tabs rfl rfl rfl rfl rfl rfl rfl ?_) | (show oA (.box _ _); refine m_box rfl rfl (fun b2 hb2 => ?_)) | (show oA (.alloc _); refine m_alloc tabs rfl rfl (fun b4 hb4 => ?_)) | (show oA (.build _ _); refine st_y (y_bld0 bld_rp0) rfl ?_)) | refine xNt ?_ | (show oC; first | refine c_seq ?_ | refine c_region ?_ | refine c_ret ?_ | refine c_ift rfl aO ?_) | (show AT _ _ _ _; refine x_then_ret ?_))
    all_goals first | exact absurd aS hn | skip
    refine x_ret2 Tryz.results77 (res_cellb 0 tabs rfl rfl rfl rfl) (res_tmp rfl) (fun w' c' => ⟨_, _, rfl, ⟨none, 0, none, 0, none, 0, none, 0, rfl, .inl rfl, .inl rfl, .inl rfl, .inl rfl, rfl⟩, ?_⟩)
    exact Hp.nilp _ _ (Hp.nilp _ _ (Hp.nilp _ _ (Hp.nilp _ _ (c'.sub (List.nil_sublist _)))))
end Go.Proofs.YtijjkfbkihgfgaaGreat
