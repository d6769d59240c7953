import Derived.Test.YtdnhmnnccfoliaaDoorDrqqqv
namespace Go.Lg
open Go.RowKit
section
variable {P : Program} {n : Nat} {C : World → Prop} {s : List (Nat × Value)} {ty t : Nat} {x lo' hi' : Operand}
theorem y_slsh {a : List UInt8} {j : Nat} {q : Int} (ht : P.underlying t = some .string) (hx : ev s x = some (sV a)) (hh : ev s hi' = some (.int .i64 q)) (hq : q = (j : Int)) (h2 : j ≤ a.length) : Y P n C s (.slice t x none (some hi') none) ty (sV (a.take j)) := fun aa w f c d pos af g => by
  subst hq
  simp only [sV] at hx
  have h := run_slice_string_h (P := P) w t ⟨a.toArray⟩ ht .i64 j om (by simp [ByteArray.size]; omega)
  simp only [Int.toNat_natCast, ByteArray.extract_mk] at h
  simp [execOp, f.ev hx, f.ev hh, run_sliceAt_string, ht, h, sV]
theorem y_slsl {a : List UInt8} {i : Nat} {p : Int} (ht : P.underlying t = some .string) (hx : ev s x = some (sV a)) (hl : ev s lo' = some (.int .i64 p)) (hp : p = (i : Int)) (h2 : i ≤ a.length) : Y P n C s (.slice t x (some lo') none none) ty (sV (a.drop i)) := fun aa w f c d pos af g => by
  subst hp
  simp only [sV] at hx
  have h := run_slice_string_l (P := P) w t ⟨a.toArray⟩ ht .i64 i om (by simp [ByteArray.size]; omega)
  simp only [Int.toNat_natCast, ByteArray.extract_mk] at h
  have e : List.take (a.length - i) (List.drop i a) = List.drop i a := List.take_of_length_le (by rw [List.length_drop]; exact Nat.le_refl _)
  simp [execOp, f.ev hx, f.ev hl, run_sliceAt_string, ht, h, sV, ByteArray.size, e]
end
end Go.Lg
namespace Go.Proofs.YtdnhmnnccfoliaaDoor
open Go.Lg Go.Proofs Go.RowKit
attribute [local irreducible] Code.wp wpList bodyPost Exit.then Exit.inBlock Hp Again Calls Y AT ResV QT Qn QI wpAny wpAnyQ
set_option maxRecDepth 20000
set_option maxHeartbeats 4000000

def u8 (x : Int) : UInt8 := UInt8.ofNat (x % 256).toNat
theorem u8_wrap (x : Int) : IntKind.u8.wrap x = ((u8 x).toNat : Int) := by
  have h0 := Int.emod_nonneg x (show (256 : Int) ≠ 0 by decide)
  have h1 := Int.emod_lt_of_pos x (show (0 : Int) < 256 by decide)
  have e : (u8 x).toNat = (x % 256).toNat := by
    rw [u8, UInt8.toNat_ofNat']
    omega
  rw [e]
  simp only [IntKind.wrap, IntKind.bits, IntKind.signed]
  simp
  omega
theorem byl_sl (i : Nat) {M : List Nat} {w0 : World} {H : List HE} {l : List UInt8} {a : Option Addr} {m c : Nat} (hi : H[i]? = some (.own (.s 5 1 ((l.map bV).map T.c)) (.slice a m c))) : ∀ w, Hp M w0 H w → SA a m := fun w cw => by
  obtain ⟨a', m', cap, h1, h2, _⟩ := Rd.open (by decide) (cw.own_rd hi)
  cases h1
  exact h2
theorem l1Text_ok {w1 : World} {M1 : List Nat} {H1 : List HE} {w : World} {M' : List Nat} {u : Value} {b i : Nat} {h : Int} (most : Nat) (hm : most ≤ 100) (hl : Lent M1 w1 (cu u b i h) H1 M' w) (hc : CodeF w1 M1 u) (hi : i ≤ vlen u) :
    DoesB Tryd.prog 63 [cuV b, iV most] w M' (Gcu u b (fun v H => ∃ x, v = sV x ∧ x.length ≤ most ∧ H = [])) := by
  have hc2 := lent_code hl hc
  have e1 : ((most : Int) + 1) = ((most + 1 : Nat) : Int) := by omega
  refine fnb_lent Tryd.func63 rfl Tryd.ntmps63 rfl hl ?_
  repeat' (first | (show oL; first | refine sMv rfl rfl ?_ | refine sAs rfl rfl ?_ | (show oA (.binOp _ _ _ _ _); (refine sAd rfl rfl om rfl ?_; rw [e1])) | (show oA (.call _); first | (refine m_callL 1 (ent_of Tryd.func38 kr rfl) rfl rfl rfl (fun w M' hl => l1BelowN_ok 4 (by decide) hl hc2 hi) ?_; rintro v H' ⟨i, ch, _, hi, rfl, st, rfl, hst, rfl⟩) | (refine m_callL 0 (ent_of Tryd.func38 kr rfl) rfl rfl rfl (fun w M' hl => l1BelowN_ok (most + 1) om hl hc2 hi) ?_; rintro v H' ⟨i, ch, _, hi, rfl, n, rfl, hn, rfl⟩)) | (show oA (.buildSlice _ _ _); refine m_build0 tabs rfl rfl (fun gb hgb => ?_))) | refine xNt ?_ | (show oC; first | refine c_seq ?_ | refine c_region ?_ | refine c_block ?_))
  refine c_loopH (α := List UInt8 × Nat × Option Addr × Nat × Nat × Int) [0, 6] (fun s => [(5, .slice s.2.2.1 s.1.length s.2.2.2.1), (7, iV s.2.1)]) (fun s => (s.1.length + s.2.1 ≤ most) ∧ s.2.2.2.2.1 ≤ vlen u) (fun s => [.own (.s 5 1 ((s.1.map bV).map T.c)) (.slice s.2.2.1 s.1.length s.2.2.2.1), cu u b s.2.2.2.2.1 s.2.2.2.2.2]) (fun s => s.2.1) ([], n, some ⟨gb, 0, none⟩, 0, i, ch) rfl sB ?_ ?_ ?_
  · exact ⟨by simp only [List.length_nil]; omega, hi⟩
  · exact fun w' c' => c'.swap
  · rintro ⟨xs, k, a, c, i, ch⟩ ⟨hx, hi⟩
    simp only at hx hi ⊢
    by_cases hk : 0 < k
    · obtain ⟨k, rfl⟩ : ∃ k', k = k' + 1 := ⟨k - 1, by omega⟩
      repeat' (first | (show oL; first | refine sMv rfl rfl ?_ | refine sAs rfl rfl ?_ | (show oA (.binOp _ _ _ _ _); first | refine st_y (y_rem rfl rfl (by decide)) rfl ?_ | refine st_y (y_add rfl rfl (by have : ((x : Int).tmod 4) = ((x % 4 : Nat) : Int) := rfl; omega)) rfl ?_ | refine st_y (y_sub rfl rfl om) rfl ?_ | refine st_y (y_gtr rfl rfl) rfl ?_ | refine st_y (y_eql rfl rfl) rfl ?_) | (show oA (.call _); first | (refine m_callL 1 (ent_of Tryd.func62 kr rfl) rfl rfl rfl (fun w M' hl => l1Byte_ok hl hc2 hi) ?_; rintro v H' ⟨i, ch, _, hi, rfl, x, rfl, hx3, rfl⟩; obtain ⟨x, rfl⟩ : ∃ k : Nat, x = k := ⟨x.toNat, by omega⟩) | refine m_pushc 1 tabs rfl rfl rfl rfl rfl rfl (by rw [List.length_map]; omega) rfl rfl (fun a9 c9 => ?_)) | (show oA (.buildSlice _ _ _); refine m_build1 tabs (us := [bV y]) rfl rfl rfl rfl (by decide) rfl (fun g5 hg5 => ?_)) | (show oA (.convert _ _ _); (refine st_y (y_convk (t := 3) (t' := 5) (k := .i64) (k' := .u8) kr kr kr rfl (u8_wrap _)) rfl ?_; generalize u8 _ = y))) | (show oN; first | refine c_nil (x_then ?_) | refine c_nil ?_) | (show oC; first | refine c_seq ?_ | refine c_region ?_ | refine c_skip (x_then ?_) | refine c_block ?_ | refine c_ift rfl aO ?_ | refine c_iff rfl nN ?_ | refine c_if rfl (fun h => ?_) (fun h => ?_)) | (show AT _ _ _ _; first | refine x_then ?_ | refine x_blk ?_))
      all_goals exact x_nx (xs ++ [y], k, a9, c9, i, ch) (by simp only [List.length_append, List.length_singleton, List.length_map]; repeat' (first | exact Sub.nil | refine Sub.cons rfl ?_ | refine Sub.consi rfl om ?_)) ⟨by simp only [List.length_append, List.length_singleton]; omega, hi⟩ (fun w' c' => by simp only [List.length_append, List.length_singleton, List.length_map, List.map_append] at c' ⊢; exact c') (by simp only; omega)
    · have : k = 0 := by omega
      subst this
      rcases Nat.eq_zero_or_pos xs.length with h0 | h0
      · obtain rfl : xs = [] := List.eq_nil_of_length_eq_zero h0
        repeat' (first | (show oL; first | refine sMv rfl rfl ?_ | refine sAs rfl rfl ?_ | (show oA (.binOp _ _ _ _ _); refine st_y (y_gtr rfl rfl) rfl ?_) | (show oA (.convert _ _ _); refine st_y (y_convbn (t := 22) (t' := 9) (e := 5) kr kr kr rfl) rfl ?_)) | refine xNt ?_ | (show oC; first | refine c_seq ?_ | refine c_region ?_ | refine c_ret ?_ | refine c_exit ?_ | refine c_false rfl ?_) | (show AT _ _ _ _; first | refine x_then ?_ | refine x_then_exit ?_ | refine x_blk_exit rfl ?_))
        exact x_ret1 Tryd.results63 (res_tmp rfl) (fun w' c' => ⟨_, _, rfl, ⟨i, ch, _, hi, rfl, [], rfl, Nat.zero_le _, rfl⟩, c'.swap.sub (.cons_cons _ (List.nil_sublist _))⟩)
      · refine AT.fact (byl_sl 0 rfl) (fun hs => ?_)
        rw [hs.get h0]
        repeat' (first | (show oL; first | refine sMv rfl rfl ?_ | refine sAs rfl rfl ?_ | (show oA (.binOp _ _ _ _ _); refine st_y (y_gtr rfl rfl) rfl ?_) | (show oA (.convert _ _ _); refine st_y (y_convbs (t := 22) (t' := 9) (e := 5) (l := xs) kr kr kr rfl (fun w c => fun j u hj => by rw [Addr.add_lit]; exact hc_nm (a := some ⟨ab a, ao a, none⟩) 0 rfl hj w c)) rfl ?_)) | refine xNt ?_ | (show oC; first | refine c_seq ?_ | refine c_region ?_ | refine c_ret ?_ | refine c_exit ?_ | refine c_false rfl ?_) | (show AT _ _ _ _; first | refine x_then ?_ | refine x_then_exit ?_ | refine x_blk_exit rfl ?_))
        exact x_ret1 Tryd.results63 (res_tmp rfl) (fun w' c' => ⟨_, _, rfl, ⟨i, ch, _, hi, rfl, xs, rfl, by omega, rfl⟩, c'.swap.sub (.cons_cons _ (List.nil_sublist _))⟩)
theorem l1Spoil_ok {w1 : World} {M1 : List Nat} {H1 : List HE} {w : World} {M' : List Nat} {u : Value} {b i : Nat} {h : Int} {s : List UInt8} (hs : s.length ≤ 1000000) (hl : Lent M1 w1 (cu u b i h) H1 M' w) (hc : CodeF w1 M1 u) (hi : i ≤ vlen u) :
    DoesB Tryd.prog 39 [cuV b, sV s] w M' (Gcu u b (fun v H => ∃ x, v = sV x ∧ x.length ≤ s.length + 3 ∧ H = [])) := by
  have hc2 := lent_code hl hc
  refine fnb_lent Tryd.func39 rfl Tryd.ntmps39 rfl hl ?_
  by_cases h0 : s.length = 0
  · have h0' : ((s.length : Nat) : Int) = 0 := by omega
    repeat' (first | (show oL; first | refine sMv rfl rfl ?_ | refine sAs rfl rfl ?_ | (show oA (.binOp _ _ _ _ _); refine st_y (y_eql rfl rfl) rfl ?_) | (show oA (.call _); first | refine st_y (y_lens Tryd.underlying9 rfl) rfl ?_ | (refine m_callL 0 (ent_of Tryd.func63 kr rfl) rfl rfl rfl (fun w M' hl => l1Text_ok 3 (by decide) hl hc2 hi) ?_; rintro v H' ⟨i, ch, _, hi, rfl, x, rfl, hx, rfl⟩))) | refine xNt ?_ | (show oC; first | refine c_seq ?_ | refine c_region ?_ | refine c_ret ?_ | refine c_ift rfl aO ?_) | (show AT _ _ _ _; refine x_then_ret ?_))
    all_goals first | omega | exact x_ret1 Tryd.results39 (res_tmp rfl) (fun w' c' => ⟨_, _, rfl, ⟨i, _, _, hi, rfl, x, rfl, by omega, rfl⟩, c'⟩)
  · have h0' : 0 < s.length := by omega
    repeat' (first | (show oL; first | refine sMv rfl rfl ?_ | refine sAs rfl rfl ?_ | (show oA (.binOp _ _ _ _ _); refine st_y (y_eql rfl rfl) rfl ?_) | (show oA (.call _); first | refine st_y (y_lens Tryd.underlying9 rfl) rfl ?_ | (refine m_callL 0 (ent_of Tryd.func38 kr rfl) rfl rfl rfl (fun w M' hl => l1BelowN_ok s.length h0' hl hc2 hi) ?_; rintro v H' ⟨i, ch, _, hi, rfl, k, rfl, hk, rfl⟩) | (refine m_callL 0 (ent_of Tryd.func38 kr rfl) rfl rfl rfl (fun w M' hl => l1BelowN_ok 4 (by decide) hl hc2 hi) ?_; rintro v H' ⟨i, ch, _, hi, rfl, z, rfl, hz, rfl⟩)) | (show oA (.slice _ _ _ _ _); refine st_y (y_slsh (j := k) Tryd.underlying9 rfl rfl rfl om) rfl ?_)) | refine xNt ?_ | (show oC; first | refine c_seq ?_ | refine c_region ?_ | refine c_skip (x_then ?_) | refine c_skip (x_blk ?_) | refine c_block ?_ | refine c_ret ?_ | refine c_iff rfl nN ?_ | refine c_if rfl (fun h => ?_) (fun h => ?_)) | (show AT _ _ _ _; first | refine x_then ?_ | refine x_then_ret ?_ | refine x_blk_ret ?_))
    · skip
      refine c_all (Hp M' w []) kr (fun _ c => Hp.drew c) ?_
      refine h_take 0 rfl kr kr kr (by exact y_move rfl) rfl (fun w c => by exact c.drop) ?_
      refine h_take 1 rfl kr kr kr (by exact y_move rfl) rfl (fun w c => by exact c.drop) ?_
      refine h_take 2 rfl kr kr kr (by exact y_slsh (j := k) Tryd.underlying9 rfl rfl rfl om) rfl (fun w c => by exact c.drop) ?_
      refine h_take 3 rfl kr kr kr (by exact y_move rfl) rfl (fun w c => by exact c.drop) ?_
      refine h_take 4 rfl kr kr kr (by exact y_move rfl) rfl (fun w c => by exact c.drop) ?_
      refine h_take 5 rfl kr kr kr (by exact y_add rfl rfl om) rfl (fun w c => by exact c.drop) ?_
      refine h_take 6 rfl kr kr kr (by exact y_slsl (i := k + 1) Tryd.underlying9 rfl rfl rfl om) rfl (fun w c => by exact c.drop) ?_
      refine h_take 7 rfl kr kr kr (by exact y_cat rfl rfl (by simp <;> omega) (by simp <;> omega)) rfl (fun w c => by exact c.drop) ?_
      refine h_take 8 rfl kr kr kr (by exact y_assign rfl) rfl (fun w c => by exact c.drop) ?_
      refine h_end kr ?_
      repeat' (first | (show oC; refine c_ret ?_) | (show AT _ _ _ _; first | refine x_then ?_ | refine x_then_ret ?_ | refine x_blk_ret ?_))
      exact x_ret1 Tryd.results39 (res_tmp rfl) (fun w' c' => ⟨_, _, rfl, ⟨i, _, _, hi, rfl, s.take k ++ s.drop (k + 1), rfl, by simp <;> omega, rfl⟩, c'⟩)
    · skip
      refine c_all (Hp M' w []) kr (fun _ c => Hp.drew c) ?_
      refine h_take 0 rfl kr kr kr (by exact y_move rfl) rfl (fun w c => by exact c.drop) ?_
      refine h_take 1 rfl kr kr kr (by exact y_move rfl) rfl (fun w c => by exact c.drop) ?_
      refine h_take 2 rfl kr kr kr (by exact y_slsh (j := k) Tryd.underlying9 rfl rfl rfl om) rfl (fun w c => by exact c.drop) ?_
      refine h_take 3 rfl kr kr kr (by exact y_move rfl) rfl (fun w c => by exact c.drop) ?_
      refine h_take 9 rfl kr kr kr (by exact y_move rfl) rfl (fun w c => by exact c.drop) ?_
      refine h_take 10 rfl kr kr kr (by exact y_move rfl) rfl (fun w c => by exact c.drop) ?_
      refine h_take 11 rfl kr kr kr (by exact y_slsl (i := k) Tryd.underlying9 rfl rfl rfl om) rfl (fun w c => by exact c.drop) ?_
      refine h_only 4 rfl kr ?_
      first | (refine m_build1 tabs (us := [bV (u8 x)]) rfl rfl rfl rfl (by decide) rfl (fun g5 hg5 => ?_)) | (refine m_callL 0 (ent_of Tryd.func62 kr rfl) rfl rfl rfl (fun w M' hl => l1Byte_ok hl hc2 hi) ?_; rintro v H' ⟨i, ch, _, hi, rfl, x, rfl, hx3, rfl⟩) | (refine st_y (y_convbs (t := 22) (t' := 9) (e := 5) (l := [u8 x]) kr kr kr rfl (fun w c => fun j u hj => by rw [Addr.add_lit]; exact hc_blk 0 rfl (by rw [Nat.zero_add, List.getElem?_toArray]; exact hj) w c)) rfl ?_)
      refine c_nil (x_one (h_keep (fun w c => by exact c.drop) ?_))
      refine h_take 5 rfl kr kr kr (by exact y_convk (t := 3) (t' := 5) (k := .i64) (k' := .u8) kr kr kr rfl (u8_wrap _)) rfl (fun w c => by exact c.drop) ?_
      refine h_only 6 rfl kr ?_
      first | (refine m_build1 tabs (us := [bV (u8 x)]) rfl rfl rfl rfl (by decide) rfl (fun g5 hg5 => ?_)) | (refine m_callL 0 (ent_of Tryd.func62 kr rfl) rfl rfl rfl (fun w M' hl => l1Byte_ok hl hc2 hi) ?_; rintro v H' ⟨i, ch, _, hi, rfl, x, rfl, hx3, rfl⟩) | (refine st_y (y_convbs (t := 22) (t' := 9) (e := 5) (l := [u8 x]) kr kr kr rfl (fun w c => fun j u hj => by rw [Addr.add_lit]; exact hc_blk 0 rfl (by rw [Nat.zero_add, List.getElem?_toArray]; exact hj) w c)) rfl ?_)
      refine c_nil (x_one (h_keep (fun w c => by exact c.drop.drop) ?_))
      refine h_only 7 rfl kr ?_
      first | (refine m_build1 tabs (us := [bV (u8 x)]) rfl rfl rfl rfl (by decide) rfl (fun g5 hg5 => ?_)) | (refine m_callL 0 (ent_of Tryd.func62 kr rfl) rfl rfl rfl (fun w M' hl => l1Byte_ok hl hc2 hi) ?_; rintro v H' ⟨i, ch, _, hi, rfl, x, rfl, hx3, rfl⟩) | (refine st_y (y_convbs (t := 22) (t' := 9) (e := 5) (l := [u8 x]) kr kr kr rfl (fun w c => fun j u hj => by rw [Addr.add_lit]; exact hc_blk 0 rfl (by rw [Nat.zero_add, List.getElem?_toArray]; exact hj) w c)) rfl ?_)
      refine c_nil (x_one (h_keep (fun w c => by exact c.drop.drop) ?_))
      refine h_take 8 rfl kr kr kr (by exact y_cat rfl rfl (by simp <;> omega) (by simp <;> omega)) rfl (fun w c => by exact c.drop.drop) ?_
      refine h_take 12 rfl kr kr kr (by exact y_cat rfl rfl (by simp <;> omega) (by simp <;> omega)) rfl (fun w c => by exact c.drop.drop) ?_
      refine h_take 13 rfl kr kr kr (by exact y_assign rfl) rfl (fun w c => by exact c.drop.drop) ?_
      refine h_end kr ?_
      repeat' (first | (show oC; refine c_ret ?_) | (show AT _ _ _ _; first | refine x_then ?_ | refine x_then_ret ?_ | refine x_blk_ret ?_))
      exact x_ret1 Tryd.results39 (res_tmp rfl) (fun w' c' => ⟨_, _, rfl, ⟨i, _, _, hi, rfl, s.take k ++ [u8 x] ++ s.drop k, rfl, by simp <;> omega, rfl⟩, c'.sub (.cons _ (List.Sublist.refl _))⟩)
    · exact x_ret1 Tryd.results39 (res_tmp rfl) (fun w' c' => ⟨_, _, rfl, ⟨i, _, _, hi, rfl, s.take k, rfl, by simp <;> omega, rfl⟩, c'⟩)
    · skip
      refine c_all (Hp M' w []) kr (fun _ c => Hp.drew c) ?_
      refine h_take 0 rfl kr kr kr (by exact y_move rfl) rfl (fun w c => by exact c.drop) ?_
      refine h_take 1 rfl kr kr kr (by exact y_move rfl) rfl (fun w c => by exact c.drop) ?_
      refine h_take 2 rfl kr kr kr (by exact y_slsh (j := k) Tryd.underlying9 rfl rfl rfl om) rfl (fun w c => by exact c.drop) ?_
      refine h_take 3 rfl kr kr kr (by exact y_move rfl) rfl (fun w c => by exact c.drop) ?_
      refine h_take 4 rfl kr kr kr (by exact y_move rfl) rfl (fun w c => by exact c.drop) ?_
      refine h_take 5 rfl kr kr kr (by exact y_indexs Tryd.underlying9 rfl rfl om om) rfl (fun w c => by exact c.drop) ?_
      refine h_take 6 rfl kr kr kr (by exact y_convk (t := 5) (t' := 3) (k := .u8) (k' := .i64) kr kr kr rfl (byte_i64 _)) rfl (fun w c => by exact c.drop) ?_
      refine h_take 7 rfl kr kr kr (by exact y_move rfl) rfl (fun w c => by exact c.drop) ?_
      refine h_take 15 rfl kr kr kr (by exact y_move rfl) rfl (fun w c => by exact c.drop) ?_
      refine h_take 16 rfl kr kr kr (by exact y_move rfl) rfl (fun w c => by exact c.drop) ?_
      refine h_take 17 rfl kr kr kr (by exact y_add (q := (1 : Int)) rfl rfl om) rfl (fun w c => by exact c.drop) ?_
      refine h_take 18 rfl kr kr kr (by exact y_slsl (i := k + 1) Tryd.underlying9 rfl rfl rfl om) rfl (fun w c => by exact c.drop) ?_
      refine h_only 8 rfl kr ?_
      first | (refine m_build1 tabs (us := [bV (u8 (xorI ((s.getD ((k : Int)).toNat 0).toNat : Int) (1 + (x : Int))))]) rfl rfl rfl rfl (by decide) rfl (fun g5 hg5 => ?_)) | (refine m_callL 0 (ent_of Tryd.func38 kr rfl) rfl rfl rfl (fun w M' hl => l1BelowN_ok 255 (by decide) hl hc2 hi) ?_; rintro v H' ⟨i, ch, _, hi, rfl, x, rfl, hx3, rfl⟩) | (refine st_y (y_convbs (t := 22) (t' := 9) (e := 5) (l := [u8 (xorI ((s.getD ((k : Int)).toNat 0).toNat : Int) (1 + (x : Int)))]) kr kr kr rfl (fun w c => fun j u hj => by rw [Addr.add_lit]; exact hc_blk 0 rfl (by rw [Nat.zero_add, List.getElem?_toArray]; exact hj) w c)) rfl ?_)
      refine c_nil (x_one (h_keep (fun w c => by exact c.drop) ?_))
      refine h_take 9 rfl kr kr kr (by exact y_add rfl rfl om) rfl (fun w c => by exact c.drop) ?_
      refine h_take 10 rfl kr kr kr (by exact y_xor rfl rfl) rfl (fun w c => by exact c.drop) ?_
      refine h_take 11 rfl kr kr kr (by exact y_convk (t := 3) (t' := 5) (k := .i64) (k' := .u8) kr kr kr rfl (u8_wrap _)) rfl (fun w c => by exact c.drop) ?_
      refine h_only 12 rfl kr ?_
      first | (refine m_build1 tabs (us := [bV (u8 (xorI ((s.getD ((k : Int)).toNat 0).toNat : Int) (1 + (x : Int))))]) rfl rfl rfl rfl (by decide) rfl (fun g5 hg5 => ?_)) | (refine m_callL 0 (ent_of Tryd.func38 kr rfl) rfl rfl rfl (fun w M' hl => l1BelowN_ok 255 (by decide) hl hc2 hi) ?_; rintro v H' ⟨i, ch, _, hi, rfl, x, rfl, hx3, rfl⟩) | (refine st_y (y_convbs (t := 22) (t' := 9) (e := 5) (l := [u8 (xorI ((s.getD ((k : Int)).toNat 0).toNat : Int) (1 + (x : Int)))]) kr kr kr rfl (fun w c => fun j u hj => by rw [Addr.add_lit]; exact hc_blk 0 rfl (by rw [Nat.zero_add, List.getElem?_toArray]; exact hj) w c)) rfl ?_)
      refine c_nil (x_one (h_keep (fun w c => by exact c.drop.drop) ?_))
      refine h_only 13 rfl kr ?_
      first | (refine m_build1 tabs (us := [bV (u8 (xorI ((s.getD ((k : Int)).toNat 0).toNat : Int) (1 + (x : Int))))]) rfl rfl rfl rfl (by decide) rfl (fun g5 hg5 => ?_)) | (refine m_callL 0 (ent_of Tryd.func38 kr rfl) rfl rfl rfl (fun w M' hl => l1BelowN_ok 255 (by decide) hl hc2 hi) ?_; rintro v H' ⟨i, ch, _, hi, rfl, x, rfl, hx3, rfl⟩) | (refine st_y (y_convbs (t := 22) (t' := 9) (e := 5) (l := [u8 (xorI ((s.getD ((k : Int)).toNat 0).toNat : Int) (1 + (x : Int)))]) kr kr kr rfl (fun w c => fun j u hj => by rw [Addr.add_lit]; exact hc_blk 0 rfl (by rw [Nat.zero_add, List.getElem?_toArray]; exact hj) w c)) rfl ?_)
      refine c_nil (x_one (h_keep (fun w c => by exact c.drop.drop) ?_))
      refine h_take 14 rfl kr kr kr (by exact y_cat rfl rfl (by simp <;> omega) (by simp <;> omega)) rfl (fun w c => by exact c.drop.drop) ?_
      refine h_take 19 rfl kr kr kr (by exact y_cat rfl rfl (by simp <;> omega) (by simp <;> omega)) rfl (fun w c => by exact c.drop.drop) ?_
      refine h_take 20 rfl kr kr kr (by exact y_assign rfl) rfl (fun w c => by exact c.drop.drop) ?_
      refine h_end kr ?_
      repeat' (first | (show oC; refine c_ret ?_) | (show AT _ _ _ _; refine x_then ?_))
      exact x_ret1 Tryd.results39 (res_tmp rfl) (fun w' c' => ⟨_, _, rfl, ⟨i, _, _, hi, rfl, s.take k ++ [u8 (xorI ((s.getD ((k : Int)).toNat 0).toNat : Int) (1 + (x : Int)))] ++ s.drop (k + 1), rfl, by simp <;> omega, rfl⟩, c'.sub (.cons _ (List.Sublist.refl _))⟩)
end Go.Proofs.YtdnhmnnccfoliaaDoor
