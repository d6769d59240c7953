import Derived.Test.YtcplmeajmpkpkaaGreatCopqsp
import Derived.Test.YtcplmeajmpkpkaaGreatImgqsp
import Derived.Test.YtcplmeajmpkpkaaGreatPrmqsp
import Derived.Test.YtcplmeajmpkpkaaGreatShrqsp
namespace Go.Proofs.YtcplmeajmpkpkaaGreat
open Go.Lg Go.Proofs Go.RowKit
attribute [local irreducible] Code.wp wpList bodyPost Exit.then Exit.inBlock Hp Again Calls Y AT ResV QT Qn QI wpAny wpAnyQ
set_option maxRecDepth 20000
set_option maxHeartbeats 4000000

theorem IndexFuncR_ok {w : World} {v : Value} {e : Nat} {rs : List (List Int)} {g : Nat} {cap : Array Value} {p : List Int → Prop} [DecidablePred p] (hr : Rd w (rowsT e rs) v) (he : Ent Tryz.prog g)
    (hf : ∀ w' xs u, xs ∈ rs → Rd w' (iT xs) u → Hp [] w [] w' → Does Tryz.prog g ([u] ++ cap.toList) w' (fun r H => r = .bool (decide (p xs)) ∧ H = [])) :
    Does Tryz.prog 112 [v, .func (.func g) #[] cap] w (fun r H => (∃ k, r = iV k ∧ (0 ≤ k ↔ ∃ x ∈ rs, p x)) ∧ H = []) := by
  obtain ⟨a, c, rfl, hs, hc1, hc2, hget⟩ := rd_rows hr
  unfold maxLen at hc2
  refine fn_enter Tryz.func112 rfl Tryz.ntmps112 rfl ?_
  repeat' (first | (show oL; first | refine sMv rfl rfl ?_ | refine sAs rfl rfl ?_ | refine sLn tabs rfl rfl rfl ?_) | refine xNt ?_ | (show oC; first | refine c_seq ?_ | refine c_region ?_ | refine c_block ?_))
  refine c_loopH (α := Nat) [0, 1, 7] (fun i => [(8, .int .i64 i)]) (fun i => i ≤ rs.length ∧ ∀ x ∈ rs.take i, ¬ p x) (fun i => []) (fun i => rs.length - i) 0 rfl sB ?_ ?_ ?_
  · exact ⟨Nat.zero_le _, by simp⟩
  · exact fun w' c' => c'
  · rintro i ⟨hi, hn⟩
    by_cases hin : i < rs.length
    · obtain ⟨xs, hx⟩ : ∃ xs, rs[i]? = some xs := ⟨_, List.getElem?_eq_getElem hin⟩
      obtain ⟨a2, c2, g1, g2⟩ := hget i xs hx
      have hmem := List.mem_of_getElem? hx
      repeat' (first | (show oL; first | refine sMv rfl rfl ?_ | refine sAs rfl rfl ?_ | (show oA (.load _ _); refine st_y (y_load tabs rfl rfl (hc_w0 g1)) rfl ?_) | (show oA (.indexAddr _ _ _); refine st_y (y_ix1 tabs (j := i) rfl rfl rfl hs rfl hin) rfl ?_) | (show oA (.binOp _ _ _ _ _); first | refine sAd rfl rfl om rfl ?_ | refine sLs rfl rfl rfl ?_) | (show oA (.call _); (refine m_callv rfl he rfl rfl (fun w c => hf w _ _ hmem (c.rd g2) c) ?_; rintro v H' ⟨rfl, rfl⟩))) | refine xNt ?_ | (show oC; first | refine c_seq ?_ | refine c_region ?_ | refine c_skip (x_then ?_) | refine c_skip (x_blk ?_) | refine c_block ?_ | refine c_ret ?_ | refine c_ift rfl aO ?_ | refine c_if rfl (fun h => ?_) (fun h => ?_)) | (show AT _ _ _ _; first | refine x_then ?_ | refine x_then_ret ?_ | refine x_blk_ret ?_))
      · exact x_ret1 Tryz.results112 (res_tmp rfl) (fun w' c' => ⟨_, _, rfl, ⟨⟨i, rfl, fun _ => ⟨xs, hmem, by assumption⟩, fun _ => by omega⟩, rfl⟩, c'⟩)
      · refine x_nx (i + 1) sB ⟨by omega, fun x hxm => ?_⟩ (fun w' c' => c') om
        rw [List.take_add_one, hx] at hxm
        rcases List.mem_append.1 hxm with hxm | hxm
        · exact hn x hxm
        · simp at hxm
          subst hxm
          assumption
    · repeat' (first | (show oL; first | refine sAs rfl rfl ?_ | refine sLs rfl rfl rfl ?_) | refine xNt ?_ | (show oC; first | refine c_seq ?_ | refine c_region ?_ | refine c_ret ?_ | refine c_exit ?_ | refine c_iff rfl nN ?_) | (show AT _ _ _ _; first | refine x_then ?_ | refine x_then_exit ?_ | refine x_blk_exit rfl ?_))
      refine x_ret1 Tryz.results112 (res_tmp rfl) (fun w' c' => ⟨_, _, rfl, ⟨⟨-1, rfl, fun h => by omega, ?_⟩, rfl⟩, c'⟩)
      rw [take_end om] at hn
      rintro ⟨x, hx, hp⟩
      exact absurd hp (hn x hx)
theorem ContainsFuncR_ok {w : World} {v : Value} {e : Nat} {rs : List (List Int)} {g : Nat} {cap : Array Value} {p : List Int → Prop} [DecidablePred p] (hr : Rd w (rowsT e rs) v) (he : Ent Tryz.prog g)
    (hf : ∀ w' xs u, xs ∈ rs → Rd w' (iT xs) u → Hp [] w [] w' → Does Tryz.prog g ([u] ++ cap.toList) w' (fun r H => r = .bool (decide (p xs)) ∧ H = [])) :
    Does Tryz.prog 84 [v, .func (.func g) #[] cap] w (fun r H => r = .bool (decide (∃ x ∈ rs, p x)) ∧ H = []) := by
  refine fn_enter Tryz.func84 rfl Tryz.ntmps84 rfl ?_
  repeat' (first | (show oL; first | refine sMv rfl rfl ?_ | refine sAs rfl rfl ?_ | (show oA (.binOp _ _ _ _ _); refine st_y (y_geq rfl rfl) rfl ?_) | (show oA (.call _); (refine m_call (ent_of Tryz.func112 kr rfl) rfl rfl (fun w c => IndexFuncR_ok (c.rd hr) he (fun w' x u hm hru c' => hf w' x u hm hru (c.trans c'))) ?_; rintro v H' ⟨⟨k, rfl, hk⟩, rfl⟩))) | refine xNt ?_ | (show oC; first | refine c_seq ?_ | refine c_region ?_ | refine c_ret ?_))
  refine x_ret1 Tryz.results84 (res_tmp rfl) (fun w' c' => ⟨_, _, rfl, ⟨?_, rfl⟩, c'⟩)
  simp [hk]

def FineP (p n : Int) (l : List (List Int)) : Prop := FieldP p ∧ (0 ≤ n ∧ n ≤ 8) ∧ l.length ≤ 16 ∧ ∀ v ∈ l, (v.length : Int) = n ∧ VecP p v
instance (p n : Int) (l : List (List Int)) : Decidable (FineP p n l) := by unfold FineP; infer_instance
theorem areVectors1_ok {w : World} {p n : Int} {bn bp : Nat} {xs : List Int} {u : Value} (hr : Rd w (iT xs) u) (hn : w.cell? ⟨bn, 0, none⟩ = some (iV n)) (hp : w.cell? ⟨bp, 0, none⟩ = some (iV p)) :
    Does Tryz.prog 86 [u, .pointer (some ⟨bn, 0, none⟩), .pointer (some ⟨bp, 0, none⟩)] w (fun r H => r = .bool (decide (¬ ((xs.length : Int) = n ∧ VecP p xs))) ∧ H = []) := by
  obtain ⟨a, c, rfl, hs, hc1, hc2, hget⟩ := hr.ints
  refine fn_enter Tryz.func86 rfl Tryz.ntmps86 rfl ?_
  repeat' (first | (show oL; first | refine sMv rfl rfl ?_ | refine sAs rfl rfl ?_ | (show oA (.load _ _); first | refine st_y (y_load tabs rfl rfl (hc_w0 hn)) rfl ?_ | refine st_y (y_load tabs rfl rfl (hc_w0 hp)) rfl ?_) | (show oA (.binOp _ _ _ _ _); refine st_y (y_neq rfl rfl) rfl ?_) | (show oA (.unOp _ _ _); refine st_y (y_notd rfl) rfl ?_) | (show oA (.call _); first | (refine m_call (ent_of Tryz.func67 kr rfl) rfl rfl (fun w c => impl_IsVector_ok (c.rd hr)) ?_; rintro v H' ⟨rfl, rfl⟩) | refine sLn tabs rfl rfl rfl ?_) | (show oA (.pick _ _ _); first | refine st_y (y_pickt rfl aS rfl) rfl ?_ | refine st_y (y_pickf rfl aS rfl) rfl ?_) | refine st_gfy rfl rfl aS ?_ | refine st_gfn rfl rfl aS rfl ?_ | refine st_gd rfl rfl (fun h => ?_) (fun h => ?_)) | refine xNt ?_ | (show oC; first | refine c_seq ?_ | refine c_region ?_ | refine c_ret ?_))
  all_goals refine x_ret1 Tryz.results86 (res_tmp rfl) (fun w c => ⟨_, _, rfl, ⟨?_, rfl⟩, c⟩)
  all_goals simp_all
theorem areVectors_ok {w : World} {p n : Int} {e : Nat} {l : List (List Int)} {v : Value} (hr : Rd w (rowsT e l) v) (hF : FieldP p) :
    Does Tryz.prog 46 [iV p, iV n, v] w (fun r H => r = .bool (decide (FineP p n l)) ∧ H = []) := by
  obtain ⟨a, c, rfl, hs, hc1, hc2, hget⟩ := rd_rows hr
  refine fn_enter Tryz.func46 rfl Tryz.ntmps46 rfl ?_
  repeat' (first | (show oL; first | refine sMv rfl rfl ?_ | refine sAs rfl rfl ?_ | refine sLd 0 tabs rfl rfl rfl rfl rfl ?_ | (show oA (.binOp _ _ _ _ _); refine st_y (y_leq rfl rfl) rfl ?_) | (show oA (.unOp _ _ _); refine st_y (y_notd rfl) rfl ?_) | (show oA (.call _); first | (refine m_call (ent_of Tryz.func51 kr rfl) rfl rfl (fun w c => within_ok _ _ _) ?_; rintro v H' ⟨rfl, rfl⟩) | (refine m_call (ent_of Tryz.func84 kr rfl) rfl rfl (fun w c => ContainsFuncR_ok (p := fun xs => ¬ ((xs.length : Int) = n ∧ VecP p xs)) (c.rd hr) (ent_of Tryz.func86 kr rfl) (fun w' xs u _ hu c' => areVectors1_ok hu (c'.cell (hc_blk 0 rfl rfl w c)) (c'.cell (hc_blk 1 rfl rfl w c)))) ?_; rintro v H' ⟨rfl, rfl⟩) | refine sLn tabs rfl rfl rfl ?_) | (show oA (.pick _ _ _); first | refine st_y (y_pickt rfl aS rfl) rfl ?_ | refine st_y (y_pickf rfl aS rfl) rfl ?_ | refine st_y (y_pick rfl rfl rfl) rfl ?_) | (show oA (.makeFunc _ _ _); refine st_y (y_fn rfl rfl) rfl ?_) | (show oA (.box _ _); refine m_box rfl rfl (fun b hb => ?_)) | refine st_gn rfl rfl rfl ?_ | refine st_gdy rfl rfl aS ?_ | refine st_gdn rfl rfl aS rfl ?_ | refine st_gd rfl rfl (fun h => ?_) (fun h => ?_)) | refine xNt ?_ | (show oC; first | refine c_seq ?_ | refine c_region ?_ | refine c_ret ?_))
  all_goals refine x_ret1 Tryz.results46 (res_tmp rfl) (fun w c => ⟨_, _, rfl, ⟨congrArg Value.bool ?_, rfl⟩, c.sub (List.nil_sublist _)⟩)
  all_goals first
    | (rw [Bool.eq_iff_iff]; simp only [FineP, decide_eq_true_eq]; grind)
    | (simp only [FineP]; grind)
theorem l5Fine_ok {w : World} {p n : Int} {e : Nat} {l : List (List Int)} {v : Value} (hr : Rd w (rowsT e l) v) :
    Does Tryz.prog 58 [iV p, iV n, v] w (fun r H => r = .bool (decide (FineP p n l)) ∧ H = []) := by
  obtain ⟨a, c, rfl, hs, hc1, hc2, hget⟩ := rd_rows hr
  unfold maxLen at hc2
  refine fn_enter Tryz.func58 rfl Tryz.ntmps58 rfl ?_
  repeat' (first | (show oL; first | refine sAs rfl rfl ?_) | refine xNt ?_ | (show oC; first | refine c_seq ?_ | refine c_region ?_ | refine c_block ?_))
  refine c_loopH (α := Nat) [0, 1, 2] (fun i => [(7, .int .i64 i)]) (fun i => i ≤ l.length ∧ ∀ v ∈ l.take i, (v.length : Int) = n ∧ VecP p v) (fun i => []) (fun i => l.length - i) 0 rfl sB ?_ ?_ ?_
  · exact ⟨Nat.zero_le _, by simp⟩
  · exact fun w' c' => c'
  · rintro i ⟨hi, hn⟩
    by_cases hin : i < l.length
    · obtain ⟨xs, hx⟩ : ∃ xs, l[i]? = some xs := ⟨_, List.getElem?_eq_getElem hin⟩
      obtain ⟨a2, c2, g1, g2⟩ := hget i xs hx
      have hmem := List.mem_of_getElem? hx
      repeat' (first | (show oL; first | refine sMv rfl rfl ?_ | refine sAs rfl rfl ?_ | (show oA (.load _ _); refine st_y (y_load tabs rfl rfl (hc_w0 g1)) rfl ?_) | (show oA (.indexAddr _ _ _); refine st_y (y_ix1 tabs (j := i) rfl rfl rfl hs rfl hin) rfl ?_) | (show oA (.binOp _ _ _ _ _); first | refine sAd rfl rfl om rfl ?_ | refine sLs rfl rfl rfl ?_ | refine st_y (y_neq rfl rfl) rfl ?_) | (show oA (.unOp _ _ _); refine st_y (y_notd rfl) rfl ?_) | (show oA (.call _); first | (refine m_call (ent_of Tryz.func69 kr rfl) rfl rfl (fun w c => spec_IsVector_ok (c.rd g2)) ?_; rintro v H' ⟨rfl, rfl⟩) | refine sLn tabs rfl rfl rfl ?_) | (show oA (.pick _ _ _); first | refine st_y (y_pickt rfl aS rfl) rfl ?_ | refine st_y (y_pickf rfl aS rfl) rfl ?_) | refine st_gfy rfl rfl aS ?_ | refine st_gfn rfl rfl aS rfl ?_ | refine st_gd rfl rfl (fun h => ?_) (fun h => ?_)) | refine xNt ?_ | (show oC; first | refine c_seq ?_ | refine c_region ?_ | refine c_skip (x_then ?_) | refine c_skip (x_blk ?_) | refine c_block ?_ | refine c_ret ?_ | refine c_true rfl ?_ | refine c_ift rfl aO ?_ | refine c_ifnd rfl (fun h => ?_) (fun h => ?_)) | (show AT _ _ _ _; first | refine x_then ?_ | refine x_then_ret ?_ | refine x_blk_ret ?_))
      all_goals first
        | (refine x_ret1 Tryz.results58 (res_tmp rfl) (fun w' c' => ⟨_, _, rfl, ⟨congrArg Value.bool ?_, rfl⟩, c'⟩)
           have hno : ¬ FineP p n l := fun hA => by
             have := hA.2.2.2 xs hmem
             first | exact absurd this.1 aS | exact absurd this.2 aS
           simp [hno])
        | (refine x_nx (i + 1) sB ⟨by omega, fun x hxm => ?_⟩ (fun w' c' => c') om
           rw [List.take_add_one, hx] at hxm
           rcases List.mem_append.1 hxm with hxm | hxm
           · exact hn x hxm
           · simp at hxm
             subst hxm
             exact ⟨by omega, by first | assumption | exact Decidable.not_not.1 aS⟩)
    · rw [take_end om] at hn
      repeat' (first | (show oL; first | refine sMv rfl rfl ?_ | refine sAs rfl rfl ?_ | (show oA (.binOp _ _ _ _ _); first | refine sLs rfl rfl rfl ?_ | refine st_y (y_leq rfl rfl) rfl ?_) | (show oA (.call _); first | (refine m_call (ent_of Tryz.func74 kr rfl) rfl rfl (fun w c => spec_IsField_ok p) ?_; rintro v H' ⟨rfl, rfl⟩) | (refine m_call (ent_of Tryz.func75 kr rfl) rfl rfl (fun w c => l1In_ok _ _ _) ?_; rintro v H' ⟨rfl, rfl⟩) | refine sLn tabs rfl rfl rfl ?_) | (show oA (.pick _ _ _); first | refine st_y (y_pickt rfl aS rfl) rfl ?_ | refine st_y (y_pickf rfl aS rfl) rfl ?_ | refine st_y (y_pick rfl rfl rfl) rfl ?_) | refine st_gn rfl rfl rfl ?_ | refine st_gdy rfl rfl aS ?_ | refine st_gdn rfl rfl aS rfl ?_ | refine st_gd rfl rfl (fun h => ?_) (fun h => ?_)) | refine xNt ?_ | (show oC; first | refine c_seq ?_ | refine c_region ?_ | refine c_ret ?_ | refine c_exit ?_ | refine c_iff rfl nN ?_) | (show AT _ _ _ _; first | refine x_then ?_ | refine x_then_exit ?_ | refine x_blk_exit rfl ?_))
      all_goals refine x_ret1 Tryz.results58 (res_tmp rfl) (fun w c => ⟨_, _, rfl, ⟨congrArg Value.bool ?_, rfl⟩, c⟩)
      all_goals first
        | (rw [Bool.eq_iff_iff]; simp only [FineP, decide_eq_true_eq]; grind)
        | (simp only [FineP]; grind)
end Go.Proofs.YtcplmeajmpkpkaaGreat

namespace Go.Proofs.YtcplmeajmpkpkaaGreat
open Go.Lg Go.Proofs Go.RowKit
attribute [local irreducible] Code.wp wpList bodyPost Exit.then Exit.inBlock Hp Again Calls Y AT ResV QT Qn QI wpAny wpAnyQ
set_option maxRecDepth 20000
set_option maxHeartbeats 4000000

def rowL (C : Nat) (g : Nat → Nat → Int) (k : Nat) : List (List Int) := (List.range k).map (fun i => mkv C (g i))
@[simp] theorem rowL_length {C : Nat} {g : Nat → Nat → Int} {k : Nat} : (rowL C g k).length = k := by simp [rowL]
theorem rowL_next {C : Nat} {g : Nat → Nat → Int} {k : Nat} : rowL C g (k + 1) = rowL C g k ++ [mkv C (g k)] := by simp [rowL, List.range_succ]
theorem rowL_congr {C k : Nat} {g g' : Nat → Nat → Int} (h : ∀ i j, i < k → j < C → g i j = g' i j) : rowL C g k = rowL C g' k :=
  List.map_congr_left (fun i hi => mkv_ext (fun j hj => h i j (List.mem_range.1 hi) hj))
def basL (p : Int) (C : Nat) (rs : List (List Int)) : List (List Int) := rowL C (redTo p rs.length (rowsF rs) C).1 (redTo p rs.length (rowsF rs) C).2.length
def RowsP (p : Int) (C : Nat) (rs : List (List Int)) : Prop := ∀ xs ∈ rs, xs.length = C ∧ InP 0 (p - 1) xs
theorem RowsP.inF {p : Int} {C : Nat} {rs : List (List Int)} (h : RowsP p C rs) : inF p rs.length C (rowsF rs) := fun i j hi hj => by
  have hx : rs[i]? = some (rs.getD i []) := getD_some hi
  obtain ⟨h1, h2⟩ := h _ (List.mem_of_getElem? hx)
  have := inP_get h2 (i := j) om
  unfold rowsF
  omega
theorem RowsP.len {p : Int} {C : Nat} {rs : List (List Int)} (h : RowsP p C rs) : ∀ xs ∈ rs, xs.length = C := fun xs hx => (h xs hx).1
theorem RowsP.app {p : Int} {C : Nat} {a b : List (List Int)} (ha : RowsP p C a) (hb : RowsP p C b) : RowsP p C (a ++ b) := fun xs hx => by
  rcases List.mem_append.1 hx with h | h
  · exact ha xs h
  · exact hb xs h
theorem FineP.rows {p n : Int} {l : List (List Int)} (h : FineP p n l) : ∃ C : Nat, n = C ∧ C ≤ 8 ∧ RowsP p C l := by
  obtain ⟨_, h1, _, h2⟩ := h
  refine ⟨n.toNat, by omega, by omega, fun xs hx => ?_⟩
  obtain ⟨h3, h4⟩ := h2 xs hx
  exact ⟨by omega, h4.2.2⟩
theorem mk_row {R C i : Nat} {g : Nat → Nat → Int} (hi : i < R) : ((mk R C g).drop (i * C)).take C = mkv C (g i) := by
  apply List.ext_getElem?
  intro q
  rw [List.getElem?_take]
  by_cases hq : q < C
  · have hc := cell_lt (R := R) hi hq
    have h1 := mk_get (f := g) hi hq
    rw [if_pos hq, List.getElem?_drop, getD_some (z := 0) (by rw [mk_length]; exact hc), h1]
    simp [mkv, hq]
  · rw [if_neg hq, List.getElem?_eq_none (by simp; omega)]
theorem row_rds {w : World} {R C i cap : Nat} {g : Nat → Nat → Int} {a : Option Addr} (hr : Rd w (iT (mk R C g)) (.slice a (R * C) cap)) (hi : i < R) : Rd w (iT (mkv C (g i))) (.slice (subA a 1 (i * C) cap) C (cap - i * C)) := by
  have h1 : (i + 1) * C ≤ R * C := Nat.mul_le_mul_right C hi
  rw [Nat.succ_mul] at h1
  have h := Rd.part (lo := i * C) (hi := i * C + C) hr om h1
  rw [show i * C + C - i * C = C by omega] at h
  have e : ((it (mk R C g)).drop (i * C * 1)).take (C * 1) = it (mkv C (g i)) := by
    rw [Nat.mul_one, Nat.mul_one, ← mk_row hi]
    simp [it, List.map_take, List.map_drop]
  rw [e] at h
  exact h
theorem row_rd {w : World} {R C i cap : Nat} {g : Nat → Nat → Int} {a : Option Addr} (hr : Rd w (iT (mk R C g)) (.slice a (R * C) cap)) (hs : SA a (R * C)) (hi : i < R) (hC : 0 < C) (hcap : R * C ≤ cap) : Rd w (iT (mkv C (g i))) (.slice (some ⟨ab a, ao a + i * C, none⟩) C (cap - i * C)) := by
  have h := row_rds hr hi
  have h0 : 0 < R * C := Nat.mul_pos om hC
  have h1 : (i + 1) * C ≤ R * C := Nat.mul_le_mul_right C hi
  rw [Nat.succ_mul] at h1
  have e : subA a 1 (i * C) cap = some ⟨ab a, ao a + i * C, none⟩ := by
    unfold subA
    rw [if_neg om, hs.get h0]
    simp [Addr.add_lit, ab, ao]
  rwa [e] at h
theorem bld_sp (r : Int) (a : Option Addr) (m c : Nat) (w : World) : (Instr.build 26 #[(0, iV r), (1, .slice a m c)]).run Tryz.prog w = .ok (.agg #[iV r, .slice a m c]) w := by kernel_rfl
theorem bld_sp0 (w : World) : (Instr.build 26 #[]).run Tryz.prog w = .ok (.agg #[iV 0, .slice none 0 0]) w := by kernel_rfl
theorem span_ok {w : World} {p : Int} {C e : Nat} {rs : List (List Int)} {v : Value} (hr : Rd w (rowsT e rs) v) (hF : FieldP p) (hl : RowsP p C rs) (hb : rs.length ≤ 64) (hC : C ≤ 64) : Does Tryz.prog 47 [iV p, iV C, v] w (GivesSp (↑C, basL p C rs)) := by
  have hp := fieldP_pos hF
  have hin := hl.inF
  have hpv := redTo_piv (p := p) (R := rs.length) (f := rowsF rs) C
  have hpl := redTo_in (p := p) om hin C
  have hRC := rc_le (R := rs.length) (C := C) om om
  refine fn_enter Tryz.func47 rfl Tryz.ntmps47 rfl ?_
  repeat' (first | (show oL; first | refine sMv rfl rfl ?_ | refine sAs rfl rfl ?_ | (show oA (.call _); first | (refine m_call (ent_of Tryz.func88 kr rfl) rfl rfl (fun w c => fromRows_ok (c.rd hr) hl.len om om) ?_; rintro v H' ⟨a0, c0, rfl, hs0, rfl⟩) | (refine m_call (ent_of Tryz.func87 kr rfl) rfl rfl (fun w c => reduceK_ok (c.own_rd (i := 0) rfl) hF om om hin) ?_; rintro v H' ⟨a, c, a', c', rfl, hs, hs', rfl⟩) | refine sLn tabs rfl rfl rfl ?_) | (show oA (.extract _ _); refine st_y (y_ext rfl rfl) rfl ?_) | (show oA (.store _ _ _); refine m_storeb 0 tabs rfl rfl rfl rfl rfl rfl rfl ?_) | (show oA (.alloc _); refine m_alloc tabs rfl rfl (fun b5 hb5 => ?_))) | refine xNt ?_ | (show oC; first | refine c_seq ?_ | refine c_region ?_ | refine c_block ?_))
  unfold basL
  generalize hre : redTo p rs.length (rowsF rs) C = red at *
  obtain ⟨g, piv⟩ := red
  obtain ⟨hgi, hpl⟩ := hpl
  simp only at hpv hpl hs hs' hgi ⊢
  rename_i b6 hb6
  refine AT.cls (C' := Hp _ _ [.blk b5 #[iV rs.length, iV C, .slice a (rs.length * C) c] 47, .own (iT piv) (.slice a' piv.length c'), .own (iT (mk rs.length C g)) (.slice a (rs.length * C) c), .blk b6 #[iV 0, .slice none 0 0] 26]) (fun w' c' => c'.sub sL) ?_
  refine AT.fact (p := rs.length * C ≤ c) (fun w cw => by have h := (cw.own_rd (i := 2) rfl).ints; simp only [mk_length] at h; obtain ⟨_, _, e, _, h, _⟩ := h; cases e; exact h) (fun hcap => ?_)
  refine c_loopH (α := Nat × Option Addr × Nat) [1, 6, 7, 20] (fun s => [(9, .slice s.2.1 s.1 s.2.2), (21, .int .i64 s.1)]) (fun s => s.1 ≤ piv.length) (fun s => [.own (rowsT 43 (rowL C g s.1)) (.slice s.2.1 s.1 s.2.2), .blk b5 #[iV rs.length, iV C, .slice a (rs.length * C) c] 47, .own (iT piv) (.slice a' piv.length c'), .own (iT (mk rs.length C g)) (.slice a (rs.length * C) c), .blk b6 #[iV 0, .slice none 0 0] 26]) (fun s => piv.length - s.1) (0, none, 0) rfl sB ?_ ?_ ?_
  · exact Nat.zero_le _
  · exact fun w' c' => Hp.nilp _ _ c'
  · rintro ⟨i, al, cl⟩ hi
    simp only at hi ⊢
    by_cases hif : i < piv.length
    · have hx : piv[i]? = some (piv.getD i 0) := getD_some hif
      have hb := hpv _ (List.mem_of_getElem? hx)
      have hiR : i < rs.length := by omega
      repeat' (first | (show oL; first | refine sMv rfl rfl ?_ | refine sAs rfl rfl ?_ | refine sLb 1 tabs rfl rfl rfl rfl rfl ?_ | (show oA (.binOp _ _ _ _ _); first | refine sAd rfl rfl om rfl ?_ | refine sLs rfl rfl rfl ?_) | (show oA (.call _); first | (refine m_call (ent_of Tryz.func90 kr rfl) rfl rfl (fun w c => row_at hs om ⟨by omega, by omega⟩ hiR hcap) ?_; rintro v H' ⟨rfl, rfl⟩) | (refine m_call (ent_of Tryz.func89 kr rfl) rfl rfl (fun w c => Clone_ok (row_rd (c.own_rd (i := 3) rfl) hs hiR om hcap) (by rw [mkv_length]; omega)) ?_; rw [mkv_length]; rintro v H' ⟨az, cz, rfl, hsz, rfl⟩) | refine m_push1 [] 0 0 tabs (m' := i) rfl rfl rfl rfl rfl rfl rfl (by simp [rowT_map]) (by simp [rowT_map]; omega) (by decide) rfl rfl (fun a4 c4 => ?_)) | (show oA (.buildSlice _ _ _); refine m_build1 tabs (us := [.slice az C cz]) rfl rfl rfl rfl (by decide) rfl (fun g2 hg2 => ?_))) | (show oN; first | refine c_nil (x_then ?_) | refine c_nil ?_) | (show oC; first | refine c_seq ?_ | refine c_region ?_ | refine c_skip (x_then ?_) | refine c_block ?_ | refine c_ift rfl aO ?_) | (show AT _ _ _ _; first | refine x_then ?_ | refine x_blk ?_))
      refine x_nx (i + 1, a4, c4) sB (by simp only; omega) (fun w' c' => ?_) (by simp only; omega)
      have e0 : (rowL C g i).flatMap rowT ++ (List.map T.c [] ++ [iT (mkv C (g i))]) = (rowL C g (i + 1)).flatMap rowT := by rw [rowL_next, List.flatMap_append]; rfl
      rw [e0] at c'
      exact c'
    · have : i = piv.length := by omega
      subst this
      refine AT.fact (rows_sl 0 rfl) (fun hsl => ?_)
      rw [rowL_length] at hsl
      repeat' (first | (show oL; first | refine sMv rfl rfl ?_ | refine sLs rfl rfl rfl ?_ | (show oA (.store _ _ _); refine m_storeb 4 tabs rfl rfl rfl rfl rfl rfl rfl ?_) | (show oA (.build _ _); refine st_y (y_bld2 (bld_sp _ _ _ _) rfl rfl) rfl ?_)) | refine xNt ?_ | (show oC; first | refine c_seq ?_ | refine c_region ?_ | refine c_ret ?_ | refine c_exit ?_ | refine c_iff rfl nN ?_) | (show AT _ _ _ _; first | refine x_then ?_ | refine x_then_exit ?_ | refine x_blk_exit rfl ?_))
      exact x_ret1 Tryz.results47 (res_cellb 4 tabs rfl rfl rfl rfl) (fun w' c' => ⟨_, _, rfl, ⟨al, cl, by rw [rowL_length], by rw [rowL_length]; exact hsl, by rw [rowL_length]⟩, c'.sub (.cons_cons _ (List.nil_sublist _))⟩)
theorem bld_mat20 (r k : Int) (w : World) : (Instr.build 47 #[(0, iV r), (1, iV k)]).run Tryz.prog w = .ok (.agg #[iV r, iV k, .slice none 0 0]) w := by kernel_rfl
theorem l5Rows_ok {w : World} {e C : Nat} {rs : List (List Int)} {v : Value} (hr : Rd w (rowsT e rs) v) (hl : ∀ xs ∈ rs, xs.length = C) (hb : rs.length ≤ 1024) (hC : C ≤ 1024) : Does Tryz.prog 38 [iV C, v] w (GivesK rs.length C (rowsF rs)) := by
  obtain ⟨a, c, rfl, hs, hc1, hc2, hget⟩ := rd_rows hr
  unfold maxLen at hc2
  have hfl := flat_mk hl
  have hRC := rc_le hb hC
  have hfn : rs.flatten.length = rs.length * C := by rw [hfl, mk_length]
  refine fn_enter Tryz.func38 rfl Tryz.ntmps38 rfl ?_
  repeat' (first | (show oL; first | refine sMv rfl rfl ?_ | refine sAs rfl rfl ?_ | refine sLn tabs rfl rfl rfl ?_ | (show oA (.store _ _ _); refine m_storeb 0 tabs rfl rfl rfl rfl rfl rfl rfl ?_) | (show oA (.alloc _); refine m_alloc tabs rfl rfl (fun b5 hb5 => ?_)) | (show oA (.build _ _); refine st_y (y_bld2 (bld_mat20 _ _) rfl rfl) rfl ?_)) | refine xNt ?_ | (show oC; first | refine c_seq ?_ | refine c_region ?_ | refine c_block ?_))
  rename_i b4 hb4
  refine c_loopH (α := Nat × Option Addr × Nat) [1, 4, 5] (fun q => [(6, .int .i64 q.1)]) (fun q => q.1 ≤ rs.length) (fun q => [.own (iT (rs.take q.1).flatten) (.slice q.2.1 (flN rs q.1) q.2.2), .blk b5 #[iV rs.length, iV C, .slice q.2.1 (flN rs q.1) q.2.2] 47, .blk b4 #[iV 0, iV 0, .slice none 0 0] 47]) (fun q => rs.length - q.1) (0, none, 0) rfl sB ?_ ?_ ?_
  · exact Nat.zero_le _
  · exact fun w' c' => Hp.nilp _ _ c'
  · rintro ⟨i, al, cl⟩ hi
    simp only at hi ⊢
    by_cases hin : i < rs.length
    · obtain ⟨xs, hx⟩ : ∃ xs, rs[i]? = some xs := ⟨_, List.getElem?_eq_getElem hin⟩
      obtain ⟨a2, c2, g1, g2⟩ := hget i xs hx
      have hnx := flN_next hx
      have hle := flN_le rs (i + 1)
      repeat' (first | (show oL; first | refine sMv rfl rfl ?_ | refine sAs rfl rfl ?_ | refine sFd tabs rfl rfl rfl rfl ?_ | (show oA (.binOp _ _ _ _ _); first | refine sAd rfl rfl om rfl ?_ | refine sLs rfl rfl rfl ?_) | (show oA (.call _); first | refine m_appi 0 tabs (xs := (rs.take i).flatten) rfl rfl rfl rfl rfl (by have : (rs.take i).flatten.length = flN rs i := rfl; omega) (fun w c => rd_src (c.rd g2)) (fun a3 c3 => ?_) | refine sLn tabs rfl rfl rfl ?_) | (show oA (.store _ _ _); refine m_storef 1 tabs rfl rfl rfl rfl rfl rfl ?_)) | (show oN; first | refine c_nil (x_then ?_) | refine c_nil ?_) | (show oC; first | refine c_tailR 6 kr kr kr kr kr kr (fun _ c => Hp.drew c) ?_ | refine c_seq ?_ | refine c_region ?_ | refine c_skip (x_then ?_) | refine c_block ?_ | refine c_ift rfl aO ?_) | (show QT _ _ _ _ _ _ (_ :: _); first | refine qMv rfl rfl ?_ | refine qFd tabs rfl rfl rfl rfl ?_ | (show qA (.load _ _); first | refine q_y (y_load tabs rfl rfl (hc_w0 g1)) rfl ?_ | refine qLd 1 tabs rfl rfl rfl rfl rfl ?_) | (show qA (.indexAddr _ _ _); refine q_y (y_ix1 tabs (j := i) rfl rfl rfl hs rfl hin) rfl ?_)) | (show QT _ _ _ _ _ _ []; refine q_nil ?_) | (show AT _ _ _ _; first | refine x_then ?_ | refine x_blk ?_))
      refine x_nx (i + 1, a3, c3) sB (by simp only; omega) (fun w' c' => ?_) (by simp only; omega)
      simp only [take_flat hx, hnx]
      exact c'
    · have : i = rs.length := by omega
      subst this
      have hfl2 : flN rs rs.length = rs.length * C := by unfold flN; rw [List.take_length, hfn]
      rw [List.take_length, hfl2, hfl]
      refine AT.fact (own_sl 0 rfl) (fun hsl => ?_)
      obtain ⟨a3, c3, e3, hs3⟩ := hsl
      rw [mk_length] at e3 hs3
      cases e3
      repeat' (first | (show oL; first | refine sMv rfl rfl ?_ | refine sLb 1 tabs rfl rfl rfl rfl rfl ?_ | refine sLs rfl rfl rfl ?_ | refine sLn tabs rfl rfl rfl ?_ | (show oA (.store _ _ _); refine m_storeb 2 tabs rfl rfl rfl rfl rfl rfl rfl ?_)) | refine xNt ?_ | (show oC; first | refine c_seq ?_ | refine c_region ?_ | refine c_ret ?_ | refine c_exit ?_ | refine c_iff rfl nN ?_) | (show AT _ _ _ _; first | refine x_then ?_ | refine x_then_exit ?_ | refine x_blk_exit rfl ?_))
      exact x_ret1 Tryz.results38 (res_cellb 2 tabs rfl rfl rfl rfl) (fun w' c' => ⟨_, _, rfl, ⟨_, _, rfl, hs3, rfl⟩, c'.sub (.cons_cons _ (List.nil_sublist _))⟩)
end Go.Proofs.YtcplmeajmpkpkaaGreat
