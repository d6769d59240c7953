import Derived.Test.YtdnhmnnccfoliaaGreatDoorCopqrp
import Derived.Test.YtdnhmnnccfoliaaGreatDoorEqmqrp
import Derived.Test.YtdnhmnnccfoliaaGreatDoorLDqrp
import Derived.Test.YtdnhmnnccfoliaaGreatDoorMxfqrp
import Derived.Test.YtdnhmnnccfoliaaGreatDoorPrdqrp
import Derived.Test.YtdnhmnnccfoliaaGreatDoorPrmqrp
import Derived.Test.YtdnhmnnccfoliaaGreatDoorSpmqrp
namespace Go.Proofs.YtdnhmnnccfoliaaGreatDoor
open Go.Lg Go.Proofs Go.RowKit
attribute [local irreducible] Code.wp wpList bodyPost Exit.then Exit.inBlock Hp Again Calls Y AT ResV QT Qn QI wpAny wpAnyQ
set_option maxRecDepth 20000
set_option maxHeartbeats 4000000

def rowsF (rs : List (List Int)) : Nat → Nat → Int := fun i j => (rs.getD i []).getD j 0
def NamesAt (w : World) (v : Value) (us : List Value) : Prop := ∃ a c, v = .slice a us.length c ∧ us.length ≤ 1048576 ∧ (us.length = 0 ∨ a = some ⟨ab a, ao a, none⟩) ∧ (∀ (j : Nat) u, us[j]? = some u → w.cell? ⟨ab a, ao a + j, none⟩ = some u) ∧ ∀ u ∈ us, u.oneCell' = true
theorem NamesAt.rd {w w' : World} {H : List HE} {v : Value} {us : List Value} (h : NamesAt w v us) (c : Hp [] w H w') : NamesAt w' v us := by
  obtain ⟨a, cc, h1, h2, h3, h4, h5⟩ := h
  exact ⟨a, cc, h1, h2, h3, fun j u hu => c.cell (h4 j u hu), h5⟩
end Go.Proofs.YtdnhmnnccfoliaaGreatDoor

namespace Go.Proofs.YtdnhmnnccfoliaaGreatDoor
open Go.Lg Go.Proofs Go.RowKit
attribute [local irreducible] Code.wp wpList bodyPost Exit.then Exit.inBlock Hp Again Calls Y AT ResV QT Qn QI wpAny wpAnyQ
set_option maxRecDepth 20000
set_option maxHeartbeats 4000000

theorem matP_mk {p : Int} {m : Mat} (h : MatP p m) : ∃ (R C : Nat) (f : Nat → Nat → Int), m = (((R : Nat) : Int), ((C : Nat) : Int), mk R C f) ∧ R ≤ 8 ∧ C ≤ 8 ∧ FieldP p ∧ inF p R C f := by
  obtain ⟨r, c, xs⟩ := m
  obtain ⟨⟨hR0, hR8⟩, ⟨hC0, hC8⟩, hlen, hF, _, hin⟩ := h
  simp only at *
  obtain ⟨R, rfl⟩ := Int.eq_ofNat_of_zero_le hR0
  obtain ⟨C, rfl⟩ := Int.eq_ofNat_of_zero_le hC0
  have hlen' : xs.length = R * C := by rw [← Int.natCast_mul] at hlen; omega
  refine ⟨R, C, fun i j => xs.getD (i * C + j) 0, by rw [← mk_of hlen'], by omega, by omega, hF, fun i j hi hj => ?_⟩
  have := inP_get hin (i := i * C + j) (by rw [hlen']; exact cell_lt hi hj)
  simp only
  omega
abbrev GivesMB (m : Mat) (b : Bool) (v : Value) (H : List HE) : Prop := ∃ a c, v = .tuple #[.agg #[iV m.1, iV m.2.1, .slice a m.2.2.length c], .bool b] ∧ SA a m.2.2.length ∧ H = [.own (iT m.2.2) (.slice a m.2.2.length c)]
theorem l4Has_ok {w : World} {xs : List Int} {x : Int} {v : Value} (hr : Rd w (iT xs) v) :
    Does Tryz.prog 230 [v, iV x] w (fun v H => v = .bool (decide (x ∈ xs)) ∧ H = []) := by
  obtain ⟨a, c, rfl, hs, hc1, hc2, hget⟩ := hr.ints
  unfold maxLen at hc2
  refine fn_enter Tryz.func230 rfl Tryz.ntmps230 rfl ?_
  repeat' (first | (show oL; first | refine sAs rfl rfl ?_) | refine xNt ?_ | (show oC; first | refine c_seq ?_ | refine c_region ?_ | refine c_block ?_))
  refine c_loopH (α := Nat) [0, 1] (fun i => [(5, .int .i64 i)]) (fun i => i ≤ xs.length ∧ x ∉ xs.take i) (fun i => []) (fun i => xs.length - i) 0 rfl sB ?_ ?_ ?_
  · exact ⟨by omega, by simp⟩
  · exact fun w' c' => c'
  · rintro i ⟨hi, hn⟩
    by_cases hin : i < xs.length
    · have hx : xs[i]? = some (xs.getD i 0) := getD_some hin
      repeat' (first | (show oL; first | refine sMv rfl rfl ?_ | refine sAs rfl rfl ?_ | (show oA (.load _ _); refine st_y (y_load tabs rfl rfl (hc_w0 (hget i hin))) rfl ?_) | (show oA (.indexAddr _ _ _); refine st_y (y_ix1 tabs (j := i) rfl rfl rfl hs rfl hin) rfl ?_) | (show oA (.binOp _ _ _ _ _); first | refine sAd rfl rfl om rfl ?_ | refine sLs rfl rfl rfl ?_ | refine st_y (y_eql rfl rfl) rfl ?_) | refine sLn tabs rfl rfl rfl ?_) | refine xNt ?_ | (show oC; first | refine c_seq ?_ | refine c_region ?_ | refine c_skip (x_then ?_) | refine c_skip (x_blk ?_) | refine c_block ?_ | refine c_ret ?_ | refine c_ift rfl aO ?_ | refine c_if rfl (fun h => ?_) (fun h => ?_)) | (show AT _ _ _ _; first | refine x_then ?_ | refine x_then_ret ?_ | refine x_blk_ret ?_))
      · refine x_ret1 Tryz.results230 (res_tmp rfl) (fun w c => ⟨_, _, rfl, ⟨congrArg Value.bool ?_, rfl⟩, c⟩)
        have : x ∈ xs := by rw [← h]; exact List.mem_of_getElem? hx
        simp [this]
      · refine x_nx (i + 1) sB ⟨by omega, ?_⟩ (fun w' c' => c') om
        rw [List.take_add_one, hx]
        simp only [Option.toList_some, List.mem_append, List.mem_singleton, not_or]
        exact ⟨hn, fun e => h e.symm⟩
    · repeat' (first | (show oL; first | refine sMv rfl rfl ?_ | refine sAs rfl rfl ?_ | refine sLs rfl rfl rfl ?_ | refine sLn tabs rfl rfl rfl ?_) | refine xNt ?_ | (show oC; first | refine c_seq ?_ | refine c_region ?_ | refine c_ret ?_ | refine c_exit ?_ | refine c_iff rfl nN ?_) | (show AT _ _ _ _; first | refine x_then ?_ | refine x_then_exit ?_ | refine x_blk_exit rfl ?_))
      refine x_ret1 Tryz.results230 (res_tmp rfl) (fun w c => ⟨_, _, rfl, ⟨congrArg Value.bool ?_, rfl⟩, c⟩)
      rw [take_end om] at hn
      simp [hn]
end Go.Proofs.YtdnhmnnccfoliaaGreatDoor

namespace Go.Proofs.YtdnhmnnccfoliaaGreatDoor
open Go.Lg Go.Proofs Go.RowKit
attribute [local irreducible] Code.wp wpList bodyPost Exit.then Exit.inBlock Hp Again Calls Y AT ResV QT Qn QI wpAny wpAnyQ
set_option maxRecDepth 20000
set_option maxHeartbeats 4000000

abbrev GivesRows (l : List (List Int)) (v : Value) (H : List HE) : Prop := ∃ a c, v = .slice a l.length c ∧ SA a l.length ∧ H = [.own (rowsT 22 l) (.slice a l.length c)]
end Go.Proofs.YtdnhmnnccfoliaaGreatDoor

namespace Go.Proofs.YtdnhmnnccfoliaaGreatDoor
open Go.Lg Go.Proofs Go.RowKit
attribute [local irreducible] Code.wp wpList bodyPost Exit.then Exit.inBlock Hp Again Calls Y AT ResV QT Qn QI wpAny wpAnyQ
set_option maxRecDepth 20000
set_option maxHeartbeats 4000000

def FineP (p n : Int) (l : List (List Int)) : Prop := FieldP p ∧ (0 ≤ n ∧ n ≤ 8) ∧ l.length ≤ 16 ∧ ∀ v ∈ l, (v.length : Int) = n ∧ VecP p v
instance (p n : Int) (l : List (List Int)) : Decidable (FineP p n l) := by unfold FineP; infer_instance
end Go.Proofs.YtdnhmnnccfoliaaGreatDoor

namespace Go.Proofs.YtdnhmnnccfoliaaGreatDoor
open Go.Lg Go.Proofs Go.RowKit
attribute [local irreducible] Code.wp wpList bodyPost Exit.then Exit.inBlock Hp Again Calls Y AT ResV QT Qn QI wpAny wpAnyQ
set_option maxRecDepth 20000
set_option maxHeartbeats 4000000

def rowL (C : Nat) (g : Nat → Nat → Int) (k : Nat) : List (List Int) := (List.range k).map (fun i => mkv C (g i))
@[simp] theorem rowL_length {C : Nat} {g : Nat → Nat → Int} {k : Nat} : (rowL C g k).length = k := by simp [rowL]
theorem rowL_next {C : Nat} {g : Nat → Nat → Int} {k : Nat} : rowL C g (k + 1) = rowL C g k ++ [mkv C (g k)] := by simp [rowL, List.range_succ]
def basL (p : Int) (C : Nat) (rs : List (List Int)) : List (List Int) := rowL C (redTo p rs.length (rowsF rs) C).1 (redTo p rs.length (rowsF rs) C).2.length
def RowsP (p : Int) (C : Nat) (rs : List (List Int)) : Prop := ∀ xs ∈ rs, xs.length = C ∧ InP 0 (p - 1) xs
theorem RowsP.inF {p : Int} {C : Nat} {rs : List (List Int)} (h : RowsP p C rs) : inF p rs.length C (rowsF rs) := fun i j hi hj => by
  have hx : rs[i]? = some (rs.getD i []) := getD_some hi
  obtain ⟨h1, h2⟩ := h _ (List.mem_of_getElem? hx)
  have := inP_get h2 (i := j) om
  unfold rowsF
  omega
theorem FineP.rows {p n : Int} {l : List (List Int)} (h : FineP p n l) : ∃ C : Nat, n = C ∧ C ≤ 8 ∧ RowsP p C l := by
  obtain ⟨_, h1, _, h2⟩ := h
  refine ⟨n.toNat, by omega, by omega, fun xs hx => ?_⟩
  obtain ⟨h3, h4⟩ := h2 xs hx
  exact ⟨by omega, h4.2.2⟩
theorem mk_row {R C i : Nat} {g : Nat → Nat → Int} (hi : i < R) : ((mk R C g).drop (i * C)).take C = mkv C (g i) := by
  apply List.ext_getElem?
  intro q
  rw [List.getElem?_take]
  by_cases hq : q < C
  · have hc := cell_lt (R := R) hi hq
    have h1 := mk_get (f := g) hi hq
    rw [if_pos hq, List.getElem?_drop, getD_some (z := 0) (by rw [mk_length]; exact hc), h1]
    simp [mkv, hq]
  · rw [if_neg hq, List.getElem?_eq_none (by simp; omega)]
theorem row_rds {w : World} {R C i cap : Nat} {g : Nat → Nat → Int} {a : Option Addr} (hr : Rd w (iT (mk R C g)) (.slice a (R * C) cap)) (hi : i < R) : Rd w (iT (mkv C (g i))) (.slice (subA a 1 (i * C) cap) C (cap - i * C)) := by
  have h1 : (i + 1) * C ≤ R * C := Nat.mul_le_mul_right C hi
  rw [Nat.succ_mul] at h1
  have h := Rd.part (lo := i * C) (hi := i * C + C) hr om h1
  rw [show i * C + C - i * C = C by omega] at h
  have e : ((it (mk R C g)).drop (i * C * 1)).take (C * 1) = it (mkv C (g i)) := by
    rw [Nat.mul_one, Nat.mul_one, ← mk_row hi]
    simp [it, List.map_take, List.map_drop]
  rw [e] at h
  exact h
theorem bld_mat20 (r k : Int) (w : World) : (Instr.build 41 #[(0, iV r), (1, iV k)]).run Tryz.prog w = .ok (.agg #[iV r, iV k, .slice none 0 0]) w := by kernel_rfl
end Go.Proofs.YtdnhmnnccfoliaaGreatDoor
