import Derived.Lib.Join
import Derived.Lib.ItoaNum
import Derived.Shelf.Strconv.Itoa3
import Derived.Shelf.Strings.OnBuilder
import Derived.Test.YtdnhmnnccfoliaaDoorDigqqv
import Derived.Test.YtdnhmnnccfoliaaDoorMxfqqv
import Derived.Test.YtdnhmnnccfoliaaDoorPrdqqv
import Derived.Test.YtdnhmnnccfoliaaDoorQupqqv
import Derived.Test.YtdnhmnnccfoliaaDoorSpbqqv
import Derived.Test.YtdnhmnnccfoliaaDoorStrqqv
import Derived.Test.YtdnhmnnccfoliaaDoorZsbqqv
namespace Go.Proofs.YtdnhmnnccfoliaaDoor
open Go.Lg Go.Proofs Go.RowKit

def digL (xs : List Int) : List UInt8 := xs.map dg
end Go.Proofs.YtdnhmnnccfoliaaDoor

namespace Go.Proofs.YtdnhmnnccfoliaaDoor
open Go.Lg Go.Proofs Go.RowKit Go.Shelf
def itoaRen : Ren := ⟨fun k => match k with | 129 => 76 | 171 => 61 | 243 => 68 | 246 => 70 | 283 => 71 | 284 => 72 | 285 => 73 | 286 => 74 | 317 => 75 | 318 => 77 | 319 => 78 | 320 => 79 | 337 => 80 | 338 => 81 | _ => 0,
  fun k => match k with | 0 => 0 | 2 => 2 | 3 => 3 | 4 => 4 | 5 => 5 | 9 => 9 | 20 => 20 | 37 => 22 | 46 => 75 | 51 => 87 | 53 => 79 | 171 => 78 | 173 => 82 | 212 => 86 | 213 => 88 | 232 => 91 | 233 => 92 | _ => 0,
  fun k => match k with | 17 => 0 | 18 => 1 | 19 => 2 | _ => 0⟩
theorem itoaLays : Lays.n171 Tryd.prog itoaRen := by
  constructor <;> first | kernel_rfl | (intro w; kernel_rfl) | rfl
attribute [local irreducible] Code.wp wpList bodyPost Exit.then Exit.inBlock Hp Again Calls Y AT ResV QT Qn QI wpAny wpAnyQ
set_option maxRecDepth 20000
set_option maxHeartbeats 4000000
theorem itoa_ok {w : World} {n : Int} (h0 : 0 ≤ n) (h9 : n ≤ 9) : Does Tryd.prog 61 [iV n] w (fun r H => r = sV [dg n] ∧ H = []) := by
  obtain ⟨k, rfl⟩ : ∃ k : Nat, n = k := ⟨n.toNat, by omega⟩
  have e : Lib.decDigits k = [dg k] := by
    rw [Lib.decDigits, dif_pos om, dg, Int.toNat_natCast]
  have h := Any.strconv_Itoa_small itoaLays k om w
  rw [e] at h
  exact h.mono (by
    rintro e w' ⟨rfl, rfl⟩
    exact ⟨_, _, rfl, ⟨rfl, rfl⟩, Hp.nil⟩)
end Go.Proofs.YtdnhmnnccfoliaaDoor

namespace Go.Proofs.YtdnhmnnccfoliaaDoor
open Go.Lg Go.Proofs Go.RowKit
attribute [local irreducible] Code.wp wpList bodyPost Exit.then Exit.inBlock Hp Again Calls Y AT ResV QT Qn QI wpAny wpAnyQ
set_option maxRecDepth 20000
set_option maxHeartbeats 4000000

def dgA (xs : List Int) (i : Nat) : Array Value := ((digL (xs.take i)).map bV ++ List.replicate (xs.length - i) (Value.int .u8 0)).toArray
theorem dgA_size {xs : List Int} {i : Nat} (h : i ≤ xs.length) : (dgA xs i).size = xs.length := by
  simp [dgA, digL]; omega
theorem digL_next {xs : List Int} {i : Nat} (h : i < xs.length) : digL (xs.take (i + 1)) = digL (xs.take i) ++ [dg (xs.getD i 0)] := by
  rw [List.take_add_one, List.getElem?_eq_getElem h, digL, List.map_append]
  simp [digL, List.getD, h]
theorem digL_len {xs : List Int} : (digL xs).length = xs.length := by simp [digL]
theorem dgA_next {xs : List Int} {i : Nat} (h : i < xs.length) : (dgA xs i).setIfInBounds i (bV (dg (xs.getD i 0))) = dgA xs (i + 1) := by
  apply Array.ext'
  have hl : ((digL (xs.take i)).map bV).length = i := by simp [digL]; omega
  have e : xs.length - i = (xs.length - (i + 1)) + 1 := by omega
  simp only [dgA, Array.toList_setIfInBounds, List.toList_toArray]
  rw [List.set_append_right _ _ om, hl, Nat.sub_self, e, List.replicate_succ, List.set_cons_zero, digL_next h, List.map_append, List.append_assoc]
  rfl
theorem dgA_all {xs : List Int} : dgA xs xs.length = ((digL xs).map bV).toArray := by simp [dgA]
theorem dgA_zero {xs : List Int} : zeros [Value.int .u8 0] xs.length = dgA xs 0 := by
  apply Array.ext'
  rw [zeros_eq _ _ (by decide)]
  simp [dgA, digL]
theorem digits_ok {w : World} {xs : List Int} {u : Value} (hr : Rd w (iT xs) u) (hl : xs.length ≤ 64) (hd : ∀ i, i < xs.length → 0 ≤ xs.getD i 0 ∧ xs.getD i 0 ≤ 9) : Does Tryd.prog 37 [u] w (fun r H => r = sV (digL xs) ∧ H = []) := by
  obtain ⟨a, c, rfl, hs, hc1, hc2, hg⟩ := hr.ints
  refine fn_enter Tryd.func37 rfl Tryd.ntmps37 rfl ?_
  repeat' (first | (show oL; first | refine sMv rfl rfl ?_ | refine sAs rfl rfl ?_ | refine sLn tabs rfl rfl rfl ?_ | (show oA (.makeSlice _ _ _); refine m_make tabs (l := xs.length) (c := xs.length) rfl rfl rfl om om om om (by decide) (fun g hg => ?_))) | refine xNt ?_ | (show oC; first | refine c_seq ?_ | refine c_region ?_ | refine c_block ?_))
  simp only [Int.toNat_natCast]
  rw [dgA_zero]
  refine c_loopH (α := Nat) [3, 9, 10] (fun i => [(11, .int .i64 i)]) (fun i => i ≤ xs.length) (fun i => [.blk g (dgA xs i) 5]) (fun i => xs.length - i) 0 rfl sB ?_ ?_ ?_
  · exact Nat.zero_le _
  · exact fun w' c' => c'
  · intro i hi
    by_cases hin : i < xs.length
    · have hdi := hd i hin
      have e1 : min (max (xs.getD i 0) 0) 9 = xs.getD i 0 := by omega
      repeat' (first | (show oL; first | refine sMv rfl rfl ?_ | refine sAs rfl rfl ?_ | (show oA (.load _ _); refine st_y (y_load tabs rfl rfl (hc_rd aS om)) rfl ?_) | (show oA (.indexAddr _ _ _); first | refine st_y (y_ix1 tabs (j := i) rfl rfl rfl hs rfl hin) rfl ?_ | refine st_y (y_ixs tabs (j := i) rfl rfl rfl rfl hin) rfl ?_) | (show oA (.binOp _ _ _ _ _); first | refine sAd rfl rfl om rfl ?_ | refine sLs rfl rfl rfl ?_) | (show oA (.call _); first | refine st_y (y_max rfl rfl) rfl ?_ | refine st_y (y_min rfl rfl) rfl ?_) | (show oA (.store _ _ _); refine m_store 0 tabs rfl rfl rfl rfl rfl (by rw [dgA_size hi]; omega) ?_) | (show oA (.convert _ _ _); refine st_y (y_convk (t := 3) (t' := 5) (k := .i64) (k' := .u8) (q := ((dg (xs.getD i 0)).toNat : Int)) kr kr kr rfl (by rw [e1]; exact dg_conv hdi.1 hdi.2)) rfl ?_)) | (show oN; first | refine c_nil (x_then ?_) | refine c_nil ?_) | (show oC; first | refine c_seq ?_ | refine c_region ?_ | refine c_skip (x_then ?_) | refine c_block ?_ | refine c_ift rfl aO ?_) | (show AT _ _ _ _; first | refine x_then ?_ | refine x_blk ?_))
      exact x_nx (i + 1) sB om (fun w' c' => by rw [Nat.zero_add] at c'; rw [← dgA_next hin]; exact c') om
    · have : i = xs.length := by omega
      subst this
      repeat' (first | (show oL; first | refine sMv rfl rfl ?_ | refine sAs rfl rfl ?_ | refine sLs rfl rfl rfl ?_ | (show oA (.convert _ _ _); refine st_y (y_convbs (t := 22) (t' := 9) (e := 5) (l := digL xs) kr kr kr (by rw [digL_len]; rfl) (fun w c => fun j u hj => by rw [dgA_all] at c; rw [Addr.add_lit]; exact hc_blk 0 rfl (by rw [Nat.zero_add, List.getElem?_toArray]; exact hj) w c)) rfl ?_)) | refine xNt ?_ | (show oC; first | refine c_seq ?_ | refine c_region ?_ | refine c_ret ?_ | refine c_exit ?_ | refine c_iff rfl nN ?_) | (show AT _ _ _ _; first | refine x_then ?_ | refine x_then_exit ?_ | refine x_blk_exit rfl ?_))
      exact x_ret1 Tryd.results37 (res_tmp rfl) (fun w' c' => ⟨_, _, rfl, ⟨rfl, rfl⟩, c'.sub (List.nil_sublist _)⟩)
theorem impl_FormatInt_ok {w : World} {n : Int} (h0 : 0 ≤ n) (h9 : n ≤ 9) : Does Tryd.prog 36 [iV n] w (fun r H => r = sV [dg n] ∧ H = []) := by
  refine fn_enter Tryd.func36 rfl Tryd.ntmps36 rfl ?_
  repeat' (first | (show oL; first | refine sMv rfl rfl ?_ | refine sAs rfl rfl ?_ | (show oA (.call _); (refine m_call (ent_of Tryd.func61 kr rfl) rfl rfl (fun w c => itoa_ok h0 h9) ?_; rintro v H' ⟨rfl, rfl⟩))) | refine xNt ?_ | (show oC; first | refine c_seq ?_ | refine c_region ?_ | refine c_ret ?_))
  exact x_ret1 Tryd.results36 (res_tmp rfl) (fun w' c' => ⟨_, _, rfl, ⟨rfl, rfl⟩, c'.sub (List.nil_sublist _)⟩)
end Go.Proofs.YtdnhmnnccfoliaaDoor
