import Derived.Lib.Join
import Derived.Lib.ItoaNum
import Derived.Shelf.Strconv.Itoa3
import Derived.Shelf.Strings.OnBuilder
import Derived.Test.YtdnhmnnccfoliaaGreatDoorAppqrp
import Derived.Test.YtdnhmnnccfoliaaGreatDoorLwsqrp
import Derived.Test.YtdnhmnnccfoliaaGreatDoorMulqrp
import Derived.Test.YtdnhmnnccfoliaaGreatDoorMxfqrp
import Derived.Test.YtdnhmnnccfoliaaGreatDoorPrdqrp
import Derived.Test.YtdnhmnnccfoliaaGreatDoorQstqrp
import Derived.Test.YtdnhmnnccfoliaaGreatDoorRepqrp
import Derived.Test.YtdnhmnnccfoliaaGreatDoorStrqrp
namespace Go.Proofs.YtdnhmnnccfoliaaGreatDoor
open Go.Lg Go.Proofs Go.RowKit

/-! ### texts of matrices and of representations, in plain -/
def digL (xs : List Int) : List UInt8 := xs.map dg
def bodyN (C : Nat) (xs : List Int) : Nat → List UInt8
  | 0 => []
  | i + 1 => bodyN C xs i ++ ((if 0 < i ∧ i % C = 0 then [47] else []) ++ [dg (xs.getD i 0)])
theorem bodyN_len {C : Nat} {xs : List Int} : ∀ i, (bodyN C xs i).length ≤ 2 * i
  | 0 => by simp [bodyN]
  | i + 1 => by
    have := bodyN_len (C := C) (xs := xs) i
    rw [bodyN, List.length_append, List.length_append, List.length_singleton]
    split <;> simp <;> omega
def rowsD (R C : Nat) (f : Nat → Nat → Int) : List (List UInt8) := (List.range R).map (fun i => digL (mkv C (f i)))
theorem rowsD_next {R C : Nat} {f : Nat → Nat → Int} : rowsD (R + 1) C f = rowsD R C f ++ [digL (mkv C (f R))] := by simp [rowsD, List.range_succ]
theorem join_snoc (x : List UInt8) (sep : List UInt8) : ∀ L : List (List UInt8), Lib.join (L ++ [x]) sep = if L = [] then x else Lib.join L sep ++ (sep ++ x)
  | [] => by simp [Lib.join_one]
  | y :: r => by
    rw [List.cons_append, Lib.join_cons, Lib.join_cons, if_neg (by simp)]
    simp [Lib.joinTail]
theorem body_row {R C : Nat} {f : Nat → Nat → Int} {i : Nat} (hi : i < R) : ∀ k, k ≤ C → bodyN C (mk R C f) (i * C + k) = bodyN C (mk R C f) (i * C) ++ (if k = 0 then [] else (if 0 < i then [47] else []) ++ digL (mkv k (f i)))
  | 0, _ => by simp
  | k + 1, hk => by
    have hkC : k < C := by omega
    rw [← Nat.add_assoc, bodyN, body_row hi k om, mk_get hi hkC, cell_mod hkC, if_neg (show ¬ k + 1 = 0 by omega), List.append_assoc]
    congr 1
    by_cases h : k = 0
    · subst h
      rw [if_pos rfl, List.nil_append]
      have e : (0 < i * C + 0 ∧ (0 : Nat) = 0) ↔ 0 < i := by
        constructor
        · rintro ⟨h, _⟩
          rcases Nat.eq_zero_or_pos i with h0 | h0
          · subst h0; simp at h
          · exact h0
        · intro h; exact ⟨Nat.mul_pos h om, rfl⟩
      by_cases hi0 : 0 < i
      · rw [if_pos (e.2 hi0), if_pos hi0]; rfl
      · rw [if_neg (fun h => hi0 (e.1 h)), if_neg hi0]; rfl
    · rw [if_neg h, if_neg (show ¬ (0 < i * C + k ∧ k = 0) from fun h' => h h'.2), List.nil_append, List.append_assoc]
      congr 1
      simp [digL, mkv, List.range_succ]
theorem body_all {R C : Nat} {f : Nat → Nat → Int} (hC : 0 < C) : ∀ i, i ≤ R → bodyN C (mk R C f) (i * C) = Lib.join (rowsD i C f) [47]
  | 0, _ => by rw [Nat.zero_mul]; rfl
  | i + 1, hi => by
    rw [Nat.succ_mul, body_row (show i < R by omega) C (Nat.le_refl _), body_all hC i om, if_neg om, rowsD_next, join_snoc]
    by_cases h : 0 < i
    · rw [if_pos h, if_neg (fun e => by have := congrArg List.length e; simp [rowsD] at this; omega)]
    · have : i = 0 := by omega
      subst this
      rw [if_neg om, if_pos (by rfl)]
      rfl
def fmtM (p : Int) (m : Mat) : List UInt8 := if MatP p m then [dg m.1, 120, dg m.2.1, 58] ++ bodyN m.2.1.toNat m.2.2 m.2.2.length else []
def fmtR (r : Rp) : List UInt8 := if RepP r then digL r.d ++ r.m.flatMap (fun m => 32 :: fmtM r.p m) else []
theorem fmtM_len (p : Int) (m : Mat) : (fmtM p m).length ≤ 132 := by
  unfold fmtM
  split
  · rename_i h
    have h1 := h.2.2.2.2.1
    have := bodyN_len (C := m.2.1.toNat) (xs := m.2.2) m.2.2.length
    simp only [List.length_append, List.length_cons, List.length_nil]
    omega
  · simp
theorem fmtP_len (p : Int) : ∀ ms : List Mat, (ms.flatMap (fun m => 32 :: fmtM p m)).length ≤ 133 * ms.length
  | [] => by simp
  | m :: ms => by
    have h1 := fmtM_len p m
    have h2 := fmtP_len p ms
    rw [List.flatMap_cons, List.length_append, List.length_cons, List.length_cons]
    omega
end Go.Proofs.YtdnhmnnccfoliaaGreatDoor

namespace Go.Proofs.YtdnhmnnccfoliaaGreatDoor
open Go.Lg Go.Proofs Go.RowKit Go.Shelf
def itoaRen : Ren := ⟨fun k => match k with | 129 => 232 | 171 => 155 | 243 => 181 | 246 => 199 | 283 => 219 | 284 => 220 | 285 => 221 | 286 => 222 | 317 => 231 | 318 => 233 | 319 => 234 | 320 => 235 | 337 => 238 | 338 => 239 | _ => 0,
  fun k => match k with | 0 => 0 | 2 => 2 | 3 => 3 | 4 => 4 | 5 => 5 | 9 => 9 | 20 => 20 | 37 => 38 | 46 => 180 | 51 => 209 | 53 => 204 | 171 => 203 | 173 => 207 | 212 => 226 | 213 => 227 | 232 => 235 | 233 => 236 | _ => 0,
  fun k => match k with | 17 => 5 | 18 => 6 | 19 => 7 | _ => 0⟩
theorem itoaLays : Lays.n171 Tryz.prog itoaRen := by
  constructor <;> first | kernel_rfl | (intro w; kernel_rfl) | rfl
def joinRen : Ren := ⟨fun k => match k with | 156 => 94 | 165 => 156 | 166 => 157 | 169 => 158 | 240 => 182 | 241 => 183 | 276 => 200 | 277 => 201 | _ => 0,
  fun k => match k with | 0 => 0 | 3 => 3 | 4 => 4 | 5 => 5 | 9 => 9 | 20 => 20 | 31 => 93 | 37 => 38 | 70 => 150 | 72 => 152 | 75 => 155 | 76 => 156 | 80 => 158 | 127 => 178 | 164 => 189 | _ => 0,
  fun k => match k with  | _ => 0⟩
theorem joinLays : Lays.n156 Tryz.prog joinRen := by
  constructor <;> first | kernel_rfl | (intro w; kernel_rfl) | rfl
theorem joinX72 : Builder.X72 Tryz.prog joinRen := by
  constructor <;> first | kernel_rfl | (intro w; kernel_rfl) | rfl | decide
theorem joinExtra : Builder.Extra Tryz.prog joinRen := { joinX72 with
  t5 := by kernel_rfl
  a5 := fun w => by kernel_rfl
  z5 := fun w => by kernel_rfl
  v5 := fun w => by kernel_rfl
  infoByte := by kernel_rfl
  cellsByte := by kernel_rfl
  sizeByte := by kernel_rfl
  neB5 := by decide }
theorem hp_below {w0 w : World} (h : Below w0.heap.size w0 w) : Hp [] w0 [] w := ⟨[], rfl, by simp, by simp, ⟨h.os, h.tape, h.output, h.size, fun k hk _ => h.block k hk⟩⟩
attribute [local irreducible] Code.wp wpList bodyPost Exit.then Exit.inBlock Hp Again Calls Y AT ResV QT Qn QI wpAny wpAnyQ
set_option maxRecDepth 20000
set_option maxHeartbeats 4000000
theorem itoa_ok {w : World} {n : Int} (h0 : 0 ≤ n) (h9 : n ≤ 9) : Does Tryz.prog 155 [iV n] w (fun r H => r = sV [dg n] ∧ H = []) := by
  obtain ⟨k, rfl⟩ : ∃ k : Nat, n = k := ⟨n.toNat, by omega⟩
  have e : Lib.decDigits k = [dg k] := by
    rw [Lib.decDigits, dif_pos om, dg, Int.toNat_natCast]
  have h := Any.strconv_Itoa_small itoaLays k om w
  rw [e] at h
  exact h.mono (by
    rintro e w' ⟨rfl, rfl⟩
    exact ⟨_, _, rfl, ⟨rfl, rfl⟩, Hp.nil⟩)
theorem join_ok {w : World} {bk o c : Nat} {xs : List (List UInt8)} {sep : List UInt8} (hcells : ∀ (j : Nat) (x : List UInt8), xs[j]? = some x → w.cell? ⟨bk, o + j, none⟩ = some (sV x)) (hbk : bk < w.heap.size) (hN : xs.length ≤ 1000000) (hcap : xs.length ≤ c) (hlen : (Lib.join xs sep).length ≤ 1000000) :
    Does Tryz.prog 94 [.slice (some ⟨bk, o, none⟩) xs.length c, sV sep] w (fun r H => r = sV (Lib.join xs sep) ∧ H = []) := by
  have em : ((xs.map (fun x => (ByteArray.mk x.toArray))).map (fun b => b.data.toList)) = xs := by
    rw [List.map_map]
    conv => rhs; rw [← List.map_id xs]
    exact List.map_congr_left (fun x _ => by simp)
  have h := Any.strings_Join joinLays joinExtra bk o c (xs.map (fun x => ⟨x.toArray⟩)) ⟨sep.toArray⟩ w (fun j x hx => by
    rw [List.getElem?_map] at hx
    cases hj : xs[j]? with
    | none => rw [hj] at hx; cases hx
    | some y =>
      rw [hj] at hx
      have := (Option.some.inj hx).symm
      subst this
      exact hcells j y hj) hbk (by rw [List.length_map]; omega) (by rw [List.length_map]; exact hcap) (by rw [em]; have : (ByteArray.mk sep.toArray).data.toList = sep := by simp
                                                                                                          rw [this]; omega)
  rw [em, List.length_map] at h
  have es : (ByteArray.mk sep.toArray).data.toList = sep := by simp
  rw [es] at h
  exact h.mono (by
    rintro e w' ⟨rfl, hb⟩
    exact ⟨_, _, rfl, ⟨rfl, rfl⟩, hp_below hb⟩)
theorem join_none {w : World} {a : Option Addr} {c : Nat} {sep : List UInt8} : Does Tryz.prog 94 [.slice a 0 c, sV sep] w (fun r H => r = sV [] ∧ H = []) :=
  (Any.strings_Join_none joinLays joinExtra a c ⟨sep.toArray⟩ w).mono (by
    rintro e w' ⟨rfl, rfl⟩
    exact ⟨_, _, rfl, ⟨rfl, rfl⟩, Hp.nil⟩)
end Go.Proofs.YtdnhmnnccfoliaaGreatDoor

namespace Go.Proofs.YtdnhmnnccfoliaaGreatDoor
open Go.Lg Go.Proofs Go.RowKit
attribute [local irreducible] Code.wp wpList bodyPost Exit.then Exit.inBlock Hp Again Calls Y AT ResV QT Qn QI wpAny wpAnyQ
set_option maxRecDepth 20000
set_option maxHeartbeats 4000000

/-! ### whole spaces -/
theorem rows_ok {w : World} {R C : Nat} {f : Nat → Nat → Int} {u : Value} (hr : Rd w (iT (mk R C f)) u) (hR : R ≤ 64) (hC : C ≤ 64) : Does Tryz.prog 91 [.agg #[iV R, iV C, u]] w (GivesRows (rowL C f R)) := by
  obtain ⟨a, c, rfl, hs, hc⟩ := rd_mk hr
  refine fn_enter Tryz.func91 rfl Tryz.ntmps91 rfl ?_
  repeat' (first | (show oL; first | refine sMv rfl rfl ?_ | refine sAs rfl rfl ?_ | refine sFd tabs rfl rfl rfl rfl ?_ | refine sLd 0 tabs rfl rfl rfl rfl rfl ?_ | (show oA (.box _ _); refine m_box rfl rfl (fun b hb => ?_))) | refine xNt ?_ | (show oC; first | refine c_seq ?_ | refine c_region ?_ | refine c_block ?_))
  refine c_loopH (α := Nat × Option Addr × Nat) [1, 6] (fun q => [(3, .slice q.2.1 q.1 q.2.2), (7, .int .i64 q.1)]) (fun q => q.1 ≤ R) (fun q => [.own (rowsT 22 (rowL C f q.1)) (.slice q.2.1 q.1 q.2.2), .blk b #[iV R, iV C, .slice a (R * C) c] 41]) (fun q => R - q.1) (0, none, 0) rfl sB ?_ ?_ ?_
  · exact Nat.zero_le _
  · exact fun w' c' => Hp.nilp _ _ c'
  · rintro ⟨i, al, cl⟩ hi
    simp only at hi ⊢
    by_cases hiR : i < R
    · repeat' (first | (show oL; first | refine sMv rfl rfl ?_ | refine sAs rfl rfl ?_ | refine sLb 1 tabs rfl rfl rfl rfl rfl ?_ | (show oA (.binOp _ _ _ _ _); first | refine sAd rfl rfl om rfl ?_ | refine sLs rfl rfl rfl ?_) | (show oA (.call _); first | (refine m_call (ent_of Tryz.func154 kr rfl) rfl rfl (fun w c => rowg_ok om om hiR hc) ?_; rintro v H' ⟨rfl, rfl⟩) | (refine m_call (ent_of Tryz.func138 kr rfl) rfl rfl (fun w c => Clone_ok (row_rds (c.rd hr) hiR) (by rw [mkv_length]; omega)) ?_; rw [mkv_length]; rintro v H' ⟨az, cz, rfl, hsz, rfl⟩) | refine m_push1 [] 0 0 tabs (m' := i) rfl rfl rfl rfl rfl rfl rfl (by simp [rowT_map]) (by simp [rowT_map]; omega) (by decide) rfl rfl (fun a4 c4 => ?_)) | (show oA (.buildSlice _ _ _); refine m_build1 tabs (us := [.slice az C cz]) rfl rfl rfl rfl (by decide) rfl (fun g2 hg2 => ?_))) | (show oN; first | refine c_nil (x_then ?_) | refine c_nil ?_) | (show oC; first | refine c_seq ?_ | refine c_region ?_ | refine c_skip (x_then ?_) | refine c_block ?_ | refine c_ift rfl aO ?_) | (show AT _ _ _ _; first | refine x_then ?_ | refine x_blk ?_))
      refine x_nx (i + 1, a4, c4) sB (by simp only; omega) (fun w' c' => ?_) (by simp only; omega)
      have e0 : (rowL C f i).flatMap rowT ++ (List.map T.c [] ++ [iT (mkv C (f i))]) = (rowL C f (i + 1)).flatMap rowT := by rw [rowL_next, List.flatMap_append]; rfl
      rw [e0] at c'
      exact c'
    · have : i = R := by omega
      subst this
      refine AT.fact (rows_sl 0 rfl) (fun hsl => ?_)
      rw [rowL_length] at hsl
      repeat' (first | (show oL; first | refine sMv rfl rfl ?_ | refine sAs rfl rfl ?_ | refine sLs rfl rfl rfl ?_) | refine xNt ?_ | (show oC; first | refine c_seq ?_ | refine c_region ?_ | refine c_ret ?_ | refine c_exit ?_ | refine c_iff rfl nN ?_) | (show AT _ _ _ _; first | refine x_then ?_ | refine x_then_exit ?_ | refine x_blk_exit rfl ?_))
      exact x_ret1 Tryz.results91 (res_tmp rfl) (fun w' c' => ⟨_, _, rfl, ⟨al, cl, by rw [rowL_length], by rw [rowL_length]; exact hsl, by rw [rowL_length]⟩, c'.sub (.cons_cons _ (List.nil_sublist _))⟩)
end Go.Proofs.YtdnhmnnccfoliaaGreatDoor
