import Derived.Shelf.Strconv.Itoa3
import Derived.Shelf.Strings.OnBuilder
import Derived.Test.YtljgmmmgnfgbhaaDoorFmpqfr
import Derived.Test.YtljgmmmgnfgbhaaDoorStrqfr
namespace Go.Proofs.YtljgmmmgnfgbhaaDoor
open Go.Lg Go.Proofs Go.RowKit Go.Shelf
def itoaRen : Ren := ⟨fun k => match k with | 129 => 64 | 171 => 46 | 243 => 52 | 246 => 56 | 283 => 59 | 284 => 60 | 285 => 61 | 286 => 62 | 317 => 63 | 318 => 65 | 319 => 66 | 320 => 67 | 337 => 68 | 338 => 69 | _ => 0,
  fun k => match k with | 0 => 0 | 2 => 2 | 3 => 3 | 4 => 4 | 5 => 5 | 9 => 9 | 20 => 20 | 37 => 57 | 46 => 97 | 51 => 95 | 53 => 87 | 171 => 86 | 173 => 90 | 212 => 94 | 213 => 96 | 232 => 100 | 233 => 101 | _ => 0,
  fun k => match k with | 17 => 1 | 18 => 2 | 19 => 3 | _ => 0⟩
theorem itoaLays : Lays.n171 Tryd.prog itoaRen := by
  constructor <;> first | kernel_rfl | (intro w; kernel_rfl) | rfl
def joinRen : Ren := ⟨fun k => match k with | 156 => 34 | 165 => 47 | 166 => 48 | 169 => 49 | 240 => 53 | 241 => 54 | 276 => 57 | 277 => 58 | _ => 0,
  fun k => match k with | 0 => 0 | 3 => 3 | 4 => 4 | 5 => 5 | 9 => 9 | 20 => 20 | 31 => 59 | 37 => 57 | 70 => 70 | 72 => 72 | 75 => 75 | 76 => 76 | 80 => 78 | 127 => 80 | 164 => 83 | _ => 0,
  fun k => match k with  | _ => 0⟩
theorem joinLays : Lays.n156 Tryd.prog joinRen := by
  constructor <;> first | kernel_rfl | (intro w; kernel_rfl) | rfl
theorem joinX72 : Builder.X72 Tryd.prog joinRen := by
  constructor <;> first | kernel_rfl | (intro w; kernel_rfl) | rfl | decide
theorem joinExtra : Builder.Extra Tryd.prog joinRen := { joinX72 with
  t5 := by kernel_rfl
  a5 := fun w => by kernel_rfl
  z5 := fun w => by kernel_rfl
  v5 := fun w => by kernel_rfl
  infoByte := by kernel_rfl
  cellsByte := by kernel_rfl
  sizeByte := by kernel_rfl
  neB5 := by decide }
theorem hp_below {w0 w : World} (h : Below w0.heap.size w0 w) : Hp [] w0 [] w := ⟨[], rfl, by simp, by simp, ⟨h.os, h.tape, h.output, h.size, fun k hk _ => h.block k hk⟩⟩
attribute [local irreducible] Code.wp wpList bodyPost Exit.then Exit.inBlock Hp Again Calls Y AT ResV QT Qn QI wpAny wpAnyQ
set_option maxRecDepth 20000
set_option maxHeartbeats 4000000
theorem itoa_ok {w : World} {n : Int} (h0 : 0 ≤ n) (h9 : n ≤ 9) : Does Tryd.prog 46 [iV n] w (fun r H => r = sV [dg n] ∧ H = []) := by
  obtain ⟨k, rfl⟩ : ∃ k : Nat, n = k := ⟨n.toNat, by omega⟩
  have e : Lib.decDigits k = [dg k] := by
    rw [Lib.decDigits, dif_pos (by omega), dg, Int.toNat_natCast]
  have h := Any.strconv_Itoa_small itoaLays k (by omega) w
  rw [e] at h
  exact h.mono (by
    rintro e w' ⟨rfl, rfl⟩
    exact ⟨_, _, rfl, ⟨rfl, rfl⟩, Hp.nil⟩)
theorem join_ok {w : World} {bk o c : Nat} {xs : List (List UInt8)} {sep : List UInt8} (hcells : ∀ (j : Nat) (x : List UInt8), xs[j]? = some x → w.cell? ⟨bk, o + j, none⟩ = some (sV x)) (hbk : bk < w.heap.size) (hN : xs.length ≤ 1000000) (hcap : xs.length ≤ c) (hlen : (Lib.join xs sep).length ≤ 1000000) :
    Does Tryd.prog 34 [.slice (some ⟨bk, o, none⟩) xs.length c, sV sep] w (fun r H => r = sV (Lib.join xs sep) ∧ H = []) := by
  have em : ((xs.map (fun x => (ByteArray.mk x.toArray))).map (fun b => b.data.toList)) = xs := by
    rw [List.map_map]
    conv => rhs; rw [← List.map_id xs]
    exact List.map_congr_left (fun x _ => by simp)
  have h := Any.strings_Join joinLays joinExtra bk o c (xs.map (fun x => ⟨x.toArray⟩)) ⟨sep.toArray⟩ w (fun j x hx => by
    rw [List.getElem?_map] at hx
    cases hj : xs[j]? with
    | none => rw [hj] at hx; cases hx
    | some y =>
      rw [hj] at hx
      have := (Option.some.inj hx).symm
      subst this
      exact hcells j y hj) hbk (by rw [List.length_map]; omega) (by rw [List.length_map]; exact hcap) (by rw [em]; have : (ByteArray.mk sep.toArray).data.toList = sep := by simp
                                                                                                          rw [this]; omega)
  rw [em, List.length_map] at h
  have es : (ByteArray.mk sep.toArray).data.toList = sep := by simp
  rw [es] at h
  exact h.mono (by
    rintro e w' ⟨rfl, hb⟩
    exact ⟨_, _, rfl, ⟨rfl, rfl⟩, hp_below hb⟩)
theorem join_none {w : World} {a : Option Addr} {c : Nat} {sep : List UInt8} : Does Tryd.prog 34 [.slice a 0 c, sV sep] w (fun r H => r = sV [] ∧ H = []) :=
  (Any.strings_Join_none joinLays joinExtra a c ⟨sep.toArray⟩ w).mono (by
    rintro e w' ⟨rfl, rfl⟩
    exact ⟨_, _, rfl, ⟨rfl, rfl⟩, Hp.nil⟩)
end Go.Proofs.YtljgmmmgnfgbhaaDoor
