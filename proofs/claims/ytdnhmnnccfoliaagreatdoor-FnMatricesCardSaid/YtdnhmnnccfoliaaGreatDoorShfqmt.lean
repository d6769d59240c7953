import Derived.Shelf.Strconv.Itoa3
import Derived.Shelf.Strings.OnBuilder
import Derived.Test.YtdnhmnnccfoliaaGreatDoorFmpqmt
import Derived.Test.YtdnhmnnccfoliaaGreatDoorStrqmt
namespace Go.Proofs.YtdnhmnnccfoliaaGreatDoor
open Go.Lg Go.Proofs Go.RowKit Go.Shelf
def itoaRen : Ren := ⟨fun k => match k with | 129 => 232 | 171 => 155 | 243 => 181 | 246 => 199 | 283 => 219 | 284 => 220 | 285 => 221 | 286 => 222 | 317 => 231 | 318 => 233 | 319 => 234 | 320 => 235 | 337 => 238 | 338 => 239 | _ => 0,
  fun k => match k with | 0 => 0 | 2 => 2 | 3 => 3 | 4 => 4 | 5 => 5 | 9 => 9 | 20 => 20 | 37 => 38 | 46 => 180 | 51 => 209 | 53 => 204 | 171 => 203 | 173 => 207 | 212 => 226 | 213 => 227 | 232 => 235 | 233 => 236 | _ => 0,
  fun k => match k with | 17 => 5 | 18 => 6 | 19 => 7 | _ => 0⟩
theorem itoaLays : Lays.n171 Tryz.prog itoaRen := by
  constructor <;> first | kernel_rfl | (intro w; kernel_rfl) | rfl
def joinRen : Ren := ⟨fun k => match k with | 156 => 94 | 165 => 156 | 166 => 157 | 169 => 158 | 240 => 182 | 241 => 183 | 276 => 200 | 277 => 201 | _ => 0,
  fun k => match k with | 0 => 0 | 3 => 3 | 4 => 4 | 5 => 5 | 9 => 9 | 20 => 20 | 31 => 93 | 37 => 38 | 70 => 150 | 72 => 152 | 75 => 155 | 76 => 156 | 80 => 158 | 127 => 178 | 164 => 189 | _ => 0,
  fun k => match k with  | _ => 0⟩
theorem joinLays : Lays.n156 Tryz.prog joinRen := by
  constructor <;> first | kernel_rfl | (intro w; kernel_rfl) | rfl
theorem joinX72 : Builder.X72 Tryz.prog joinRen := by
  constructor <;> first | kernel_rfl | (intro w; kernel_rfl) | rfl | decide
theorem joinExtra : Builder.Extra Tryz.prog joinRen := { joinX72 with
  t5 := by kernel_rfl
  a5 := fun w => by kernel_rfl
  z5 := fun w => by kernel_rfl
  v5 := fun w => by kernel_rfl
  infoByte := by kernel_rfl
  cellsByte := by kernel_rfl
  sizeByte := by kernel_rfl
  neB5 := by decide }
theorem hp_below {w0 w : World} (h : Below w0.heap.size w0 w) : Hp [] w0 [] w := ⟨[], rfl, by simp, by simp, ⟨h.os, h.tape, h.output, h.size, fun k hk _ => h.block k hk⟩⟩
attribute [local irreducible] Code.wp wpList bodyPost Exit.then Exit.inBlock Hp Again Calls Y AT ResV QT Qn QI wpAny wpAnyQ
set_option maxRecDepth 20000
set_option maxHeartbeats 4000000
theorem itoa_ok {w : World} {n : Int} (h0 : 0 ≤ n) (h9 : n ≤ 9) : Does Tryz.prog 155 [iV n] w (fun r H => r = sV [dg n] ∧ H = []) := by
  obtain ⟨k, rfl⟩ : ∃ k : Nat, n = k := ⟨n.toNat, by omega⟩
  have e : Lib.decDigits k = [dg k] := by
    rw [Lib.decDigits, dif_pos om, dg, Int.toNat_natCast]
  have h := Any.strconv_Itoa_small itoaLays k om w
  rw [e] at h
  exact h.mono (by
    rintro e w' ⟨rfl, rfl⟩
    exact ⟨_, _, rfl, ⟨rfl, rfl⟩, Hp.nil⟩)
theorem join_ok {w : World} {bk o c : Nat} {xs : List (List UInt8)} {sep : List UInt8} (hcells : ∀ (j : Nat) (x : List UInt8), xs[j]? = some x → w.cell? ⟨bk, o + j, none⟩ = some (sV x)) (hbk : bk < w.heap.size) (hN : xs.length ≤ 1000000) (hcap : xs.length ≤ c) (hlen : (Lib.join xs sep).length ≤ 1000000) :
    Does Tryz.prog 94 [.slice (some ⟨bk, o, none⟩) xs.length c, sV sep] w (fun r H => r = sV (Lib.join xs sep) ∧ H = []) := by
  have em : ((xs.map (fun x => (ByteArray.mk x.toArray))).map (fun b => b.data.toList)) = xs := by
    rw [List.map_map]
    conv => rhs; rw [← List.map_id xs]
    exact List.map_congr_left (fun x _ => by simp)
  have h := Any.strings_Join joinLays joinExtra bk o c (xs.map (fun x => ⟨x.toArray⟩)) ⟨sep.toArray⟩ w (fun j x hx => by
    rw [List.getElem?_map] at hx
    cases hj : xs[j]? with
    | none => rw [hj] at hx; cases hx
    | some y =>
      rw [hj] at hx
      have := (Option.some.inj hx).symm
      subst this
      exact hcells j y hj) hbk (by rw [List.length_map]; omega) (by rw [List.length_map]; exact hcap) (by rw [em]; have : (ByteArray.mk sep.toArray).data.toList = sep := by simp
                                                                                                          rw [this]; omega)
  rw [em, List.length_map] at h
  have es : (ByteArray.mk sep.toArray).data.toList = sep := by simp
  rw [es] at h
  exact h.mono (by
    rintro e w' ⟨rfl, hb⟩
    exact ⟨_, _, rfl, ⟨rfl, rfl⟩, hp_below hb⟩)
theorem join_none {w : World} {a : Option Addr} {c : Nat} {sep : List UInt8} : Does Tryz.prog 94 [.slice a 0 c, sV sep] w (fun r H => r = sV [] ∧ H = []) :=
  (Any.strings_Join_none joinLays joinExtra a c ⟨sep.toArray⟩ w).mono (by
    rintro e w' ⟨rfl, rfl⟩
    exact ⟨_, _, rfl, ⟨rfl, rfl⟩, Hp.nil⟩)
end Go.Proofs.YtdnhmnnccfoliaaGreatDoor
