import Derived.Shelf.Strconv.ErrVarAll
import Derived.Shelf.Strconv.Itoa3
import Derived.Shelf.Strings.Cut
import Derived.Shelf.Strings.Split
import Derived.Test.YtdnhmnnccfoliaaGreatDoorAlgqrp
import Derived.Test.YtdnhmnnccfoliaaGreatDoorStrqrp
import Derived.Test.YtdnhmnnccfoliaaGreatDoorTabqrp
import Derived.Test.YtdnhmnnccfoliaaGreatDoorWhoqrp
namespace Go.Proofs.YtdnhmnnccfoliaaGreatDoor
open Go.Lg Go.Proofs Go.RowKit Go.Shelf

def atoiR : Ren := ⟨fun k => match k with | 129 => 232 | 171 => 155 | 172 => 160 | 205 => 227 | 243 => 181 | 244 => 185 | 245 => 186 | 246 => 199 | 247 => 206 | 279 => 207 | 280 => 208 | 281 => 209 | 282 => 210 | 283 => 219 | 284 => 220 | 285 => 221 | 286 => 222 | 287 => 225 | 316 => 226 | 317 => 231 | 318 => 233 | 319 => 234 | 320 => 235 | 321 => 236 | 322 => 237 | 337 => 238 | 338 => 239 | _ => 0,
  fun k => match k with | 0 => 0 | 2 => 2 | 3 => 3 | 4 => 4 | 5 => 5 | 9 => 9 | 20 => 20 | 21 => 21 | 37 => 38 | 46 => 180 | 51 => 209 | 53 => 204 | 75 => 155 | 76 => 156 | 80 => 158 | 85 => 194 | 127 => 178 | 143 => 231 | 145 => 233 | 167 => 193 | 168 => 196 | 171 => 203 | 173 => 207 | 175 => 212 | 210 => 216 | 212 => 226 | 213 => 227 | 232 => 235 | 233 => 236 | _ => 0,
  fun k => match k with | 15 => 1 | 16 => 2 | 17 => 5 | 18 => 6 | 19 => 7 | _ => 0⟩
def itoaR : Ren := ⟨fun k => match k with | 129 => 232 | 171 => 155 | 243 => 181 | 246 => 199 | 283 => 219 | 284 => 220 | 285 => 221 | 286 => 222 | 317 => 231 | 318 => 233 | 319 => 234 | 320 => 235 | 337 => 238 | 338 => 239 | _ => 0,
  fun k => match k with | 0 => 0 | 2 => 2 | 3 => 3 | 4 => 4 | 5 => 5 | 9 => 9 | 20 => 20 | 37 => 38 | 46 => 180 | 51 => 209 | 53 => 204 | 171 => 203 | 173 => 207 | 212 => 226 | 213 => 227 | 232 => 235 | 233 => 236 | _ => 0,
  fun k => match k with | 17 => 5 | 18 => 6 | 19 => 7 | _ => 0⟩
def cutR : Ren := ⟨fun k => match k with | 145 => 95 | 217 => 202 | 219 => 184 | 220 => 159 | 224 => 204 | 225 => 203 | 266 => 223 | 267 => 205 | 314 => 224 | _ => 0,
  fun k => match k with | 3 => 3 | 4 => 4 | 5 => 5 | 9 => 9 | 46 => 180 | 51 => 209 | 59 => 108 | 146 => 210 | _ => 0,
  fun k => match k with | 1 => 0 | _ => 0⟩
def splitR : Ren := ⟨fun k => match k with | 138 => 179 | 143 => 180 | 146 => 80 | 195 => 196 | 197 => 197 | 217 => 202 | 218 => 198 | 219 => 184 | 221 => 152 | 224 => 204 | 225 => 203 | 260 => 218 | 266 => 223 | 267 => 205 | 268 => 178 | 314 => 224 | _ => 0,
  fun k => match k with | 0 => 0 | 3 => 3 | 4 => 4 | 5 => 5 | 9 => 9 | 21 => 21 | 31 => 93 | 46 => 180 | 51 => 209 | 105 => 185 | 119 => 221 | 138 => 223 | 139 => 224 | 146 => 210 | _ => 0,
  fun k => match k with | 1 => 0 | 3 => 3 | 4 => 4 | _ => 0⟩
theorem atoiL0 : Lays.n172 Tryz.prog atoiR := by
  constructor <;> first | kernel_rfl | (intro w; kernel_rfl) | rfl
theorem atoiL1 : LaysM.n172 Tryz.prog atoiR := by
  constructor <;> first | exact atoiL0 | kernel_rfl | (intro w; kernel_rfl) | rfl
theorem atoiL : LaysC.n172 Tryz.prog atoiR := by
  constructor <;> first | exact atoiL1 | kernel_rfl | (intro w; kernel_rfl) | rfl
theorem itoaL0 : Lays.n171 Tryz.prog itoaR := by
  constructor <;> first | kernel_rfl | (intro w; kernel_rfl) | rfl
theorem itoaL : LaysM.n171 Tryz.prog itoaR := by
  constructor <;> first | exact itoaL0 | kernel_rfl | (intro w; kernel_rfl) | rfl
theorem cutLys : Lays.n145 Tryz.prog cutR := by
  constructor <;> first | kernel_rfl | (intro w; kernel_rfl) | rfl
theorem splitLys : Lays.n146 Tryz.prog splitR := by
  constructor <;> first | kernel_rfl | (intro w; kernel_rfl) | rfl
structure Glb (w : World) : Prop where
  m : ∃ m, w.cell? ⟨0, 0, none⟩ = some (.int .i64 m)
  s : ∃ tp p, w.var? Tryz.prog "strconv.ErrSyntax" = some #[.iface tp p]
  r : ∃ tp p, w.var? Tryz.prog "strconv.ErrRange" = some #[.iface tp p]
  t : Lib.TabIs Tryz.prog w "internal/strconv.uint64pow10" .u64 Lib.pow10Tab
theorem var_mono {P : Program} {w0 w : World} {H : List HE} (c : Hp [] w0 H w) {nm : String} {cs : Array Value} (h : w0.var? P nm = some cs) : w.var? P nm = some cs := by
  unfold World.var? at h ⊢
  cases hg : P.globalNamed nm with
  | none => rw [hg] at h; cases h
  | some g =>
    rw [hg] at h
    simp only [Option.bind_some] at h ⊢
    cases hb : w0.heap[g]? with
    | none => rw [hb] at h; cases h
    | some o =>
      rw [hb] at h
      have := c.kept.block g (Array.getElem?_eq_some_iff.1 hb).1 (by simp)
      rw [this, hb]
      exact h
theorem Glb.mono {w0 w : World} {H : List HE} (c : Hp [] w0 H w) (h : Glb w0) : Glb w := by
  obtain ⟨⟨m, hm⟩, ⟨a, b, hs⟩, ⟨a', b', hr⟩, ht⟩ := h
  exact ⟨⟨m, c.cell hm⟩, ⟨a, b, var_mono c hs⟩, ⟨a', b', var_mono c hr⟩, var_mono c ht⟩
theorem ba_of (s : List UInt8) : (ByteArray.mk s.toArray).data.toList = s := by simp
theorem hp_bw (w : World) (t : Nat) (s : ByteArray) : Hp [] w [] (Lib.bytesWorld w t s) := hp_below ⟨rfl, rfl, rfl, by rw [Lib.bytesWorld_size]; omega, fun j hj => Lib.bytesWorld_at_old w t s j hj⟩
theorem hp_grow (w : World) (k : Nat) (os : Array Obj) : Hp [] w [] (Go.Sort.grow (w.drewN k) os) := hp_below ⟨rfl, rfl, rfl, by
  show w.heap.size ≤ (w.heap ++ os).size
  rw [Array.size_append]; omega, fun j hj => by
  show (w.heap ++ os)[j]? = _
  rw [Array.getElem?_append_left hj]⟩
theorem hp_drewN (w : World) (k : Nat) : Hp [] w [] (w.drewN k) := hp_below ⟨rfl, rfl, rfl, Nat.le_refl _, fun _ _ => rfl⟩
theorem cut_ok {w : World} {s d : List UInt8} (hG : Glb w) (hs : s.length ≤ 2000000) : Does Tryz.prog 95 [sV s, sV d] w (fun r H => r = .tuple #[sV (Lib.cut s d).1, sV (Lib.cut s d).2.1, .bool (Lib.cut s d).2.2] ∧ H = []) := by
  obtain ⟨m, hm⟩ := hG.m
  have h := Any.strings_Cut cutLys ⟨s.toArray⟩ ⟨d.toArray⟩ m w (by show s.toArray.size < _; rw [List.size_toArray]; omega) hm
  simp only [ba_of] at h
  exact h.mono (by
    rintro e w' ⟨rfl, n, rfl⟩
    exact ⟨_, _, rfl, ⟨rfl, rfl⟩, hp_drewN w n⟩)
theorem itoaG_ok {w : World} {n : Int} (hG : Glb w) (h0 : -9223372036854775808 ≤ n) (h1 : n ≤ 9223372036854775807) : Does Tryz.prog 155 [iV n] w (fun r H => r = sV (Lib.itoa n) ∧ H = []) := by
  exact (Any.strconv_Itoa itoaL n h0 h1 w hG.t).mono (by
    rintro e w' ⟨rfl, k, os, rfl⟩
    exact ⟨_, _, rfl, ⟨rfl, rfl⟩, hp_grow w k os⟩)
theorem atoi_ok {w : World} {s : List UInt8} (hG : Glb w) (hs : s.length ≤ 2000000) : Does Tryz.prog 160 [sV s] w (fun r H => ∃ (v : Int) (e : Value), r = .tuple #[iV v, e] ∧ ((Lib.atoiAll s = .ok v ∧ e = .nilIface) ∨ ((∀ v, Lib.atoiAll s ≠ .ok v) ∧ ∃ t a, e = .iface t (.pointer (some ⟨a, 0, none⟩)))) ∧ H = []) := by
  obtain ⟨_, ⟨a, b, h1⟩, ⟨a', b', h2⟩, _⟩ := hG
  cases hc : Lib.atoiAll s
  · rename_i v
    have h := Any.strconv_Atoi_ok atoiL ⟨s.toArray⟩ (by show s.toArray.size ≤ _; rw [List.size_toArray]; omega) v (by rw [ba_of]; exact hc) w
    exact h.mono (by
      rintro e w' ⟨rfl, hw⟩
      refine ⟨_, [], rfl, ⟨v, _, rfl, .inl ⟨rfl, rfl⟩, rfl⟩, ?_⟩
      rcases hw with rfl | ⟨t, rfl⟩
      · exact Hp.nil
      · exact hp_bw _ _ _)
  · skip
    have h := Any.strconv_Atoi_syntax_var atoiL ⟨s.toArray⟩ (by show s.toArray.size ≤ _; rw [List.size_toArray]; omega) (by rw [ba_of]; exact hc) a b w h1
    exact h.mono (by
      rintro e w' ⟨N, rfl, _, _, hb⟩
      exact ⟨_, [], rfl, ⟨_, _, rfl, .inr ⟨(fun v hv => by cases hv), _, _, rfl⟩, rfl⟩, hp_below hb⟩)
  · skip
    have h := Any.strconv_Atoi_range_var atoiL ⟨s.toArray⟩ (by show s.toArray.size ≤ _; rw [List.size_toArray]; omega) (by rw [ba_of]; exact hc) a' b' w h2
    exact h.mono (by
      rintro e w' ⟨N, rfl, _, _, hb⟩
      exact ⟨_, [], rfl, ⟨_, _, rfl, .inr ⟨(fun v hv => by cases hv), _, _, rfl⟩, rfl⟩, hp_below hb⟩)
end Go.Proofs.YtdnhmnnccfoliaaGreatDoor
