import Derived.Laws.Shifts
import Derived.Test.YtcplmeajmpkpkaaGreatLEqsp
import Derived.Test.YtcplmeajmpkpkaaGreatOpnqsp
import Derived.Test.YtcplmeajmpkpkaaGreatStrqsp
namespace Go.Lg
open Go.RowKit
def andI (p q : Int) : Int := IntKind.i64.wrap ((BitVec.ofInt 64 p &&& BitVec.ofInt 64 q).toNat : Int)
def xorI (p q : Int) : Int := IntKind.i64.wrap ((BitVec.ofInt 64 p ^^^ BitVec.ofInt 64 q).toNat : Int)
def shrI (p q : Int) : Int := p / 2 ^ min q.toNat 64
theorem andI_255 (p : Int) : 0 ≤ andI p 255 ∧ andI p 255 ≤ 255 := by
  have h : (BitVec.ofInt 64 p &&& BitVec.ofInt 64 255).toNat ≤ 255 := by
    rw [BitVec.toNat_and]
    exact Nat.and_le_right
  unfold andI
  rw [IntKind.wrap_i64]
  omega
section
variable {P : Program} {n : Nat} {C : World → Prop} {s : List (Nat × Value)}
variable {ty t t' : Nat} {x y : Operand} {p q : Int} {v0 v2 v : Value} {x0 x2 : Operand}
theorem y_and [Dfs] (hx : ev s x = some (.int .i64 p)) (hy : ev s y = some (.int .i64 q)) : Y P n C s (.binOp .and t x y t') ty (.int .i64 (andI p q)) := fun a w f c d pos af g => by
  simp [execOp, f.ev hx, f.ev hy, eqGuard, binOp, Op.intBits, andI, IntKind.bits]
  exact congrArg (fun k : Nat => IntKind.i64.wrap (k : Int)) (show (BitVec.ofInt 64 p &&& BitVec.ofInt 64 q).toNat = _ by rw [BitVec.toNat_and, BitVec.toNat_ofInt, BitVec.toNat_ofInt]; rfl)
theorem y_xor [Dfs] (hx : ev s x = some (.int .i64 p)) (hy : ev s y = some (.int .i64 q)) : Y P n C s (.binOp .xor t x y t') ty (.int .i64 (xorI p q)) := fun a w f c d pos af g => by
  simp [execOp, f.ev hx, f.ev hy, eqGuard, binOp, Op.intBits, xorI, IntKind.bits]
  exact congrArg (fun k : Nat => IntKind.i64.wrap (k : Int)) (show (BitVec.ofInt 64 p ^^^ BitVec.ofInt 64 q).toNat = _ by rw [BitVec.toNat_xor, BitVec.toNat_ofInt, BitVec.toNat_ofInt]; rfl)
theorem y_shr [Dfs] {k : IntKind} (hx : ev s x = some (.int .i64 p)) (hy : ev s y = some (.int k q)) (hq : 0 ≤ q) : Y P n C s (.binOp .shr t x y t') ty (.int .i64 (shrI p q)) := fun a w f c d pos af g => by
  simp [execOp, f.ev hx, f.ev hy, eqGuard, binOp, shift_shr_any _ _ _ _ hq, shrI, IntKind.bits]
theorem y_nilc [Dfs] {a : Addr} (hx : ev s x = some (.pointer (some a))) : Y P n C s (.nilCheck x) ty (.pointer (some a)) := fun aa w f c d pos af g => by
  simp [execOp, f.ev hx]
theorem y_bld02 (hb : ∀ w, (Instr.build t #[(0, v0), (2, v2)]).run P w = .ok v w) (h0 : ev s x0 = some v0) (h2 : ev s x2 = some v2) : Y P n C s (.build t #[(0, x0), (2, x2)]) ty v := fun a w f c d pos af g => by
  simp [execOp, f.ev h0, f.ev h2, hb]
end
section
variable {P : Program} {n : Nat} {M : List Nat} {w0 : World} {H : List HE} {s : List (Nat × Value)} {Q : Exit → Act → World → Prop} {ops : Array Oper} {rest : List Oper}
variable {d ty t t' : Nat} {pos : String} {af : Array Edge} {v : Value} {x y : Operand}
theorem m_buildc (T0 : Tabs P) (us : List Value) {e b : Nat} {z : List Value} {parts : Array (Nat × Operand)} {m : Nat} (ht : lk T0.sl t = some (e, 1, b, z)) (hp : evs s (parts.toList.map (·.2)) = some us) (hi : parts.toList.map (·.1) = List.range m) (hm : Nat.ble m 64 = true) (hm0 : Nat.blt 0 m = true) (hm1 : us.length = m) (hd : Nat.blt d n = true) (hc : ∀ u ∈ us, u.cells = #[u])
    (h : ∀ g, w0.heap.size ≤ g → AT n (Hp M w0 (.own (.s e 1 (us.map T.c)) (.slice (some ⟨g, 0, none⟩) m m) :: H)) ((d, .slice (some ⟨g, 0, none⟩) m m) :: s) (wpList P ops Q rest)) :
    AT n (Hp M w0 H) s (wpList P ops Q (⟨some d, .buildSlice t m parts, ty, pos, af, none⟩ :: rest)) :=
  m_buildn T0 ht hp hi hc hm hm0 hd (fun g hg => AT.cls (fun w c => by
    refine c.say (H1 := [.own (.s e 1 (us.map T.c)) (.slice (some ⟨g, 0, none⟩) m m)]) (fun f hf => ?_)
    obtain ⟨h1, rfl⟩ := hf
    refine ⟨[g], List.Perm.refl _, [g], [], rfl, ?_, rfl⟩
    have hle := Nat.le_of_ble_eq_true hm
    simp only [HE.sat, Own]
    refine .inr ⟨g, m, m, _, [], rfl, h1, by simp [hm1], Nat.le_refl _, by unfold maxLen; omega, by simp [hm1], ?_, rfl⟩
    rw [List.toList_toArray, Nat.mul_one, List.take_of_length_le om]
    exact OwnL.consts _) (h g hg))
theorem m_buildi (T0 : Tabs P) (xs : List Int) {e b : Nat} {z : List Value} {parts : Array (Nat × Operand)} {m : Nat} (ht : lk T0.sl t = some (e, 1, b, z)) (hp : evs s (parts.toList.map (·.2)) = some (ic xs)) (hi : parts.toList.map (·.1) = List.range m) (hm : Nat.ble m 64 = true) (hm0 : Nat.blt 0 m = true) (hm1 : xs.length = m) (hd : Nat.blt d n = true)
    (h : ∀ g, w0.heap.size ≤ g → AT n (Hp M w0 (.own (ints e xs) (.slice (some ⟨g, 0, none⟩) m m) :: H)) ((d, .slice (some ⟨g, 0, none⟩) m m) :: s) (wpList P ops Q rest)) :
    AT n (Hp M w0 H) s (wpList P ops Q (⟨some d, .buildSlice t m parts, ty, pos, af, none⟩ :: rest)) :=
  m_buildc T0 (ic xs) ht hp hi hm hm0 (by simpa [ic] using hm1) hd (fun u hu => by
    obtain ⟨q, _, rfl⟩ := List.mem_map.1 hu
    rfl) (fun g hg => by
      have := h g hg
      rw [ints, it_eq] at this
      exact this)
end
end Go.Lg
namespace Go.Proofs.YtcplmeajmpkpkaaGreat
open Go.Lg Go.Proofs Go.RowKit
attribute [local irreducible] Code.wp wpList bodyPost Exit.then Exit.inBlock Hp Again Calls Y AT ResV QT Qn QI wpAny wpAnyQ
set_option maxRecDepth 20000
set_option maxHeartbeats 4000000

def byT (xs : List Int) : T := .s 5 1 (xs.map (fun x => T.c (.int .u8 x)))
def vlen : Value → Nat
  | .slice _ n _ => n
  | _ => 0
abbrev cu (u : Value) (b i : Nat) (h : Int) : HE := .blk b #[u, iV i, iV h] 95
abbrev cuV (b : Nat) : Value := .pointer (some ⟨b, 0, none⟩)
def Byt (xs : List Int) : Prop := ∀ j, j < xs.length → 0 ≤ xs.getD j 0 ∧ xs.getD j 0 ≤ 255
def CodeF (w : World) (M : List Nat) (u : Value) : Prop := ∃ xs : List Int, RdOut w M (byT xs) u ∧ Byt xs ∧ xs.length ≤ 1048576
theorem CodeF.open {w : World} {M : List Nat} {u : Value} (h : CodeF w M u) : ∃ (n : Nat) (a : Option Addr) (cap : Nat) (xs : List Int), u = .slice a n cap ∧ SA a n ∧ n ≤ cap ∧ n ≤ 1048576 ∧ (∀ j, j < n → 0 ≤ xs.getD j 0 ∧ xs.getD j 0 ≤ 255) ∧ ∀ j, j < n → ∀ w', Agree M w w' → w'.cell? ⟨ab a, ao a + j, none⟩ = some (.int .u8 (xs.getD j 0)) := by
  obtain ⟨xs, h, hb, hl⟩ := h
  obtain ⟨a, m, cap, h1, h2, h3, _, h5, h6⟩ := RdOut.open (by decide) h
  have hm : xs.length = m := by simpa using h5
  subst hm
  refine ⟨xs.length, a, cap, xs, h1, h2, h3, hl, hb, fun j hj => ?_⟩
  obtain ⟨u, c, r⟩ := h6 j (.c (.int .u8 (xs.getD j 0))) (by simp [List.getD, hj])
  rw [r.c] at c
  exact c
theorem lent_code {M1 M' : List Nat} {w1 w : World} {h0 : HE} {H1 : List HE} {u : Value} (hl : Lent M1 w1 h0 H1 M' w) (hc : CodeF w1 M1 u) : CodeF w M' u := by
  obtain ⟨xs, h, hb⟩ := hc
  exact ⟨xs, hl.out h, hb⟩
def Gcu (u : Value) (b : Nat) (φ : Value → List HE → Prop) (v : Value) (H : List HE) : Prop := ∃ (i : Nat) (h : Int) (H' : List HE), i ≤ vlen u ∧ H = cu u b i h :: H' ∧ φ v H'
theorem bld_cur (a : Option Addr) (m c : Nat) (h : Int) (w : World) : (Instr.build 95 #[(0, .slice a m c), (2, iV h)]).run Tryz.prog w = .ok (.agg #[.slice a m c, iV 0, iV h]) w := by kernel_rfl
theorem i64_byte {x : Int} (h : 0 ≤ x ∧ x ≤ 255) : IntKind.i64.wrap x = x := by rw [IntKind.wrap_i64]; omega
theorem l1New_ok {w : World} {u : Value} (hc : CodeF w [] u) : Does Tryz.prog 48 [u] w (fun v H => ∃ (b : Nat) (h : Int), v = cuV b ∧ H = [cu u b 0 h]) := by
  obtain ⟨n, a, c, xs, rfl, hs, hcap, hn, hby, hg⟩ := hc.open
  refine fn_enter Tryz.func48 rfl Tryz.ntmps48 rfl ?_
  repeat' (first | (show oL; first | refine sMv rfl rfl ?_ | refine sAs rfl rfl ?_ | refine sAd rfl rfl om rfl ?_ | refine sLn tabs rfl rfl rfl ?_) | refine xNt ?_ | (show oC; first | refine c_seq ?_ | refine c_region ?_ | refine c_block ?_))
  refine c_loopH (α := Nat × Int) [0] (fun x => [(3, iV x.2), (4, iV x.1)]) (fun x => x.1 ≤ n) (fun x => []) (fun x => n - x.1) (0, 10101 + n) rfl sB ?_ ?_ ?_
  · exact Nat.zero_le _
  · exact fun w' c' => c'
  · rintro ⟨i, h⟩ hi
    simp only at hi ⊢
    by_cases hin : i < n
    · have hb := hby i hin
      have hgi := hg i hin
      repeat' (first | (show oL; first | refine sMv rfl rfl ?_ | refine sAs rfl rfl ?_ | (show oA (.load _ _); refine st_y (y_load tabs rfl rfl (fun w' c' => hgi w' c'.agree)) rfl ?_) | (show oA (.indexAddr _ _ _); refine st_y (y_ix1 tabs (j := i) rfl rfl rfl hs rfl hin) rfl ?_) | (show oA (.binOp _ _ _ _ _); first | refine st_y (y_mulw rfl rfl) rfl ?_ | refine sAd rfl rfl om rfl ?_ | refine st_y (y_addw rfl rfl) rfl ?_ | refine st_y (y_and rfl rfl) rfl ?_ | refine sLs rfl rfl rfl ?_) | refine sLn tabs rfl rfl rfl ?_ | (show oA (.pick _ _ _); refine st_y (y_pickt rfl aO rfl) rfl ?_) | (show oA (.box _ _); refine m_box rfl rfl (fun b hb => ?_)) | (show oA (.build _ _); refine st_y (y_bld02 (bld_cur _ _ _ _) rfl rfl) rfl ?_) | (show oA (.convert _ _ _); refine st_y (y_convk (t := 5) (t' := 3) (k := .u8) (k' := .i64) (q := xs.getD i 0) kr kr kr rfl (i64_byte hb)) rfl ?_) | refine st_gdy rfl rfl aO ?_) | (show oN; first | refine c_nil (x_then ?_) | refine c_nil ?_) | (show oC; first | refine c_seq ?_ | refine c_region ?_ | refine c_skip (x_then ?_) | refine c_block ?_ | refine c_ret ?_ | refine c_exit ?_ | refine c_if rfl (fun h => ?_) (fun h => ?_)) | (show AT _ _ _ _; first | refine x_then ?_ | refine x_then_exit ?_ | refine x_blk_exit rfl ?_ | refine x_blk ?_))
      · exact x_nx (i + 1, _) sB (by simp only; omega) (fun w' c' => c') (by simp only; omega)
      · exact x_ret1 Tryz.results48 (res_tmp rfl) (fun w' c' => ⟨_, _, rfl, ⟨b, _, rfl, rfl⟩, c'⟩)
    · have : i = n := by omega
      subst this
      repeat' (first | (show oL; first | refine sMv rfl rfl ?_ | refine sAs rfl rfl ?_ | refine sLs rfl rfl rfl ?_ | refine sLn tabs rfl rfl rfl ?_ | (show oA (.pick _ _ _); refine st_y (y_pickf rfl aO rfl) rfl ?_) | (show oA (.box _ _); refine m_box rfl rfl (fun b hb => ?_)) | (show oA (.build _ _); refine st_y (y_bld02 (bld_cur _ _ _ _) rfl rfl) rfl ?_) | refine st_gdn rfl rfl aO rfl ?_) | refine xNt ?_ | (show oC; first | refine c_seq ?_ | refine c_region ?_ | refine c_ret ?_ | refine c_exit ?_ | refine c_false rfl ?_) | (show AT _ _ _ _; first | refine x_then ?_ | refine x_then_exit ?_ | refine x_blk_exit rfl ?_))
      all_goals exact x_ret1 Tryz.results48 (res_tmp rfl) (fun w' c' => ⟨_, _, rfl, ⟨b, _, rfl, rfl⟩, c'⟩)
theorem vlen_sl {a : Option Addr} {n c : Nat} : vlen (.slice a n c) = n := rfl
theorem l1Byte_ok {w1 : World} {M1 : List Nat} {H1 : List HE} {w : World} {M' : List Nat} {u : Value} {b i : Nat} {h : Int} (hl : Lent M1 w1 (cu u b i h) H1 M' w) (hc : CodeF w1 M1 u) (hi : i ≤ vlen u) :
    DoesB Tryz.prog 91 [cuV b] w M' (Gcu u b (fun v H => ∃ x : Int, v = iV x ∧ (0 ≤ x ∧ x ≤ 255) ∧ H = [])) := by
  obtain ⟨n, a, c, xs, rfl, hs, hcap, hn, hby, hg⟩ := (lent_code hl hc).open
  rw [vlen_sl] at hi
  refine fnb_lent Tryz.func91 rfl Tryz.ntmps91 rfl hl ?_
  repeat' (first | (show oL; first | refine sMv rfl rfl ?_ | refine sAs rfl rfl ?_ | refine sFd tabs rfl rfl rfl rfl ?_ | refine sLd 0 tabs rfl rfl rfl rfl rfl ?_ | (show oA (.binOp _ _ _ _ _); first | refine st_y (y_mulw rfl rfl) rfl ?_ | refine st_y (y_addw rfl rfl) rfl ?_) | (show oA (.store _ _ _); refine m_storef 0 tabs rfl rfl rfl rfl rfl rfl ?_) | (show oA (.nilCheck _); refine st_y (y_nilc rfl) rfl ?_)) | refine xNt ?_ | (show oC; first | refine c_seq ?_ | refine c_region ?_))
  generalize hh : IntKind.i64.wrap (IntKind.i64.wrap (h * 6364136223846793005) + 1442695040888963407) = h1
  repeat' (first | (show oL; first | refine sMv rfl rfl ?_ | refine sAs rfl rfl ?_ | refine sFd tabs rfl rfl rfl rfl ?_ | refine sLd 0 tabs rfl rfl rfl rfl rfl ?_ | refine sAd rfl rfl om rfl ?_ | (show oA (.store _ _ _); refine m_storef 0 tabs rfl rfl rfl rfl rfl rfl ?_) | (show oA (.nilCheck _); refine st_y (y_nilc rfl) rfl ?_)) | refine xNt ?_ | (show oC; first | refine c_seq ?_ | refine c_region ?_ | refine c_skip (x_then ?_) | refine c_ret ?_ | refine c_draw kr kr (fun _ c => Hp.drew c) ?_ | refine c_if rfl (fun h => ?_) (fun h => ?_)) | (show QT _ _ _ _ _ _ (_ :: _); first | refine qMv rfl rfl ?_ | refine qAs rfl rfl ?_ | refine qFd tabs rfl rfl rfl rfl ?_ | (show qA (.load _ _); first | refine q_y (y_load tabs rfl rfl (fun w' c' => hg i om w' c'.agree)) rfl ?_ | refine qLd 0 tabs rfl rfl rfl rfl rfl ?_) | (show qA (.indexAddr _ _ _); refine q_y (y_ix1 tabs (j := i) rfl rfl rfl hs rfl om) rfl ?_) | (show qA (.binOp _ _ _ _ _); first | refine q_y (y_shr rfl rfl (by decide)) rfl ?_ | refine q_y (y_xor rfl rfl) rfl ?_ | refine q_y (y_and rfl rfl) rfl ?_ | refine q_y (y_addw rfl rfl) rfl ?_ | refine qLs rfl rfl rfl ?_) | refine qLn tabs rfl rfl rfl ?_ | (show qA (.convert _ _ _); refine q_y (y_convk (t := 5) (t' := 3) (k := .u8) (k' := .i64) (q := xs.getD i 0) kr kr kr rfl (i64_byte (hby i om))) rfl ?_) | (show qA (.nilCheck _); refine q_y (y_nilc rfl) rfl ?_)) | (show QT _ _ _ _ _ _ []; refine q_nil (x_then ?_)))
  · exact x_ret1 Tryz.results91 (res_tmp rfl) (fun w' c' => ⟨_, _, rfl, ⟨i + 1, h1, [], by rw [vlen_sl]; omega, rfl, _, rfl, andI_255 _, rfl⟩, c'⟩)
  · exact x_ret1 Tryz.results91 (res_tmp rfl) (fun w' c' => ⟨_, _, rfl, ⟨i, h1, [], by rw [vlen_sl]; omega, rfl, _, rfl, andI_255 _, rfl⟩, c'⟩)
theorem tmod_in {x n : Int} (hx : 0 ≤ x) (hn : 0 < n) : 0 ≤ x.tmod n ∧ (0 < n → x.tmod n < n) ∧ (n ≤ 0 → x.tmod n = 0) := by
  rw [tmod_pos hx]
  exact ⟨Int.emod_nonneg _ om, fun h => Int.emod_lt_of_pos _ h, fun h => by omega⟩
theorem getD_in {xs : List Int} {k : Nat} (h : k < xs.length) : xs.getD k 0 ∈ xs := by
  simp [List.getD, h]
theorem l1Below_ok {w1 : World} {M1 : List Nat} {H1 : List HE} {w : World} {M' : List Nat} {u : Value} {b i : Nat} {h : Int} (n : Int) (hl : Lent M1 w1 (cu u b i h) H1 M' w) (hc : CodeF w1 M1 u) (hi : i ≤ vlen u) :
    DoesB Tryz.prog 50 [cuV b, iV n] w M' (Gcu u b (fun v H => ∃ x : Int, v = iV x ∧ (0 ≤ x ∧ (0 < n → x < n) ∧ (n ≤ 0 → x = 0)) ∧ H = [])) := by
  have hc2 := lent_code hl hc
  refine fnb_lent Tryz.func50 rfl Tryz.ntmps50 rfl hl ?_
  repeat' (first | (show oL; first | refine sMv rfl rfl ?_ | refine sAs rfl rfl ?_ | (show oA (.binOp _ _ _ _ _); first | refine st_y (y_rem rfl rfl om) rfl ?_ | refine st_y (y_mul rfl rfl om) rfl ?_ | refine sAd rfl rfl om rfl ?_ | refine st_y (y_leq rfl rfl) rfl ?_) | (show oA (.call _); (refine m_callL 0 (ent_of Tryz.func91 kr rfl) rfl rfl rfl (fun w M' hl => l1Byte_ok hl hc2 hi) ?_; rintro v H' ⟨i, h, _, hi, rfl, x, rfl, hx, rfl⟩))) | refine xNt ?_ | (show oC; first | refine c_seq ?_ | refine c_region ?_ | refine c_skip (x_then ?_) | refine c_ret ?_ | refine c_if rfl (fun h => ?_) (fun h => ?_)) | (show AT _ _ _ _; refine x_then_ret ?_))
  · exact x_ret1 Tryz.results50 (res_tmp rfl) (fun w' c' => ⟨_, _, rfl, ⟨i, _, [], hi, rfl, 0, rfl, by omega, rfl⟩, c'⟩)
  all_goals exact x_ret1 Tryz.results50 (res_tmp rfl) (fun w' c' => ⟨_, _, rfl, ⟨i, _, [], hi, rfl, _, rfl, tmod_in om om, rfl⟩, c'⟩)
theorem l1BelowN_ok {w1 : World} {M1 : List Nat} {H1 : List HE} {w : World} {M' : List Nat} {u : Value} {b i : Nat} {h : Int} (n : Nat) (hn : 0 < n) (hl : Lent M1 w1 (cu u b i h) H1 M' w) (hc : CodeF w1 M1 u) (hi : i ≤ vlen u) :
    DoesB Tryz.prog 50 [cuV b, iV n] w M' (Gcu u b (fun v H => ∃ k : Nat, v = iV k ∧ k < n ∧ H = [])) := (l1Below_ok n hl hc hi).mono (by
  rintro e w' ⟨v, H, rfl, ⟨i, h, H', hi, rfl, x, rfl, hx, rfl⟩, hp⟩
  exact ⟨_, _, rfl, ⟨i, h, _, hi, rfl, x.toNat, by rw [Int.toNat_of_nonneg hx.1], by have := hx.2.1 om; omega, rfl⟩, hp⟩)
theorem l1Once_ok {w1 : World} {M1 : List Nat} {H1 : List HE} {w : World} {M' : List Nat} {u : Value} {b i : Nat} {h : Int} (n : Int) (hl : Lent M1 w1 (cu u b i h) H1 M' w) (hc : CodeF w1 M1 u) (hi : i ≤ vlen u) :
    DoesB Tryz.prog 57 [cuV b, iV n] w M' (Gcu u b (fun v H => ∃ x : Bool, v = .bool x ∧ H = [])) := by
  have hc2 := lent_code hl hc
  refine fnb_lent Tryz.func57 rfl Tryz.ntmps57 rfl hl ?_
  repeat' (first | (show oL; first | refine sMv rfl rfl ?_ | refine sAs rfl rfl ?_ | (show oA (.binOp _ _ _ _ _); refine st_y (y_eql rfl rfl) rfl ?_) | (show oA (.call _); (refine m_callL 0 (ent_of Tryz.func50 kr rfl) rfl rfl rfl (fun w M' hl => l1Below_ok n hl hc2 hi) ?_; rintro v H' ⟨i, h, _, hi, rfl, x, rfl, hx, rfl⟩))) | refine xNt ?_ | (show oC; first | refine c_seq ?_ | refine c_region ?_ | refine c_ret ?_))
  exact x_ret1 Tryz.results57 (res_tmp rfl) (fun w' c' => ⟨_, _, rfl, ⟨i, _, [], hi, rfl, _, rfl, rfl⟩, c'⟩)
theorem l1PickInt_ok {w1 : World} {M1 : List Nat} {H1 : List HE} {w : World} {M' : List Nat} {u v : Value} {b i : Nat} {h : Int} {xs : List Int} (hl : Lent M1 w1 (cu u b i h) H1 M' w) (hc : CodeF w1 M1 u) (hi : i ≤ vlen u) (hr : RdOut w M' (iT xs) v) (hx : 0 < xs.length) :
    DoesB Tryz.prog 49 [cuV b, v] w M' (Gcu u b (fun v H => ∃ x : Int, v = iV x ∧ x ∈ xs ∧ H = [])) := by
  have hc2 := lent_code hl hc
  obtain ⟨a, c, rfl, hs, hg⟩ := hr.intsO
  refine fnb_lent Tryz.func49 rfl Tryz.ntmps49 rfl hl ?_
  repeat' (first | (show oL; first | refine sMv rfl rfl ?_ | refine sAs rfl rfl ?_ | (show oA (.load _ _); refine st_y (y_load tabs rfl rfl (fun w' c' => hg _ om w' c'.agree)) rfl ?_) | (show oA (.indexAddr _ _ _); refine st_y (y_ixi tabs rfl rfl rfl hs om om) rfl ?_) | (show oA (.call _); first | (refine m_callL 0 (ent_of Tryz.func50 kr rfl) rfl rfl rfl (fun w M' hl => l1Below_ok xs.length hl hc2 hi) ?_; rintro v H' ⟨i, h, _, hi, rfl, x, rfl, hx, rfl⟩) | refine sLn tabs rfl rfl rfl ?_)) | refine xNt ?_ | (show oC; first | refine c_seq ?_ | refine c_region ?_ | refine c_ret ?_))
  exact x_ret1 Tryz.results49 (res_tmp rfl) (fun w' c' => ⟨_, _, rfl, ⟨i, _, [], hi, rfl, _, rfl, getD_in om, rfl⟩, c'⟩)
theorem l2Prime_ok {w1 : World} {M1 : List Nat} {H1 : List HE} {w : World} {M' : List Nat} {u : Value} {b i : Nat} {h : Int} (hl : Lent M1 w1 (cu u b i h) H1 M' w) (hc : CodeF w1 M1 u) (hi : i ≤ vlen u) :
    DoesB Tryz.prog 55 [cuV b] w M' (Gcu u b (fun v H => ∃ x : Int, v = iV x ∧ (-1 ≤ x ∧ x ≤ 7) ∧ H = [])) := by
  have hc2 := lent_code hl hc
  refine fnb_lent Tryz.func55 rfl Tryz.ntmps55 rfl hl ?_
  repeat' (first | (show oL; first | refine sMv rfl rfl ?_ | refine sAs rfl rfl ?_ | (show oA (.call _); first | (refine m_callL 0 (ent_of Tryz.func57 kr rfl) rfl rfl rfl (fun w M' hl => l1Once_ok 16 hl hc2 hi) ?_; rintro v H' ⟨i, h, _, hi, rfl, (_ | _), rfl, rfl⟩) | (refine m_callL 1 (ent_of Tryz.func49 kr rfl) rfl rfl rfl (fun w M' hl => l1PickInt_ok hl hc2 hi (hl.own 0 rfl) (by decide)) ?_; rintro v H' ⟨i, h, _, hi, rfl, x, rfl, hx, rfl⟩)) | (show oA (.buildSlice _ _ _); first | refine m_buildi tabs [-1, 0, 1, 4, 7] rfl rfl rfl rfl rfl rfl rfl (fun g hg => ?_) | refine m_buildi tabs [2, 3, 5, 2, 3] rfl rfl rfl rfl rfl rfl rfl (fun g hg => ?_))) | refine xNt ?_ | (show oC; first | refine c_seq ?_ | refine c_region ?_ | refine c_skip (x_then ?_) | refine c_ret ?_ | refine c_true rfl ?_ | refine c_false rfl ?_) | (show AT _ _ _ _; refine x_then_ret ?_))
  all_goals exact x_ret1 Tryz.results55 (res_tmp rfl) (fun w' c' => ⟨_, _, rfl, ⟨i, _, [], hi, rfl, _, rfl, by simp at hx; omega, rfl⟩, c'.sub (.cons_cons _ (List.nil_sublist _))⟩)
end Go.Proofs.YtcplmeajmpkpkaaGreat
