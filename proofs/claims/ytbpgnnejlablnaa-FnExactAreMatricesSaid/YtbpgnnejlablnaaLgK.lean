import Derived.Test.YtbpgnnejlablnaaLgJ
namespace Go.Lg
open Go.RowKit

section
variable {P : Program} {n : Nat} {C : World → Prop} {s : List (Nat × Value)} {Q : Exit → Act → World → Prop} {ops : Array Oper} {rest : List Oper} {K : Act → Prop}
variable {d ty : Nat} {op : Op} {pos : String} {af : Array Edge} {v : Value} {x y z : Operand} {p : Prop} [Decidable p]

theorem st_gdy {j dj : Nat} {dd : Option Nat} (hj : (ops[j]?).bind (·.dst) = some dj) (hb : lk s dj = some (.bool (decide p))) (hp : p) (h : AT n C s (wpList P ops Q (⟨dd, op, ty, pos, af, none⟩ :: rest))) :
    AT n C s (wpList P ops Q (⟨dd, op, ty, pos, af, some (j, true)⟩ :: rest)) := st_gy hj (by simpa [hp] using hb) h
theorem st_gdn {j dj : Nat} (hj : (ops[j]?).bind (·.dst) = some dj) (hb : lk s dj = some (.bool (decide p))) (hp : ¬ p) (hd : Nat.blt d n = true) (h : AT n C ((d, undef) :: s) (wpList P ops Q rest)) :
    AT n C s (wpList P ops Q (⟨some d, op, ty, pos, af, some (j, true)⟩ :: rest)) := st_gn hj (by simpa [hp] using hb) hd h
theorem st_gfy {j dj : Nat} {dd : Option Nat} (hj : (ops[j]?).bind (·.dst) = some dj) (hb : lk s dj = some (.bool (decide p))) (hp : ¬ p) (h : AT n C s (wpList P ops Q (⟨dd, op, ty, pos, af, none⟩ :: rest))) :
    AT n C s (wpList P ops Q (⟨dd, op, ty, pos, af, some (j, false)⟩ :: rest)) := st_gy hj (by simpa [hp] using hb) h
theorem st_gfn {j dj : Nat} (hj : (ops[j]?).bind (·.dst) = some dj) (hb : lk s dj = some (.bool (decide p))) (hp : p) (hd : Nat.blt d n = true) (h : AT n C ((d, undef) :: s) (wpList P ops Q rest)) :
    AT n C s (wpList P ops Q (⟨some d, op, ty, pos, af, some (j, false)⟩ :: rest)) := st_gn hj (by simpa [hp] using hb) hd h
theorem st_gd {j dj : Nat} {b : Bool} {g : Option Nat} (_hj : (ops[j]?).bind (·.dst) = some dj) (_hb : lk s dj = some (.bool (decide p))) (ht : p → AT n C s (wpList P ops Q (⟨g, op, ty, pos, af, some (j, b)⟩ :: rest))) (hf : ¬ p → AT n C s (wpList P ops Q (⟨g, op, ty, pos, af, some (j, b)⟩ :: rest))) :
    AT n C s (wpList P ops Q (⟨g, op, ty, pos, af, some (j, b)⟩ :: rest)) := by
  by_cases hp : p
  · exact ht hp
  · exact hf hp
theorem q_gdy {j dj : Nat} {dd : Option Nat} (hj : (ops[j]?).bind (·.dst) = some dj) (hb : lk s dj = some (.bool (decide p))) (hp : p) (h : QT P ops n C K s (⟨dd, op, ty, pos, af, none⟩ :: rest)) :
    QT P ops n C K s (⟨dd, op, ty, pos, af, some (j, true)⟩ :: rest) := q_gy hj (by simpa [hp] using hb) h
theorem q_gdn {j dj : Nat} (hj : (ops[j]?).bind (·.dst) = some dj) (hb : lk s dj = some (.bool (decide p))) (hp : ¬ p) (hd : Nat.blt d n = true) (h : QT P ops n C K ((d, undef) :: s) rest) :
    QT P ops n C K s (⟨some d, op, ty, pos, af, some (j, true)⟩ :: rest) := q_gn hj (by simpa [hp] using hb) hd h
theorem q_gfy {j dj : Nat} {dd : Option Nat} (hj : (ops[j]?).bind (·.dst) = some dj) (hb : lk s dj = some (.bool (decide p))) (hp : ¬ p) (h : QT P ops n C K s (⟨dd, op, ty, pos, af, none⟩ :: rest)) :
    QT P ops n C K s (⟨dd, op, ty, pos, af, some (j, false)⟩ :: rest) := q_gy hj (by simpa [hp] using hb) h
theorem q_gfn {j dj : Nat} (hj : (ops[j]?).bind (·.dst) = some dj) (hb : lk s dj = some (.bool (decide p))) (hp : p) (hd : Nat.blt d n = true) (h : QT P ops n C K ((d, undef) :: s) rest) :
    QT P ops n C K s (⟨some d, op, ty, pos, af, some (j, false)⟩ :: rest) := q_gn hj (by simpa [hp] using hb) hd h
theorem q_gd {j dj : Nat} {b : Bool} {g : Option Nat} (_hj : (ops[j]?).bind (·.dst) = some dj) (_hb : lk s dj = some (.bool (decide p))) (ht : p → QT P ops n C K s (⟨g, op, ty, pos, af, some (j, b)⟩ :: rest)) (hf : ¬ p → QT P ops n C K s (⟨g, op, ty, pos, af, some (j, b)⟩ :: rest)) :
    QT P ops n C K s (⟨g, op, ty, pos, af, some (j, b)⟩ :: rest) := by
  by_cases hp : p
  · exact ht hp
  · exact hf hp

theorem y_pickt {v1 : Value} (hx : ev s x = some (.bool (decide p))) (hp : p) (hy : ev s y = some v1) : Y P n C s (.pick x y z) ty v1 := fun a w f c d pos af g => by
  simp [execOp, f.ev hx, f.ev hy, hp, asBool]
theorem y_pickf {v2 : Value} (hx : ev s x = some (.bool (decide p))) (hp : ¬ p) (hz : ev s z = some v2) : Y P n C s (.pick x y z) ty v2 := fun a w f c d pos af g => by
  simp [execOp, f.ev hx, f.ev hz, hp, asBool]

theorem c_ift {y z : Code} (hx : ev s x = some (.bool (decide p))) (hp : p) (h : AT n C s (y.wp P Q)) : AT n C s ((Code.cond x y z).wp P Q) := c_if hx (fun _ => h) (fun hn => absurd hp hn)
theorem c_iff {y z : Code} (hx : ev s x = some (.bool (decide p))) (hp : ¬ p) (h : AT n C s (z.wp P Q)) : AT n C s ((Code.cond x y z).wp P Q) := c_if hx (fun hn => absurd hn hp) (fun _ => h)
theorem c_ifn {y z : Code} (hx : ev s x = some (.bool (!decide p))) (ht : ¬ p → AT n C s (y.wp P Q)) (hf : p → AT n C s (z.wp P Q)) : AT n C s ((Code.cond x y z).wp P Q) := by
  by_cases hp : p
  · refine c_ifb hx (fun h => ?_) (fun _ => hf hp)
    simp [hp] at h
  · refine c_ifb hx (fun _ => ht hp) (fun h => ?_)
    simp [hp] at h
theorem c_true {y z : Code} (hx : ev s x = some (.bool true)) (h : AT n C s (y.wp P Q)) : AT n C s ((Code.cond x y z).wp P Q) := c_ifb hx (fun _ => h) (fun h => by cases h)
theorem c_false {y z : Code} (hx : ev s x = some (.bool false)) (h : AT n C s (z.wp P Q)) : AT n C s ((Code.cond x y z).wp P Q) := c_ifb hx (fun h => by cases h) (fun _ => h)
end
end Go.Lg
