
/- Words and small lemmas for the walks of this seat: lists in memory, frames, bits of arithmetic. No statement of the program is proved here. -/
import Derived.Test.YtokihekhelbijaaRows
import Derived.WalkKit
import Derived.ProofKit
import Derived.OpenShut
import Derived.Lib.Hide
import Derived.Deep.QuietTactic
import Derived.BigQuiet
import Derived.StillTailTactics
import Derived.Deep.RegionHeld3
import Derived.Deep.AppendLies
import Derived.Maps.AppendAt
import Derived.Deep.Draws
import Derived.Deep.RegionLaw
namespace Go.Proofs.Ytokihekhelbijaa
open Go.ChangeShapes Go.WideShapes Go.ChangeAt Go.RowKit
/-- a list of values as ints -/
def isl (l : List Int) : List Value := l.map (Value.int .i64)
structure Dom where
  x : Int
  y : Int
  d : Bool
  deriving DecidableEq
structure Cel where
  x : Int
  y : Int
  deriving DecidableEq
def Dom.cs (d : Dom) : List Value := [.int .i64 d.x, .int .i64 d.y, .bool d.d]
def Cel.cs (c : Cel) : List Value := [.int .i64 c.x, .int .i64 c.y]
def dsl (l : List Dom) : List Value := l.flatMap Dom.cs
def csl (l : List Cel) : List Value := l.flatMap Cel.cs

theorem flatMap_get {α : Type} (f : α → List Value) (s : Nat) (hf : ∀ a, (f a).length = s) (l : List α) (k j : Nat) (h : k < l.length) (hj : j < s) :
    (l.flatMap f)[k*s+j]? = (f l[k])[j]? := by
  induction l generalizing k with
  | nil => simp at h
  | cons a l ih =>
    cases k with
    | zero => simp only [List.flatMap_cons, Nat.zero_mul, Nat.zero_add, List.getElem_cons_zero]; rw [List.getElem?_append_left (by rw [hf]; exact hj)]
    | succ k =>
      simp only [List.flatMap_cons, List.getElem_cons_succ]
      rw [List.getElem?_append_right (by rw [hf, Nat.succ_mul]; omega), hf]
      have : (k+1)*s + j - s = k*s + j := by rw [Nat.succ_mul]; omega
      rw [this]
      exact ih k (by simpa using h)
theorem flatMap_len {α : Type} (f : α → List Value) (s : Nat) (hf : ∀ a, (f a).length = s) (l : List α) : (l.flatMap f).length = l.length * s := by
  induction l with
  | nil => simp
  | cons a l ih => simp [List.flatMap_cons, hf, ih, Nat.succ_mul]; omega

theorem dsl_len (l : List Dom) : (dsl l).length = l.length * 3 := flatMap_len _ 3 (fun _ => rfl) l
theorem csl_len (l : List Cel) : (csl l).length = l.length * 2 := flatMap_len _ 2 (fun _ => rfl) l
theorem isl_len (l : List Int) : (isl l).length = l.length * 1 := by simp [isl]
theorem csl_append (a b : List Cel) : csl (a ++ b) = csl a ++ csl b := by simp [csl]
theorem isl_append (a b : List Int) : isl (a ++ b) = isl a ++ isl b := by simp [isl]

/-- a slice's value that reads as a list of cells -/
def Rd (w : World) (size : Nat) (A : Option Addr) (n : Nat) (xs : List Value) : Prop :=
  xs.length = n * size ∧ (0 < n → ∃ g off, A = some ⟨g, off, none⟩ ∧ g < w.heap.size ∧ ∀ j u, xs[j]? = some u → w.cell? ⟨g, off + j, none⟩ = some u)

theorem Rd.nil (w : World) (size : Nat) : Rd w size none 0 [] := ⟨by simp, fun h => absurd h (by omega)⟩
theorem Rd.below {w w' : World} {size n : Nat} {A : Option Addr} {xs : List Value} (h : Rd w size A n xs) {B : Nat} (hb : Below B w w') (hB : w.heap.size ≤ B) : Rd w' size A n xs :=
  ⟨h.1, fun hn => by
    obtain ⟨g, off, e, hg, hc⟩ := h.2 hn
    exact ⟨g, off, e, Nat.lt_of_lt_of_le hg hb.size, fun j u hu => (hb.cell (p := ⟨g, off + j, none⟩) (Nat.lt_of_lt_of_le hg hB)).trans (hc j u hu)⟩⟩
theorem Rd.ints {w : World} {A : Option Addr} {l : List Int} {n : Nat} (h : Rd w 1 A n (isl l)) {k : Nat} (hk : k < l.length) :
    ∃ g off, A = some ⟨g, off, none⟩ ∧ g < w.heap.size ∧ w.cell? ⟨g, off + k, none⟩ = some (.int .i64 l[k]) := by
  have hn : 0 < n := by have := h.1; rw [isl_len] at this; omega
  obtain ⟨g, off, e, hg, hc⟩ := h.2 hn
  exact ⟨g, off, e, hg, hc k _ (by simp [isl, hk])⟩
theorem Rd.len1 {w : World} {A : Option Addr} {l : List Int} {n : Nat} (h : Rd w 1 A n (isl l)) : n = l.length := by have := h.1; rw [isl_len] at this; omega
theorem Below.step {B : Nat} {a b c : World} (h : Below B a b) (k : Below b.heap.size b c) (hB : B ≤ b.heap.size) : Below B a c := h.trans (k.mono hB)
theorem Below.step0 {a b c : World} (h : Below a.heap.size a b) (k : Below b.heap.size b c) : Below a.heap.size a c := h.trans (k.mono h.size)
theorem Below.alloc0 {a b : World} (h : Below a.heap.size a b) (o : Obj) : Below a.heap.size a (b.alloc o) := h.alloc h.size o
theorem below_drewN {B : Nat} {a w : World} (h : Below B a w) (n : Nat) : Below B a (w.drewN n) := ⟨h.os, h.tape, h.output, h.size, h.block⟩
def RdA (w : World) (size : Nat) (A : Option Addr) (n : Nat) (xs : List Value) : Prop :=
  xs.length = n * size ∧ (0 < n → ∃ ad : Addr, A = some ad ∧ ad.block < w.heap.size ∧ ∀ j u, xs[j]? = some u → w.cell? (ad.add j) = some u)
theorem block_of_add (a : Addr) (n : Nat) : (a.add n).block = a.block := by unfold Addr.add; split <;> rfl
theorem RdA.below {w w' : World} {size n : Nat} {A : Option Addr} {xs : List Value} (h : RdA w size A n xs) {B : Nat} (hb : Below B w w') (hB : w.heap.size ≤ B) : RdA w' size A n xs :=
  ⟨h.1, fun hn => by
    obtain ⟨ad, e, hg, hc⟩ := h.2 hn
    exact ⟨ad, e, Nat.lt_of_lt_of_le hg hb.size, fun j u hu => (hb.cell (p := ad.add j) (by rw [block_of_add]; exact Nat.lt_of_lt_of_le hg hB)).trans (hc j u hu)⟩⟩
theorem Rd.step {w w' : World} {size n : Nat} {A : Option Addr} {xs : List Value} (h : Rd w size A n xs) (hb : Below w.heap.size w w') : Rd w' size A n xs := h.below hb (Nat.le_refl _)
theorem Rd.alloc {w : World} {size n : Nat} {A : Option Addr} {xs : List Value} (h : Rd w size A n xs) (o : Obj) : Rd (w.alloc o) size A n xs := h.step ((Below.refl _ _).alloc (Nat.le_refl _) o)
theorem Rd.drew {w : World} {size n : Nat} {A : Option Addr} {xs : List Value} (h : Rd w size A n xs) : Rd w.drew size A n xs := h
theorem Rd.drewN {w : World} {size n : Nat} {A : Option Addr} {xs : List Value} (h : Rd w size A n xs) (k : Nat) : Rd (w.drewN k) size A n xs := h
theorem RdA.step {w w' : World} {size n : Nat} {A : Option Addr} {xs : List Value} (h : RdA w size A n xs) (hb : Below w.heap.size w w') : RdA w' size A n xs := h.below hb (Nat.le_refl _)
theorem RdA.alloc {w : World} {size n : Nat} {A : Option Addr} {xs : List Value} (h : RdA w size A n xs) (o : Obj) : RdA (w.alloc o) size A n xs := h.step ((Below.refl _ _).alloc (Nat.le_refl _) o)
theorem RdA.drew {w : World} {size n : Nat} {A : Option Addr} {xs : List Value} (h : RdA w size A n xs) : RdA w.drew size A n xs := h
theorem RdA.drewN {w : World} {size n : Nat} {A : Option Addr} {xs : List Value} (h : RdA w size A n xs) (k : Nat) : RdA (w.drewN k) size A n xs := h
theorem RdA.ints {w : World} {A : Option Addr} {l : List Int} {n : Nat} (h : RdA w 1 A n (isl l)) {k : Nat} (hk : k < l.length) :
    ∃ ad : Addr, A = some ad ∧ ad.block < w.heap.size ∧ w.cell? (ad.add k) = some (.int .i64 l[k]) := by
  have hn : 0 < n := by have := h.1; rw [isl_len] at this; omega
  obtain ⟨ad, e, hg, hc⟩ := h.2 hn
  exact ⟨ad, e, hg, hc k _ (by simp [isl, hk])⟩
theorem run_makeN {P : Program} (t e : TypeId) (i : TypeInfo) (z : Value) (ht : P.underlying t = some (.slice e)) (hi : P.info? e = some i) (hz : i.zero = some z)
    (n : Nat) (hbytes : i.bytes * n ≤ 281474976710656) (h63 : n ≤ maxLen) (w : World) :
    (Instr.makeSlice t (.int .i64 (n : Int)) (.int .i64 (n : Int))).run P w = .ok (.slice (some ⟨w.heap.size, 0, none⟩) n n) (w.alloc (.cells (madeCells z.cells (n * i.size)) e)) := by
  have hb : (i.bytes : Int) * (n : Int) ≤ 281474976710656 := by
    have h : ((i.bytes * n : Nat) : Int) ≤ 281474976710656 := by omega
    rwa [Int.natCast_mul] at h
  unfold maxLen at h63
  have hr := run_make (P := P) w t e i z ht hi hz .i64 .i64 n n (by omega) (by omega) hb (by omega)
  simp only [Int.toNat_natCast] at hr
  exact hr

theorem heap_alloc_new (w : World) (o : Obj) : (w.alloc o).heap[w.heap.size]? = some o := by
  show (w.heap.push o)[w.heap.size]? = some o
  simp

/-- a new block of cells is a row of the call's own -/
theorem made_ints (n : Nat) : (madeCells (Value.int .i64 0).cells (n * 1)).toList = isl (List.replicate n 0) := by
  have h : (Value.int .i64 0).cells = #[Value.int .i64 0] := rfl
  rw [h, Nat.mul_one, toList_madeCells_one]
  simp [isl]

theorem ret_int {k : IntKind} {a b : Int} (h : a = b) : Ending.returned (.int k a) = .returned (.int k b) := by rw [h]
theorem ret_bool {a b : Bool} (h : a = b) : Ending.returned (.bool a) = .returned (.bool b) := by rw [h]
end Go.Proofs.Ytokihekhelbijaa
