/-
  The abstract values of this claim's own interpreter, and what it means that a value of the model is read as one.
-/
import Derived.Calls
import Derived.Laws.Sem
import Derived.Below
import Derived.Laws.IdiomCopy
import Derived.Laws.NewBlocks
import Derived.Laws.Cells
import Derived.Deep.AppendSrc
import Derived.Laws.Tables
set_option linter.unusedSimpArgs false
set_option linter.unusedVariables false
namespace Go.Proofs.YtpiincgiakkljaaGreatDoor
open Go

/-- What is known of a slice's header: borrowed (tag), surely not nil (nn), its capacity. -/
structure SH where
  tag : Bool := false
  nn : Bool := false
  cap : Option Nat := .none
  deriving Inhabited, DecidableEq

/-- Abstract values: data carry what they lead to; 'rs' and 'ra' lead into a block of the frame's own heap. -/
inductive AV where
  | junk
  | bool (b : Bool)
  | int (k : IntKind) (n : Int)
  | str (s : ByteArray)
  | nilp
  | nils
  | nilf
  | nili
  | ds (h : SH) (cells : List AV) (len : Nat)
  | da (tag : Bool) (cells : List AV)
  | rs (id off len tot : Nat) (cap : Option Nat)
  | ra (id off tot : Nat)
  | nilm
  | mp (id : Nat)
  | it (id : Nat)
  | fn (f : Fn) (first captured : List AV)
  | iface (t : TypeId) (v : AV)
  | agg (cells : List AV)
  | tup (vs : List AV)
  deriving Inhabited

/-- Where a block lies: block, first cell, how many cells the block has, cells an element. -/
structure Loc where
  b : Nat
  base : Nat
  room : Nat
  esz : Nat

abbrev Locs := Nat → Nat → Option Loc
abbrev CSet := Nat → Nat → Prop

/-- Where a slice lies that is nil, perhaps. -/
def Loc.nowhere : Loc := ⟨0, 1, 0, 0⟩
def Known (φ : Locs) (i : Nat) : Prop := ∃ t D, φ i t = some D

mutual
inductive Rep (φ : Locs) (F G : CSet) (w : World) : Nat → AV → Value → Prop
  | junk {m v} : Rep φ F G w m .junk v
  | bool {m b} : Rep φ F G w m (.bool b) (.bool b)
  | int {m k n} : Rep φ F G w m (.int k n) (.int k n)
  | str {m s} : Rep φ F G w m (.str s) (.string s)
  | nilp {m} : Rep φ F G w m .nilp (.pointer none)
  | nils {m} : Rep φ F G w m .nils (.slice none 0 0)
  | nilf {m} : Rep φ F G w m .nilf .nilFunc
  | nili {m} : Rep φ F G w m .nili .nilIface
  | dsn {m} {h : SH} : h.nn = false → (∀ c, h.cap = some c → c = 0) → Rep φ F G w m (.ds h [] 0) (.slice none 0 0)
  | ds {m} {h : SH} {cells len b o cap} : (h.tag = true → 1 ≤ m) → (∀ c, h.cap = some c → c = cap) → len ≤ cap →
      Cells φ F G w h.tag b o cells → Rep φ F G w m (.ds h cells len) (.slice (some ⟨b, o, none⟩) len cap)
  | da {m tag cells b o} : (tag = true → 1 ≤ m) → Cells φ F G w tag b o cells → Rep φ F G w m (.da tag cells) (.pointer (some ⟨b, o, none⟩))
  | rsn {m id off} {cap : Option Nat} : 2 ≤ m → Known φ id → (∀ c, cap = some c → c = 0) → Rep φ F G w m (.rs id off 0 0 cap) (.slice none 0 0)
  | rs {m id off len tot} {cap : Option Nat} {L c} : 2 ≤ m → φ id tot = some L → (∀ c', cap = some c' → c' = c) → len ≤ c → L.base + off + c * L.esz ≤ L.room →
      Rep φ F G w m (.rs id off len tot cap) (.slice (some ⟨L.b, L.base + off, none⟩) len c)
  | ra {m id off tot L} : 2 ≤ m → φ id tot = some L → Rep φ F G w m (.ra id off tot) (.pointer (some ⟨L.b, L.base + off, none⟩))
  | nilm {m} : Rep φ F G w m .nilm (.map none)
  | mp {m id L} : 2 ≤ m → φ id 0 = some L → Rep φ F G w m (.mp id) (.map (some L.b))
  | it {m id L} : 2 ≤ m → φ id 0 = some L → Rep φ F G w m (.it id) (.pointer (some ⟨L.b, 0, none⟩))
  | fn {m f first captured vs us} : RepL φ F G w m first vs → RepL φ F G w m captured us → Rep φ F G w m (.fn f first captured) (.func f vs.toArray us.toArray)
  | iface {m t a v} : Rep φ F G w m a v → Rep φ F G w m (.iface t a) (.iface t v)
  | agg {m as vs} : RepL φ F G w m as vs → Rep φ F G w m (.agg as) (.agg vs.toArray)
  | tup {m as vs} : RepL φ F G w m as vs → Rep φ F G w m (.tup as) (.tuple vs.toArray)
inductive RepL (φ : Locs) (F G : CSet) (w : World) : Nat → List AV → List Value → Prop
  | nil {m} : RepL φ F G w m [] []
  | cons {m a v as vs} : Rep φ F G w m a v → RepL φ F G w m as vs → RepL φ F G w m (a :: as) (v :: vs)
inductive Cells (φ : Locs) (F G : CSet) (w : World) : Bool → Nat → Nat → List AV → Prop
  | nil {tag b o} : Cells φ F G w tag b o []
  | cons {tag b o a v as} : (if tag = true then G b o else F b o) → w.cell? ⟨b, o, none⟩ = some v → v.oneCell' = true → Rep φ F G w (if tag = true then 1 else 0) a v →
      Cells φ F G w tag b (o + 1) as → Cells φ F G w tag b o (a :: as)
end

section
variable {φ φ' : Locs} {F F' G G' : CSet} {w w' : World}

mutual
theorem Rep.mono (hφ : ∀ i t L, φ i t = some L → φ' i t = some L)
    (hF : ∀ b o, F b o → F' b o ∧ w'.cell? ⟨b, o, none⟩ = w.cell? ⟨b, o, none⟩)
    (hG : ∀ b o, G b o → G' b o ∧ w'.cell? ⟨b, o, none⟩ = w.cell? ⟨b, o, none⟩) :
    ∀ {m a v}, Rep φ F G w m a v → Rep φ' F' G' w' m a v
  | _, _, _, .junk => .junk
  | _, _, _, .bool => .bool
  | _, _, _, .int => .int
  | _, _, _, .str => .str
  | _, _, _, .nilp => .nilp
  | _, _, _, .nils => .nils
  | _, _, _, .nilf => .nilf
  | _, _, _, .nili => .nili
  | _, _, _, .dsn h1 h2 => .dsn h1 h2
  | _, _, _, .ds h1 h2 h3 h4 => .ds h1 h2 h3 (Cells.mono hφ hF hG h4)
  | _, _, _, .da h1 h2 => .da h1 (Cells.mono hφ hF hG h2)
  | _, _, _, .rsn h0 ⟨t, D, hk⟩ h => .rsn h0 ⟨t, D, hφ _ _ _ hk⟩ h
  | _, _, _, .rs h0 h1 h2 h3 h4 => .rs h0 (hφ _ _ _ h1) h2 h3 h4
  | _, _, _, .ra h0 h => .ra h0 (hφ _ _ _ h)
  | _, _, _, .nilm => .nilm
  | _, _, _, .mp h0 h => .mp h0 (hφ _ _ _ h)
  | _, _, _, .it h0 h => .it h0 (hφ _ _ _ h)
  | _, _, _, .fn h1 h2 => .fn (RepL.mono hφ hF hG h1) (RepL.mono hφ hF hG h2)
  | _, _, _, .iface h => .iface (Rep.mono hφ hF hG h)
  | _, _, _, .agg h => .agg (RepL.mono hφ hF hG h)
  | _, _, _, .tup h => .tup (RepL.mono hφ hF hG h)
theorem RepL.mono (hφ : ∀ i t L, φ i t = some L → φ' i t = some L)
    (hF : ∀ b o, F b o → F' b o ∧ w'.cell? ⟨b, o, none⟩ = w.cell? ⟨b, o, none⟩)
    (hG : ∀ b o, G b o → G' b o ∧ w'.cell? ⟨b, o, none⟩ = w.cell? ⟨b, o, none⟩) :
    ∀ {m as vs}, RepL φ F G w m as vs → RepL φ' F' G' w' m as vs
  | _, _, _, .nil => .nil
  | _, _, _, .cons h k => .cons (Rep.mono hφ hF hG h) (RepL.mono hφ hF hG k)
theorem Cells.mono (hφ : ∀ i t L, φ i t = some L → φ' i t = some L)
    (hF : ∀ b o, F b o → F' b o ∧ w'.cell? ⟨b, o, none⟩ = w.cell? ⟨b, o, none⟩)
    (hG : ∀ b o, G b o → G' b o ∧ w'.cell? ⟨b, o, none⟩ = w.cell? ⟨b, o, none⟩) :
    ∀ {tag b o as}, Cells φ F G w tag b o as → Cells φ' F' G' w' tag b o as
  | _, _, _, _, .nil => .nil
  | tag, _, _, _, .cons h1 h2 h5 h3 h4 => .cons
      (by cases tag <;> simp only [if_true, if_false, Bool.false_eq_true] at h1 ⊢; exact (hF _ _ h1).1; exact (hG _ _ h1).1)
      (by rw [← h2]; cases tag <;> simp only [if_true, if_false, Bool.false_eq_true] at h1; exact (hF _ _ h1).2; exact (hG _ _ h1).2)
      h5 (Rep.mono hφ hF hG h3) (Cells.mono hφ hF hG h4)
end

mutual
/-- What holds at a lower mode holds at a higher one. -/
theorem Rep.up : ∀ {m m' a v}, m ≤ m' → Rep φ F G w m a v → Rep φ F G w m' a v
  | _, _, _, _, _, .junk => .junk
  | _, _, _, _, _, .bool => .bool
  | _, _, _, _, _, .int => .int
  | _, _, _, _, _, .str => .str
  | _, _, _, _, _, .nilp => .nilp
  | _, _, _, _, _, .nils => .nils
  | _, _, _, _, _, .nilf => .nilf
  | _, _, _, _, _, .nili => .nili
  | _, _, _, _, _, .dsn h1 h2 => .dsn h1 h2
  | _, _, _, _, hm, .ds h1 h2 h3 h4 => .ds (fun e => Nat.le_trans (h1 e) hm) h2 h3 h4
  | _, _, _, _, hm, .da h1 h2 => .da (fun e => Nat.le_trans (h1 e) hm) h2
  | _, _, _, _, hm, .rsn h0 hk h => .rsn (Nat.le_trans h0 hm) hk h
  | _, _, _, _, hm, .rs h0 h1 h2 h3 h4 => .rs (Nat.le_trans h0 hm) h1 h2 h3 h4
  | _, _, _, _, hm, .ra h0 h => .ra (Nat.le_trans h0 hm) h
  | _, _, _, _, _, .nilm => .nilm
  | _, _, _, _, hm, .mp h0 h => .mp (Nat.le_trans h0 hm) h
  | _, _, _, _, hm, .it h0 h => .it (Nat.le_trans h0 hm) h
  | _, _, _, _, hm, .fn h1 h2 => .fn (RepL.up hm h1) (RepL.up hm h2)
  | _, _, _, _, hm, .iface h => .iface (Rep.up hm h)
  | _, _, _, _, hm, .agg h => .agg (RepL.up hm h)
  | _, _, _, _, hm, .tup h => .tup (RepL.up hm h)
theorem RepL.up : ∀ {m m' as vs}, m ≤ m' → RepL φ F G w m as vs → RepL φ F G w m' as vs
  | _, _, _, _, _, .nil => .nil
  | _, _, _, _, hm, .cons h k => .cons (Rep.up hm h) (RepL.up hm k)
end

mutual
/-- Is it of mode 0: no reference into the frame's heap, nothing borrowed (at the top; what data lead to is data). -/
def AV.m0 : AV → Bool
  | .ds h _ _ => !h.tag
  | .da t _ => !t
  | .rs .. | .ra .. | .mp .. | .it .. => false
  | .fn _ a b => AV.m0L a && AV.m0L b
  | .iface _ a => a.m0
  | .agg l => AV.m0L l
  | .tup l => AV.m0L l
  | _ => true
def AV.m0L : List AV → Bool
  | [] => true
  | a :: l => a.m0 && AV.m0L l
end

mutual
theorem Rep.m0 : ∀ {m a v}, a.m0 = true → Rep φ F G w m a v → Rep φ F G w 0 a v
  | _, _, _, _, .junk => .junk
  | _, _, _, _, .bool => .bool
  | _, _, _, _, .int => .int
  | _, _, _, _, .str => .str
  | _, _, _, _, .nilp => .nilp
  | _, _, _, _, .nils => .nils
  | _, _, _, _, .nilf => .nilf
  | _, _, _, _, .nili => .nili
  | _, _, _, _, .dsn h1 h2 => .dsn h1 h2
  | _, _, _, hm, .ds h1 h2 h3 h4 => .ds (fun e => by simp [AV.m0, e] at hm) h2 h3 h4
  | _, _, _, hm, .da h1 h2 => .da (fun e => by simp [AV.m0, e] at hm) h2
  | _, _, _, hm, .rsn h0 hk h => by simp [AV.m0] at hm
  | _, _, _, hm, .rs h0 h1 h2 h3 h4 => by simp [AV.m0] at hm
  | _, _, _, hm, .ra h0 h => by simp [AV.m0] at hm
  | _, _, _, _, .nilm => .nilm
  | _, _, _, hm, .mp h0 h => by simp [AV.m0] at hm
  | _, _, _, hm, .it h0 h => by simp [AV.m0] at hm
  | _, _, _, hm, .fn h1 h2 => by
      simp [AV.m0] at hm
      exact .fn (RepL.m0 hm.1 h1) (RepL.m0 hm.2 h2)
  | _, _, _, hm, .iface h => .iface (Rep.m0 (by simpa [AV.m0] using hm) h)
  | _, _, _, hm, .agg h => .agg (RepL.m0 (by simpa [AV.m0] using hm) h)
  | _, _, _, hm, .tup h => .tup (RepL.m0 (by simpa [AV.m0] using hm) h)
theorem RepL.m0 : ∀ {m as vs}, AV.m0L as = true → RepL φ F G w m as vs → RepL φ F G w 0 as vs
  | _, _, _, _, .nil => .nil
  | _, _, _, hm, .cons h k => by
      simp [AV.m0L] at hm
      exact .cons (Rep.m0 hm.1 h) (RepL.m0 hm.2 k)
end

mutual
/-- Data of mode 0 look neither at the places of blocks nor at what is borrowed. -/
theorem Rep.any0 {φ2 : Locs} {G2 : CSet} : ∀ {m a v}, m = 0 → Rep φ F G w m a v → Rep φ2 F G2 w m a v
  | _, _, _, _, .junk => .junk
  | _, _, _, _, .bool => .bool
  | _, _, _, _, .int => .int
  | _, _, _, _, .str => .str
  | _, _, _, _, .nilp => .nilp
  | _, _, _, _, .nils => .nils
  | _, _, _, _, .nilf => .nilf
  | _, _, _, _, .nili => .nili
  | _, _, _, _, .dsn h1 h2 => .dsn h1 h2
  | _, _, _, hm, .ds (h := hd) h1 h2 h3 h4 => .ds h1 h2 h3 (Cells.any0 (by cases ht : hd.tag with | false => rfl | true => have := h1 ht; omega) h4)
  | _, _, _, hm, .da (tag := tag) h1 h2 => .da h1 (Cells.any0 (by cases ht : tag with | false => rfl | true => have := h1 ht; omega) h2)
  | _, _, _, hm, .rsn h0 hk h => by omega
  | _, _, _, hm, .rs h0 h1 h2 h3 h4 => by omega
  | _, _, _, hm, .ra h0 h => by omega
  | _, _, _, _, .nilm => .nilm
  | _, _, _, hm, .mp h0 h => by omega
  | _, _, _, hm, .it h0 h => by omega
  | _, _, _, hm, .fn h1 h2 => .fn (RepL.any0 hm h1) (RepL.any0 hm h2)
  | _, _, _, hm, .iface h => .iface (Rep.any0 hm h)
  | _, _, _, hm, .agg h => .agg (RepL.any0 hm h)
  | _, _, _, hm, .tup h => .tup (RepL.any0 hm h)
theorem RepL.any0 {φ2 : Locs} {G2 : CSet} : ∀ {m as vs}, m = 0 → RepL φ F G w m as vs → RepL φ2 F G2 w m as vs
  | _, _, _, _, .nil => .nil
  | _, _, _, hm, .cons h k => .cons (Rep.any0 hm h) (RepL.any0 hm k)
theorem Cells.any0 {φ2 : Locs} {G2 : CSet} : ∀ {tag b o as}, tag = false → Cells φ F G w tag b o as → Cells φ2 F G2 w tag b o as
  | _, _, _, _, _, .nil => .nil
  | _, _, _, _, ht, .cons h1 h2 h5 h3 h4 => .cons (by subst ht; simpa using h1) h2 h5 (Rep.any0 (by simp [ht]) h3) (Cells.any0 ht h4)
end

mutual
/-- Data of mode 1 look at no places of blocks. -/
theorem Rep.any1 {φ2 : Locs} : ∀ {m a v}, m ≤ 1 → Rep φ F G w m a v → Rep φ2 F G w m a v
  | _, _, _, _, .junk => .junk
  | _, _, _, _, .bool => .bool
  | _, _, _, _, .int => .int
  | _, _, _, _, .str => .str
  | _, _, _, _, .nilp => .nilp
  | _, _, _, _, .nils => .nils
  | _, _, _, _, .nilf => .nilf
  | _, _, _, _, .nili => .nili
  | _, _, _, _, .dsn h1 h2 => .dsn h1 h2
  | _, _, _, hm, .ds h1 h2 h3 h4 => .ds h1 h2 h3 (Cells.any1 h4)
  | _, _, _, hm, .da h1 h2 => .da h1 (Cells.any1 h2)
  | _, _, _, hm, .rsn h0 hk h => by omega
  | _, _, _, hm, .rs h0 h1 h2 h3 h4 => by omega
  | _, _, _, hm, .ra h0 h => by omega
  | _, _, _, _, .nilm => .nilm
  | _, _, _, hm, .mp h0 h => by omega
  | _, _, _, hm, .it h0 h => by omega
  | _, _, _, hm, .fn h1 h2 => .fn (RepL.any1 hm h1) (RepL.any1 hm h2)
  | _, _, _, hm, .iface h => .iface (Rep.any1 hm h)
  | _, _, _, hm, .agg h => .agg (RepL.any1 hm h)
  | _, _, _, hm, .tup h => .tup (RepL.any1 hm h)
theorem RepL.any1 {φ2 : Locs} : ∀ {m as vs}, m ≤ 1 → RepL φ F G w m as vs → RepL φ2 F G w m as vs
  | _, _, _, _, .nil => .nil
  | _, _, _, hm, .cons h k => .cons (Rep.any1 hm h) (RepL.any1 hm k)
theorem Cells.any1 {φ2 : Locs} : ∀ {tag b o as}, Cells φ F G w tag b o as → Cells φ2 F G w tag b o as
  | _, _, _, _, .nil => .nil
  | _, _, _, _, .cons h1 h2 h5 h3 h4 => .cons h1 h2 h5 (Rep.any1 (by split <;> omega) h3) (Cells.any1 h4)
end

theorem RepL.get {m as vs} : RepL φ F G w m as vs → ∀ (i : Nat) (a : AV), as[i]? = some a → ∃ v, vs[i]? = some v ∧ Rep φ F G w m a v
  | .nil, i, a, h => by simp at h
  | .cons h k, 0, a, e => by simp at e; subst e; exact ⟨_, rfl, h⟩
  | .cons h k, i + 1, a, e => by simp at e; simpa using RepL.get k i a e

theorem RepL.len {m as vs} : RepL φ F G w m as vs → as.length = vs.length
  | .nil => rfl
  | .cons _ k => by simp [RepL.len k]

theorem RepL.ofGet {m} : ∀ {as vs}, as.length = vs.length → (∀ (i : Nat) (a : AV) (v : Value), as[i]? = some a → vs[i]? = some v → Rep φ F G w m a v) → RepL φ F G w m as vs
  | [], [], _, _ => .nil
  | [], _ :: _, h, _ => by simp at h
  | _ :: _, [], h, _ => by simp at h
  | a :: as, v :: vs, h, k => .cons (k 0 a v rfl rfl) (RepL.ofGet (by simpa using h) fun i a v e f => k (i + 1) a v (by simpa using e) (by simpa using f))

theorem RepL.append {m as vs bs us} : RepL φ F G w m as vs → RepL φ F G w m bs us → RepL φ F G w m (as ++ bs) (vs ++ us)
  | .nil, k => k
  | .cons h h2, k => .cons h (h2.append k)

theorem RepL.take {m as vs} (n : Nat) (h : RepL φ F G w m as vs) : RepL φ F G w m (as.take n) (vs.take n) := by
  induction n generalizing as vs with
  | zero => exact .nil
  | succ n ih => cases h with
    | nil => exact .nil
    | cons h k => exact .cons h (ih k)

theorem RepL.drop {m as vs} (n : Nat) (h : RepL φ F G w m as vs) : RepL φ F G w m (as.drop n) (vs.drop n) := by
  induction n generalizing as vs with
  | zero => exact h
  | succ n ih => cases h with
    | nil => exact .nil
    | cons h k => exact ih k

/-- A row of data cells, cell by cell. -/
theorem Cells.get {tag b} : ∀ {as o}, Cells φ F G w tag b o as → ∀ (i : Nat) (a : AV), as[i]? = some a →
    (if tag = true then G b (o + i) else F b (o + i)) ∧ ∃ v, w.cell? ⟨b, o + i, none⟩ = some v ∧ Rep φ F G w (if tag = true then 1 else 0) a v ∧ v.oneCell' = true
  | _, _, .nil, i, a, h => by simp at h
  | _, _, .cons h1 h2 h5 h3 h4, 0, a, e => by simp at e; subst e; exact ⟨h1, _, h2, h3, h5⟩
  | _, o, .cons h1 h2 h5 h3 h4, i + 1, a, e => by
    have := Cells.get h4 i a (by simpa using e)
    simpa [Nat.add_assoc, Nat.add_comm 1 i] using this

theorem Cells.ofGet {tag b} : ∀ {as o}, (∀ (i : Nat) (a : AV), as[i]? = some a →
    (if tag = true then G b (o + i) else F b (o + i)) ∧ ∃ v, w.cell? ⟨b, o + i, none⟩ = some v ∧ Rep φ F G w (if tag = true then 1 else 0) a v ∧ v.oneCell' = true) → Cells φ F G w tag b o as
  | [], _, _ => .nil
  | a :: as, o, h => by
    obtain ⟨h1, v, h2, h3, h5⟩ := h 0 a rfl
    exact .cons (by simpa using h1) (by simpa using h2) h5 h3 (Cells.ofGet fun i a e => by
      have := h (i + 1) a (by simpa using e)
      simpa [Nat.add_assoc, Nat.add_comm 1 i] using this)

theorem Cells.drop {tag b o as} (n : Nat) (h : Cells φ F G w tag b o as) : Cells φ F G w tag b (o + n) (as.drop n) :=
  Cells.ofGet fun i a e => by
    have := h.get (n + i) a (by simpa [List.getElem?_drop] using e)
    simpa [Nat.add_assoc] using this

theorem Cells.take {tag b o as} (n : Nat) (h : Cells φ F G w tag b o as) : Cells φ F G w tag b o (as.take n) :=
  Cells.ofGet fun i a e => h.get i a (by
    rw [List.getElem?_take] at e
    split at e
    · exact e
    · simp at e)

/-- A value that can lie in one cell. -/
def AV.cell : AV → Bool
  | .junk | .agg _ | .tup _ => false
  | _ => true

theorem Rep.cell {m a v} (h : Rep φ F G w m a v) (hc : a.cell = true) : v.oneCell' = true := by
  cases h <;> first | rfl | (simp [AV.cell] at hc)

end
end Go.Proofs.YtpiincgiakkljaaGreatDoor
/-
  The frame's own heap: blocks of abstract values, what it means that they lie in the world, and what a new block, a store, an append and a freezing make of that.
-/
namespace Go.Proofs.YtpiincgiakkljaaGreatDoor
open Go

/-- A block: its cells, cells an element, may its cells be data elsewhere (ao), may it not grow (fixed), its elements' type, where that is known. -/
structure Blk where
  cells : List AV
  esz : Nat
  ao : Bool := false
  fixed : Bool := false
  ty : Option TypeId := none
  deriving Inhabited

/-- A map (key, value, when it came in), or a walk over a string. -/
inductive AObj where
  | map (es : List (AV × AV × Nat)) (clock : Nat)
  | iter (s : ByteArray) (pos : Nat)
  deriving Inhabited

inductive Slot where
  | free
  | dead
  | blk (k : Blk)
  | obj (o : AObj)
  deriving Inhabited

def isObj : Obj → Bool
  | .map .. | .stringIter .. => true
  | _ => false

def ObjRep (φ : Locs) (F G : CSet) (w : World) : AObj → Obj → Prop
  | .map es clk, .map es' clk' => clk' = clk ∧ RepL φ F G w 2 (es.map (·.1)) (es'.toList.map (·.key)) ∧ RepL φ F G w 2 (es.map (·.2.1)) (es'.toList.map (·.val)) ∧ es'.toList.map (·.born) = es.map (·.2.2)
  | .iter s p, .stringIter s' p' => s' = s ∧ p' = p
  | _, _ => False

theorem ObjRep.isObj {φ : Locs} {F G : CSet} {w : World} {o : AObj} {ob : Obj} (h : ObjRep φ F G w o ob) : isObj ob = true := by
  cases o <;> cases ob <;> first | rfl | exact h.elim

abbrev Heap := Nat → Slot

def upd {α : Type} (f : Nat → α) (i : Nat) (a : α) : Nat → α := fun j => if j = i then a else f j
@[simp] theorem upd_same {α : Type} (f : Nat → α) (i : Nat) (a : α) : upd f i a i = a := by simp [upd]
theorem upd_ne {α : Type} (f : Nat → α) {i j : Nat} (a : α) (h : j ≠ i) : upd f i a j = f j := by simp [upd, h]

/-- The cells that a block owns. -/
def Blk.reg (k : Blk) (L : Loc) (b o : Nat) : Prop := b = L.b ∧ (L.base ≤ L.room ∧ L.base ≤ o) ∧ (k.fixed = true → o < L.base + k.cells.length)

/-- What does not change while a frame runs: the world it began in, what lay where, what was data, borrowed, owned then. -/
structure Ctx where
  w0 : World
  φ0 : Locs
  F0 : CSet
  G0 : CSet
  own0 : CSet
  defs : List Deferred := []

/-- Outside the owned cells the world is as it was. -/
structure Framed (own : CSet) (w w' : World) : Prop where
  os : w'.os = w.os
  output : w'.output = w.output
  size : w.heap.size ≤ w'.heap.size
  blocks : ∀ k, k < w.heap.size → (w'.heap[k]? = w.heap[k]? ∨ (∃ cs cs' e fr fr', w.heap[k]? = some (.cells cs e fr) ∧ w'.heap[k]? = some (.cells cs' e fr') ∧ cs'.size = cs.size ∧ (∀ o, ¬ own k o → cs'[o]? = cs[o]?) ∧ (fr' = fr ∨ ∃ o, own k o)) ∨
    (∃ o o', w.heap[k]? = some o ∧ w'.heap[k]? = some o' ∧ isObj o = true ∧ isObj o' = true ∧ own k 0))

theorem Framed.refl (own : CSet) (w : World) : Framed own w w := ⟨rfl, rfl, Nat.le_refl _, fun _ _ => .inl rfl⟩

theorem Framed.mono {own own' : CSet} {w w' : World} (h : Framed own w w') (ho : ∀ b o, b < w.heap.size → own b o → own' b o) : Framed own' w w' :=
  ⟨h.os, h.output, h.size, fun k hk => by
    rcases h.blocks k hk with h | ⟨cs, cs', e, fr, fr', h1, h2, h3, h4, h5⟩ | ⟨o, o', h1, h2, h3, h4, h5⟩
    · exact .inl h
    · exact .inr (.inl ⟨cs, cs', e, fr, fr', h1, h2, h3, fun o ho' => h4 o fun h' => ho' (ho k o hk h'), h5.imp id fun ⟨o, h⟩ => ⟨o, ho k o hk h⟩⟩)
    · exact .inr (.inr ⟨o, o', h1, h2, h3, h4, ho k 0 hk h5⟩)⟩

theorem Framed.after {own own0 : CSet} {w0 w w' : World} (h : Framed own0 w0 w) (k : Framed own w w') (ho : ∀ b o, own b o → own0 b o ∨ w0.heap.size ≤ b) : Framed own0 w0 w' :=
  ⟨k.os.trans h.os, k.output.trans h.output, Nat.le_trans h.size k.size, fun i hi => by
    have hi' : i < w.heap.size := Nat.lt_of_lt_of_le hi h.size
    have hy : ∀ o, own i o → own0 i o := fun o hw => (ho i o hw).elim id fun h => by omega
    have hn : ∀ o, ¬ own0 i o → ¬ own i o := fun o hn hw => hn (hy o hw)
    rcases h.blocks i hi with e | ⟨cs, cs', t, fr, fr', h1, h2, h3, h4, h5⟩ | ⟨o, o', h1, h2, h3, h4, h5⟩ <;> rcases k.blocks i hi' with e' | ⟨ds, ds', t', gr, gr', k1, k2, k3, k4, k5⟩ | ⟨p, p', k1, k2, k3, k4, k5⟩
    · exact .inl (e'.trans e)
    · exact .inr (.inl ⟨ds, ds', t', gr, gr', by rw [← e, k1], k2, k3, fun o ho => k4 o (hn o ho), k5.imp id fun ⟨o, h⟩ => ⟨o, hy o h⟩⟩)
    · exact .inr (.inr ⟨p, p', by rw [← e, k1], k2, k3, k4, hy 0 k5⟩)
    · exact .inr (.inl ⟨cs, cs', t, fr, fr', h1, by rw [e', h2], h3, h4, h5⟩)
    · rw [h2] at k1
      obtain ⟨rfl, rfl, rfl⟩ : cs' = ds ∧ t = t' ∧ fr' = gr := by simpa using k1
      refine .inr (.inl ⟨cs, ds', t, fr, gr', h1, k2, k3.trans h3, fun o ho => (k4 o (hn o ho)).trans (h4 o ho), ?_⟩)
      rcases k5 with k5 | ⟨o, k5⟩
      · exact h5.imp (fun h5 => k5.trans h5) id
      · exact .inr ⟨o, hy o k5⟩
    · rw [h2] at k1
      cases k1
      cases k3
    · exact .inr (.inr ⟨o, o', h1, by rw [e', h2], h3, h4, h5⟩)
    · rw [h2] at k1
      cases k1
      cases h4
    · exact .inr (.inr ⟨o, p', h1, k2, h3, k4, h5⟩)⟩

theorem Framed.trans {own : CSet} {w w' w'' : World} (h : Framed own w w') (k : Framed own w' w'') : Framed own w w'' := h.after k fun _ _ e => .inl e

theorem Framed.cell {own : CSet} {w w' : World} (h : Framed own w w') {b o : Nat} (hb : b < w.heap.size) (ho : ¬ own b o) : w'.cell? ⟨b, o, none⟩ = w.cell? ⟨b, o, none⟩ := by
  rcases h.blocks b hb with e | ⟨cs, cs', t, fr, fr', h1, h2, h3, h4, h5⟩ | ⟨p, p', h1, h2, h3, h4, h5⟩
  · simp [World.cell?, e]
  · simp [World.cell?, h1, h2, h4 o ho]
  · have q : ∀ (v : World) (ob : Obj), v.heap[b]? = some ob → isObj ob = true → v.cell? ⟨b, o, none⟩ = none := by
      intro v ob e1 e2
      cases ob <;> simp [isObj] at e2 <;> simp [World.cell?, e1]
    rw [q _ _ h1 h3, q _ _ h2 h4]

theorem lt_of_heap {w : World} {b : Nat} {ob : Obj} (h1 : w.heap[b]? = some ob) : b < w.heap.size := by
  rcases Nat.lt_or_ge b w.heap.size with h | h
  · exact h
  · simp [Array.getElem?_eq_none h] at h1

theorem Framed.shapeE {own : CSet} {w w' : World} (h : Framed own w w') {b : Nat} {n : Nat} {e : TypeId} (hn : ∀ o, ¬ own b o) (hw : ∃ cs, w.heap[b]? = some (.cells cs e (0, 0)) ∧ cs.size = n) :
    ∃ cs, w'.heap[b]? = some (.cells cs e (0, 0)) ∧ cs.size = n := by
  obtain ⟨cs, h1, h2⟩ := hw
  rcases h.blocks b (lt_of_heap h1) with e' | ⟨ds, ds', t, fr, fr', k1, k2, k3, k4, k5⟩ | ⟨p, p', k1, k2, k3, k4, k5⟩
  · exact ⟨cs, e'.trans h1, h2⟩
  · rw [h1] at k1
    obtain ⟨rfl, rfl, rfl⟩ : cs = ds ∧ e = t ∧ (0, 0) = fr := by simpa using k1
    rcases k5 with rfl | ⟨o, k5⟩
    · exact ⟨ds', k2, k3.trans h2⟩
    · exact absurd k5 (hn o)
  · exact absurd k5 (hn 0)

theorem Framed.shape {own : CSet} {w w' : World} (h : Framed own w w') {b : Nat} {n : Nat} (hn : ∀ o, ¬ own b o) (hw : ∃ cs e, w.heap[b]? = some (.cells cs e (0, 0)) ∧ cs.size = n) :
    ∃ cs e, w'.heap[b]? = some (.cells cs e (0, 0)) ∧ cs.size = n := by
  obtain ⟨cs, e, h1⟩ := hw
  obtain ⟨ds, h2⟩ := h.shapeE hn ⟨cs, h1⟩
  exact ⟨ds, e, h2⟩

theorem Framed.objSame {own : CSet} {w w' : World} (h : Framed own w w') {b : Nat} {ob : Obj} (hb : w.heap[b]? = some ob) (ho : isObj ob = true) (hn : ¬ own b 0) : w'.heap[b]? = some ob := by
  rcases h.blocks b (lt_of_heap hb) with e' | ⟨ds, ds', t, fr, fr', k1, k2, k3, k4, k5⟩ | ⟨p, p', k1, k2, k3, k4, k5⟩
  · exact e'.trans hb
  · rw [hb] at k1
    cases k1
    cases ho
  · exact absurd k5 hn

/-- A step onward: nothing that was known is lost. -/
structure Grow (G : CSet) (φ : Locs) (F : CSet) (w : World) (φ' : Locs) (F' : CSet) (w' : World) : Prop where
  loc : ∀ i t L, φ i t = some L → φ' i t = some L
  data : ∀ b o, F b o → F' b o ∧ w'.cell? ⟨b, o, none⟩ = w.cell? ⟨b, o, none⟩
  lent : ∀ b o, G b o → G b o ∧ w'.cell? ⟨b, o, none⟩ = w.cell? ⟨b, o, none⟩

theorem Grow.refl (G : CSet) (φ : Locs) (F : CSet) (w : World) : Grow G φ F w φ F w := ⟨fun _ _ _ h => h, fun _ _ h => ⟨h, rfl⟩, fun _ _ h => ⟨h, rfl⟩⟩
theorem Grow.trans {G : CSet} {φ φ' φ'' : Locs} {F F' F'' : CSet} {w w' w'' : World} (h : Grow G φ F w φ' F' w') (k : Grow G φ' F' w' φ'' F'' w'') : Grow G φ F w φ'' F'' w'' :=
  ⟨fun i t L e => k.loc i t L (h.loc i t L e), fun b o e => ⟨(k.data b o (h.data b o e).1).1, (k.data b o (h.data b o e).1).2.trans (h.data b o e).2⟩,
    fun b o e => ⟨e, (k.lent b o e).2.trans (h.lent b o e).2⟩⟩
theorem Grow.rep {G : CSet} {φ φ' : Locs} {F F' : CSet} {w w' : World} {m a v} (h : Grow G φ F w φ' F' w') (r : Rep φ F G w m a v) : Rep φ' F' G w' m a v := r.mono h.loc h.data h.lent
theorem Grow.repL {G : CSet} {φ φ' : Locs} {F F' : CSet} {w w' : World} {m a v} (h : Grow G φ F w φ' F' w') (r : RepL φ F G w m a v) : RepL φ' F' G w' m a v := r.mono h.loc h.data h.lent

/-- A block that lies nowhere yet (an empty slice that may be nil). -/
def Nowhere (φ : Locs) (i : Nat) (k : Blk) : Prop := φ i 0 = some Loc.nowhere ∧ k.cells = [] ∧ k.fixed = false ∧ k.ty = none

/-- A block that lies somewhere. -/
structure Lies (c : Ctx) (φ : Locs) (F : CSet) (w : World) (k : Blk) (L : Loc) : Prop where
  esz : L.esz = k.esz
  row : ∃ cs e, w.heap[L.b]? = some (.cells cs e (0, 0)) ∧ cs.size = L.room
  room : L.base + k.cells.length ≤ L.room
  cell : ∀ (i : Nat) (a : AV), k.cells[i]? = some a → ∃ v, w.cell? ⟨L.b, L.base + i, none⟩ = some v ∧ Rep φ F c.G0 w 2 a v ∧ v.oneCell' = true
  own : ∀ o, k.reg L L.b o → ¬ c.G0 L.b o ∧ (F L.b o → k.ao = true ∧ o < L.base + k.cells.length) ∧ (c.own0 L.b o ∨ c.w0.heap.size ≤ L.b)
  zero : L.base = 0
  typ : ∀ t, k.ty = some t → ∃ cs, w.heap[L.b]? = some (.cells cs t (0, 0)) ∧ cs.size = L.room

structure LiesO (c : Ctx) (φ : Locs) (F : CSet) (w : World) (o : AObj) (L : Loc) : Prop where
  there : ∃ ob, w.heap[L.b]? = some ob ∧ ObjRep φ F c.G0 w o ob
  own : c.own0 L.b 0 ∨ c.w0.heap.size ≤ L.b

structure RelH (c : Ctx) (φ : Locs) (F : CSet) (h : Heap) (w : World) : Prop where
  loc : ∀ i k, h i = .blk k → Nowhere φ i k ∨ ∃ L, φ i k.cells.length = some L ∧ Lies c φ F w k L
  top : ∀ i k t L, h i = .blk k → φ i t = some L → t ≤ k.cells.length
  apart : ∀ i j k l L M, i ≠ j → h i = .blk k → h j = .blk l → φ i k.cells.length = some L → φ j l.cells.length = some M → L.base ≤ L.room → M.base ≤ M.room → L.b ≠ M.b
  fresh : ∀ i t, h i = .free → φ i t = none
  fsub : ∀ b o, c.F0 b o → F b o
  fnew : ∀ b o, F b o → c.F0 b o ∨ c.own0 b o ∨ c.w0.heap.size ≤ b
  fdom : ∀ b o, F b o ∨ c.G0 b o → b < w.heap.size
  frame : Framed c.own0 c.w0 w
  obj : ∀ i o, h i = .obj o → ∃ L, φ i 0 = some L ∧ LiesO c φ F w o L
  objap : ∀ i j o p L M, i ≠ j → h i = .obj o → h j = .obj p → φ i 0 = some L → φ j 0 = some M → L.b ≠ M.b

theorem LiesO.lt {c : Ctx} {φ : Locs} {F : CSet} {w : World} {o : AObj} {L : Loc} (h : LiesO c φ F w o L) : L.b < w.heap.size := by
  obtain ⟨ob, h1, _⟩ := h.there
  exact lt_of_heap h1

theorem ObjRep.mono {φ φ' : Locs} {F F' G : CSet} {w w' : World} {o : AObj} {ob : Obj} (g : Grow G φ F w φ' F' w') (h : ObjRep φ F G w o ob) : ObjRep φ' F' G w' o ob := by
  cases o <;> cases ob <;> first | exact h.elim | exact h | exact ⟨h.1, g.repL h.2.1, g.repL h.2.2.1, h.2.2.2⟩

theorem LiesO.grow {c : Ctx} {φ φ' : Locs} {F F' : CSet} {w w' : World} {o : AObj} {L : Loc} (h : LiesO c φ F w o L) (g : Grow c.G0 φ F w φ' F' w') (hh : ∀ ob, w.heap[L.b]? = some ob → isObj ob = true → w'.heap[L.b]? = some ob) : LiesO c φ' F' w' o L := by
  obtain ⟨ob, h1, h2⟩ := h.there
  exact ⟨⟨ob, hh ob h1 h2.isObj, h2.mono g⟩, h.own⟩

/-- A block of cells is none of the others. -/
theorem LiesO.ne {c : Ctx} {φ : Locs} {F : CSet} {w : World} {o : AObj} {L M : Loc} {k : Blk} (h : LiesO c φ F w o L) (l : Lies c φ F w k M) : L.b ≠ M.b := fun e => by
  obtain ⟨ob, h1, h2⟩ := h.there
  obtain ⟨cs, t, h3, _⟩ := l.row
  rw [e, h3] at h1
  cases h1
  have := h2.isObj
  cases this

theorem Lies.lt {c : Ctx} {φ : Locs} {F : CSet} {w : World} {k : Blk} {L : Loc} (h : Lies c φ F w k L) : L.b < w.heap.size := by
  obtain ⟨cs, e, h1, _⟩ := h.row
  rcases Nat.lt_or_ge L.b w.heap.size with h | h
  · exact h
  · simp [Array.getElem?_eq_none h] at h1

section
variable {c : Ctx} {φ : Locs} {F : CSet} {h : Heap} {w : World}

theorem heap_alloc (w : World) (o : Obj) (k : Nat) (hk : k < w.heap.size) : (w.alloc o).heap[k]? = w.heap[k]? := RowKit.Below.heap_alloc w o k hk
theorem alloc_size (w : World) (o : Obj) : (w.alloc o).heap.size = w.heap.size + 1 := Array.size_push ..
theorem alloc_new (w : World) (o : Obj) : (w.alloc o).heap[w.heap.size]? = some o := by
  show (w.heap.push o)[w.heap.size]? = _
  simp
theorem cell_alloc (w : World) (o : Obj) (b off : Nat) (hk : b < w.heap.size) : (w.alloc o).cell? ⟨b, off, none⟩ = w.cell? ⟨b, off, none⟩ := by
  simp [World.cell?, heap_alloc w o b hk]
theorem cell_new (w : World) (vs : Array Value) (e : TypeId) (fr : Nat × Nat) (off : Nat) : (w.alloc (.cells vs e fr)).cell? ⟨w.heap.size, off, none⟩ = vs[off]? := by
  have h := alloc_new w (.cells vs e fr)
  unfold World.cell?
  rw [h]
  rfl
theorem framed_alloc (own : CSet) (w : World) (o : Obj) : Framed own w (w.alloc o) :=
  ⟨rfl, rfl, by rw [alloc_size]; omega, fun k hk => .inl (heap_alloc w o k hk)⟩
theorem grow_alloc {G : CSet} (φ : Locs) (F : CSet) (w : World) (o : Obj) (hd : ∀ b o, F b o ∨ G b o → b < w.heap.size) : Grow G φ F w φ F (w.alloc o) :=
  ⟨fun _ _ _ e => e, fun b o' e => ⟨e, cell_alloc w o b o' (hd b o' (.inl e))⟩, fun b o' e => ⟨e, cell_alloc w o b o' (hd b o' (.inr e))⟩⟩

/-- Drawing changes no block. -/
theorem RelH.drew (r : RelH c φ F h w) : RelH c φ F h { w with drawn := w.drawn + 1 } := by
  have hg : Grow c.G0 φ F w φ F { w with drawn := w.drawn + 1 } := ⟨fun _ _ _ e => e, fun _ _ e => ⟨e, rfl⟩, fun _ _ e => ⟨e, rfl⟩⟩
  refine ⟨fun i k e => (r.loc i k e).imp id fun ⟨L, e1, l⟩ => ⟨L, e1, l.esz, l.row, l.room, fun i a e => ?_, l.own, l.zero, l.typ⟩, r.top, r.apart, r.fresh, r.fsub, r.fnew, r.fdom, ⟨r.frame.os, r.frame.output, r.frame.size, r.frame.blocks⟩, fun i o e => (r.obj i o e).imp fun L h => ⟨h.1, h.2.grow hg fun _ e _ => e⟩, r.objap⟩
  obtain ⟨v, e1, e2, e3⟩ := l.cell i a e
  exact ⟨v, e1, hg.rep e2, e3⟩

/-- A new block of the frame's own. -/
theorem RelH.alloc (r : RelH c φ F h w) {i : Nat} (k : Blk) (hi : φ i k.cells.length = none) (htop : ∀ t L, φ i t = some L → t ≤ k.cells.length) (vs : List Value) (hv : RepL φ F c.G0 w 2 k.cells vs) (hone : ∀ v ∈ vs, v.oneCell' = true) (more : List Value) (e : TypeId) (hty : ∀ t, k.ty = some t → t = e) :
    ∃ φ', φ' i k.cells.length = some ⟨w.heap.size, 0, (vs ++ more).length, k.esz⟩ ∧
      RelH c φ' F (upd h i (.blk k)) (w.alloc (.cells (vs ++ more).toArray e)) ∧ Grow c.G0 φ F w φ' F (w.alloc (.cells (vs ++ more).toArray e)) := by
  let L : Loc := ⟨w.heap.size, 0, (vs ++ more).length, k.esz⟩
  let φ' : Locs := fun j t => if j = i ∧ t = k.cells.length then some L else φ j t
  have hlen := hv.len
  have hg : Grow c.G0 φ F w φ' F (w.alloc (.cells (vs ++ more).toArray e)) := by
    refine ⟨fun j t M ej => ?_, (grow_alloc φ F w _ r.fdom).data, (grow_alloc φ F w _ r.fdom).lent⟩
    have : ¬ (j = i ∧ t = k.cells.length) := by
      rintro ⟨rfl, rfl⟩
      rw [hi] at ej
      cases ej
    simp only [φ']
    rw [if_neg this, ej]
  have hφ : ∀ j t, j ≠ i → φ' j t = φ j t := fun j t hj => by simp [φ', hj]
  refine ⟨φ', by simp [φ', L], ⟨?_, ?_, ?_, ?_, r.fsub, r.fnew, ?_, ?_, ?_, ?_⟩, hg⟩
  · intro j l ej
    by_cases hj : j = i
    · subst hj
      simp at ej
      subst ej
      refine .inr ⟨L, by simp [φ'], rfl, ⟨(vs ++ more).toArray, e, alloc_new _ _, by simp [L]⟩, by simp [L, hlen], ?_, ?_, rfl, fun t ht => ⟨(vs ++ more).toArray, by rw [hty t ht]; exact alloc_new _ _, by simp [L]⟩⟩
      · intro n a en
        obtain ⟨v, e1, e2⟩ := hv.get n a en
        refine ⟨v, ?_, hg.rep e2, hone v (List.mem_of_getElem? e1)⟩
        show (w.alloc _).cell? ⟨w.heap.size, 0 + n, none⟩ = _
        rw [cell_new]
        have : n < vs.length := by
          rcases Nat.lt_or_ge n vs.length with h | h
          · exact h
          · simp [List.getElem?_eq_none h] at e1
        simp [List.getElem?_append_left this, e1]
      · intro o _
        refine ⟨fun hG => ?_, fun hF => ?_, .inr r.frame.size⟩
        · exact absurd (r.fdom _ _ (.inr hG)) (Nat.lt_irrefl _)
        · exact absurd (r.fdom _ _ (.inl hF)) (Nat.lt_irrefl _)
    · rw [upd_ne _ _ hj] at ej
      rcases r.loc j l ej with ⟨h1, h2, h3⟩ | ⟨M, e1, lies⟩
      · exact .inl ⟨by rw [hφ j 0 hj]; exact h1, h2, h3⟩
      · refine .inr ⟨M, by rw [hφ j _ hj]; exact e1, lies.esz, ?_, lies.room, ?_, lies.own, lies.zero, fun t ht => ?_⟩
        · obtain ⟨cs, t, h1, h2⟩ := lies.row
          exact ⟨cs, t, by rw [heap_alloc w _ _ lies.lt]; exact h1, h2⟩
        · intro n a en
          obtain ⟨v, h1, h2, h3⟩ := lies.cell n a en
          exact ⟨v, by rw [cell_alloc w _ _ _ lies.lt]; exact h1, hg.rep h2, h3⟩
        · obtain ⟨cs, h1, h2⟩ := lies.typ t ht
          exact ⟨cs, by rw [heap_alloc w _ _ lies.lt]; exact h1, h2⟩
  · intro j l t M ej et
    by_cases hj : j = i
    · subst hj
      simp at ej
      subst ej
      by_cases ht : t = k.cells.length
      · omega
      · simp only [φ'] at et
        rw [if_neg (by simp [ht])] at et
        exact htop _ _ et
    · rw [upd_ne _ _ hj] at ej
      rw [hφ j t hj] at et
      exact r.top j l t M ej et
  · have key : ∀ j l M, j ≠ i → h j = .blk l → φ j l.cells.length = some M → M.base ≤ M.room → M.b ≠ w.heap.size := by
      intro j l M hj ej eM hr
      rcases r.loc j l ej with ⟨h1, h2, h3⟩ | ⟨M', e1, lies⟩
      · rw [h2] at eM
        simp [h1] at eM
        subst eM
        simp [Loc.nowhere] at hr
      · rw [e1] at eM
        cases eM
        have := lies.lt
        omega
    intro j1 j2 l1 l2 M1 M2 hne e1 e2 f1 f2 hr1 hr2
    by_cases h1 : j1 = i
    · subst h1
      have h2 : j2 ≠ j1 := fun e => hne e.symm
      rw [upd_ne _ _ h2] at e2
      rw [hφ j2 _ h2] at f2
      simp at e1
      subst e1
      simp [φ'] at f1
      subst f1
      exact fun e => key j2 l2 M2 h2 e2 f2 hr2 e.symm
    · rw [upd_ne _ _ h1] at e1
      rw [hφ j1 _ h1] at f1
      by_cases h2 : j2 = i
      · subst h2
        simp at e2
        subst e2
        simp [φ'] at f2
        subst f2
        exact key j1 l1 M1 h1 e1 f1 hr1
      · rw [upd_ne _ _ h2] at e2
        rw [hφ j2 _ h2] at f2
        exact r.apart j1 j2 l1 l2 M1 M2 hne e1 e2 f1 f2 hr1 hr2
  · intro j t ej
    by_cases hj : j = i
    · subst hj
      simp at ej
    · rw [upd_ne _ _ hj] at ej
      rw [hφ j t hj]
      exact r.fresh j t ej
  · intro b o hb
    have := r.fdom b o hb
    rw [alloc_size]
    omega
  · exact r.frame.trans (framed_alloc _ _ _)
  · exact fun j o ej => by
      have hj : j ≠ i := fun e => by subst e; simp at ej
      rw [upd_ne _ _ hj] at ej
      obtain ⟨M, e1, l⟩ := r.obj j o ej
      exact ⟨M, by rw [hφ j 0 hj]; exact e1, l.grow hg fun ob e _ => by rw [heap_alloc w _ _ l.lt]; exact e⟩
  · exact fun j1 j2 o p L M hne e1 e2 => by
      have h1 : j1 ≠ i := fun e => by subst e; simp at e1
      have h2 : j2 ≠ i := fun e => by subst e; simp at e2
      rw [upd_ne _ _ h1] at e1
      rw [upd_ne _ _ h2] at e2
      rw [hφ _ _ h1, hφ _ _ h2]
      exact r.objap j1 j2 o p L M hne e1 e2

theorem RelH.free_none (r : RelH c φ F h w) {i : Nat} (hi : h i = .free) : (∀ t, φ i t = none) ∧ ∀ n t L, φ i t = some L → t ≤ n :=
  ⟨fun t => r.fresh i t hi, fun n t L e => by rw [r.fresh i t hi] at e; cases e⟩

/-- A block that lies nowhere yet. -/
theorem RelH.virt (r : RelH c φ F h w) {i : Nat} (hi : h i = .free) (esz : Nat) : ∃ φ', φ' i 0 = some Loc.nowhere ∧ RelH c φ' F (upd h i (.blk ⟨[], esz, false, false, none⟩)) w ∧ Grow c.G0 φ F w φ' F w := by
  let φ' : Locs := fun j t => if j = i ∧ t = 0 then some Loc.nowhere else φ j t
  have hφ : ∀ j t, j ≠ i → φ' j t = φ j t := fun j t hj => by simp [φ', hj]
  have hi0 : φ' i 0 = some Loc.nowhere := by simp [φ']
  have hg : Grow c.G0 φ F w φ' F w := by
    refine ⟨fun j t M ej => ?_, fun _ _ e => ⟨e, rfl⟩, fun _ _ e => ⟨e, rfl⟩⟩
    have : j ≠ i := by
      rintro rfl
      rw [r.fresh _ _ hi] at ej
      cases ej
    rw [hφ j t this, ej]
  refine ⟨φ', hi0, ⟨?_, ?_, ?_, ?_, r.fsub, r.fnew, r.fdom, r.frame, ?_, ?_⟩, hg⟩
  · intro j k ej
    by_cases hj : j = i
    · subst hj
      simp at ej
      subst ej
      exact .inl ⟨hi0, rfl, rfl, rfl⟩
    · rw [upd_ne _ _ hj] at ej
      rcases r.loc j k ej with ⟨h1, h2, h3⟩ | ⟨M, e1, lies⟩
      · exact .inl ⟨by rw [hφ j 0 hj]; exact h1, h2, h3⟩
      · refine .inr ⟨M, by rw [hφ j _ hj]; exact e1, lies.esz, lies.row, lies.room, fun n a en => ?_, lies.own, lies.zero, lies.typ⟩
        obtain ⟨v, f1, f2, f3⟩ := lies.cell n a en
        exact ⟨v, f1, hg.rep f2, f3⟩
  · intro j k t L ej et
    by_cases hj : j = i
    · subst hj
      simp only [φ'] at et
      by_cases ht : t = 0
      · omega
      · rw [if_neg (by simp [ht]), r.fresh _ _ hi] at et
        cases et
    · rw [upd_ne _ _ hj] at ej
      rw [hφ j t hj] at et
      exact r.top j k t L ej et
  · intro j1 j2 l1 l2 M1 M2 hne e1 e2 f1 f2 hr1 hr2
    by_cases h1 : j1 = i
    · subst h1
      simp at e1
      subst e1
      rw [List.length_nil, hi0] at f1
      cases f1
      simp [Loc.nowhere] at hr1
    · by_cases h2 : j2 = i
      · subst h2
        simp at e2
        subst e2
        rw [List.length_nil, hi0] at f2
        cases f2
        simp [Loc.nowhere] at hr2
      · rw [upd_ne _ _ h1] at e1
        rw [upd_ne _ _ h2] at e2
        rw [hφ _ _ h1] at f1
        rw [hφ _ _ h2] at f2
        exact r.apart j1 j2 l1 l2 M1 M2 hne e1 e2 f1 f2 hr1 hr2
  · intro j t ej
    by_cases hj : j = i
    · subst hj
      simp at ej
    · rw [upd_ne _ _ hj] at ej
      rw [hφ j t hj]
      exact r.fresh j t ej
  · exact fun j o ej => by
      have hj : j ≠ i := fun e => by subst e; simp at ej
      rw [upd_ne _ _ hj] at ej
      obtain ⟨M, e1, l⟩ := r.obj j o ej
      exact ⟨M, by rw [hφ j 0 hj]; exact e1, l.grow hg fun ob e _ => e⟩
  · exact fun j1 j2 o p L M hne e1 e2 => by
      have h1 : j1 ≠ i := fun e => by subst e; simp at e1
      have h2 : j2 ≠ i := fun e => by subst e; simp at e2
      rw [upd_ne _ _ h1] at e1
      rw [upd_ne _ _ h2] at e2
      rw [hφ _ _ h1, hφ _ _ h2]
      exact r.objap j1 j2 o p L M hne e1 e2

/-- A block that is used no longer. -/
theorem RelH.dead (r : RelH c φ F h w) (i : Nat) (hi : h i ≠ .free) : RelH c φ F (upd h i .dead) w := by
  have sub : ∀ j k, upd h i .dead j = .blk k → j ≠ i ∧ h j = .blk k := by
    intro j k ej
    by_cases hj : j = i
    · subst hj
      simp at ej
    · rw [upd_ne _ _ hj] at ej
      exact ⟨hj, ej⟩
  have subo : ∀ j o, upd h i .dead j = .obj o → h j = .obj o := by
    intro j k ej
    by_cases hj : j = i
    · subst hj
      simp at ej
    · rw [upd_ne _ _ hj] at ej
      exact ej
  refine ⟨fun j k ej => r.loc j k (sub j k ej).2, fun j k t L ej => r.top j k t L (sub j k ej).2, fun j1 j2 l1 l2 M1 M2 hne e1 e2 => r.apart j1 j2 l1 l2 M1 M2 hne (sub _ _ e1).2 (sub _ _ e2).2, ?_, r.fsub, r.fnew, r.fdom, r.frame, fun j o ej => r.obj j o (subo j o ej), fun j1 j2 o p L M hne e1 e2 => r.objap j1 j2 o p L M hne (subo _ _ e1) (subo _ _ e2)⟩
  intro j t ej
  by_cases hj : j = i
  · subst hj
    simp at ej
  · rw [upd_ne _ _ hj] at ej
    exact r.fresh j t ej

/-- Cells of a block are written, from lo up to hi: a store, or an append where it lies. -/
theorem RelH.write (r : RelH c φ F h w) {i : Nat} {k k' : Blk} {L : Loc} {lo hi : Nat} {w' : World} (hi' : h i = .blk k) (hL : φ i k.cells.length = some L) (lies : Lies c φ F w k L)
    (hesz : k'.esz = k.esz) (hao : k'.ao = k.ao) (hfixed : k'.fixed = k.fixed) (hty : k'.ty = k.ty) (hroom : L.base + k'.cells.length ≤ L.room) (hlen : k.cells.length ≤ k'.cells.length)
    (hfix : k.fixed = true → k'.cells.length = k.cells.length) (hhi : hi ≤ k'.cells.length) (hF : ∀ o, lo ≤ o → o < hi → ¬ F L.b (L.base + o))
    (hw : Framed (fun b o => b = L.b ∧ L.base + lo ≤ o ∧ o < L.base + hi) w w') (hrow : ∀ e, (∃ cs, w.heap[L.b]? = some (.cells cs e (0, 0)) ∧ cs.size = L.room) → ∃ cs, w'.heap[L.b]? = some (.cells cs e (0, 0)) ∧ cs.size = L.room)
    (hnew : ∀ (n : Nat) (a : AV), k'.cells[n]? = some a → ((n < lo ∨ hi ≤ n) ∧ k.cells[n]? = some a) ∨ ∃ v, w'.cell? ⟨L.b, L.base + n, none⟩ = some v ∧ Rep φ F c.G0 w 2 a v ∧ v.oneCell' = true) :
    ∃ φ', φ' i k'.cells.length = some L ∧ RelH c φ' F (upd h i (.blk k')) w' ∧ Grow c.G0 φ F w φ' F w' := by
  let φ' : Locs := fun j t => if j = i ∧ t = k'.cells.length then some L else φ j t
  have hreg : ∀ o, L.base + lo ≤ o → o < L.base + hi → k.reg L L.b o := fun o h1 h2 => ⟨rfl, by have := lies.room; omega, fun hf => by have := hfix hf; omega⟩
  have hout : ∀ b o, F b o ∨ c.G0 b o → ¬ (b = L.b ∧ L.base + lo ≤ o ∧ o < L.base + hi) := by
    rintro b o hFG ⟨rfl, h1, h2⟩
    rcases hFG with hf | hg
    · exact hF (o - L.base) (by omega) (by omega) (by rwa [show L.base + (o - L.base) = o by omega])
    · exact (lies.own o (hreg o h1 h2)).1 hg
  have hsame : ∀ b o, b < w.heap.size → ¬ (b = L.b ∧ L.base + lo ≤ o ∧ o < L.base + hi) → w'.cell? ⟨b, o, none⟩ = w.cell? ⟨b, o, none⟩ := fun b o hb hn => hw.cell hb hn
  have hg : Grow c.G0 φ F w φ' F w' := by
    refine ⟨fun j t M ej => ?_, fun b o e => ⟨e, hsame b o (r.fdom b o (.inl e)) (hout b o (.inl e))⟩, fun b o e => ⟨e, hsame b o (r.fdom b o (.inr e)) (hout b o (.inr e))⟩⟩
    by_cases he : j = i ∧ t = k'.cells.length
    · obtain ⟨rfl, rfl⟩ := he
      have := r.top _ _ _ _ hi' ej
      have hq : k'.cells.length = k.cells.length := by omega
      rw [hq, hL] at ej
      simpa [φ'] using ej
    · simp only [φ']
      rw [if_neg he, ej]
  have hφ : ∀ j t, j ≠ i → φ' j t = φ j t := fun j t hj => by simp [φ', hj]
  have hreg' : ∀ b o, k'.reg L b o → k.reg L b o := fun b o ⟨h1, h2, h3⟩ => ⟨h1, h2, fun hf => by have := h3 (by rw [hfixed]; exact hf); have := hfix hf; omega⟩
  refine ⟨φ', by simp [φ'], ⟨?_, ?_, ?_, ?_, r.fsub, r.fnew, ?_, ?_, ?_, ?_⟩, hg⟩
  · intro j l ej
    by_cases hj : j = i
    · subst hj
      simp at ej
      subst ej
      refine .inr ⟨L, by simp [φ'], lies.esz.trans hesz.symm, (let ⟨cs, e, h⟩ := lies.row; let ⟨ds, h'⟩ := hrow e ⟨cs, h⟩; ⟨ds, e, h'⟩), hroom, ?_, ?_, lies.zero, fun t ht => hrow t (lies.typ t (by rw [← hty]; exact ht))⟩
      · intro n a en
        rcases hnew n a en with ⟨h1, h2⟩ | ⟨v, h1, h2, h3⟩
        · obtain ⟨v, e1, e2, e3⟩ := lies.cell n a h2
          exact ⟨v, by rw [hsame _ _ lies.lt (by omega)]; exact e1, hg.rep e2, e3⟩
        · exact ⟨v, h1, hg.rep h2, h3⟩
      · intro o ho
        obtain ⟨h1, h2, h3⟩ := lies.own o (hreg' _ _ ho)
        exact ⟨h1, fun hf => by have := h2 hf; rw [hao]; exact ⟨this.1, by omega⟩, h3⟩
    · rw [upd_ne _ _ hj] at ej
      rcases r.loc j l ej with ⟨h1, h2, h3⟩ | ⟨M, e1, ml⟩
      · exact .inl ⟨by rw [hφ j 0 hj]; exact h1, h2, h3⟩
      · have hMb : M.b ≠ L.b := r.apart j i l k M L hj ej hi' e1 hL (by have := ml.room; omega) (by have := lies.room; omega)
        refine .inr ⟨M, by rw [hφ j _ hj]; exact e1, ml.esz, hw.shape (fun o h => hMb h.1) ml.row, ml.room, ?_, ml.own, ml.zero, fun t ht => hw.shapeE (fun o h => hMb h.1) (ml.typ t ht)⟩
        intro n a en
        obtain ⟨v, f1, f2, f3⟩ := ml.cell n a en
        refine ⟨v, ?_, hg.rep f2, f3⟩
        rw [hsame _ _ ml.lt fun h => hMb h.1]
        exact f1
  · intro j l t M ej et
    by_cases hj : j = i
    · subst hj
      simp at ej
      subst ej
      by_cases ht : t = k'.cells.length
      · omega
      · simp only [φ'] at et
        rw [if_neg (by simp [ht])] at et
        have := r.top _ _ _ _ hi' et
        omega
    · rw [upd_ne _ _ hj] at ej
      rw [hφ j t hj] at et
      exact r.top j l t M ej et
  · intro j1 j2 l1 l2 M1 M2 hne e1 e2 f1 f2 hr1 hr2
    by_cases h1 : j1 = i
    · subst h1
      have h2 : j2 ≠ j1 := fun e => hne e.symm
      rw [upd_ne _ _ h2] at e2
      rw [hφ j2 _ h2] at f2
      simp at e1
      subst e1
      simp [φ'] at f1
      subst f1
      exact r.apart j1 j2 k l2 L M2 hne hi' e2 hL f2 hr1 hr2
    · rw [upd_ne _ _ h1] at e1
      rw [hφ j1 _ h1] at f1
      by_cases h2 : j2 = i
      · subst h2
        simp at e2
        subst e2
        simp [φ'] at f2
        subst f2
        exact r.apart j1 j2 l1 k M1 L hne e1 hi' f1 hL hr1 hr2
      · rw [upd_ne _ _ h2] at e2
        rw [hφ j2 _ h2] at f2
        exact r.apart j1 j2 l1 l2 M1 M2 hne e1 e2 f1 f2 hr1 hr2
  · intro j t ej
    by_cases hj : j = i
    · subst hj
      simp at ej
    · rw [upd_ne _ _ hj] at ej
      rw [hφ j t hj]
      exact r.fresh j t ej
  · intro b o hb
    exact Nat.lt_of_lt_of_le (r.fdom b o hb) hw.size
  · refine r.frame.after hw ?_
    rintro b o ⟨rfl, h1, h2⟩
    exact (lies.own o (hreg o h1 h2)).2.2
  · exact fun j o ej => by
      have hj : j ≠ i := fun e => by subst e; simp at ej
      rw [upd_ne _ _ hj] at ej
      obtain ⟨M, e1, l⟩ := r.obj j o ej
      exact ⟨M, by rw [hφ j 0 hj]; exact e1, l.grow hg fun ob e ho => hw.objSame e ho fun h => l.ne lies h.1⟩
  · exact fun j1 j2 o p L M hne e1 e2 => by
      have h1 : j1 ≠ i := fun e => by subst e; simp at e1
      have h2 : j2 ≠ i := fun e => by subst e; simp at e2
      rw [upd_ne _ _ h1] at e1
      rw [upd_ne _ _ h2] at e2
      rw [hφ _ _ h1, hφ _ _ h2]
      exact r.objap j1 j2 o p L M hne e1 e2

/-- Cells of a block become data. -/
theorem RelH.freeze (r : RelH c φ F h w) {i : Nat} {k : Blk} {L : Loc} (lo hi : Nat) (hi' : h i = .blk k) (hL : φ i k.cells.length = some L) (lies : Lies c φ F w k L) (hhi : hi ≤ k.cells.length)
    (hm : AV.m0L ((k.cells.take hi).drop lo) = true) :
    ∃ F', RelH c φ F' (upd h i (.blk { k with ao := true })) w ∧ Grow c.G0 φ F w φ F' w ∧ Cells φ F' c.G0 w false L.b (L.base + lo) ((k.cells.take hi).drop lo) := by
  let F' : CSet := fun b o => F b o ∨ (b = L.b ∧ L.base + lo ≤ o ∧ o < L.base + hi)
  have hg : Grow c.G0 φ F w φ F' w := ⟨fun _ _ _ e => e, fun _ _ e => ⟨.inl e, rfl⟩, fun _ _ e => ⟨e, rfl⟩⟩
  have hreg : ∀ o, L.base + lo ≤ o → o < L.base + hi → k.reg L L.b o := fun o h1 h2 => ⟨rfl, by have := lies.room; omega, fun _ => by omega⟩
  have hkk : ∀ j l, upd h i (.blk { k with ao := true }) j = .blk l → ∃ l', h j = .blk l' ∧ l'.cells = l.cells ∧ l'.fixed = l.fixed ∧ l'.esz = l.esz ∧ (j ≠ i → l' = l) ∧ (j = i → l.ao = true ∧ l' = k) ∧ l'.ty = l.ty := by
    intro j l ej
    by_cases hj : j = i
    · subst hj
      simp at ej
      subst ej
      exact ⟨k, hi', rfl, rfl, rfl, fun h => absurd rfl h, fun _ => ⟨rfl, rfl⟩, rfl⟩
    · rw [upd_ne _ _ hj] at ej
      exact ⟨l, ej, rfl, rfl, rfl, fun _ => rfl, fun h => absurd h hj, rfl⟩
  have hregs : ∀ (l l' : Blk) (M : Loc) b o, l'.cells = l.cells → l'.fixed = l.fixed → l.reg M b o → l'.reg M b o := fun l l' M b o h1 h2 ⟨a1, a2, a3⟩ => ⟨a1, a2, fun hf => by rw [h1]; exact a3 (by rw [← h2]; exact hf)⟩
  refine ⟨F', ⟨?_, ?_, ?_, ?_, fun b o e => .inl (r.fsub b o e), ?_, ?_, r.frame, ?_, ?_⟩, hg, Cells.ofGet fun n a en => ?_⟩
  · intro j l ej
    obtain ⟨l', e1, e2, e3, e4, e5, e6, e7⟩ := hkk j l ej
    rcases r.loc j l' e1 with ⟨h1, h2, h3, h4⟩ | ⟨M, f1, ml⟩
    · exact .inl ⟨h1, by rw [← e2]; exact h2, by rw [← e3]; exact h3, by rw [← e7]; exact h4⟩
    · refine .inr ⟨M, by rw [← e2]; exact f1, by rw [← e4]; exact ml.esz, ml.row, by rw [← e2]; exact ml.room, ?_, ?_, ml.zero, by rw [← e7]; exact ml.typ⟩
      · intro n a en
        obtain ⟨v, h1, h2, h3⟩ := ml.cell n a (by rw [e2]; exact en)
        exact ⟨v, h1, hg.rep h2, h3⟩
      · intro o ho
        have ho' := hregs l l' M M.b o e2 e3 ho
        obtain ⟨h1, h2, h3⟩ := ml.own o ho'
        refine ⟨h1, ?_, h3⟩
        rintro (hf | ⟨hb, hf1, hf2⟩)
        · have := h2 hf
          rw [e2] at this
          by_cases hj : j = i
          · exact ⟨(e6 hj).1, this.2⟩
          · rw [← e5 hj] at this ⊢; exact this
        · by_cases hj : j = i
          · obtain ⟨g1, g2⟩ := e6 hj
            subst hj
            subst g2
            rw [hL] at f1
            cases f1
            exact ⟨g1, by rw [← e2]; omega⟩
          · exact absurd hb.symm (r.apart i j k l' L M (fun e => hj e.symm) hi' e1 hL f1 (by have := lies.room; omega) (by have := ml.room; omega))
  · intro j l t M ej et
    obtain ⟨l', e1, e2, _⟩ := hkk j l ej
    rw [← e2]
    exact r.top j l' t M e1 et
  · intro j1 j2 l1 l2 M1 M2 hne e1 e2 f1 f2 hr1 hr2
    obtain ⟨l1', a1, a2, a3, _⟩ := hkk j1 l1 e1
    obtain ⟨l2', b1, b2, b3, _⟩ := hkk j2 l2 e2
    exact r.apart j1 j2 l1' l2' M1 M2 hne a1 b1 (by rw [a2]; exact f1) (by rw [b2]; exact f2) hr1 hr2
  · intro j t ej
    by_cases hj : j = i
    · subst hj
      simp at ej
    · rw [upd_ne _ _ hj] at ej
      exact r.fresh j t ej
  · rintro b o (hf | ⟨rfl, h1, h2⟩)
    · exact r.fnew b o hf
    · exact .inr (lies.own o (hreg o h1 h2)).2.2
  · rintro b o ((hf | ⟨rfl, h1, h2⟩) | hf)
    · exact r.fdom b o (.inl hf)
    · exact lies.lt
    · exact r.fdom b o (.inr hf)
  · exact fun j o ej => by
      have hj : j ≠ i := fun e => by subst e; simp at ej
      rw [upd_ne _ _ hj] at ej
      obtain ⟨M, e1, l⟩ := r.obj j o ej
      exact ⟨M, e1, l.grow hg fun ob e _ => e⟩
  · exact fun j1 j2 o p L M hne e1 e2 => by
      have h1 : j1 ≠ i := fun e => by subst e; simp at e1
      have h2 : j2 ≠ i := fun e => by subst e; simp at e2
      rw [upd_ne _ _ h1] at e1
      rw [upd_ne _ _ h2] at e2
      exact r.objap j1 j2 o p L M hne e1 e2
  · have hn : lo + n < hi ∧ k.cells[lo + n]? = some a := by
      rw [List.getElem?_drop, List.getElem?_take] at en
      split at en
      · exact ⟨by omega, en⟩
      · simp at en
    obtain ⟨v, h1, h2, h3⟩ := lies.cell (lo + n) a hn.2
    refine ⟨.inr ⟨rfl, by omega, by omega⟩, v, by rw [← h1]; congr 2; omega, ?_, h3⟩
    have hma : a.m0 = true := by
      have : ∀ (l : List AV) (n : Nat), AV.m0L l = true → l[n]? = some a → a.m0 = true := by
        intro l
        induction l with
        | nil => intro n _ e; simp at e
        | cons x l ih =>
          intro n hl e
          simp [AV.m0L] at hl
          cases n with
          | zero => simp at e; subst e; exact hl.1
          | succ n => exact ih n hl.2 (by simpa using e)
      exact this _ n hm en
    simpa using Rep.m0 hma (hg.rep h2)
end
end Go.Proofs.YtpiincgiakkljaaGreatDoor
/-
  The abstract operations, first part: scalars, addresses, loads. Each is shown to be what the model's operation does.
-/
namespace Go.Proofs.YtpiincgiakkljaaGreatDoor
open Go

/-- A computation that looks at nothing but the program. -/
def pureRun {α : Type} (P : Program) : Sem α → Option α
  | .pure a => some a
  | .program k => pureRun P (k P)
  | .mark _ k => pureRun P k
  | _ => none

theorem pureRun_run {α : Type} {P : Program} : ∀ {s : Sem α} {a : α}, pureRun P s = some a → ∀ w, s.run P w = .ok a w := by
  intro s
  induction s with
  | pure a => intro b h w; simp [pureRun] at h; subst h; rfl
  | program k ih => intro b h w; simp only [pureRun] at h; exact ih P h w
  | mark m k ih => intro b h w; simp only [pureRun] at h; exact ih h w
  | _ => intro b h; simp [pureRun] at h

/-- The abstract value of a constant that lies in one cell. -/
def constCell : Value → AV
  | .bool b => .bool b
  | .int k n => .int k n
  | .string s => .str s
  | .pointer none => .nilp
  | .slice none len cap => if len = 0 ∧ cap = 0 then .nils else .junk
  | .nilFunc => .nilf
  | .nilIface => .nili
  | .func f a b => if a = #[] ∧ b = #[] then .fn f [] [] else .junk
  | _ => .junk

def constAV : Value → AV
  | .agg cs => .agg (cs.toList.map constCell)
  | .tuple cs => .tup (cs.toList.map constCell)
  | v => constCell v

section
variable {φ : Locs} {F G : CSet} {w : World} {m : Nat}
theorem rep_constCell (v : Value) : Rep φ F G w m (constCell v) v := by
  cases v with
  | bool b => exact .bool
  | int k n => exact .int
  | string s => exact .str
  | pointer a => cases a with
    | none => exact .nilp
    | some a => exact .junk
  | slice a len cap => cases a with
    | none =>
      simp only [constCell]
      split
      · rename_i h
        obtain ⟨rfl, rfl⟩ := h
        exact .nils
      · exact .junk
    | some a => exact .junk
  | nilFunc => exact .nilf
  | nilIface => exact .nili
  | func f a b =>
    simp only [constCell]
    split
    · rename_i h
      obtain ⟨rfl, rfl⟩ := h
      exact .fn (vs := []) (us := []) .nil .nil
    · exact .junk
  | _ => exact .junk

theorem repL_constCell (vs : List Value) : RepL φ F G w m (vs.map constCell) vs := by
  induction vs with
  | nil => exact .nil
  | cons v vs ih => exact .cons (rep_constCell v) ih

theorem rep_constAV (v : Value) : Rep φ F G w m (constAV v) v := by
  cases v with
  | agg cs => simpa [constAV] using Rep.agg (repL_constCell (φ := φ) (F := F) (G := G) (w := w) (m := m) cs.toList)
  | tuple cs => simpa [constAV] using Rep.tup (repL_constCell (φ := φ) (F := F) (G := G) (w := w) (m := m) cs.toList)
  | _ => simp only [constAV]; exact rep_constCell _
end

/-- The value of a scalar. -/
def AV.cellVal : AV → Option Value
  | .bool b => some (.bool b)
  | .int k n => some (.int k n)
  | .str s => some (.string s)
  | .nilp => some (.pointer none)
  | .nils => some (.slice none 0 0)
  | .nilf => some .nilFunc
  | .nili => some .nilIface
  | _ => none

def AV.cellVals : List AV → Option (List Value)
  | [] => some []
  | a :: l => match a.cellVal, AV.cellVals l with
    | some v, some vs => some (v :: vs)
    | _, _ => none

def AV.val : AV → Option Value
  | .agg l => (AV.cellVals l).map fun vs => .agg vs.toArray
  | a => a.cellVal

section
variable {φ : Locs} {F G : CSet} {w : World} {m : Nat}
theorem Rep.cellVal {a v u} (h : Rep φ F G w m a v) (e : a.cellVal = some u) : v = u := by
  cases h <;> simp [AV.cellVal] at e <;> exact e
theorem RepL.cellVals : ∀ {as vs us}, RepL φ F G w m as vs → AV.cellVals as = some us → vs = us
  | _, _, _, .nil, e => by simpa [AV.cellVals] using e
  | _, _, _, .cons (a := a) (as := as) h k, e => by
    cases h1 : a.cellVal with
    | none => simp [AV.cellVals, h1] at e
    | some x => cases h2 : AV.cellVals as with
      | none => simp [AV.cellVals, h1, h2] at e
      | some y =>
        simp [AV.cellVals, h1, h2] at e
        rw [h.cellVal h1, k.cellVals h2, ← e]
theorem Rep.val {a v u} (h : Rep φ F G w m a v) (e : a.val = some u) : v = u := by
  cases a with
  | agg l =>
    cases h with
    | agg k =>
      simp only [AV.val, Option.map_eq_some_iff] at e
      obtain ⟨us, e1, e2⟩ := e
      rw [k.cellVals e1, ← e2]
  | _ => exact h.cellVal e
end

/-- The cells of a value. -/
def AV.cells : AV → Option (List AV)
  | .agg l => some l
  | .junk => none
  | .tup _ => none
  | a => some [a]

theorem Rep.cells {φ : Locs} {F G : CSet} {w : World} {m : Nat} {a v l} (h : Rep φ F G w m a v) (e : a.cells = some l) : RepL φ F G w m l v.cells.toList := by
  cases h with
  | junk => simp [AV.cells] at e
  | tup _ => simp [AV.cells] at e
  | agg k => simp [AV.cells] at e; subst e; simpa [Value.cells] using k
  | bool => simp [AV.cells] at e; subst e; exact .cons .bool .nil
  | int => simp [AV.cells] at e; subst e; exact .cons .int .nil
  | str => simp [AV.cells] at e; subst e; exact .cons .str .nil
  | nilp => simp [AV.cells] at e; subst e; exact .cons .nilp .nil
  | nils => simp [AV.cells] at e; subst e; exact .cons .nils .nil
  | nilf => simp [AV.cells] at e; subst e; exact .cons .nilf .nil
  | nili => simp [AV.cells] at e; subst e; exact .cons .nili .nil
  | dsn h1 h2 => simp [AV.cells] at e; subst e; exact .cons (.dsn h1 h2) .nil
  | ds h1 h2 h3 h4 => simp [AV.cells] at e; subst e; exact .cons (.ds h1 h2 h3 h4) .nil
  | da h1 h2 => simp [AV.cells] at e; subst e; exact .cons (.da h1 h2) .nil
  | rsn h1 hk h2 => simp [AV.cells] at e; subst e; exact .cons (.rsn h1 hk h2) .nil
  | rs h1 h2 h3 h4 h5 => simp [AV.cells] at e; subst e; exact .cons (.rs h1 h2 h3 h4 h5) .nil
  | ra h1 h2 => simp [AV.cells] at e; subst e; exact .cons (.ra h1 h2) .nil
  | nilm => simp [AV.cells] at e; subst e; exact .cons .nilm .nil
  | mp h1 h2 => simp [AV.cells] at e; subst e; exact .cons (.mp h1 h2) .nil
  | it h1 h2 => simp [AV.cells] at e; subst e; exact .cons (.it h1 h2) .nil
  | fn h1 h2 => simp [AV.cells] at e; subst e; exact .cons (.fn h1 h2) .nil
  | iface h1 => simp [AV.cells] at e; subst e; exact .cons (.iface h1) .nil

/-- What an operation does: its value, the blocks that it turns, the blocks that it looks at, what must hold (no more than: pairs of integers, the first at most the second). -/
structure Eff where
  val : AV := .junk
  ups : List (Nat × Slot) := []
  fp : List Nat := []
  obl : List (Int × Int) := []

def putAll (h : Heap) : List (Nat × Slot) → Heap
  | [] => h
  | (i, s) :: l => putAll (upd h i s) l

def Eff.ok (e : Eff) : Prop := ∀ p ∈ e.obl, p.1 ≤ p.2

def aggT (P : Program) (t : TypeId) : Option Bool :=
  match P.underlying t with
  | some (.struct _) | some (.array _ _) => some true
  | some _ => some false
  | none => none

def sizeT (P : Program) (t : TypeId) : Option Nat := (P.info? t).map (·.size)

def elemT (P : Program) (t : TypeId) : Option TypeId :=
  match P.underlying t with
  | some (.slice e) => some e
  | _ => none

theorem run_isAgg {P : Program} {t : TypeId} {b : Bool} (h : aggT P t = some b) (w : World) : (isAgg t).run P w = .ok b w := by
  unfold aggT at h
  unfold isAgg
  cases hu : P.underlying t with
  | none => simp [hu] at h
  | some d =>
    rw [Sem.run_bind, run_underlying hu]
    rw [hu] at h
    cases d <;> simp at h <;> subst h <;> rfl

theorem run_sizeOf {P : Program} {t : TypeId} {n : Nat} (h : sizeT P t = some n) (w : World) : (sizeOf t).run P w = .ok n w := by
  unfold sizeT at h
  cases hi : P.info? t with
  | none => simp [hi] at h
  | some i => simp [hi] at h; simp [sizeOf, typeInfo, hi, h]

/-- A value out of the cells of its type. -/
def packA (ag : Bool) (cs : List AV) : AV := if ag then .agg cs else cs.headD .junk

/-- What lies at an address: cells from there on. -/
def behind (h : Heap) : AV → Option (List AV × List Nat)
  | .da _ cs => some (cs, [])
  | .ra i off tot => match h i with
    | .blk k => if k.cells.length = tot then some (k.cells.drop off, [i]) else none
    | _ => none
  | _ => none

def loadA (P : Program) (h : Heap) (t : TypeId) (a : AV) : Option Eff :=
  match aggT P t, sizeT P t, behind h a with
  | some ag, some n, some (cs, fp) => if (if ag then n else 1) ≤ cs.length then some { val := packA ag (cs.take (if ag then n else 1)), fp := fp } else none
  | _, _, _ => none

theorem addr_add (b o n : Nat) : (⟨b, o, none⟩ : Addr).add n = ⟨b, o + n, none⟩ := by
  unfold Addr.add
  split <;> simp_all

section
variable {c : Ctx} {φ : Locs} {F : CSet} {h : Heap} {w : World}

theorem behind_sound (r : RelH c φ F h w) {a : AV} {v : Value} {cs : List AV} {fp : List Nat} (hb : behind h a = some (cs, fp)) (hv : Rep φ F c.G0 w 2 a v) :
    ∃ b o, v = .pointer (some ⟨b, o, none⟩) ∧ ∀ (i : Nat) (x : AV), cs[i]? = some x → ∃ u, w.cell? ⟨b, o + i, none⟩ = some u ∧ Rep φ F c.G0 w 2 x u ∧ u.oneCell' = true := by
  cases hv with
  | da h1 h2 =>
    simp [behind] at hb
    obtain ⟨rfl, rfl⟩ := hb
    refine ⟨_, _, rfl, fun i x e => ?_⟩
    obtain ⟨_, u, e1, e2, e3⟩ := h2.get i x e
    exact ⟨u, e1, e2.up (by split <;> omega), e3⟩
  | ra h1 h2 =>
    rename_i i off tot L
    simp only [behind] at hb
    cases hi : h i with
    | free => simp [hi] at hb
    | dead => simp [hi] at hb
    | obj _ => simp [hi] at hb
    | blk k =>
      simp only [hi] at hb
      split at hb
      · rename_i ht
        simp at hb
        obtain ⟨rfl, rfl⟩ := hb
        refine ⟨_, _, rfl, fun n x e => ?_⟩
        rcases r.loc i k hi with ⟨e1, e2, _⟩ | ⟨M, e1, lies⟩
        · simp [e2] at e
        · rw [ht, h2] at e1
          cases e1
          rw [List.getElem?_drop] at e
          obtain ⟨u, f1, f2, f3⟩ := lies.cell _ _ e
          exact ⟨u, by rw [Nat.add_assoc]; exact f1, f2, f3⟩
      · cases hb
  | _ => simp [behind] at hb

theorem loads_get {b o n : Nat} {cs : List AV} (hc : ∀ (i : Nat) (x : AV), cs[i]? = some x → ∃ u, w.cell? ⟨b, o + i, none⟩ = some u ∧ Rep φ F c.G0 w 2 x u ∧ u.oneCell' = true) (hn : n ≤ cs.length) :
    ∃ vs : List Value, vs.length = n ∧ RepL φ F c.G0 w 2 (cs.take n) vs ∧ (∀ (j : Nat) (v : Value), vs[j]? = some v → w.cell? ⟨b, o + j, none⟩ = some v) ∧ ∀ v ∈ vs, v.oneCell' = true := by
  induction n with
  | zero => exact ⟨[], rfl, by simpa using RepL.nil, by simp, by simp⟩
  | succ n ih =>
    obtain ⟨vs, h1, h2, h3, h4⟩ := ih (by omega)
    obtain ⟨u, e1, e2, e3⟩ := hc n cs[n] (List.getElem?_eq_getElem (by omega))
    refine ⟨vs ++ [u], by simp [h1], ?_, ?_, ?_⟩
    · rw [List.take_succ_eq_append_getElem (by omega)]
      exact h2.append (.cons e2 .nil)
    · intro j v hj
      rcases Nat.lt_or_ge j n with hlt | hge
      · rw [List.getElem?_append_left (by omega)] at hj
        exact h3 j v hj
      · have : j = n := by
          rcases Nat.lt_or_ge j (n + 1) with h | h
          · omega
          · rw [List.getElem?_eq_none (by simp; omega)] at hj
            cases hj
        subst this
        rw [List.getElem?_append_right (by omega)] at hj
        simp [h1] at hj
        subst hj
        exact e1
    · intro v hv
      rcases List.mem_append.1 hv with h | h
      · exact h4 v h
      · simp at h
        subst h
        exact e3

theorem loads {P : Program} {b o n : Nat} {cs : List AV} (hc : ∀ (i : Nat) (x : AV), cs[i]? = some x → ∃ u, w.cell? ⟨b, o + i, none⟩ = some u ∧ Rep φ F c.G0 w 2 x u ∧ u.oneCell' = true) (hn : n ≤ cs.length) :
    ∃ vs : List Value, vs.length = n ∧ RepL φ F c.G0 w 2 (cs.take n) vs ∧ (loadCells ⟨b, o, none⟩ n).run P w = .ok vs.toArray w := by
  obtain ⟨vs, h1, h2, h3, _⟩ := loads_get hc hn
  refine ⟨vs, h1, h2, ?_⟩
  have := run_loadCells_list (P := P) w ⟨b, o, none⟩ vs (fun j v hj => by rw [addr_add]; exact h3 j v hj)
  rwa [h1] at this

theorem loadA_sound {P : Program} (r : RelH c φ F h w) {t : TypeId} {a : AV} {v : Value} {e : Eff} (he : loadA P h t a = some e) (hv : Rep φ F c.G0 w 2 a v) :
    e.ups = [] ∧ ∃ u, (Instr.loadAt t v).run P w = .ok u w ∧ Rep φ F c.G0 w 2 e.val u := by
  unfold loadA at he
  split at he
  · rename_i ag n cs fp h1 h2 h3
    obtain ⟨b, o, rfl, hc⟩ := behind_sound r h3 hv
    cases ag with
    | true =>
      simp only [if_true] at he
      split at he
      · rename_i hlen
        cases he
        refine ⟨rfl, ?_⟩
        obtain ⟨vs, e1, e2, e3⟩ := loads (P := P) hc hlen
        refine ⟨.agg vs.toArray, ?_, by simpa [packA] using Rep.agg e2⟩
        simp [Instr.loadAt, Instr.sureAddr, loadVar, run_isAgg h1, run_sizeOf h2, e3]
      · cases he
    | false =>
      simp only [Bool.false_eq_true, if_false] at he
      split at he
      · rename_i hlen
        cases he
        refine ⟨rfl, ?_⟩
        obtain ⟨u, e1, e2, _⟩ := hc 0 cs[0] (List.getElem?_eq_getElem (by omega))
        refine ⟨u, ?_, ?_⟩
        · simp only [Nat.add_zero] at e1
          simp [Instr.loadAt, Instr.sureAddr, loadVar, run_isAgg h1, e1]
        · have : packA false (cs.take 1) = cs[0] := by
            cases cs with
            | nil => simp at hlen
            | cons x l => simp [packA]
          rw [this]
          exact e2
      · cases he
  · cases he
end
end Go.Proofs.YtpiincgiakkljaaGreatDoor
/-
  The abstract operations, second part: blocks made, stored into, appended to; addresses of fields and elements; parts of slices.
-/
namespace Go.Proofs.YtpiincgiakkljaaGreatDoor
open Go

/-- What is shown of an operation that yields a value. -/
def OpOk (P : Program) (c : Ctx) (φ : Locs) (F : CSet) (h : Heap) (w : World) (s : Sem Value) (e : Eff) : Prop :=
  ∃ u w' φ' F', s.run P w = .ok u w' ∧ RelH c φ' F' (putAll h e.ups) w' ∧ Grow c.G0 φ F w φ' F' w' ∧ Rep φ' F' c.G0 w' 2 e.val u

theorem OpOk.same {P : Program} {c : Ctx} {φ : Locs} {F : CSet} {h : Heap} {w : World} {s : Sem Value} {e : Eff} {u : Value} (r : RelH c φ F h w) (hr : s.run P w = .ok u w) (hu : e.ups = []) (hv : Rep φ F c.G0 w 2 e.val u) :
    OpOk P c φ F h w s e := ⟨u, w, φ, F, hr, by rw [hu]; exact r, Grow.refl .., hv⟩

section
variable {P : Program} {c : Ctx} {φ : Locs} {F : CSet} {h : Heap} {w : World}

/-- A new block with these cells. -/
def newA (h : Heap) (nid : Nat) (esz : Nat) (cs : List AV) (ty : Option TypeId) : Option Eff :=
  match h nid with
  | .free => if cs.all AV.cell = true then some { val := .ra nid 0 cs.length, ups := [(nid, .blk ⟨cs, esz, false, false, ty⟩)] } else none
  | _ => none

theorem all_one {m : Nat} {G : CSet} {cs : List AV} {vs : List Value} (hv : RepL φ F G w m cs vs) (ha : cs.all AV.cell = true) : ∀ v ∈ vs, v.oneCell' = true := by
  intro v hv'
  obtain ⟨j, hj, rfl⟩ := List.mem_iff_getElem.1 hv'
  have hl := hv.len
  have hjx : j < cs.length := by omega
  obtain ⟨v', e1, e2⟩ := hv.get j cs[j] (List.getElem?_eq_getElem hjx)
  rw [List.getElem?_eq_getElem hj] at e1
  cases e1
  exact e2.cell (List.all_eq_true.1 ha _ (List.getElem_mem hjx))

theorem newA_sound (r : RelH c φ F h w) {nid esz : Nat} {cs : List AV} {ty : Option TypeId} {e : Eff} (he : newA h nid esz cs ty = some e) {vs : List Value} (hv : RepL φ F c.G0 w 2 cs vs) (t : TypeId) (hty : ∀ t', ty = some t' → t' = t) :
    OpOk P c φ F h w (do pure (.pointer (some (← newRow t vs.toArray)))) e := by
  unfold newA at he
  split at he
  · rename_i hf
    split at he
    · rename_i hall
      cases he
      obtain ⟨f1, f2⟩ := r.free_none hf
      obtain ⟨φ', h1, h2, h3⟩ := r.alloc ⟨cs, esz, false, false, ty⟩ (f1 _) (f2 _) vs hv (all_one hv hall) [] t hty
      refine ⟨.pointer (some ⟨w.heap.size, 0, none⟩), _, φ', F, ?_, h2, h3, ?_⟩
      · simp [newRow]
      · exact Rep.ra (L := ⟨w.heap.size, 0, (vs ++ []).length, esz⟩) (Nat.le_refl _) h1
    · cases he
  · cases he

def zeroA (P : Program) (t : TypeId) : Option (List AV) := ((P.info? t).bind (·.zero)).map fun v => v.cells.toList.map constCell

theorem zeroA_sound {t : TypeId} {cs : List AV} (hz : zeroA P t = some cs) (φ : Locs) (F G : CSet) (w : World) : ∃ v, (∀ w, (zeroValue t).run P w = .ok v w) ∧ RepL φ F G w 2 cs v.cells.toList := by
  unfold zeroA at hz
  cases hi : P.info? t with
  | none => simp [hi] at hz
  | some i => cases hq : i.zero with
    | none => simp [hi, hq] at hz
    | some v =>
      simp [hi, hq] at hz
      subst hz
      exact ⟨v, fun w => by simp [zeroValue, typeInfo, hi, hq], repL_constCell _⟩

def allocA (P : Program) (h : Heap) (nid : Nat) (t : TypeId) : Option Eff := (zeroA P t).bind fun cs => newA h nid cs.length cs (some t)

theorem allocA_sound (r : RelH c φ F h w) {nid : Nat} {t : TypeId} {e : Eff} (he : allocA P h nid t = some e) (old : Value) : OpOk P c φ F h w (Instr.alloc t true old) e := by
  unfold allocA at he
  rw [Option.bind_eq_some_iff] at he
  obtain ⟨cs, hz, he⟩ := he
  obtain ⟨v, hv, hr⟩ := zeroA_sound hz φ F c.G0 w
  obtain ⟨u, w', φ', F', h1, h2, h3, h4⟩ := newA_sound (P := P) r he hr t fun t' e => by cases e; rfl
  refine ⟨u, w', φ', F', ?_, h2, h3, h4⟩
  rw [← h1]
  simp [Instr.alloc, hv w, newVar]

def boxA (h : Heap) (nid : Nat) (t : TypeId) (x : AV) : Option Eff := x.cells.bind fun cs => newA h nid cs.length cs (some t)

theorem boxA_sound (r : RelH c φ F h w) {nid : Nat} {t : TypeId} {x : AV} {v : Value} {e : Eff} (he : boxA h nid t x = some e) (hv : Rep φ F c.G0 w 2 x v) : OpOk P c φ F h w (Instr.box t v) e := by
  unfold boxA at he
  rw [Option.bind_eq_some_iff] at he
  obtain ⟨cs, hc, he⟩ := he
  obtain ⟨u, w', φ', F', h1, h2, h3, h4⟩ := newA_sound (P := P) r he (hv.cells hc) t fun t' e => by cases e; rfl
  refine ⟨u, w', φ', F', ?_, h2, h3, h4⟩
  rw [← h1]
  simp [Instr.box, newVar]

/-- A list with some places taken by others. -/
def splice {α : Type} (l : List α) (off : Nat) (xs : List α) : List α := l.take off ++ xs ++ l.drop (off + xs.length)

theorem splice_get {α : Type} (l : List α) (off : Nat) (xs : List α) (h : off + xs.length ≤ l.length) (i : Nat) :
    (splice l off xs)[i]? = if off ≤ i ∧ i < off + xs.length then xs[i - off]? else l[i]? := by
  unfold splice
  rcases Nat.lt_or_ge i off with h1 | h1
  · rw [if_neg (by omega), List.append_assoc, List.getElem?_append_left (by simp; omega), List.getElem?_take_of_lt h1]
  · rcases Nat.lt_or_ge i (off + xs.length) with h2 | h2
    · rw [if_pos ⟨h1, h2⟩, List.getElem?_append_left (by simp; omega), List.getElem?_append_right (by simp; omega)]
      congr 1
      simp
      omega
    · rw [if_neg (by omega), List.getElem?_append_right (by simp; omega), List.getElem?_drop]
      congr 1
      simp
      omega

theorem splice_length {α : Type} (l : List α) (off : Nat) (xs : List α) (h : off + xs.length ≤ l.length) : (splice l off xs).length = l.length := by
  unfold splice
  simp
  omega

/-- Cells written in the model's memory. -/
theorem framed_setCells (w : World) (b o : Nat) (vs : List Value) : Framed (fun b' o' => b' = b ∧ o ≤ o' ∧ o' < o + vs.length) w (w.setCells b o vs) := by
  induction vs generalizing o w with
  | nil => exact Framed.refl _ _
  | cons v vs ih =>
    have h1 : Framed (fun b' o' => b' = b ∧ o ≤ o' ∧ o' < o + (v :: vs).length) w (w.setCell ⟨b, o, none⟩ v) := by
      refine ⟨rfl, rfl, by simp [World.setCell], fun k hk => ?_⟩
      by_cases hb : k = b
      · subst hb
        have hg : w.heap[k]? = some w.heap[k] := Array.getElem?_eq_getElem hk
        cases hx : w.heap[k] with
        | cells cs e fr =>
          rw [hx] at hg
          refine .inr (.inl ⟨cs, cs.setIfInBounds o v, e, fr, fr, hg, ?_, by simp, fun o' ho => ?_, .inl rfl⟩)
          · simp [World.setCell, Array.getElem?_modify, hg]
          · rw [Array.getElem?_setIfInBounds]
            split
            · rename_i e; subst e; exact absurd ⟨rfl, Nat.le_refl _, by simp⟩ ho
            · rfl
        | _ =>
          rw [hx] at hg
          refine .inl ?_
          simp [World.setCell, Array.getElem?_modify, hg]
      · exact .inl (RowKit.Below.heap_setCell w ⟨b, o, none⟩ v k hb)
    refine h1.trans ((ih (w.setCell ⟨b, o, none⟩ v) (o + 1)).mono ?_)
    rintro b' o' _ ⟨rfl, h2, h3⟩
    exact ⟨rfl, by omega, by simp; omega⟩

theorem setCells_in (w : World) (b o : Nat) (vs : List Value) (hc : ∀ j, j < vs.length → (w.cell? ⟨b, o + j, none⟩).isSome = true) (j : Nat) (v : Value) (hj : vs[j]? = some v) :
    (w.setCells b o vs).cell? ⟨b, o + j, none⟩ = some v := by
  have hlt : j < vs.length := by
    rcases Nat.lt_or_ge j vs.length with h | h
    · exact h
    · simp [List.getElem?_eq_none h] at hj
  rw [World.cell?_setCells_in b vs o w hc j hlt]
  rw [List.getElem?_eq_getElem hlt] at hj
  exact hj

theorem row_cell {w : World} {b : Nat} {cs : Array Value} {e : TypeId} (h : w.heap[b]? = some (.cells cs e (0, 0))) (o : Nat) : w.cell? ⟨b, o, none⟩ = cs[o]? ∧ w.frozen? ⟨b, o, none⟩ = false := by
  constructor
  · simp [World.cell?, h]
  · simp [World.frozen?, h]

theorem setCells_row {b : Nat} {e : TypeId} {fr : Nat × Nat} {n : Nat} : ∀ (vs : List Value) (w : World) (o : Nat), (∃ cs, w.heap[b]? = some (.cells cs e fr) ∧ cs.size = n) → ∃ cs, (w.setCells b o vs).heap[b]? = some (.cells cs e fr) ∧ cs.size = n := by
  intro vs
  induction vs with
  | nil => intro w o h; exact h
  | cons v vs ih =>
    rintro w o ⟨cs, h1, h2⟩
    refine ih (w.setCell ⟨b, o, none⟩ v) (o + 1) ⟨cs.setIfInBounds o v, ?_, by simpa using h2⟩
    simp [World.setCell, Array.getElem?_modify, h1]

/-- Cells of a block are stored into. -/
theorem RelH.store (r : RelH c φ F h w) {i : Nat} {k : Blk} {off : Nat} {xs : List AV} {vs : List Value} (hi : h i = .blk k) (hao : k.ao = false) (hoff : off + xs.length ≤ k.cells.length) (hx : RepL φ F c.G0 w 2 xs vs)
    (hone : ∀ v ∈ vs, v.oneCell' = true) (hne : xs ≠ []) :
    ∃ L φ', φ i k.cells.length = some L ∧ (∀ j, j < vs.length → (w.cell? ⟨L.b, L.base + off + j, none⟩).isSome = true) ∧ (∀ j, j < vs.length → w.frozen? ⟨L.b, L.base + off + j, none⟩ = false) ∧
      RelH c φ' F (upd h i (.blk { k with cells := splice k.cells off xs })) (w.setCells L.b (L.base + off) vs) ∧ Grow c.G0 φ F w φ' F (w.setCells L.b (L.base + off) vs) := by
  have hlen := hx.len
  rcases r.loc i k hi with ⟨_, h2, _⟩ | ⟨L, hL, lies⟩
  · rw [h2] at hoff
    simp at hoff
    exact absurd hoff.2 hne
  obtain ⟨cs, t, hrow, hroom⟩ := lies.row
  have hsome : ∀ j, j < vs.length → (w.cell? ⟨L.b, L.base + off + j, none⟩).isSome = true := by
    intro j hj
    rw [(row_cell hrow _).1, Array.getElem?_eq_getElem (by have := lies.room; omega)]
    rfl
  have hsp := splice_length k.cells off xs hoff
  obtain ⟨φ', h1, h2, h3⟩ := r.write (k' := { k with cells := splice k.cells off xs }) (lo := off) (hi := off + xs.length) (w' := w.setCells L.b (L.base + off) vs) hi hL lies rfl rfl rfl rfl
    (by simp only [hsp]; exact lies.room) (by simp only [hsp]; exact Nat.le_refl _) (fun _ => by simp only [hsp]) (by simp only [hsp]; exact hoff)
    (fun o h1 h2 hF => by
      have := ((lies.own (L.base + o) ⟨rfl, by have := lies.room; omega, fun _ => by omega⟩).2.1 hF).1
      rw [hao] at this
      cases this)
    ((framed_setCells w L.b (L.base + off) vs).mono (by rintro b o _ ⟨rfl, h1, h2⟩; exact ⟨rfl, h1, by omega⟩))
    (fun e h => setCells_row vs w (L.base + off) h)
    (fun n a en => by
      simp only at en
      rw [splice_get _ _ _ hoff] at en
      split at en
      · rename_i hn
        obtain ⟨v, e1, e2⟩ := hx.get _ _ en
        refine .inr ⟨v, ?_, e2, hone v (List.mem_of_getElem? e1)⟩
        have := setCells_in w L.b (L.base + off) vs hsome (n - off) v e1
        rwa [show L.base + off + (n - off) = L.base + n by omega] at this
      · exact .inl ⟨by omega, en⟩)
  exact ⟨L, φ', hL, hsome, fun j _ => (row_cell hrow _).2, h2, h3⟩

def storeA (P : Program) (h : Heap) (t : TypeId) (a x : AV) : Option Eff :=
  match a, x.cells, sizeT P t with
  | .ra i off tot, some xs, some n =>
    match h i with
    | .blk k => if k.cells.length = tot ∧ xs.length = n ∧ off + n ≤ tot ∧ k.ao = false ∧ xs.all AV.cell = true ∧ n ≠ 0 then some { ups := [(i, .blk { k with cells := splice k.cells off xs })], fp := [i] } else none
    | _ => none
  | _, _, _ => none

theorem storeA_sound (r : RelH c φ F h w) {t : TypeId} {a x : AV} {va vx : Value} {e : Eff} (he : storeA P h t a x = some e) (ha : Rep φ F c.G0 w 2 a va) (hx : Rep φ F c.G0 w 2 x vx) :
    e.val = .junk ∧ ∃ w' φ' F', (Instr.storeAt t va vx).run P w = .ok () w' ∧ RelH c φ' F' (putAll h e.ups) w' ∧ Grow c.G0 φ F w φ' F' w' := by
  unfold storeA at he
  split at he
  · rename_i i off tot xs n hxs hn
    split at he
    · rename_i k hi
      split at he
      · rename_i hc
        obtain ⟨h1, h2, h3, h4, h5, h6⟩ := hc
        cases he
        refine ⟨rfl, ?_⟩
        have hrl := hx.cells hxs
        obtain ⟨L, φ', g1, g2, g3, g5, g6⟩ := r.store (off := off) hi h4 (by omega) hrl (all_one hrl h5) (fun e => by simp [e] at h2; omega)
        cases ha with
        | ra e1 e2 =>
          rw [h1] at g1
          rw [g1] at e2
          cases e2
          refine ⟨_, φ', F, ?_, g5, g6⟩
          have hl := hrl.len
          have hst := run_storeCells_cells (P := P) L.b (L.base + off) vx.cells.toList 0 w (by simpa using g2) (by simpa using g3) (all_one hrl h5)
          simp only [Nat.add_zero] at hst
          have hsz : vx.cells.size = n := by simpa [h2] using hl.symm
          simp [Instr.storeAt, Instr.sureAddr, storeVar, run_sizeOf hn, hsz, hst]
      · cases he
    · cases he
  · cases he

/-- The address behind another one. -/
def AV.plus (n : Nat) : AV → Option AV
  | .da t cs => if n ≤ cs.length then some (.da t (cs.drop n)) else none
  | .ra i off tot => some (.ra i (off + n) tot)
  | _ => none

theorem plus_sound {a a' : AV} {v : Value} {n : Nat} (e : a.plus n = some a') (hv : Rep φ F c.G0 w 2 a v) : ∃ b o, v = .pointer (some ⟨b, o, none⟩) ∧ Rep φ F c.G0 w 2 a' (.pointer (some ⟨b, o + n, none⟩)) := by
  cases hv with
  | da h1 h2 =>
    simp only [AV.plus] at e
    split at e
    · cases e
      exact ⟨_, _, rfl, .da h1 (h2.drop n)⟩
    · cases e
  | ra h1 h2 =>
    simp only [AV.plus] at e
    cases e
    refine ⟨_, _, rfl, ?_⟩
    rw [Nat.add_assoc]
    exact .ra h1 h2
  | _ => simp [AV.plus] at e

/-- A field's place: its first cell, and how many cells it has (0 is not served). -/
def fieldT (P : Program) (s : TypeId) (f : Nat) : Option (Nat × Nat) :=
  match P.underlying s with
  | some (.struct fs) => (fs[f]?).bind fun x => match sizeT P x.type with
    | some (n + 1) => some (x.offset, n + 1)
    | _ => none
  | _ => none

def fieldAddrA (P : Program) (s : TypeId) (a : AV) (f : Nat) : Option Eff := (fieldT P s f).bind fun x => (a.plus x.1).map fun a => { val := a }

theorem fieldAddrA_sound (r : RelH c φ F h w) {s : TypeId} {a : AV} {v : Value} {f : Nat} {e : Eff} (he : fieldAddrA P s a f = some e) (hv : Rep φ F c.G0 w 2 a v) : OpOk P c φ F h w (Instr.fieldAt s v f) e := by
  unfold fieldAddrA at he
  rw [Option.bind_eq_some_iff] at he
  obtain ⟨⟨off, n⟩, hf, he⟩ := he
  rw [Option.map_eq_some_iff] at he
  obtain ⟨a', hp, rfl⟩ := he
  obtain ⟨b, o, rfl, hr⟩ := plus_sound hp hv
  refine OpOk.same r (u := .pointer (some ⟨b, o + off, none⟩)) ?_ rfl hr
  unfold fieldT at hf
  split at hf
  · rename_i fs hu
    rw [Option.bind_eq_some_iff] at hf
    obtain ⟨x, hx, hf⟩ := hf
    split at hf
    · rename_i n' hs
      simp only [Option.some.injEq, Prod.mk.injEq] at hf
      obtain ⟨rfl, rfl⟩ := hf
      simp [Instr.fieldAt, run_underlying hu, hx, Instr.sureAddr, fieldPlace, run_sizeOf hs, addr_add]
    · cases hf
  · cases hf

/-- The element of an array, or a slice: the elements' type, the first cell, how many there are. -/
def indexAddrA (P : Program) (t : TypeId) (x i : AV) : Option Eff :=
  match P.underlying t, x, i with
  | some (.slice e), .ds h cs len, .int _ n => (sizeT P e).bind fun s => if n.toNat * s ≤ cs.length then some { val := .da h.tag (cs.drop (n.toNat * s)), obl := [(0, n), (n + 1, len)] } else none
  | some (.slice e), .rs id off len tot _, .int _ n => (sizeT P e).map fun s => { val := .ra id (off + n.toNat * s) tot, obl := [(0, n), (n + 1, len)] }
  | some (.array len e), a, .int _ n => (sizeT P e).bind fun s => (a.plus (n.toNat * s)).map fun a => { val := a, obl := [(0, n), (n + 1, len)] }
  | _, _, _ => none

theorem indexAddrA_sound (r : RelH c φ F h w) {t : TypeId} {x i : AV} {vx vi : Value} {e : Eff} (he : indexAddrA P t x i = some e) (hok : e.ok) (hx : Rep φ F c.G0 w 2 x vx) (hi : Rep φ F c.G0 w 2 i vi) : OpOk P c φ F h w (Instr.indexAt t vx vi) e := by
  unfold indexAddrA at he
  split at he
  · rename_i el hd cs len k n hu
    rw [Option.bind_eq_some_iff] at he
    obtain ⟨s, hs, he⟩ := he
    split at he
    · rename_i hle
      cases he
      have h1 := hok (0, n) (by simp)
      have h2 := hok (n + 1, len) (by simp)
      simp only at h1 h2
      cases hi
      cases hx with
      | dsn g1 g2 => simp at h2; omega
      | ds g1 g2 g3 g4 =>
        rename_i b o cap
        refine OpOk.same r (u := .pointer (some ⟨b, o + n.toNat * s, none⟩)) ?_ rfl (.da (fun e => by have := g1 e; omega) (g4.drop _))
        have : 0 ≤ n ∧ n < (len : Int) := by omega
        simp [Instr.indexAt, asIntOf, run_underlying hu, this, run_sizeOf hs, addr_add]
    · cases he
  · rename_i el id off len tot cap k n hu
    rw [Option.map_eq_some_iff] at he
    obtain ⟨s, hs, rfl⟩ := he
    have h1 := hok (0, n) (by simp)
    have h2 := hok (n + 1, len) (by simp)
    simp only at h1 h2
    cases hi
    cases hx with
    | rsn g1 gk g2 => simp at h2; omega
    | rs g1 g2 g3 g4 g5 =>
      rename_i L cc
      refine OpOk.same r (u := .pointer (some ⟨L.b, L.base + (off + n.toNat * s), none⟩)) ?_ rfl (.ra g1 g2)
      have : 0 ≤ n ∧ n < (len : Int) := by omega
      simp [Instr.indexAt, asIntOf, run_underlying hu, this, run_sizeOf hs, addr_add, Nat.add_assoc]
  · rename_i len el k n hu
    rw [Option.bind_eq_some_iff] at he
    obtain ⟨s, hs, he⟩ := he
    rw [Option.map_eq_some_iff] at he
    obtain ⟨a', hp, rfl⟩ := he
    have h1 := hok (0, n) (by simp)
    have h2 := hok (n + 1, len) (by simp)
    simp only at h1 h2
    cases hi
    obtain ⟨b, o, rfl, hr⟩ := plus_sound hp hx
    refine OpOk.same r (u := .pointer (some ⟨b, o + n.toNat * s, none⟩)) ?_ rfl hr
    have : 0 ≤ n ∧ n < (len : Int) := by omega
    simp [Instr.indexAt, asIntOf, run_underlying hu, Instr.sureAddr, this, run_sizeOf hs, addr_add]
  · cases he
end
end Go.Proofs.YtpiincgiakkljaaGreatDoor
/-
  The abstract operations, third part: literals, parts of slices, make, append.
-/
namespace Go.Proofs.YtpiincgiakkljaaGreatDoor
open Go

section
variable {P : Program} {c : Ctx} {φ : Locs} {F : CSet} {h : Heap} {w : World}

/-- A new block of data. -/
theorem RelH.allocData (r : RelH c φ F h w) {m : Nat} {cs : List AV} {vs : List Value} (hv : RepL φ F c.G0 w m cs vs) (hm : AV.m0L cs = true) (hone : ∀ v ∈ vs, v.oneCell' = true) (more : List Value) (e : TypeId) (fr : Nat × Nat := (0, 0)) :
    ∃ F', RelH c φ F' h (w.alloc (.cells (vs ++ more).toArray e fr)) ∧ Grow c.G0 φ F w φ F' (w.alloc (.cells (vs ++ more).toArray e fr)) ∧
      Cells φ F' c.G0 (w.alloc (.cells (vs ++ more).toArray e fr)) false w.heap.size 0 cs := by
  let F' : CSet := fun b o => F b o ∨ b = w.heap.size
  have hg : Grow c.G0 φ F w φ F' (w.alloc (.cells (vs ++ more).toArray e fr)) := by
    have := grow_alloc (G := c.G0) φ F w (.cells (vs ++ more).toArray e fr) r.fdom
    exact ⟨this.loc, fun b o e => ⟨.inl e, (this.data b o e).2⟩, this.lent⟩
  refine ⟨F', ⟨?_, r.top, r.apart, r.fresh, fun b o e => .inl (r.fsub b o e), ?_, ?_, r.frame.trans (framed_alloc _ _ _), fun j o ej => (r.obj j o ej).imp fun M h => ⟨h.1, h.2.grow hg fun ob e _ => by rw [heap_alloc w _ _ h.2.lt]; exact e⟩, r.objap⟩, hg, Cells.ofGet fun n a en => ?_⟩
  · intro j l ej
    rcases r.loc j l ej with h1 | ⟨M, e1, lies⟩
    · exact .inl h1
    · refine .inr ⟨M, e1, lies.esz, ?_, lies.room, ?_, ?_, lies.zero, fun t ht => ?_⟩
      · obtain ⟨cs, t, h1, h2⟩ := lies.row
        exact ⟨cs, t, by rw [heap_alloc w _ _ lies.lt]; exact h1, h2⟩
      · intro n a en
        obtain ⟨v, h1, h2, h3⟩ := lies.cell n a en
        exact ⟨v, by rw [cell_alloc w _ _ _ lies.lt]; exact h1, hg.rep h2, h3⟩
      · intro o ho
        obtain ⟨h1, h2, h3⟩ := lies.own o ho
        refine ⟨h1, ?_, h3⟩
        rintro (hf | hb)
        · exact h2 hf
        · have := lies.lt
          omega
      · obtain ⟨cs, h1, h2⟩ := lies.typ t ht
        exact ⟨cs, by rw [heap_alloc w _ _ lies.lt]; exact h1, h2⟩
  · rintro b o (hf | rfl)
    · exact r.fnew b o hf
    · exact .inr (.inr r.frame.size)
  · rintro b o ((hf | rfl) | hf)
    · have := r.fdom b o (.inl hf)
      rw [alloc_size]
      omega
    · rw [alloc_size]
      omega
    · have := r.fdom b o (.inr hf)
      rw [alloc_size]
      omega
  · obtain ⟨v, e1, e2⟩ := (hv.m0 hm).get n a en
    refine ⟨.inr rfl, v, ?_, by simpa using hg.rep e2, hone v (List.mem_of_getElem? e1)⟩
    rw [Nat.zero_add, cell_new]
    have : n < vs.length := by
      rcases Nat.lt_or_ge n vs.length with h | h
      · exact h
      · simp [List.getElem?_eq_none h] at e1
    simp [List.getElem?_append_left this, e1]

/-- Parts laid into cells. -/
def fillA (place : Nat → Option (Nat × Nat)) (cells : List AV) : List (Nat × AV) → Option (List AV)
  | [] => some cells
  | (i, v) :: rest => match place i, v.cells with
    | some (off, size), some xs => if xs.length = size ∧ off + size ≤ cells.length then fillA place (splice cells off xs) rest else none
    | _, _ => none

theorem foldl_set (off : Nat) : ∀ (xs : List Value) (j : Nat) (cs : Array Value), (off + j) + xs.length ≤ cs.size → ((xs.zipIdx j).foldl (fun cs (x : Value × Nat) => cs.setIfInBounds (off + x.2) x.1) cs).toList = splice cs.toList (off + j) xs
  | [], j, cs, _ => by simp [splice]
  | x :: xs, j, cs, hl => by
    simp only [List.zipIdx_cons, List.foldl_cons]
    rw [foldl_set off xs (j + 1) _ (by simp at hl ⊢; omega)]
    apply List.ext_getElem?
    intro n
    rw [splice_get _ _ _ (by simp at hl ⊢; omega), splice_get _ _ _ (by simpa using hl)]
    simp only [List.length_cons, Array.toList_setIfInBounds, List.getElem?_set]
    by_cases h1 : off + (j + 1) ≤ n ∧ n < off + (j + 1) + xs.length
    · rw [if_pos h1, if_pos (by omega), show n - (off + j) = (n - (off + (j + 1))) + 1 by omega, List.getElem?_cons_succ]
    · rw [if_neg h1]
      by_cases h2 : n = off + j
      · subst h2
        simp at hl
        rw [if_pos rfl, if_pos (by simp; omega), if_pos (by omega)]
        simp
      · rw [if_neg (by omega), if_neg (by omega)]

theorem fillA_sound {G : CSet} {m : Nat} {place : Nat → Option (Nat × Nat)} : ∀ {ps : List (Nat × AV)} {cs : List AV} {out : List AV} {pv : List (Nat × Value)} {cv : Array Value}, fillA place cs ps = some out →
    RepL φ F G w m cs cv.toList → ps.map (·.1) = pv.map (·.1) → RepL φ F G w m (ps.map (·.2)) (pv.map (·.2)) →
    ∃ ov, Instr.fill place cv pv = some ov ∧ RepL φ F G w m out ov.toList
  | [], cs, out, pv, cv, he, hc, h1, h2 => by
    simp [fillA] at he
    subst he
    simp at h1
    subst h1
    exact ⟨cv, rfl, hc⟩
  | (i, v) :: ps, cs, out, pv, cv, he, hc, h1, h2 => by
    cases pv with
    | nil => simp at h1
    | cons p pv =>
      obtain ⟨i', u⟩ := p
      simp only [List.map_cons, List.cons.injEq] at h1
      obtain ⟨rfl, h1⟩ := h1
      simp only [List.map_cons] at h2
      cases h2 with
      | cons hvu h2 =>
        simp only [fillA] at he
        split at he
        · rename_i off size xs hp hx
          split at he
          · rename_i hs
            have hru := hvu.cells hx
            have hul := hru.len
            have hcl := hc.len
            simp only [Array.length_toList] at hul hcl
            have hfold := foldl_set off u.cells.toList 0 cv (by simp; omega)
            simp only [Nat.add_zero] at hfold
            have hspl : RepL φ F G w m (splice cs off xs) ((u.cells.zipIdx.foldl (fun cs (x : Value × Nat) => cs.setIfInBounds (off + x.2) x.1) cv)).toList := by
              rw [← Array.foldl_toList, Array.toList_zipIdx, hfold]
              unfold splice
              rw [hru.len]
              exact ((hc.take off).append hru).append (hc.drop _)
            obtain ⟨ov, e1, e2⟩ := fillA_sound he hspl h1 h2
            refine ⟨ov, ?_, e2⟩
            have c1 : ¬ (u.cells.size ≠ size) := by omega
            have c2 : ¬ (off + u.cells.size > cv.size) := by omega
            simp only [Instr.fill, hp]
            rw [if_neg (by simp; omega)]
            exact e1
          · cases he
        · cases he

/-- As many cells as are wanted, out of one element's. -/
def tile {α : Type} (z : List α) (n : Nat) (d : α) : List α := (List.range n).map fun i => z.getD (i % z.length) d

theorem tile_rep {G : CSet} {m : Nat} {zs : List AV} {zv : Array Value} (n : Nat) (hz : RepL φ F G w m zs zv.toList) (hpos : n = 0 ∨ zs ≠ []) :
    RepL φ F G w m (tile zs n .junk) ((Array.range n).map (zv[· % zv.size]!)).toList := by
  have hl := hz.len
  simp only [Array.length_toList] at hl
  refine RepL.ofGet (by simp [tile]) fun i a v e1 e2 => ?_
  have hi : i < n := by
    rcases Nat.lt_or_ge i n with h | h
    · exact h
    · rw [List.getElem?_eq_none (by simp [tile]; omega)] at e1
      cases e1
  have hz0 : 0 < zs.length := by
    rcases hpos with h | h
    · omega
    · exact List.length_pos_iff.2 h
  have hm := Nat.mod_lt i hz0
  simp [tile, hi] at e1 e2
  subst e1
  subst e2
  obtain ⟨u, f1, f2⟩ := hz.get (i % zs.length) zs[i % zs.length] (List.getElem?_eq_getElem hm)
  rw [← hl]
  simp only [Array.getElem?_toList] at f1
  rw [List.getElem?_eq_getElem hm]
  simp only [Option.getD_some]
  rw [getElem!_def, f1]
  exact f2

/-- The places of a struct's fields, or an array's elements. -/
def placesT (P : Program) (t : TypeId) : Option (Nat → Option (Nat × Nat)) :=
  match P.underlying t with
  | some (.array _ e) => (sizeT P e).map fun s i => some (i * s, s)
  | some (.struct fs) => (fs.toList.mapM fun f => (P.info? f.type).map fun i => (f.offset, i.size)).map fun l i => l[i]?
  | _ => none

def buildA (P : Program) (t : TypeId) (ps : List (Nat × AV)) : Option Eff :=
  match zeroA P t, placesT P t with
  | some zs, some pl => (fillA pl zs ps).map fun cs => { val := .agg cs }
  | _, _ => none

theorem buildA_sound (r : RelH c φ F h w) {t : TypeId} {ps : List (Nat × AV)} {pv : Array (Nat × Value)} {e : Eff} (he : buildA P t ps = some e) (h1 : ps.map (·.1) = pv.toList.map (·.1))
    (h2 : RepL φ F c.G0 w 2 (ps.map (·.2)) (pv.toList.map (·.2))) : OpOk P c φ F h w (Instr.build t pv) e := by
  unfold buildA at he
  split at he
  · rename_i zs pl hz hp
    rw [Option.map_eq_some_iff] at he
    obtain ⟨cs, hf, rfl⟩ := he
    unfold zeroA at hz
    cases hi : P.info? t with
    | none => simp [hi] at hz
    | some i => cases hq : i.zero with
      | none => simp [hi, hq] at hz
      | some v =>
        simp [hi, hq] at hz
        subst hz
        obtain ⟨ov, e1, e2⟩ := fillA_sound hf (repL_constCell (φ := φ) (F := F) (G := c.G0) (w := w) (m := 2) v.cells.toList) h1 h2
        have hb : P.built t pv.toList = some ov := by
          unfold Program.built
          unfold placesT at hp
          split at hp
          · rename_i n e hu
            rw [Option.map_eq_some_iff] at hp
            obtain ⟨s, hs, rfl⟩ := hp
            unfold sizeT at hs
            rw [Option.map_eq_some_iff] at hs
            obtain ⟨ie, hie, rfl⟩ := hs
            simp only [hi, hu, hq, hie]
            exact e1
          · rename_i fs hu
            rw [Option.map_eq_some_iff] at hp
            obtain ⟨l, hl, rfl⟩ := hp
            simp only [hi, hu, hq, hl]
            simpa using e1
          · cases hp
        exact OpOk.same r (run_build w t pv ov hb) rfl (by simpa using Rep.agg e2)
  · cases he

/-- A slice's literal: data, where all in it is; else a block. -/
def buildSliceA (P : Program) (h : Heap) (nid : Nat) (t : TypeId) (len : Nat) (ps : List (Nat × AV)) : Option Eff :=
  (elemT P t).bind fun e => match sizeT P e, zeroA P e with
    | some s, some zs => if s = zs.length ∧ s ≠ 0 ∧ len * s ≤ 2 ^ 24 then (fillA (fun i => some (i * s, s)) (tile zs (len * s) .junk) ps).bind fun cs =>
        if cs.all AV.cell = false then none else if AV.m0L cs = true then some { val := .ds { nn := true, cap := some len } cs len }
        else match h nid with
          | .free => if cs.length = len * s then some { val := .rs nid 0 len cs.length (some len), ups := [(nid, .blk ⟨cs, s, false, false, none⟩)] } else none
          | _ => none
      else none
    | _, _ => none

theorem buildSliceA_sound (r : RelH c φ F h w) {nid : Nat} {t : TypeId} {len : Nat} {ps : List (Nat × AV)} {pv : Array (Nat × Value)} {e : Eff} (he : buildSliceA P h nid t len ps = some e) (h1 : ps.map (·.1) = pv.toList.map (·.1))
    (h2 : RepL φ F c.G0 w 2 (ps.map (·.2)) (pv.toList.map (·.2))) : OpOk P c φ F h w (Instr.buildSlice t len pv) e := by
  unfold buildSliceA at he
  rw [Option.bind_eq_some_iff] at he
  obtain ⟨el, hel, he⟩ := he
  have hu : P.underlying t = some (.slice el) := by
    unfold elemT at hel
    split at hel
    · rename_i e hu
      cases hel
      exact hu
    · cases hel
  split at he
  · rename_i s zs hs hz
    split at he
    · rename_i hc
      obtain ⟨c1, c2, c3⟩ := hc
      rw [Option.bind_eq_some_iff] at he
      obtain ⟨cs, hf, he⟩ := he
      obtain ⟨zv, hz1, hz2⟩ := zeroA_sound hz φ F c.G0 w
      have hne : zs ≠ [] := by
        intro e
        simp [e] at c1
        omega
      obtain ⟨ov, e1, e2⟩ := fillA_sound hf (tile_rep (len * s) hz2 (.inr hne)) h1 h2
      have hrun : ∀ e, (do pure (.slice (some (← newRow el ov)) len len) : Sem Value).run P w = e → (Instr.buildSlice t len pv).run P w = e := by
        intro e hr
        rw [← hr]
        have hb : ¬ (16777216 < len * s) := by simpa using c3
        by_cases h0 : len * s = 0
        · have : len = 0 := by
            rcases Nat.mul_eq_zero.1 h0 with h | h
            · exact h
            · omega
          subst this
          have hr0 : (Array.range (0 * s)).map (fun x => zv.cells[x % zv.cells.size]!) = #[] := by simp
          rw [hr0] at e1
          have hq : ∀ f : Nat → Value, (Array.range 0).map f = #[] := fun f => Array.ext' (by simp)
          simp [Instr.buildSlice, run_underlying hu, run_sizeOf hs, hq, e1]
        · simp [Instr.buildSlice, run_underlying hu, run_sizeOf hs, hb, h0, hz1, e1]
      split at he
      · cases he
      rename_i hcell
      have hall := all_one e2 (by simpa using hcell)
      split at he
      · rename_i hm
        cases he
        obtain ⟨F', g1, g2, g3⟩ := r.allocData e2 hm hall [] el
        refine ⟨_, _, φ, F', hrun _ (by simp [newRow]; exact ⟨rfl, rfl⟩), by simpa [putAll] using g1, by simpa using g2, ?_⟩
        refine Rep.ds (by simp) (by simp) (Nat.le_refl _) ?_
        simpa using g3
      · split at he
        · rename_i hfree
          split at he
          · rename_i hcl
            cases he
            obtain ⟨f1, f2⟩ := r.free_none hfree
            obtain ⟨φ', g1, g2, g3⟩ := r.alloc ⟨cs, s, false, false, none⟩ (f1 _) (f2 _) ov.toList e2 hall [] el (fun _ e => by cases e)
            refine ⟨_, _, φ', F, hrun _ (by simp [newRow]; exact ⟨rfl, rfl⟩), by simpa [putAll] using g2, by simpa using g3, ?_⟩
            have hl := e2.len
            refine Rep.rs (L := ⟨w.heap.size, 0, (ov.toList ++ []).length, s⟩) (Nat.le_refl _) g1 (by simp) (Nat.le_refl _) ?_
            simp at hl ⊢
            omega
          · cases he
        · cases he
    · cases he
  · cases he
end
end Go.Proofs.YtpiincgiakkljaaGreatDoor
/-
  The abstract operations, fourth part: parts of slices and strings, make, append.
-/
namespace Go.Proofs.YtpiincgiakkljaaGreatDoor
open Go

section
variable {P : Program} {c : Ctx} {φ : Locs} {F : CSet} {h : Heap} {w : World}

def intOr (d : Int) : Option AV → Option Int
  | none => some d
  | some (.int _ n) => some n
  | some _ => none

/-- A part of a slice, or of a string: up to its length. -/
def sliceA (P : Program) (h : Heap) (t : TypeId) (x : AV) (lo hi mx : Option AV) : Option Eff :=
  match P.underlying t, x, mx with
  | some .string, .str s, none => match intOr 0 lo, intOr s.size hi with
    | some l, some u => some { val := .str (s.extract l.toNat u.toNat), obl := [(0, l), (l, u), (u, s.size)] }
    | _, _ => none
  | some (.slice e), .ds hd cs len, none => match sizeT P e, intOr 0 lo, intOr len hi with
    | some s, some l, some u => some { val := .ds { hd with cap := hd.cap.map (· - l.toNat) } ((cs.drop (l.toNat * s)).take ((u - l).toNat * s)) (u - l).toNat, obl := [(0, l), (l, u), (u, len)] }
    | _, _, _ => none
  | some (.slice e), .ds hd cs len, some m => match sizeT P e, intOr 0 lo, intOr len hi, intOr 0 (some m) with
    | some s, some l, some u, some m => if hi.isSome then some { val := .ds { hd with cap := some (m - l).toNat } ((cs.drop (l.toNat * s)).take ((u - l).toNat * s)) (u - l).toNat, obl := [(0, l), (l, u), (u, m), (m, len)] } else none
    | _, _, _, _ => none
  | some (.slice e), .nils, none => match sizeT P e, intOr 0 lo, intOr 0 hi with
    | some _, some l, some u => some { val := .nils, obl := [(0, l), (l, u), (u, 0)] }
    | _, _, _ => none
  | some (.slice e), .rs i off len tot cap, none => match sizeT P e, intOr 0 lo, intOr len hi, h i with
    | some s, some l, some u, .blk k => if k.cells.length = tot ∧ k.esz = s then (if lo.isSome = true ∧ l = (len : Int) then some { val := .ds {} [] 0, fp := [i], obl := [(0, l), (l, u), (u, len)] } else some { val := .rs i (off + l.toNat * s) (u - l).toNat tot (cap.map (· - l.toNat)), fp := [i], obl := [(0, l), (l, u), (u, len)] ++ (if lo.isSome then [(l + 1, (len : Int))] else []) }) else none
    | _, _, _, _ => none
  | some (.slice e), .rs i off len tot _, some m => match sizeT P e, intOr 0 lo, intOr len hi, intOr 0 (some m), h i with
    | some s, some l, some u, some m, .blk k => if k.cells.length = tot ∧ k.esz = s ∧ hi.isSome then some { val := .rs i off u.toNat tot (some m.toNat), fp := [i], obl := [(0, l), (l, 0), (0, u), (u, m), (m, len)] } else none
    | _, _, _, _, _ => none
  | _, _, _ => none

theorem run_bound {x : AV} {v : Value} {n : Int} {y : Nat} (code : BoundsCode) (hx : Rep φ F c.G0 w 2 x v) (hn : intOr 0 (some x) = some n) (h0 : 0 ≤ n) (h1 : n ≤ y) : (Instr.sliceBound v y code).run P w = .ok n.toNat w := by
  cases hx with
  | int =>
    simp [intOr] at hn
    subst hn
    simp [Instr.sliceBound, asIntOf, h0, h1]
  | _ => simp [intOr] at hn

theorem intOr_some (d : Int) (a : AV) : intOr d (some a) = intOr 0 (some a) := by cases a <;> rfl

/-- An operand that may be missing. -/
inductive RepO (φ : Locs) (F G : CSet) (w : World) : Option AV → Option Value → Prop
  | none : RepO φ F G w none none
  | some {a v} : Rep φ F G w 2 a v → RepO φ F G w (some a) (some v)

theorem run_bounds {lo hi : Option AV} {vlo vhi : Option Value} {l u : Int} {len cap : Nat} (isS : Bool) (h1 : RepO φ F c.G0 w lo vlo) (h2 : RepO φ F c.G0 w hi vhi) (e1 : intOr 0 lo = some l) (e2 : intOr len hi = some u)
    (o1 : 0 ≤ l) (o2 : l ≤ u) (o3 : u ≤ len) (hlc : len ≤ cap) : (Instr.sliceBounds isS len cap vlo vhi none).run P w = .ok (l.toNat, u.toNat, cap) w := by
  cases h1 with
  | none =>
    simp [intOr] at e1
    subst e1
    cases h2 with
    | none =>
      simp [intOr] at e2
      subst e2
      simp [Instr.sliceBounds]
    | some hr =>
      have := run_bound (P := P) (y := cap) (if isS then .sliceAcap else .sliceAlen) hr (by rw [← intOr_some len]; exact e2) (by omega) (by omega)
      simp [Instr.sliceBounds, this]
  | some hl =>
    have hlo : ∀ y : Nat, u ≤ y → ∀ code, (Instr.sliceBound _ y code).run P w = .ok l.toNat w := fun y hy code => run_bound (P := P) (y := y) code hl e1 o1 (by omega)
    cases h2 with
    | none =>
      simp [intOr] at e2
      subst e2
      simp [Instr.sliceBounds, hlo len (by omega)]
    | some hr =>
      have := run_bound (P := P) (y := cap) (if isS then .sliceAcap else .sliceAlen) hr (by rw [← intOr_some len]; exact e2) (by omega) (by omega)
      simp [Instr.sliceBounds, this, hlo u.toNat (by omega)]

theorem run_bounds3 {lo : Option AV} {hi m : AV} {vlo : Option Value} {vhi vm : Value} {l u n : Int} {len cap : Nat} (h1 : RepO φ F c.G0 w lo vlo) (h2 : Rep φ F c.G0 w 2 hi vhi) (h3 : Rep φ F c.G0 w 2 m vm) (e1 : intOr 0 lo = some l)
    (e2 : intOr 0 (some hi) = some u) (e3 : intOr 0 (some m) = some n) (o1 : 0 ≤ l) (o2 : l ≤ u) (o3 : u ≤ n) (o4 : n ≤ len) (hlc : len ≤ cap) : (Instr.sliceBounds true len cap vlo (some vhi) (some vm)).run P w = .ok (l.toNat, u.toNat, n.toNat) w := by
  have q3 := run_bound (P := P) (y := cap) .slice3Acap h3 e3 (by omega) (by omega)
  have q2 := run_bound (P := P) (y := n.toNat) .slice3B h2 e2 (by omega) (by omega)
  cases h1 with
  | none =>
    simp [intOr] at e1
    subst e1
    simp [Instr.sliceBounds, q3, q2]
  | some hl =>
    have q1 := run_bound (P := P) (y := u.toNat) .slice3C hl e1 o1 (by omega)
    simp [Instr.sliceBounds, q3, q2, q1]

theorem sliceA_sound (r : RelH c φ F h w) {t : TypeId} {x : AV} {lo hi mx : Option AV} {vx : Value} {vlo vhi vmx : Option Value} {e : Eff} (he : sliceA P h t x lo hi mx = some e) (hok : e.ok) (hx : Rep φ F c.G0 w 2 x vx)
    (hlo : RepO φ F c.G0 w lo vlo) (hhi : RepO φ F c.G0 w hi vhi) (hmx : RepO φ F c.G0 w mx vmx) : OpOk P c φ F h w (Instr.sliceAt t vx vlo vhi vmx) e := by
  unfold sliceA at he
  split at he
  · -- a string
    rename_i s hu
    split at he
    · rename_i l u e1 e2
      cases he
      have o1 := hok (0, l) (by simp)
      have o2 := hok (l, u) (by simp)
      have o3 := hok (u, s.size) (by simp)
      simp only at o1 o2 o3
      cases hx
      cases hmx
      have hb := run_bounds (P := P) (cap := s.size) false hlo hhi e1 e2 o1 o2 o3 (Nat.le_refl _)
      refine OpOk.same r (u := .string (s.extract l.toNat u.toNat)) ?_ rfl .str
      simp [Instr.sliceAt, run_underlying hu, Instr.slice, hb]
    · cases he
  · -- data
    rename_i el hd cs len hu
    split at he
    · rename_i s l u hs e1 e2
      cases he
      have o1 := hok (0, l) (by simp)
      have o2 := hok (l, u) (by simp)
      have o3 := hok (u, len) (by simp)
      simp only at o1 o2 o3
      cases hmx
      cases hx with
      | dsn g1 g2 =>
        have hb := run_bounds (P := P) (cap := 0) true hlo hhi e1 e2 o1 o2 o3 (Nat.le_refl _)
        have hl : l = 0 := by omega
        have hu0 : u = 0 := by omega
        subst hl
        subst hu0
        refine OpOk.same r (u := .slice none 0 0) ?_ rfl ?_
        · simp [Instr.sliceAt, run_underlying hu, Instr.slice, hb, run_sizeOf hs]
        · simp only [List.drop_nil, List.take_nil]
          exact .dsn g1 (fun c' hc' => by
            simp only [Option.map_eq_some_iff] at hc'
            obtain ⟨a, ha, rfl⟩ := hc'
            rw [g2 a ha]
            simp)
      | ds g1 g2 g3 g4 =>
        rename_i b o cap
        have hb := run_bounds (P := P) (cap := cap) true hlo hhi e1 e2 o1 o2 o3 g3
        by_cases hm : cap = l.toNat
        · refine OpOk.same r (u := .slice (some ⟨b, o, none⟩) (u.toNat - l.toNat) (cap - l.toNat)) ?_ rfl ?_
          · subst hm
            simp [Instr.sliceAt, run_underlying hu, Instr.slice, hb, run_sizeOf hs]
          · have h0 : (u - l).toNat = 0 := by omega
            have h0' : u.toNat - l.toNat = 0 := by omega
            rw [h0, h0', Nat.zero_mul, List.take_zero]
            refine .ds g1 (fun c' hc' => ?_) (Nat.zero_le _) .nil
            simp only [Option.map_eq_some_iff] at hc'
            obtain ⟨a, ha, rfl⟩ := hc'
            rw [g2 a ha]
        · refine OpOk.same r (u := .slice (some ⟨b, o + l.toNat * s, none⟩) (u.toNat - l.toNat) (cap - l.toNat)) ?_ rfl ?_
          · simp [Instr.sliceAt, run_underlying hu, Instr.slice, hb, run_sizeOf hs, hm, addr_add]
          · have h0' : u.toNat - l.toNat = (u - l).toNat := by omega
            rw [h0']
            refine .ds g1 (fun c' hc' => ?_) (by omega) ((g4.drop _).take _)
            simp only [Option.map_eq_some_iff] at hc'
            obtain ⟨a, ha, rfl⟩ := hc'
            rw [g2 a ha]
    · cases he
  · -- data, with a new capacity
    rename_i el hd cs len m hu
    split at he
    · rename_i s l u n hs e1 e2 e3
      split at he
      · rename_i hsome
        cases he
        have o1 := hok (0, l) (by simp)
        have o2 := hok (l, u) (by simp)
        have o3 := hok (u, n) (by simp)
        have o4 := hok (n, len) (by simp)
        simp only at o1 o2 o3 o4
        cases hmx with
        | some hm =>
          cases hhi with
          | none => simp at hsome
          | some hh =>
            rw [intOr_some] at e2
            cases hx with
            | dsn g1 g2 =>
              have hb := run_bounds3 (P := P) (cap := 0) hlo hh hm e1 e2 e3 o1 o2 o3 o4 (Nat.le_refl _)
              have hl : l = 0 := by omega
              have hu0 : u = 0 := by omega
              have hn0 : n = 0 := by omega
              subst hl
              subst hu0
              subst hn0
              refine OpOk.same r (u := .slice none 0 0) ?_ rfl ?_
              · simp [Instr.sliceAt, run_underlying hu, Instr.slice, hb, run_sizeOf hs]
              · simp only [List.drop_nil, List.take_nil]
                exact .dsn g1 (fun c' hc' => by simp at hc'; exact hc'.symm)
            | ds g1 g2 g3 g4 =>
              rename_i b o cap
              have hb := run_bounds3 (P := P) (cap := cap) hlo hh hm e1 e2 e3 o1 o2 o3 o4 g3
              by_cases hm : n.toNat = l.toNat
              · refine OpOk.same r (u := .slice (some ⟨b, o, none⟩) (u.toNat - l.toNat) (n.toNat - l.toNat)) ?_ rfl ?_
                · simp [Instr.sliceAt, run_underlying hu, Instr.slice, hb, run_sizeOf hs, hm]
                · have h0 : (u - l).toNat = 0 := by omega
                  have h0' : u.toNat - l.toNat = 0 := by omega
                  rw [h0, h0', Nat.zero_mul, List.take_zero]
                  refine .ds g1 (fun c' hc' => ?_) (Nat.zero_le _) .nil
                  simp at hc'
                  omega
              · refine OpOk.same r (u := .slice (some ⟨b, o + l.toNat * s, none⟩) (u.toNat - l.toNat) (n.toNat - l.toNat)) ?_ rfl ?_
                · simp [Instr.sliceAt, run_underlying hu, Instr.slice, hb, run_sizeOf hs, hm, addr_add]
                · have h0' : u.toNat - l.toNat = (u - l).toNat := by omega
                  rw [h0']
                  refine .ds g1 (fun c' hc' => ?_) (by omega) ((g4.drop _).take _)
                  simp at hc'
                  omega
      · cases he
    · cases he
  · -- nil
    rename_i el hu
    split at he
    · rename_i s l u hs e1 e2
      cases he
      have o1 := hok (0, l) (by simp)
      have o2 := hok (l, u) (by simp)
      have o3 := hok (u, 0) (by simp)
      simp only at o1 o2 o3
      cases hmx
      cases hx
      have hb := run_bounds (P := P) (len := 0) (cap := 0) true hlo hhi e1 (by simpa using e2) o1 o2 (by simpa using o3) (Nat.le_refl _)
      have hl : l = 0 := by omega
      have hu0 : u = 0 := by omega
      subst hl
      subst hu0
      refine OpOk.same r (u := .slice none 0 0) ?_ rfl .nils
      simp [Instr.sliceAt, run_underlying hu, Instr.slice, hb, run_sizeOf hs]
    · cases he
  · -- of the frame's own
    rename_i el i off len tot cap hu
    split at he
    · rename_i s l u k hs e1 e2 hi
      split at he
      · rename_i hk
        split at he
        · rename_i hend
          cases he
          have o1 := hok (0, l) (by simp)
          have o2 := hok (l, u) (by simp)
          have o3 := hok (u, len) (by simp)
          simp only at o1 o2 o3
          cases hmx
          have hul : u = l := by have := hend.2; omega
          subst hul
          cases hx with
          | rsn g0 gk g1 =>
            have hb := run_bounds (P := P) (cap := 0) true hlo hhi e1 e2 o1 o2 o3 (Nat.le_refl _)
            have hu0 : u = 0 := by omega
            subst hu0
            refine OpOk.same r (u := .slice none 0 0) ?_ rfl (.dsn rfl (by simp))
            simp [Instr.sliceAt, run_underlying hu, Instr.slice, hb, run_sizeOf hs]
          | rs g0 g1 g2 g3 g4 =>
            rename_i L cc
            have hb := run_bounds (P := P) (cap := cc) true hlo hhi e1 e2 o1 o2 o3 g3
            cases vlo with
            | none => cases hlo; simp at hend
            | some vlo =>
              by_cases hcl : cc = u.toNat
              · refine OpOk.same r (u := .slice (some ⟨L.b, L.base + off, none⟩) (u.toNat - u.toNat) (cc - u.toNat)) ?_ rfl (by rw [Nat.sub_self]; exact .ds (by simp) (by simp) (Nat.zero_le _) .nil)
                rw [Instr.sliceAt, Sem.run_bind, run_underlying hu]
                simp only [Result.andThen]
                rw [Instr.slice, Sem.run_bind, run_underlying hu]
                rw [hcl] at hb ⊢
                simp [hb, run_sizeOf hs]
              · refine OpOk.same r (u := .slice (some ⟨L.b, L.base + off + u.toNat * s, none⟩) (u.toNat - u.toNat) (cc - u.toNat)) ?_ rfl (by rw [Nat.sub_self]; exact .ds (by simp) (by simp) (Nat.zero_le _) .nil)
                rw [Instr.sliceAt, Sem.run_bind, run_underlying hu]
                simp only [Result.andThen]
                rw [Instr.slice, Sem.run_bind, run_underlying hu]
                simp [hb, run_sizeOf hs, hcl, addr_add]
        cases he
        have o1 := hok (0, l) (by simp)
        have o2 := hok (l, u) (by simp)
        have o3 := hok (u, len) (by simp)
        simp only at o1 o2 o3
        cases hmx
        cases hx with
        | rsn g0 gk g1 =>
          have hb := run_bounds (P := P) (cap := 0) true hlo hhi e1 e2 o1 o2 o3 (Nat.le_refl _)
          have hl : l = 0 := by omega
          have hu0 : u = 0 := by omega
          subst hl
          subst hu0
          refine OpOk.same r (u := .slice none 0 0) ?_ rfl ?_
          · simp [Instr.sliceAt, run_underlying hu, Instr.slice, hb, run_sizeOf hs]
          · exact .rsn g0 gk (fun c' hc' => by
              simp only [Option.map_eq_some_iff] at hc'
              obtain ⟨a, ha, rfl⟩ := hc'
              rw [g1 a ha]
              simp)
        | rs g0 g1 g2 g3 g4 =>
          rename_i L cc
          have hb := run_bounds (P := P) (cap := cc) true hlo hhi e1 e2 o1 o2 o3 g3
          have hesz : L.esz = s := by
            rcases r.loc i k hi with ⟨q1, q2, _⟩ | ⟨M, q1, q2⟩
            · rw [q2] at hk
              simp at hk
              rw [← hk.1, q1] at g1
              cases g1
              simp [Loc.nowhere] at g4
            · rw [hk.1, g1] at q1
              cases q1
              rw [q2.esz, hk.2]
          have hcapm : ∀ c', Option.map (fun x => x - l.toNat) cap = some c' → c' = cc - l.toNat := by
            intro c' hc'
            simp only [Option.map_eq_some_iff] at hc'
            obtain ⟨a, ha, rfl⟩ := hc'
            rw [g2 a ha]
          have hmul : (cc - l.toNat) * s + l.toNat * s = cc * s := by
            rw [← Nat.add_mul]
            congr 1
            omega
          have hval : Rep φ F c.G0 w 2 (.rs i (off + l.toNat * s) (u - l).toNat tot (cap.map (· - l.toNat))) (.slice (some ⟨L.b, L.base + (off + l.toNat * s), none⟩) (u - l).toNat (cc - l.toNat)) :=
            .rs g0 g1 hcapm (by omega) (by rw [hesz] at g4 ⊢; omega)
          refine OpOk.same r ?_ rfl hval
          have h0' : u.toNat - l.toNat = (u - l).toNat := by omega
          cases lo with
          | none =>
            simp [intOr] at e1
            subst e1
            simp [Instr.sliceAt, run_underlying hu, Instr.slice, hb, run_sizeOf hs, addr_add]
          | some lo =>
            have o4 := hok (l + 1, len) (by simp)
            simp only at o4
            have hm : ¬ cc = l.toNat := by omega
            simp [Instr.sliceAt, run_underlying hu, Instr.slice, hb, run_sizeOf hs, hm, addr_add, h0', Nat.add_assoc]
      · cases he
    · cases he
  · rename_i el i off len tot cap m hu
    split at he
    · rename_i s l u n k hs e1 e2 e3 hi
      split at he
      · rename_i hk
        obtain ⟨hk1, hk2, hsome⟩ := hk
        cases he
        have o1 := hok (0, l) (by simp)
        have o1' := hok (l, 0) (by simp)
        have o2 := hok (0, u) (by simp)
        have o3 := hok (u, n) (by simp)
        have o4 := hok (n, len) (by simp)
        simp only at o1 o1' o2 o3 o4
        have hl : l = 0 := by omega
        subst hl
        cases hmx with
        | some hm =>
          cases hhi with
          | none => simp at hsome
          | some hh =>
            rw [intOr_some] at e2
            cases hx with
            | rsn g0 gk g1 =>
              have hb := run_bounds3 (P := P) (cap := 0) hlo hh hm e1 e2 e3 o1 o2 o3 o4 (Nat.le_refl _)
              have hu0 : u = 0 := by omega
              have hn0 : n = 0 := by omega
              subst hu0
              subst hn0
              refine OpOk.same r (u := .slice none 0 0) ?_ rfl ?_
              · simp [Instr.sliceAt, run_underlying hu, Instr.slice, hb, run_sizeOf hs]
              · exact .rsn g0 gk (fun c' hc' => by simp at hc'; exact hc'.symm)
            | rs g0 g1 g2 g3 g4 =>
              rename_i L cc
              have hb := run_bounds3 (P := P) (cap := cc) hlo hh hm e1 e2 e3 o1 o2 o3 o4 g3
              have hle : n.toNat * L.esz ≤ cc * L.esz := Nat.mul_le_mul_right _ (by omega)
              refine OpOk.same r (u := .slice (some ⟨L.b, L.base + off, none⟩) u.toNat n.toNat) ?_ rfl (.rs g0 g1 (fun c' hc' => by simp at hc'; exact hc'.symm) (by omega) (by omega))
              simp [Instr.sliceAt, run_underlying hu, Instr.slice, hb, run_sizeOf hs, addr_add]
      · cases he
    · cases he
  · cases he
end
end Go.Proofs.YtpiincgiakkljaaGreatDoor
/-
  The abstract operations, fifth part: make, append, copy.
-/
namespace Go.Proofs.YtpiincgiakkljaaGreatDoor
open Go

section
variable {P : Program} {c : Ctx} {φ : Locs} {F : CSet} {h : Heap} {w : World}

def makeSliceA (P : Program) (h : Heap) (nid : Nat) (t : TypeId) (len cap : AV) : Option Eff :=
  (elemT P t).bind fun e => match sizeT P e, zeroA P e, (P.info? e).map (·.bytes), len, cap, h nid with
    | some s, some zs, some by_, .int .i64 l, .int .i64 n, .free => if s = zs.length ∧ s ≠ 0 ∧ zs.all AV.cell = true then
        some { val := .rs nid 0 l.toNat (l.toNat * s) none, ups := [(nid, .blk ⟨tile zs (l.toNat * s) .junk, s, false, false, none⟩)], obl := [(0, l), (l, n), (n * by_, 281474976710656), (n, 281474976710656)] } else none
    | _, _, _, _, _, _ => none

theorem wrap_id {n : Int} (h0 : 0 ≤ n) (h1 : n ≤ 281474976710656) : IntKind.i64.wrap n = n := by
  unfold IntKind.wrap IntKind.signed IntKind.bits
  simp
  omega

theorem tile_split {α : Type} (z : List α) (a b : Nat) (d : α) (h : a ≤ b) : ∃ more, tile z b d = tile z a d ++ more := by
  refine ⟨(tile z b d).drop a, ?_⟩
  apply List.ext_getElem?
  intro i
  rcases Nat.lt_or_ge i a with hi | hi
  · rw [List.getElem?_append_left (by simp [tile]; omega)]
    simp only [tile, List.getElem?_map]
    rw [List.getElem?_range (by omega), List.getElem?_range (by omega)]
  · rw [List.getElem?_append_right (by simp [tile]; omega), List.getElem?_drop]
    congr 1
    simp [tile]
    omega

theorem rows_tile (zv : Array Value) (n : Nat) (d : Value) (hz : n = 0 ∨ zv.size ≠ 0) : ((Array.range n).map (zv[· % zv.size]!)).toList = tile zv.toList n d := by
  apply List.ext_getElem?
  intro i
  rcases Nat.lt_or_ge i n with hi | hi
  · have : 0 < zv.size := by omega
    have hm := Nat.mod_lt i this
    simp [tile, hi, getElem!_def]
    rw [Array.getElem?_eq_getElem hm]
    simp
  · rw [List.getElem?_eq_none (by simp; omega), List.getElem?_eq_none (by simp [tile]; omega)]

theorem tile_rep' {G : CSet} {m : Nat} {zs : List AV} {zv : List Value} (n : Nat) (d : Value) (hz : RepL φ F G w m zs zv) (hpos : zs ≠ []) : RepL φ F G w m (tile zs n .junk) (tile zv n d) := by
  have := tile_rep n (zv := zv.toArray) (by simpa using hz) (.inr hpos)
  rw [rows_tile _ n d (.inr (by have := hz.len; intro e; apply hpos; simp at e; simpa [e] using this))] at this
  simpa using this

theorem makeSliceA_sound (r : RelH c φ F h w) {nid : Nat} {t : TypeId} {len cap : AV} {vl vc : Value} {e : Eff} (he : makeSliceA P h nid t len cap = some e) (hok : e.ok) (hl : Rep φ F c.G0 w 2 len vl) (hc : Rep φ F c.G0 w 2 cap vc) :
    OpOk P c φ F h w (Instr.makeSlice t vl vc) e := by
  unfold makeSliceA at he
  rw [Option.bind_eq_some_iff] at he
  obtain ⟨el, hel, he⟩ := he
  have hu : P.underlying t = some (.slice el) := by
    unfold elemT at hel
    split at hel
    · rename_i e hu
      cases hel
      exact hu
    · cases hel
  split at he
  · rename_i s zs by_ l n hs hz hb hfree
    split at he
    · rename_i hcond
      obtain ⟨c1, c2, c3⟩ := hcond
      cases he
      have o1 := hok (0, l) (by simp)
      have o2 := hok (l, n) (by simp)
      have o3 := hok (n * by_, 281474976710656) (by simp)
      have o4 := hok (n, 281474976710656) (by simp)
      simp only at o1 o2 o3 o4
      cases hl
      cases hc
      obtain ⟨zv, hz1, hz2⟩ := zeroA_sound hz φ F c.G0 w
      have hne : zs ≠ [] := by
        intro e
        simp [e] at c1
        omega
      have hzone := all_one hz2 c3
      cases hi : P.info? el with
      | none => simp [hi] at hb
      | some i =>
        have hby : i.bytes = by_ := by simpa [hi] using hb
        have hsz : i.size = s := by
          unfold sizeT at hs
          simpa [hi] using hs
        have wl := wrap_id o1 (by omega : l ≤ 281474976710656)
        have wn := wrap_id (by omega : 0 ≤ n) o4
        obtain ⟨more, hmore⟩ := tile_split zv.cells.toList (l.toNat * s) (n.toNat * s) undef (Nat.mul_le_mul_right _ (by omega))
        obtain ⟨f1, f2⟩ := r.free_none hfree
        have hlen0 : (tile zs (l.toNat * s) .junk).length = l.toNat * s := by simp [tile]
        have hv := tile_rep' (l.toNat * s) undef hz2 hne
        have hzl := hz2.len
        have hone : ∀ v ∈ tile zv.cells.toList (l.toNat * s) undef, v.oneCell' = true := by
          intro v hv
          simp only [tile, List.mem_map, List.mem_range] at hv
          obtain ⟨j, hj, rfl⟩ := hv
          have hpos : 0 < zv.cells.toList.length := by
            rw [← hzl]
            exact List.length_pos_iff.2 hne
          have hm := Nat.mod_lt j hpos
          simp only [List.getD, List.getElem?_eq_getElem hm, Option.getD_some]
          exact hzone _ (List.getElem_mem hm)
        obtain ⟨φ', g1, g2, g3⟩ := r.alloc ⟨tile zs (l.toNat * s) .junk, s, false, false, none⟩ (f1 _) (f2 _) _ hv hone more el (fun _ e => by cases e)
        rw [← hmore] at g1 g2 g3
        refine ⟨.slice (some ⟨w.heap.size, 0, none⟩) l.toNat n.toNat, _, φ', F, ?_, by simpa [putAll] using g2, g3, ?_⟩
        · have t1 : ¬ (l < 0) := by omega
          have t2 : ¬ (n < l) := by omega
          have t3 : ¬ (n < 0) := by omega
          have t4 : ¬ (281474976710656 < (by_ : Int) * n) := by rw [Int.mul_comm]; omega
          have hrow : (Array.range (n.toNat * s)).map (zv.cells[· % zv.cells.size]!) = (tile zv.cells.toList (n.toNat * s) undef).toArray := by
            apply Array.ext'
            rw [rows_tile _ _ undef (.inr (by simp at hzl; omega))]
          by_cases h0 : n.toNat * s = 0
          · have hq : ∀ f : Nat → Value, (Array.range 0).map f = #[] := fun f => Array.ext' (by simp)
            have hq2 : tile zv.cells.toList 0 undef = [] := rfl
            simp [Instr.makeSlice, run_underlying hu, asInt, asIntOf, typeInfo, hi, hby, wl, wn, t1, t2, t3, t4, sizeOf, hsz, h0, hq, hq2, newRow]
          · simp [Instr.makeSlice, run_underlying hu, asInt, asIntOf, typeInfo, hi, hby, wl, wn, t1, t2, t3, t4, sizeOf, hsz, h0, hz1, hrow, newRow]
        · rw [hlen0] at g1
          refine Rep.rs (Nat.le_refl _) g1 (by simp) (by omega) ?_
          simp [tile]
    · cases he
  · cases he

/-- What is appended: how many elements, their cells, the block that is looked at. -/
def srcA (P : Program) (h : Heap) (t : TypeId) (s : Nat) (x : AV) : Option (Nat × List AV × List Nat) :=
  match P.underlying t, x with
  | some (.slice _), .nils => some (0, [], [])
  | some (.slice _), .ds _ cs len => if cs.length = len * s then some (len, cs, []) else none
  | some (.slice _), .rs i off len tot _ => match h i with
    | .blk k => if k.cells.length = tot ∧ off + len * s ≤ tot then some (len, (k.cells.drop off).take (len * s), [i]) else none
    | _ => none
  | some .string, .str b => if s = 1 then some (b.size, b.data.toList.map fun x => .int .u8 x.toNat, []) else none
  | _, _ => none

theorem rows_of {b o n : Nat} {cs : List AV} (hc : ∀ (i : Nat) (x : AV), cs[i]? = some x → ∃ u, w.cell? ⟨b, o + i, none⟩ = some u ∧ Rep φ F c.G0 w 2 x u ∧ u.oneCell' = true) (hn : cs.length = n) :
    ∃ vs : List Value, vs.length = n ∧ RepL φ F c.G0 w 2 cs vs ∧ (∀ (j : Nat) (v : Value), vs[j]? = some v → w.cell? ⟨b, o + j, none⟩ = some v) ∧ ∀ v ∈ vs, v.oneCell' = true := by
  have := loads_get hc (Nat.le_of_eq hn.symm)
  rwa [← hn, List.take_length, hn] at this

theorem srcA_sound (r : RelH c φ F h w) {t : TypeId} {s : Nat} {x : AV} {v : Value} {n : Nat} {cs : List AV} {fp : List Nat} (he : srcA P h t s x = some (n, cs, fp)) (hx : Rep φ F c.G0 w 2 x v) :
    ∃ news, Src P s t v n news w ∧ RepL φ F c.G0 w 2 cs news := by
  unfold srcA at he
  split at he
  · rename_i el hu
    cases he
    cases hx
    exact ⟨[], Src.ofNil w hu 0, .nil⟩
  · rename_i el hd cs' len hu
    split at he
    · rename_i hlen
      cases he
      cases hx with
      | dsn h1 h2 => exact ⟨[], Src.ofNil w hu 0, .nil⟩
      | ds h1 h2 h3 h4 =>
        rename_i b o cap
        obtain ⟨vs, e1, e2, e3, e4⟩ := rows_of (fun i x e => by
          obtain ⟨_, u, f1, f2, f3⟩ := h4.get i x e
          exact ⟨u, f1, f2.up (by split <;> omega), f3⟩) hlen
        exact ⟨vs, Src.ofSlice w hu ⟨b, o, none⟩ n cap vs e1 (fun j u hj => by rw [addr_add]; exact e3 j u hj) e4, e2⟩
    · cases he
  · rename_i el i off len tot cap hu
    split at he
    · rename_i k hi
      split at he
      · rename_i hk
        cases he
        cases hx with
        | rsn h1 hk h2 => exact ⟨[], Src.ofNil w hu 0, by simpa using RepL.nil⟩
        | rs h0 h1 h2 h3 h4 =>
          rename_i L cc
          rcases r.loc i k hi with ⟨q1, q2, _⟩ | ⟨M, q1, q2⟩
          · rw [q2] at hk
            simp at hk
            rw [← hk.1, q1] at h1
            cases h1
            simp [Loc.nowhere] at h4
          · rw [hk.1, h1] at q1
            cases q1
            obtain ⟨vs, e1, e2, e3, e4⟩ := rows_of (c := c) (φ := φ) (F := F) (w := w) (b := L.b) (o := L.base + off) (n := n * s) (cs := (k.cells.drop off).take (n * s)) (fun i x e => by
              rw [List.getElem?_take] at e
              split at e
              · rw [List.getElem?_drop] at e
                obtain ⟨u, f1, f2, f3⟩ := q2.cell _ _ e
                exact ⟨u, by rw [Nat.add_assoc]; exact f1, f2, f3⟩
              · cases e) (by simp; omega)
            exact ⟨vs, Src.ofSlice w hu ⟨L.b, L.base + off, none⟩ n cc vs e1 (fun j u hj => by rw [addr_add]; exact e3 j u hj) e4, e2⟩
      · cases he
    · cases he
  · rename_i b hu
    split at he
    · rename_i hs
      subst hs
      cases he
      cases hx
      refine ⟨byteCells b, Src.ofString w hu b, ?_⟩
      unfold byteCells
      generalize b.data.toList = l
      induction l with
      | nil => exact .nil
      | cons y l ih => exact .cons .int ih
    · cases he
  · cases he

theorem next_le (need cap : Nat) (h : cap < need) : Builtin.nextslicecap need cap ≤ 2 * need + 256 := by
  have hg : ∀ r c, c < need + 1 → Builtin.growBy need r c ≤ 2 * need + 256 := by
    intro r
    induction r with
    | zero => intro c hc; simp [Builtin.growBy]; omega
    | succ r ih =>
      intro c hc
      simp only [Builtin.growBy]
      split
      · omega
      · by_cases h2 : c + (c + 768) / 4 < need + 1
        · exact ih _ h2
        · have : ∀ r, Builtin.growBy need r (c + (c + 768) / 4) = c + (c + 768) / 4 := by
            intro r
            cases r with
            | zero => rfl
            | succ r => simp only [Builtin.growBy]; rw [if_pos (by omega)]
          rw [this]
          omega
  unfold Builtin.nextslicecap
  split
  · omega
  · split
    · omega
    · exact hg 4 cap (by omega)

/-- A slice of the frame's own is given back shorter: its block lies on under a new number. -/
theorem RelH.shorten (r : RelH c φ F h w) {i j : Nat} {k : Blk} (n : Nat) (hi : h i = .blk k) (hj : h j = .free) (hao : k.ao = false) (hfx : k.fixed = false) (hn : n ≤ k.cells.length) :
    ∃ φ', RelH c φ' F (upd (upd h i .dead) j (.blk { k with cells := k.cells.take n })) w ∧ Grow c.G0 φ F w φ' F w ∧ φ' j n = φ i k.cells.length := by
  have hij : i ≠ j := by
    rintro rfl
    rw [hi] at hj
    cases hj
  have hlen : (k.cells.take n).length = n := by simp; omega
  rcases r.loc i k hi with ⟨q1, q2, q3, q4⟩ | ⟨L, hL, lies⟩
  · have h0 : n = 0 := by rw [q2] at hn; simpa using hn
    subst h0
    have rd := r.dead i (by rw [hi]; simp)
    have hj' : upd h i .dead j = .free := by rw [upd_ne _ _ hij.symm]; exact hj
    obtain ⟨φ1, v1, v2, v3⟩ := rd.virt hj' k.esz
    refine ⟨φ1, ?_, v3, ?_⟩
    · simpa [hao, hfx, q4] using v2
    · rw [q2, v1, List.length_nil, q1]
  · let φ' : Locs := fun a t => if a = j ∧ t = n then some L else φ a t
    have hφ : ∀ a t, a ≠ j → φ' a t = φ a t := fun a t ha => by simp [φ', ha]
    have hg : Grow c.G0 φ F w φ' F w := by
      refine ⟨fun a t M e => ?_, fun _ _ e => ⟨e, rfl⟩, fun _ _ e => ⟨e, rfl⟩⟩
      by_cases ha : a = j
      · subst ha
        rw [r.fresh a t hj] at e
        cases e
      · rw [hφ a t ha]
        exact e
    have sub : ∀ a l, upd (upd h i .dead) j (.blk { k with cells := k.cells.take n }) a = .blk l → (a = j ∧ l = { k with cells := k.cells.take n }) ∨ (a ≠ j ∧ a ≠ i ∧ h a = .blk l) := by
      intro a l e
      by_cases ha : a = j
      · subst ha
        simp at e
        exact .inl ⟨rfl, e.symm⟩
      · rw [upd_ne _ _ ha] at e
        by_cases hb : a = i
        · subst hb
          simp at e
        · rw [upd_ne _ _ hb] at e
          exact .inr ⟨ha, hb, e⟩
    have hreg : ∀ b o, (Blk.mk (k.cells.take n) k.esz k.ao k.fixed k.ty).reg L b o → k.reg L b o := fun b o ⟨h1, h2, h3⟩ => ⟨h1, h2, fun hf => by rw [hfx] at hf; cases hf⟩
    refine ⟨φ', ⟨?_, ?_, ?_, ?_, r.fsub, r.fnew, r.fdom, r.frame, ?_, ?_⟩, hg, by simp [φ', hL]⟩
    · intro a l e
      rcases sub a l e with ⟨rfl, rfl⟩ | ⟨ha, hb, e⟩
      · refine .inr ⟨L, by simp [φ', hlen], lies.esz, lies.row, by simp only [hlen]; have := lies.room; omega, fun m x em => ?_, fun o ho => ?_, lies.zero, lies.typ⟩
        · have : k.cells[m]? = some x := by
            simp only [List.getElem?_take] at em
            split at em
            · exact em
            · cases em
          obtain ⟨v, f1, f2, f3⟩ := lies.cell m x this
          exact ⟨v, f1, hg.rep f2, f3⟩
        · obtain ⟨g1, g2, g3⟩ := lies.own o (hreg _ _ ho)
          refine ⟨g1, fun hF => ?_, g3⟩
          have := (g2 hF).1
          rw [hao] at this
          cases this
      · rcases r.loc a l e with ⟨h1, h2, h3⟩ | ⟨M, e1, ml⟩
        · exact .inl ⟨by rw [hφ a 0 ha]; exact h1, h2, h3⟩
        · refine .inr ⟨M, by rw [hφ a _ ha]; exact e1, ml.esz, ml.row, ml.room, fun m x em => ?_, ml.own, ml.zero, ml.typ⟩
          obtain ⟨v, f1, f2, f3⟩ := ml.cell m x em
          exact ⟨v, f1, hg.rep f2, f3⟩
    · intro a l t M e et
      rcases sub a l e with ⟨rfl, rfl⟩ | ⟨ha, hb, e⟩
      · simp only [hlen]
        by_cases ht : t = n
        · omega
        · simp only [φ'] at et
          rw [if_neg (by simp [ht]), r.fresh a t hj] at et
          cases et
      · rw [hφ a t ha] at et
        exact r.top a l t M e et
    · intro a1 a2 l1 l2 M1 M2 hne e1 e2 f1 f2 hr1 hr2
      rcases sub a1 l1 e1 with ⟨g1, g2⟩ | ⟨ha1, hb1, g1⟩
      · rcases sub a2 l2 e2 with ⟨g3, g4⟩ | ⟨ha2, hb2, g3⟩
        · exact absurd (g1.trans g3.symm) hne
        · rw [hφ a2 _ ha2] at f2
          rw [g1, g2] at f1
          simp [φ', hlen] at f1
          rw [← f1] at hr1 ⊢
          exact r.apart i a2 k l2 L M2 (fun e => hb2 e.symm) hi g3 hL f2 hr1 hr2
      · rw [hφ a1 _ ha1] at f1
        rcases sub a2 l2 e2 with ⟨g3, g4⟩ | ⟨ha2, hb2, g3⟩
        · rw [g3, g4] at f2
          simp [φ', hlen] at f2
          rw [← f2] at hr2 ⊢
          exact r.apart a1 i l1 k M1 L hb1 g1 hi f1 hL hr1 hr2
        · rw [hφ a2 _ ha2] at f2
          exact r.apart a1 a2 l1 l2 M1 M2 hne g1 g3 f1 f2 hr1 hr2
    · intro a t e
      by_cases ha : a = j
      · subst ha
        simp at e
      · rw [upd_ne _ _ ha] at e
        by_cases hb : a = i
        · subst hb
          simp at e
        · rw [upd_ne _ _ hb] at e
          rw [hφ a t ha]
          exact r.fresh a t e
    · exact fun a o e => by
        have ha : a ≠ j := fun q => by subst q; simp at e
        rw [upd_ne _ _ ha] at e
        have hb : a ≠ i := fun q => by subst q; simp at e
        rw [upd_ne _ _ hb] at e
        obtain ⟨M, e1, l⟩ := r.obj a o e
        exact ⟨M, by rw [hφ a 0 ha]; exact e1, l.grow hg fun ob e _ => e⟩
    · exact fun a1 a2 o p M1 M2 hne e1 e2 => by
        have ha : a1 ≠ j := fun q => by subst q; simp at e1
        rw [upd_ne _ _ ha] at e1
        have hb : a1 ≠ i := fun q => by subst q; simp at e1
        rw [upd_ne _ _ hb] at e1
        have ha' : a2 ≠ j := fun q => by subst q; simp at e2
        rw [upd_ne _ _ ha'] at e2
        have hb' : a2 ≠ i := fun q => by subst q; simp at e2
        rw [upd_ne _ _ hb'] at e2
        rw [hφ _ _ ha, hφ _ _ ha']
        exact r.objap a1 a2 o p M1 M2 hne e1 e2
end
end Go.Proofs.YtpiincgiakkljaaGreatDoor
/-
  The abstract operations, sixth part: append.
-/
namespace Go.Proofs.YtpiincgiakkljaaGreatDoor
open Go

section
variable {P : Program} {c : Ctx} {φ : Locs} {F : CSet} {h : Heap} {w : World}

/-- What an element type must tell for an append: cells, bytes. -/
structure ElemInfo (P : Program) (t e : TypeId) (s b : Nat) : Prop where
  und : P.underlying t = some (.slice e)
  info : ∃ i z, P.info? e = some i ∧ i.size = s ∧ i.bytes = b ∧ i.zero = some z ∧ z.cells.size = s
  pos : s ≠ 0

/-- There is room behind a slice of the frame's own. -/
theorem app_room (r : RelH c φ F h w) {t tx ty e : TypeId} {s b : Nat} (ei : ElemInfo P t e s b) {i : Nat} {k : Blk} {L : Loc} {len cc n : Nat} {cs : List AV} {news : List Value} {x : Value} (hi : h i = .blk k) (hL : φ i k.cells.length = some L)
    (hfull : len * s = k.cells.length) (hesz : k.esz = s) (hfx : k.fixed = false) (hcap : L.base + cc * L.esz ≤ L.room) (hs : Src P s tx x n news w) (hr : RepL φ F c.G0 w 2 cs news) (hroom : len + n ≤ cc) :
    ∃ w' φ', (Builtin.append_ #[t, tx] ty #[.slice (some ⟨L.b, L.base, none⟩) len cc, x]).run P w = .ok (.slice (some ⟨L.b, L.base, none⟩) (len + n) cc) w' ∧ φ' i (k.cells ++ cs).length = some L ∧
      RelH c φ' F (upd h i (.blk { k with cells := k.cells ++ cs })) w' ∧ Grow c.G0 φ F w φ' F w' := by
  obtain ⟨inf, z, hinf, hsz, hby, hz, hzs⟩ := ei.info
  have lies : Lies c φ F w k L := by
    rcases r.loc i k hi with ⟨q1, q2, _⟩ | ⟨M, q1, q2⟩
    · rw [q2] at hL
      simp [q1] at hL
      subst hL
      simp [Loc.nowhere] at hcap
    · rw [hL] at q1
      cases q1
      exact q2
  obtain ⟨row, et, hrow, hrs⟩ := lies.row
  have hcl := hr.len
  have hnl := hs.newsLen
  have hes : L.esz = s := lies.esz.trans hesz
  have hmul : (len + n) * s ≤ cc * s := Nat.mul_le_mul_right s hroom
  have hadd : (len + n) * s = len * s + n * s := Nat.add_mul ..
  rw [hes] at hcap
  have hsome : ∀ j, j < news.length → (w.cell? ⟨L.b, L.base + len * s + j, none⟩).isSome = true := by
    intro j hj
    rw [(row_cell hrow _).1, Array.getElem?_eq_getElem (by omega)]
    rfl
  have hrun := run_append_room_src (P := P) w t tx ty e inf ei.und hinf L.b L.base len cc x n news (by rw [hsz]; exact hs) hroom (by rw [hsz]; exact hsome) (fun j _ => (row_cell hrow _).2)
  rw [hsz] at hrun
  obtain ⟨φ', h1, h2, h3⟩ := r.write (k' := { k with cells := k.cells ++ cs }) (lo := k.cells.length) (hi := (k.cells ++ cs).length) (w' := w.setCells L.b (L.base + len * s) news) hi hL lies rfl rfl rfl rfl
    (by simp; omega) (by simp) (fun hf => by rw [hfx] at hf; cases hf) (Nat.le_refl _)
    (fun o h1 h2 hF => by
      have := ((lies.own (L.base + o) ⟨rfl, by have := lies.room; omega, fun hf => by rw [hfx] at hf; cases hf⟩).2.1 hF).2
      omega)
    ((framed_setCells w L.b (L.base + len * s) news).mono (by rintro b o _ ⟨rfl, h1, h2⟩; exact ⟨rfl, by omega, by simp; omega⟩))
    (fun e h => setCells_row news w (L.base + len * s) h)
    (fun m a em => by
      simp only at em
      rcases Nat.lt_or_ge m k.cells.length with hm | hm
      · rw [List.getElem?_append_left hm] at em
        exact .inl ⟨.inl hm, em⟩
      · rw [List.getElem?_append_right hm] at em
        obtain ⟨v, e1, e2⟩ := hr.get _ _ em
        refine .inr ⟨v, ?_, e2, hs.one v (List.mem_of_getElem? e1)⟩
        have := setCells_in w L.b (L.base + len * s) news hsome (m - k.cells.length) v e1
        rwa [show L.base + len * s + (m - k.cells.length) = L.base + m by omega] at this)
  exact ⟨_, φ', hrun, h1, h2, h3⟩

/-- There is none: the slice moves into a new block, under number j. -/
theorem app_grow (r : RelH c φ F h w) {t tx ty e : TypeId} {s b : Nat} (ei : ElemInfo P t e s b) {base : Option Addr} {len cc n : Nat} {os cs : List AV} {olds news : List Value} {x : Value}
    (hold : ∀ w' : World, w'.heap = w.heap → (Builtin.firstCells s len (.slice base len cc)).run P w' = .ok olds.toArray w') (ho : RepL φ F c.G0 w 2 os olds) (hoone : ∀ v ∈ olds, v.oneCell' = true) (hol : olds.length = len * s)
    (hs : Src P s tx x n news w) (hr : RepL φ F c.G0 w 2 cs news) (hg : cc < len + n) (hfit : ((2 * (len + n) + 256) * b : Nat) ≤ 281474976710656) (h48 : len + n ≤ 281474976710656)
    {j : Nat} (hj : φ j (os ++ cs).length = none) (hjt : ∀ t L, φ j t = some L → t ≤ (os ++ cs).length) (ao : Bool) (bt : Option TypeId) (hbt : ∀ t, bt = some t → t = e) :
    ∃ w' φ' cc' L, (Builtin.append_ #[t, tx] ty #[.slice base len cc, x]).run P w = .ok (.slice (some ⟨L.b, 0, none⟩) (len + n) cc') w' ∧ len + n ≤ cc' ∧ L.base = 0 ∧ L.esz = s ∧ cc' * s ≤ L.room ∧ φ' j (os ++ cs).length = some L ∧
      RelH c φ' F (upd h j (.blk ⟨os ++ cs, s, ao, false, bt⟩)) w' ∧ Grow c.G0 φ F w φ' F w' := by
  obtain ⟨inf, z, hinf, hsz, hby, hz, hzs⟩ := ei.info
  have hnl := hs.newsLen
  have hnx : Builtin.nextslicecap (len + n) cc * inf.bytes ≤ 281474976710656 := by
    have h1 := next_le (len + n) cc hg
    have h2 := Nat.mul_le_mul_right inf.bytes h1
    rw [hby] at h2 ⊢
    exact Nat.le_trans h2 hfit
  have hrun := run_append_grow_src (P := P) w t tx ty e inf z ei.und hinf hz base len cc olds (by rw [hsz]; exact hold w.drew rfl) x n news (by rw [hsz]; exact hs) hg (by omega) hnx
  have hge := grownCap_ge w (len + n) cc e
  have rd : RelH c φ F h w.drew := r.drew
  have hgd : Grow c.G0 φ F w φ F w.drew := ⟨fun _ _ _ e => e, fun _ _ e => ⟨e, rfl⟩, fun _ _ e => ⟨e, rfl⟩⟩
  obtain ⟨φ', h1, h2, h3⟩ := rd.alloc (i := j) ⟨os ++ cs, s, ao, false, bt⟩ hj hjt (olds ++ news) ((hgd.repL ho).append (hgd.repL hr)) (by
    intro v hv
    rcases List.mem_append.1 hv with hv | hv
    · exact hoone v hv
    · exact hs.one v hv) (Builtin.zeroCells z.cells (grownCap w (len + n) cc e - (len + n))).toList e hbt
  have hq : ((olds ++ news) ++ (Builtin.zeroCells z.cells (grownCap w (len + n) cc e - (len + n))).toList).toArray = (olds ++ news).toArray ++ Builtin.zeroCells z.cells (grownCap w (len + n) cc e - (len + n)) := Array.ext' (by simp)
  rw [hq] at h2 h3
  refine ⟨_, φ', grownCap w (len + n) cc e, _, hrun, hge, rfl, rfl, ?_, h1, h2, hgd.trans h3⟩
  · have hzl : (Builtin.zeroCells z.cells (grownCap w (len + n) cc e - (len + n))).size = (grownCap w (len + n) cc e - (len + n)) * s := by rw [size_zeroCells, hzs]
    have hm : (grownCap w (len + n) cc e - (len + n)) * s + (len + n) * s = grownCap w (len + n) cc e * s := by
      rw [← Nat.add_mul]
      congr 1
      omega
    simp only [List.length_append, Array.length_toList, hzl, hol, hnl]
    rw [Nat.add_mul] at hm
    omega

/-- What is known of the elements of a slice's type. -/
def elemI (P : Program) (t : TypeId) : Option (Nat × Nat) :=
  (elemT P t).bind fun e => (P.info? e).bind fun i => i.zero.bind fun z => if z.cells.size = i.size ∧ i.size ≠ 0 then some (i.size, i.bytes) else none

theorem elemI_sound {t : TypeId} {s b : Nat} (he : elemI P t = some (s, b)) : ∃ e, ElemInfo P t e s b := by
  unfold elemI at he
  rw [Option.bind_eq_some_iff] at he
  obtain ⟨e, h1, he⟩ := he
  rw [Option.bind_eq_some_iff] at he
  obtain ⟨i, h2, he⟩ := he
  rw [Option.bind_eq_some_iff] at he
  obtain ⟨z, h3, he⟩ := he
  split at he
  · rename_i hc
    cases he
    refine ⟨e, ?_, ⟨i, z, h2, rfl, rfl, h3, hc.1⟩, hc.2⟩
    unfold elemT at h1
    split at h1
    · rename_i e hu
      cases h1
      exact hu
    · cases h1
  · cases he

/-- A new block's type. -/
def bty (n : Nat) (t : Option TypeId) : Option TypeId := match n with | 0 => none | _ + 1 => t

/-- append. ch: 1: what comes of a literal is data. -/
def appendA (P : Program) (h : Heap) (nid ch : Nat) (ts : List TypeId) (dst src : AV) : Option Eff :=
  match ts with
  | [t, tx] => (elemI P t).bind fun (s, b) => (srcA P h tx s src).bind fun (n, cs, fp) =>
    match dst with
    | .nils => match h nid with
      | .free => some { val := .rs nid 0 n cs.length none, ups := [(nid, .blk ⟨cs, s, false, false, bty n (elemT P t)⟩)], fp := fp, obl := [((2 * (0 + n) + 256) * b, 281474976710656), ((0 : Int) + n, 281474976710656)] }
      | _ => none
    | .ds hd os len => if os.length = len * s ∧ hd.cap = some len ∧ hd.tag = false ∧ hd.nn = true then
        (if ch = 1 then (if AV.m0L cs = true ∧ AV.m0L os = true then some { val := .ds { nn := true } (os ++ cs) (len + n), fp := fp, obl := [((2 * (len + n) + 256) * b, 281474976710656), ((len : Int) + n, 281474976710656)] } else none)
        else match n, h nid with
          | 0, _ => some { val := dst, fp := fp }
          | n + 1, .free => some { val := .rs nid 0 (len + (n + 1)) (os ++ cs).length none, ups := [(nid, .blk ⟨os ++ cs, s, false, false, elemT P t⟩)], fp := fp, obl := [((2 * (len + (n + 1)) + 256) * b, 281474976710656), ((len : Int) + (n + 1), 281474976710656)] }
          | _, _ => none)
      else none
    | .rs i off len tot _ => match h i with
      | .blk k => if off = 0 ∧ k.cells.length = tot ∧ k.esz = s ∧ k.fixed = false ∧ (k.ty = none ∨ k.ty = elemT P t) then
          (if len * s = tot then some { val := .rs i 0 (len + n) (k.cells ++ cs).length none, ups := [(i, .blk { k with cells := k.cells ++ cs })], fp := i :: fp, obl := [((2 * (len + n) + 256) * b, 281474976710656), ((len : Int) + n, 281474976710656)] }
          else match h nid with
            | .free => if len * s < tot ∧ k.ao = false then some { val := .rs nid 0 (len + n) (k.cells.take (len * s) ++ cs).length none, ups := [(i, .dead), (nid, .blk ⟨k.cells.take (len * s) ++ cs, s, false, false, k.ty⟩)], fp := i :: fp, obl := [((2 * (len + n) + 256) * b, 281474976710656), ((len : Int) + n, 281474976710656)] } else none
            | _ => none)
        else none
      | _ => none
    | _ => none
  | _ => none

theorem upd_self {α : Type} (f : Nat → α) (i : Nat) (a : α) (h : f i = a) : upd f i a = f := by
  funext j
  unfold upd
  split
  · rename_i e
    rw [e, h]
  · rfl

/-- The full slice of a block of the frame's own, appended to. -/
theorem app_full (r : RelH c φ F h w) {t tx ty e : TypeId} {s b : Nat} (ei : ElemInfo P t e s b) {i : Nat} {k : Blk} {len n : Nat} {cap : Option Nat} {cs : List AV} {news : List Value} {v x : Value} (hi : h i = .blk k)
    (hfull : len * s = k.cells.length) (hesz : k.esz = s) (hfx : k.fixed = false) (hkt : ∀ t, k.ty = some t → t = e) (hv : Rep φ F c.G0 w 2 (.rs i 0 len k.cells.length cap) v) (hs : Src P s tx x n news w) (hr : RepL φ F c.G0 w 2 cs news)
    (hfit : ((2 * (len + n) + 256) * b : Nat) ≤ 281474976710656) (h48 : len + n ≤ 281474976710656) :
    ∃ u w' φ', (Builtin.append_ #[t, tx] ty #[v, x]).run P w = .ok u w' ∧ RelH c φ' F (upd h i (.blk { k with cells := k.cells ++ cs })) w' ∧ Grow c.G0 φ F w φ' F w' ∧
      Rep φ' F c.G0 w' 2 (.rs i 0 (len + n) (k.cells ++ cs).length none) u := by
  obtain ⟨inf, z, hinf, hsz, hby, hz, hzs⟩ := ei.info
  have hcl := hr.len
  have hnl := hs.newsLen
  have hpos := ei.pos
  have htop : ∀ t L, φ i t = some L → t ≤ (k.cells ++ cs).length := fun t L e => by
    have := r.top i k t L hi e
    simp
    omega
  have hblk : (Blk.mk (k.cells ++ cs) s k.ao false k.ty) = { k with cells := k.cells ++ cs } := by rw [← hesz, ← hfx]
  generalize hkl : k.cells.length = kl at hv
  cases hv with
  | rsn g1 gk g2 =>
    have hk0 : k.cells = [] := List.length_eq_zero_iff.1 hkl
    cases n with
    | zero =>
      have hn0 : news = [] := List.length_eq_zero_iff.1 (by simpa using hnl)
      subst hn0
      have hc0 : cs = [] := List.length_eq_zero_iff.1 (by simpa using hcl)
      subst hc0
      refine ⟨.slice none 0 0, w, φ, ?_, ?_, Grow.refl .., ?_⟩
      · rcases hs.kind with ⟨e', hk⟩ | hk <;> simp [Builtin.append_, run_underlying ei.und, run_underlying hk, sizeOf, typeInfo, hinf, hs.len, hsz, hs.cells]
      · rw [upd_self _ _ _ (by rw [hi]; simp)]
        exact r
      · simp only [List.append_nil, hk0, List.length_nil]
        exact .rsn (Nat.le_refl _) gk (by simp)
    | succ n =>
      have hcpos : 0 < cs.length := by
        rw [hcl, hnl]
        exact Nat.mul_pos (by omega) (by omega)
      obtain ⟨w', φ', cc', L, f1, f2, f3, f4, f5, f6, f7, f8⟩ := app_grow (ty := ty) (os := []) (olds := []) (len := 0) (cc := 0) (base := none) r ei (fun w' _ => run_firstCells_none w' s 0 0 0) .nil (by simp) (by simp) hs hr (by omega) (by simpa using hfit) (by simpa using h48) (j := i)
        (by
          cases hq : φ i ([] ++ cs).length with
          | none => rfl
          | some M =>
            have := r.top i k _ M hi hq
            simp at this
            omega)
        (by simpa [hk0] using htop) k.ao k.ty hkt
      refine ⟨_, w', φ', f1, ?_, f8, ?_⟩
      · rw [← hblk, hk0]
        exact f7
      · rw [hk0]
        have q : Rep φ' F c.G0 w' 2 (.rs i 0 (0 + (n + 1)) ([] ++ cs).length none) (.slice (some ⟨L.b, L.base + 0, none⟩) (0 + (n + 1)) cc') := .rs (Nat.le_refl _) f6 (by simp) f2 (by rw [f3, f4]; omega)
        rw [f3] at q
        exact q
  | rs g0 g1 g2 g3 g4 =>
    rename_i L cc
    rw [← hkl] at g1
    have lies : Lies c φ F w k L := by
      rcases r.loc i k hi with ⟨q1, q2, _⟩ | ⟨M, q1, q2⟩
      · rw [q2] at g1
        simp [q1] at g1
        subst g1
        simp [Loc.nowhere] at g4
      · rw [g1] at q1
        cases q1
        exact q2
    by_cases hroom : len + n ≤ cc
    · obtain ⟨w', φ', f1, f2, f3, f4⟩ := app_room (ty := ty) r ei hi g1 hfull hesz hfx (by simpa using g4) hs hr hroom
      refine ⟨_, w', φ', f1, f3, f4, Rep.rs (Nat.le_refl _) f2 (by simp) hroom (by simpa using g4)⟩
    · have hn : n ≠ 0 := by omega
      have hcpos : 0 < cs.length := by
        rw [hcl, hnl]
        exact Nat.mul_pos (by omega) (by omega)
      obtain ⟨olds, e1, e2, e3, e4⟩ := rows_of (c := c) (φ := φ) (F := F) (w := w) (b := L.b) (o := L.base) (n := len * s) (cs := k.cells) lies.cell (by omega)
      obtain ⟨w', φ', cc', M, f1, f2, f3, f4, f5, f6, f7, f8⟩ := app_grow (ty := ty) (os := k.cells) (olds := olds) (len := len) (cc := cc) (base := some ⟨L.b, L.base, none⟩) r ei
        (fun w' hw' => run_firstCells_some w' s len ⟨L.b, L.base, none⟩ len cc olds e1 (fun j u hj => by
          rw [addr_add]
          have := e3 j u hj
          unfold World.cell? at this ⊢
          rw [hw']
          exact this)) e2 e4 e1 hs hr (by omega) hfit h48 (j := i)
        (by
          cases hq : φ i (k.cells ++ cs).length with
          | none => rfl
          | some M =>
            have := r.top i k _ M hi hq
            simp at this
            omega) htop k.ao k.ty hkt
      refine ⟨_, w', φ', f1, ?_, f8, ?_⟩
      · rw [← hblk]
        exact f7
      · have q : Rep φ' F c.G0 w' 2 (.rs i 0 (len + n) (k.cells ++ cs).length none) (.slice (some ⟨M.b, M.base + 0, none⟩) (len + n) cc') := .rs (Nat.le_refl _) f6 (by simp) f2 (by rw [f3, f4]; omega)
        rw [f3] at q
        exact q

theorem upd_upd {α : Type} (f : Nat → α) (i : Nat) (a b : α) : upd (upd f i a) i b = upd f i b := by
  funext j
  unfold upd
  split <;> rfl

/-- What a literal and more become, as data. -/
theorem app_data (r : RelH c φ F h w) {t tx ty e : TypeId} {s b : Nat} (ei : ElemInfo P t e s b) {hd : SH} {len n : Nat} {os cs : List AV} {news : List Value} {v x : Value} (hv : Rep φ F c.G0 w 2 (.ds hd os len) v)
    (hcap : hd.cap = some len) (htag : hd.tag = false) (hnn : hd.nn = true) (hol : os.length = len * s) (hm1 : AV.m0L os = true) (hm2 : AV.m0L cs = true) (hs : Src P s tx x n news w) (hr : RepL φ F c.G0 w 2 cs news)
    (hfit : ((2 * (len + n) + 256) * b : Nat) ≤ 281474976710656) (h48 : len + n ≤ 281474976710656) :
    ∃ u w' F', (Builtin.append_ #[t, tx] ty #[v, x]).run P w = .ok u w' ∧ RelH c φ F' h w' ∧ Grow c.G0 φ F w φ F' w' ∧ Rep φ F' c.G0 w' 2 (.ds { nn := true } (os ++ cs) (len + n)) u := by
  obtain ⟨inf, z, hinf, hsz, hby, hz, hzs⟩ := ei.info
  have hnl := hs.newsLen
  have hcl := hr.len
  cases hv with
  | dsn g1 g2 =>
    rw [hnn] at g1
    cases g1
  | ds g1 g2 g3 g4 =>
    rename_i bb o cap
    have hcc := g2 len hcap
    subst hcc
    obtain ⟨olds, e1, e2, e3, e4⟩ := rows_of (c := c) (φ := φ) (F := F) (w := w) (b := bb) (o := o) (n := len * s) (cs := os) (fun i x e => by
      obtain ⟨_, u, f1, f2, f3⟩ := g4.get i x e
      exact ⟨u, f1, f2.up (by split <;> omega), f3⟩) hol
    cases n with
    | zero =>
      have hn0 : news = [] := List.length_eq_zero_iff.1 (by simpa using hnl)
      subst hn0
      have hc0 : cs = [] := List.length_eq_zero_iff.1 (by simpa using hcl)
      subst hc0
      refine ⟨.slice (some ⟨bb, o, none⟩) len len, w, F, ?_, r, Grow.refl .., ?_⟩
      · rcases hs.kind with ⟨e', hk⟩ | hk <;> simp [Builtin.append_, run_underlying ei.und, run_underlying hk, sizeOf, typeInfo, hinf, hs.len, hsz, hs.cells, storeCells]
      · simp only [List.append_nil, Nat.add_zero]
        rw [htag] at g4
        exact .ds (by simp) (by simp) (Nat.le_refl _) g4
    | succ n =>
      have hnx : Builtin.nextslicecap (len + (n + 1)) len * inf.bytes ≤ 281474976710656 := by
        have h1 := next_le (len + (n + 1)) len (by omega)
        have h2 := Nat.mul_le_mul_right inf.bytes h1
        rw [hby] at h2 ⊢
        exact Nat.le_trans h2 hfit
      have hrun := run_append_grow_src (P := P) w t tx ty e inf z ei.und hinf hz (some ⟨bb, o, none⟩) len len olds (by
        rw [hsz]
        exact run_firstCells_some w.drew s len ⟨bb, o, none⟩ len len olds e1 (fun j u hj => by
          rw [addr_add]
          exact e3 j u hj)) x (n + 1) news (by rw [hsz]; exact hs) (by omega) (by omega) hnx
      have hge := grownCap_ge w (len + (n + 1)) len e
      have rd : RelH c φ F h w.drew := r.drew
      have hgd : Grow c.G0 φ F w φ F w.drew := ⟨fun _ _ _ e => e, fun _ _ e => ⟨e, rfl⟩, fun _ _ e => ⟨e, rfl⟩⟩
      have hm : AV.m0L (os ++ cs) = true := by
        clear hr e2 g4 hol hcl
        induction os with
        | nil => exact hm2
        | cons a l ih =>
          simp only [AV.m0L, Bool.and_eq_true, List.cons_append] at hm1 ⊢
          exact ⟨hm1.1, ih hm1.2⟩
      obtain ⟨F', h1, h2, h3⟩ := rd.allocData ((hgd.repL e2).append (hgd.repL hr)) hm (by
        intro v hv
        rcases List.mem_append.1 hv with hv | hv
        · exact e4 v hv
        · exact hs.one v hv) (Builtin.zeroCells z.cells (grownCap w (len + (n + 1)) len e - (len + (n + 1)))).toList e
      have hq : ((olds ++ news) ++ (Builtin.zeroCells z.cells (grownCap w (len + (n + 1)) len e - (len + (n + 1)))).toList).toArray = (olds ++ news).toArray ++ Builtin.zeroCells z.cells (grownCap w (len + (n + 1)) len e - (len + (n + 1))) := Array.ext' (by simp)
      rw [hq] at h1 h2 h3
      exact ⟨_, _, F', hrun, h1, hgd.trans h2, .ds (by simp) (by simp) hge h3⟩

theorem natLe {a : Nat} {x : Int} (h : x ≤ 281474976710656) (e : x = (a : Int)) : a ≤ 281474976710656 := by omega

theorem natLe1 {len n b : Nat} (h : (2 * ((len : Int) + (n : Int)) + 256) * (b : Int) ≤ 281474976710656) : (2 * (len + n) + 256) * b ≤ 281474976710656 := by
  have e : (((2 * (len + n) + 256) * b : Nat) : Int) = (2 * ((len : Int) + (n : Int)) + 256) * (b : Int) := by
    rw [Int.natCast_mul, Int.natCast_add, Int.natCast_mul, Int.natCast_add]
    rfl
  rw [← e] at h
  exact Int.ofNat_le.1 h

theorem appendA_sound (r : RelH c φ F h w) {nid ch : Nat} {ts : Array TypeId} {ty : TypeId} {dst src : AV} {vd vs : Value} {e : Eff} (he : appendA P h nid ch ts.toList dst src = some e) (hok : e.ok) (hd : Rep φ F c.G0 w 2 dst vd) (hx : Rep φ F c.G0 w 2 src vs) :
    OpOk P c φ F h w (Builtin.append_ ts ty #[vd, vs]) e := by
  unfold appendA at he
  split at he
  · rename_i t tx hts
    have hts' : ts = #[t, tx] := by
      apply Array.ext'
      simpa using hts
    subst hts'
    rw [Option.bind_eq_some_iff] at he
    obtain ⟨⟨s, b⟩, hel, he⟩ := he
    obtain ⟨el, ei⟩ := elemI_sound hel
    have hbt : ∀ t', elemT P t = some t' → t' = el := fun t' q => by
      unfold elemT at q
      rw [ei.und] at q
      simpa using q.symm
    simp only at he
    rw [Option.bind_eq_some_iff] at he
    obtain ⟨⟨n, cs, fp⟩, hsrc, he⟩ := he
    obtain ⟨news, hs, hr⟩ := srcA_sound r hsrc hx
    simp only at he
    split at he
    · -- nil
      split at he
      · rename_i hfree
        cases he
        have o1 := hok ((2 * (0 + n) + 256) * b, 281474976710656) (by simp)
        have o2 := hok ((0 : Int) + n, 281474976710656) (by simp)
        simp only at o1 o2
        cases n with
        | zero =>
          obtain ⟨φ1, v1, v2, v3⟩ := r.virt hfree s
          have hv : Rep φ1 F c.G0 w 2 (.rs nid 0 0 ([] : List AV).length none) vd := by
            cases hd
            exact .rsn (Nat.le_refl _) ⟨_, _, v1⟩ (by simp)
          obtain ⟨u, w', φ', f1, f2, f3, f4⟩ := app_full (ty := ty) (k := ⟨[], s, false, false, none⟩) (len := 0) v2 ei (upd_same _ _ _) (by simp) rfl rfl (fun _ e => by cases e) hv hs (v3.repL hr) (natLe1 o1) (natLe o2 (by simp))
          refine ⟨u, w', φ', F, f1, ?_, v3.trans f3, by simpa using f4⟩
          simpa [putAll, upd_upd, bty] using f2
        | succ n =>
          obtain ⟨q1, q2⟩ := r.free_none hfree
          cases hd
          obtain ⟨w', φ', cc', M, f1, f2, f3, f4, f5, f6, f7, f8⟩ := app_grow (ty := ty) (os := []) (olds := []) (len := 0) (cc := 0) (base := none) r ei (fun w' _ => run_firstCells_none w' s 0 0 0) .nil (by simp) (by simp) hs hr (by omega)
            (natLe1 o1) (natLe o2 (by push_cast; rfl)) (j := nid) (q1 _) (q2 _) false (elemT P t) hbt
          refine ⟨_, w', φ', F, f1, by simpa [putAll, bty] using f7, f8, ?_⟩
          have q : Rep φ' F c.G0 w' 2 (.rs nid 0 (0 + (n + 1)) ([] ++ cs).length none) (.slice (some ⟨M.b, M.base + 0, none⟩) (0 + (n + 1)) cc') := .rs (Nat.le_refl _) f6 (by simp) f2 (by rw [f3, f4]; omega)
          rw [f3] at q
          simpa using q
      · cases he
    · -- a literal
      rename_i hdr os len
      split at he
      · rename_i hc
        obtain ⟨c1, c2, c3, c4⟩ := hc
        split at he
        · split at he
          · rename_i hm
            cases he
            have o1 := hok ((2 * (len + n) + 256) * b, 281474976710656) (by simp)
            have o2 := hok ((len : Int) + n, 281474976710656) (by simp)
            simp only at o1 o2
            obtain ⟨u, w', F', f1, f2, f3, f4⟩ := app_data (ty := ty) r ei hd c2 c3 c4 c1 hm.2 hm.1 hs hr (natLe1 o1) (natLe o2 (by push_cast; rfl))
            exact ⟨u, w', φ, F', f1, f2, f3, f4⟩
          · cases he
        · split at he
          · cases he
            have hnl := hs.newsLen
            have hn0 : news = [] := List.length_eq_zero_iff.1 (by simpa using hnl)
            subst hn0
            cases hd with
            | dsn g1 g2 =>
              rw [c4] at g1
              cases g1
            | ds g1 g2 g3 g4 =>
              rename_i bb o cap
              obtain ⟨inf, z, hinf, hsz, hby, hz, hzs⟩ := ei.info
              refine OpOk.same r (u := .slice (some ⟨bb, o, none⟩) len cap) ?_ rfl (.ds g1 g2 g3 g4)
              rcases hs.kind with ⟨e', hk⟩ | hk <;> simp [Builtin.append_, run_underlying ei.und, run_underlying hk, sizeOf, typeInfo, hinf, hs.len, hsz, hs.cells, storeCells, g3]
          · rename_i n hfree
            cases he
            have o1 := hok ((2 * (len + (n + 1)) + 256) * b, 281474976710656) (by simp)
            have o2 := hok ((len : Int) + (n + 1), 281474976710656) (by simp)
            simp only at o1 o2
            cases hd with
            | dsn g1 g2 =>
              rw [c4] at g1
              cases g1
            | ds g1 g2 g3 g4 =>
              rename_i bb o cap
              have hcc := g2 len c2
              subst hcc
              obtain ⟨olds, e1, e2, e3, e4⟩ := rows_of (c := c) (φ := φ) (F := F) (w := w) (b := bb) (o := o) (n := len * s) (cs := os) (fun i x e => by
                obtain ⟨_, u, f1, f2, f3⟩ := g4.get i x e
                exact ⟨u, f1, f2.up (by split <;> omega), f3⟩) c1
              obtain ⟨q1, q2⟩ := r.free_none hfree
              obtain ⟨w', φ', cc', M, f1, f2, f3, f4, f5, f6, f7, f8⟩ := app_grow (ty := ty) (os := os) (olds := olds) (len := len) (cc := len) (base := some ⟨bb, o, none⟩) r ei
                (fun w' hw' => run_firstCells_some w' s len ⟨bb, o, none⟩ len len olds e1 (fun j u hj => by
                  rw [addr_add]
                  have := e3 j u hj
                  unfold World.cell? at this ⊢
                  rw [hw']
                  exact this)) e2 e4 e1 hs hr (by omega) (natLe1 o1) (natLe o2 (by push_cast; rfl)) (j := nid) (q1 _) (q2 _) false (elemT P t) hbt
              refine ⟨_, w', φ', F, f1, f7, f8, ?_⟩
              have q : Rep φ' F c.G0 w' 2 (.rs nid 0 (len + (n + 1)) (os ++ cs).length none) (.slice (some ⟨M.b, M.base + 0, none⟩) (len + (n + 1)) cc') := .rs (Nat.le_refl _) f6 (by simp) f2 (by rw [f3, f4]; omega)
              rw [f3] at q
              exact q
          · cases he
      · cases he
    · -- of the frame's own
      rename_i i off len tot cap
      split at he
      · rename_i k hi
        split at he
        · rename_i hc
          obtain ⟨c1, c2, c3, c4, c5⟩ := hc
          have hkt : ∀ t', k.ty = some t' → t' = el := fun t' q => by
            rcases c5 with c5 | c5
            · rw [c5] at q; cases q
            · rw [c5] at q; exact hbt t' q
          subst c1
          split at he
          · rename_i hfull
            cases he
            have o1 := hok ((2 * (len + n) + 256) * b, 281474976710656) (by simp)
            have o2 := hok ((len : Int) + n, 281474976710656) (by simp)
            simp only at o1 o2
            rw [← c2] at hd
            obtain ⟨u, w', φ', f1, f2, f3, f4⟩ := app_full (ty := ty) r ei hi (by rw [c2]; exact hfull) c3 c4 hkt hd hs hr (natLe1 o1) (natLe o2 (by push_cast; rfl))
            exact ⟨u, w', φ', F, f1, f2, f3, f4⟩
          · split at he
            · rename_i hfree
              split at he
              · rename_i hlt
                cases he
                have o1 := hok ((2 * (len + n) + 256) * b, 281474976710656) (by simp)
                have o2 := hok ((len : Int) + n, 281474976710656) (by simp)
                simp only at o1 o2
                obtain ⟨φ1, g1, g2, g3⟩ := r.shorten (len * s) hi hfree hlt.2 c4 (by omega)
                have htl : (k.cells.take (len * s)).length = len * s := by simp; omega
                have hv : Rep φ1 F c.G0 w 2 (.rs nid 0 len (k.cells.take (len * s)).length cap) vd := by
                  rw [htl]
                  cases hd with
                  | rsn q1 qk q2 => omega
                  | rs q0 q1 q2 q3 q4 => exact .rs q0 (by rw [g3, c2]; exact q1) q2 q3 q4
                obtain ⟨u, w', φ', f1, f2, f3, f4⟩ := app_full (ty := ty) (k := { k with cells := k.cells.take (len * s) }) g1 ei (upd_same _ _ _) htl.symm c3 c4 hkt hv hs (g2.repL hr) (natLe1 o1) (natLe o2 (by push_cast; rfl))
                refine ⟨u, w', φ', F, f1, ?_, g2.trans f3, f4⟩
                rw [upd_upd] at f2
                simp only [putAll]
                have hb : (Blk.mk (k.cells.take (len * s) ++ cs) s false false k.ty) = { k with cells := k.cells.take (len * s) ++ cs } := by rw [← c3, hlt.2, c4]
                rw [hb]
                exact f2
              · cases he
            · cases he
        · cases he
      · cases he
    · cases he
  · cases he
end
end Go.Proofs.YtpiincgiakkljaaGreatDoor
/-
  The abstract operations: copy.
-/
namespace Go.Proofs.YtpiincgiakkljaaGreatDoor
open Go

section
variable {P : Program} {c : Ctx} {φ : Locs} {F : CSet} {h : Heap} {w : World}

theorem first_rows {b o m : Nat} {cs : List AV} {v : Value} {s len cap : Nat} (hv : v = .slice (some ⟨b, o, none⟩) len cap) (hc : ∀ (i : Nat) (x : AV), cs[i]? = some x → ∃ u, w.cell? ⟨b, o + i, none⟩ = some u ∧ Rep φ F c.G0 w 2 x u ∧ u.oneCell' = true) (hn : m * s ≤ cs.length) :
    ∃ news : List Value, (Builtin.firstCells s m v).run P w = .ok news.toArray w ∧ RepL φ F c.G0 w 2 (cs.take (m * s)) news ∧ (∀ u ∈ news, u.oneCell' = true) ∧ news.length = m * s := by
  obtain ⟨vs, e1, e2, e3, e4⟩ := loads_get hc hn
  subst hv
  exact ⟨vs, run_firstCells_some (P := P) w s m ⟨b, o, none⟩ len cap vs e1 (fun j u hj => by rw [addr_add]; exact e3 j u hj), e2, e4, e1⟩

theorem firstA_sound (r : RelH c φ F h w) {t : TypeId} {s : Nat} {x : AV} {v : Value} {n m : Nat} {cs : List AV} {fp : List Nat} (he : srcA P h t s x = some (n, cs, fp)) (hx : Rep φ F c.G0 w 2 x v) (hm : m ≤ n) :
    (∀ w', (Builtin.lenOf v).run P w' = .ok n w') ∧ ∃ news : List Value, (Builtin.firstCells s m v).run P w = .ok news.toArray w ∧ RepL φ F c.G0 w 2 (cs.take (m * s)) news ∧ (∀ u ∈ news, u.oneCell' = true) ∧ news.length = m * s := by
  unfold srcA at he
  split at he
  · cases he
    cases hx
    have : m = 0 := by omega
    subst this
    exact ⟨fun _ => rfl, [], run_firstCells_none w s 0 0 0, by simpa using RepL.nil, by simp, by simp⟩
  · rename_i el hd cs' len hu
    split at he
    · rename_i hlen
      cases he
      cases hx with
      | dsn h1 h2 =>
        have : m = 0 := by omega
        subst this
        exact ⟨fun _ => rfl, [], run_firstCells_none w s 0 0 0, by simpa using RepL.nil, by simp, by simp⟩
      | ds h1 h2 h3 h4 =>
        exact ⟨fun _ => rfl, first_rows rfl (fun i x e => by
          obtain ⟨_, u, f1, f2, f3⟩ := h4.get i x e
          exact ⟨u, f1, f2.up (by split <;> omega), f3⟩) (by rw [hlen]; exact Nat.mul_le_mul_right _ hm)⟩
    · cases he
  · rename_i el i off len tot cap hu
    split at he
    · rename_i k hi
      split at he
      · rename_i hk
        cases he
        have hle : m * s ≤ n * s := Nat.mul_le_mul_right _ hm
        cases hx with
        | rsn h1 hkn h2 =>
          have : m = 0 := by omega
          subst this
          exact ⟨fun _ => rfl, [], run_firstCells_none w s 0 0 0, by simpa using RepL.nil, by simp, by simp⟩
        | rs h0 h1 h2 h3 h4 =>
          rename_i L cc
          rcases r.loc i k hi with ⟨q1, q2, _⟩ | ⟨M, q1, q2⟩
          · rw [q2] at hk
            simp at hk
            rw [← hk.1, q1] at h1
            cases h1
            simp [Loc.nowhere] at h4
          · rw [hk.1, h1] at q1
            cases q1
            exact ⟨fun _ => rfl, first_rows (b := L.b) (o := L.base + off) (cs := (k.cells.drop off).take (n * s)) rfl (fun i x e => by
              rw [List.getElem?_take] at e
              split at e
              · rw [List.getElem?_drop] at e
                obtain ⟨u, f1, f2, f3⟩ := q2.cell _ _ e
                exact ⟨u, by rw [Nat.add_assoc]; exact f1, f2, f3⟩
              · cases e) (by simp; omega)⟩
      · cases he
    · cases he
  · rename_i b hu
    split at he
    · rename_i hs
      subst hs
      cases he
      cases hx
      refine ⟨fun _ => rfl, (byteCells b).take m, ?_, ?_, ?_, ?_⟩
      · simp only [Builtin.firstCells, byteCells, Sem.run_pure]
        congr 1
        apply Array.ext'
        simp [ByteArray.data_extract, List.map_take]
      · rw [Nat.mul_one]
        refine RepL.take _ ?_
        unfold byteCells
        generalize b.data.toList = l
        induction l with
        | nil => exact .nil
        | cons x l ih => exact .cons .int ih
      · intro u hu
        obtain ⟨_, _, rfl⟩ := List.mem_map.1 (List.mem_of_mem_take hu)
        rfl
      · rw [List.length_take, byteCells_length]
        omega
    · cases he
  · cases he

/-- copy, into a block of the frame's own. -/
def copyA (P : Program) (h : Heap) (ts : List TypeId) (dst src : AV) : Option Eff :=
  match ts with
  | [t, tx] => (elemI P t).bind fun (s, _) => (srcA P h tx s src).bind fun (n, cs, fp) =>
    match dst with
    | .rs i off len tot _ => match h i with
      | .blk k => if k.cells.length = tot ∧ k.ao = false ∧ off + len * s ≤ tot then
          (if Nat.min n len = 0 then some { val := .int .i64 0, fp := i :: fp } else
            some { val := .int .i64 (Nat.min n len), ups := [(i, .blk { k with cells := splice k.cells off (cs.take (Nat.min n len * s)) })], fp := i :: fp }) else none
      | _ => none
    | _ => none
  | _ => none

theorem copyA_sound (r : RelH c φ F h w) {ts : Array TypeId} {ty : TypeId} {dst src : AV} {vd vs : Value} {e : Eff} (he : copyA P h ts.toList dst src = some e) (hd : Rep φ F c.G0 w 2 dst vd) (hx : Rep φ F c.G0 w 2 src vs) :
    OpOk P c φ F h w (Builtin.copy_ ts ty #[vd, vs]) e := by
  unfold copyA at he
  split at he
  · rename_i t tx hts
    have hts' : ts = #[t, tx] := by
      apply Array.ext'
      simpa using hts
    subst hts'
    rw [Option.bind_eq_some_iff] at he
    obtain ⟨⟨s, b⟩, hel, he⟩ := he
    obtain ⟨el, ei⟩ := elemI_sound hel
    obtain ⟨inf, z, hinf, hsz, hby, hz, hzs⟩ := ei.info
    simp only at he
    rw [Option.bind_eq_some_iff] at he
    obtain ⟨⟨n, cs, fp⟩, hsrc, he⟩ := he
    simp only at he
    split at he
    · rename_i i off len tot cap
      split at he
      · rename_i k hi
        split at he
        · rename_i hc
          obtain ⟨c1, c2, c3⟩ := hc
          obtain ⟨hlen, news, hf, hr, hone, hnl⟩ := firstA_sound r hsrc hx (m := Nat.min n len) (Nat.min_le_left ..)
          have hsize : (sizeOf el).run P w = .ok s w := run_sizeOf (by simp [sizeT, hinf, hsz]) w
          split at he
          · rename_i hm0
            cases he
            rw [hm0] at hf hnl
            have hn0 : news = [] := List.length_eq_zero_iff.1 (by simpa using hnl)
            subst hn0
            refine OpOk.same r (u := goInt 0) ?_ rfl .int
            cases hd with
            | rsn g1 g2 g3 => simp [Builtin.copy_, run_underlying ei.und, hlen, hsize, hm0, hf]
            | rs g0 g1 g2 g3 g4 => simp [Builtin.copy_, run_underlying ei.und, hlen, hsize, hm0, hf, storeCells]
          · rename_i hm0
            cases he
            have hcl := hr.len
            have hmul : Nat.min n len * s ≤ len * s := Nat.mul_le_mul_right _ (Nat.min_le_right ..)
            have hpos : 0 < Nat.min n len * s := Nat.mul_pos (Nat.pos_of_ne_zero hm0) (Nat.pos_of_ne_zero ei.pos)
            obtain ⟨L, φ', g1, g2, g3, g5, g6⟩ := r.store (off := off) hi c2 (by omega) hr hone (fun e => by rw [e] at hcl; simp at hcl; omega)
            cases hd with
            | rsn q1 q2 q3 =>
              have : Nat.min n 0 = 0 := Nat.min_zero n
              exact absurd this hm0
            | rs q0 q1 q2 q3 q4 =>
              rename_i M cc
              rw [c1] at g1
              rw [g1] at q1
              cases q1
              refine ⟨goInt (Nat.min n len), _, φ', F, ?_, g5, g6, .int⟩
              have hst := run_storeCells_cells (P := P) L.b (L.base + off) news 0 w (by simpa using g2) (by simpa using g3) hone
              simp only [Nat.add_zero] at hst
              simp [Builtin.copy_, run_underlying ei.und, hlen, hsize, hf, hst]
        · cases he
      · cases he
    · cases he
  · cases he
end
end Go.Proofs.YtpiincgiakkljaaGreatDoor
