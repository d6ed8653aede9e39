/-
  Values that freezing leaves as they are.
-/
import Derived.Test.YtpiincgiakkljaaGreatDoorFd
set_option linter.unusedSimpArgs false
set_option linter.unusedVariables false
namespace Go.Proofs.YtpiincgiakkljaaGreatDoor
open Go

/-- A value that freezing leaves as it is. -/
def AV.flat : AV → Bool
  | .bool _ | .int _ _ | .str _ | .nilp | .nils | .nilf | .nili | .nilm => true
  | .ds h _ _ => !h.tag
  | .da t _ => !t
  | _ => false

theorem flat_m0 {a : AV} (h : a.flat = true) : a.m0 = true := by
  cases a <;> simp_all [AV.flat, AV.m0]

theorem frzD_flat {h : Heap} (d : Nat) {a : AV} (ha : a.flat = true) : frzD d h a = some (a, []) := by
  have hm := flat_m0 ha
  cases d <;> cases a <;> simp [AV.flat] at ha <;> simp [frzD, frz, AV.m0, ha]

theorem frzDL_flat {h : Heap} (d : Nat) : ∀ {l : List AV}, (∀ a ∈ l, a.flat = true) → frzDL (frzD d) h l = some (l, [])
  | [], _ => rfl
  | a :: l, hl => by
    simp only [frzDL, frzD_flat d (hl a List.mem_cons_self), putAll, frzDL_flat d fun b hb => hl b (List.mem_cons_of_mem _ hb)]
    rfl

theorem m0L_flat : ∀ {l : List AV}, (∀ a ∈ l, a.flat = true) → AV.m0L l = true
  | [], _ => rfl
  | a :: l, hl => by
    simp only [AV.m0L, Bool.and_eq_true]
    exact ⟨flat_m0 (hl a List.mem_cons_self), m0L_flat fun b hb => hl b (List.mem_cons_of_mem _ hb)⟩
end Go.Proofs.YtpiincgiakkljaaGreatDoor
/-
  States with other block numbers: garbage dropped, blocks renamed.
-/
namespace Go.Proofs.YtpiincgiakkljaaGreatDoor
open Go

mutual
/-- The block numbers, renamed. -/
def AV.mapI (π : Nat → Nat) : AV → AV
  | .rs i off len tot cap => .rs (π i) off len tot cap
  | .ra i off tot => .ra (π i) off tot
  | .mp i => .mp (π i)
  | .it i => .it (π i)
  | .fn f a b => .fn f (AV.mapIL π a) (AV.mapIL π b)
  | .iface t a => .iface t (a.mapI π)
  | .agg l => .agg (AV.mapIL π l)
  | .tup l => .tup (AV.mapIL π l)
  | a => a
def AV.mapIL (π : Nat → Nat) : List AV → List AV
  | [] => []
  | a :: l => a.mapI π :: AV.mapIL π l
end

section
variable {φ φ2 : Locs} {F G : CSet} {w : World} {π : Nat → Nat} {live : Nat → Prop}

theorem mapIL_length : ∀ (l : List AV), (AV.mapIL π l).length = l.length
  | [] => rfl
  | _ :: l => congrArg (· + 1) (mapIL_length l)

theorem mapIL_get : ∀ (l : List AV) (i : Nat), (AV.mapIL π l)[i]? = (l[i]?).map (AV.mapI π)
  | [], i => by simp [AV.mapIL]
  | a :: l, 0 => rfl
  | a :: l, i + 1 => by simpa [AV.mapIL] using mapIL_get l i

mutual
theorem Rep.ren (hφ : ∀ i, live i → ∀ t, φ2 i t = φ (π i) t) : ∀ (a : AV) {v : Value}, Rep φ F G w 2 (a.mapI π) v → a.refs live → Rep φ2 F G w 2 a v
  | .junk, _, _, _ => .junk
  | .bool _, _, h, _ => by cases h; exact .bool
  | .int _ _, _, h, _ => by cases h; exact .int
  | .str _, _, h, _ => by cases h; exact .str
  | .nilp, _, h, _ => by cases h; exact .nilp
  | .nils, _, h, _ => by cases h; exact .nils
  | .nilf, _, h, _ => by cases h; exact .nilf
  | .nili, _, h, _ => by cases h; exact .nili
  | .nilm, _, h, _ => by cases h; exact .nilm
  | .ds _ _ _, _, h, _ => by
    cases h with
    | dsn h1 h2 => exact .dsn h1 h2
    | ds h1 h2 h3 h4 => exact .ds h1 h2 h3 (Cells.any1 h4)
  | .da _ _, _, h, _ => by
    cases h with
    | da h1 h2 => exact .da h1 (Cells.any1 h2)
  | .rs i _ _ _ _, _, h, hl => by
    cases h with
    | rsn h0 hk h1 => exact .rsn h0 (by obtain ⟨t, D, e⟩ := hk; exact ⟨t, D, by rw [hφ i hl]; exact e⟩) h1
    | rs h0 h1 h2 h3 h4 => exact .rs h0 (by rw [hφ i hl]; exact h1) h2 h3 h4
  | .ra i _ _, _, h, hl => by
    cases h with
    | ra h0 h1 => exact .ra h0 (by rw [hφ i hl]; exact h1)
  | .mp i, _, h, hl => by
    cases h with
    | mp h0 h1 => exact .mp h0 (by rw [hφ i hl]; exact h1)
  | .it i, _, h, hl => by
    cases h with
    | it h0 h1 => exact .it h0 (by rw [hφ i hl]; exact h1)
  | .fn _ a b, _, h, hl => by
    cases h with
    | fn h1 h2 => exact .fn (RepL.ren hφ a h1 hl.1) (RepL.ren hφ b h2 hl.2)
  | .iface _ a, _, h, hl => by
    cases h with
    | iface h1 => exact .iface (Rep.ren hφ a h1 hl)
  | .agg l, _, h, hl => by
    cases h with
    | agg h1 => exact .agg (RepL.ren hφ l h1 hl)
  | .tup l, _, h, hl => by
    cases h with
    | tup h1 => exact .tup (RepL.ren hφ l h1 hl)
theorem RepL.ren (hφ : ∀ i, live i → ∀ t, φ2 i t = φ (π i) t) : ∀ (l : List AV) {vs : List Value}, RepL φ F G w 2 (AV.mapIL π l) vs → AV.refsL live l → RepL φ2 F G w 2 l vs
  | [], _, h, _ => by cases h; exact .nil
  | a :: l, _, h, hl => by
    cases h with
    | cons h1 h2 => exact .cons (Rep.ren hφ a h1 hl.1) (RepL.ren hφ l h2 hl.2)
end

/-- A slot of the renamed heap. -/
def SlotRen (π : Nat → Nat) (live : Nat → Prop) (s' s : Slot) : Prop := match s' with
  | .blk k => AV.refsL live k.cells ∧ s = .blk { k with cells := AV.mapIL π k.cells }
  | .free => True
  | .dead => True
  | _ => False

/-- A heap, renamed: numbers that are free are of no block. -/
structure HeapRen (π : Nat → Nat) (h' h : Heap) : Prop where
  slot : ∀ i, SlotRen π (fun j => h' j ≠ .free) (h' i) (h (π i))
  inj : ∀ i j, h' i ≠ .free → h' j ≠ .free → π i = π j → i = j

theorem mapIL_nil {l : List AV} (h : AV.mapIL π l = []) : l = [] := by
  cases l with
  | nil => rfl
  | cons a l => cases h

/-- Where the renamed blocks lie. -/
def renLocs (π : Nat → Nat) (h' : Heap) (φ : Locs) : Locs := fun i t => match h' i with
  | .free => none
  | _ => φ (π i) t

theorem renLocs_live {h' : Heap} (i : Nat) (hi : h' i ≠ .free) (t : Nat) : renLocs π h' φ i t = φ (π i) t := by
  unfold renLocs
  split
  · rename_i e; exact absurd e hi
  · rfl

theorem RelH.ren {c : Ctx} {h h' : Heap} (r : RelH c φ F h w) (q : HeapRen π h' h) : RelH c (renLocs π h' φ) F h' w := by
  have hb : ∀ i k, h' i = .blk k → AV.refsL (fun j => h' j ≠ .free) k.cells ∧ h (π i) = .blk { k with cells := AV.mapIL π k.cells } := fun i k e => by
    have := q.slot i
    rw [e] at this
    exact this
  have hne : ∀ i k, h' i = .blk k → h' i ≠ .free := fun i k e e' => by rw [e] at e'; cases e'
  have hφ : ∀ i, h' i ≠ .free → ∀ t, renLocs π h' φ i t = φ (π i) t := fun i hi t => renLocs_live i hi t
  refine ⟨fun i k e => ?_, fun i k t L e eL => ?_, fun i j k l L M hij e1 e2 f1 f2 g1 g2 => ?_, fun i t e => by unfold renLocs; rw [e], r.fsub, r.fnew, r.fdom, r.frame, fun i o e => ?_, fun i j o p L M _ e => ?_⟩
  · obtain ⟨h1, h2⟩ := hb i k e
    rcases r.loc (π i) _ h2 with ⟨n1, n2, n3, n4⟩ | ⟨L, eL, l⟩
    · exact .inl ⟨by rw [hφ i (hne i k e)]; exact n1, mapIL_nil n2, n3, n4⟩
    · refine .inr ⟨L, by rw [hφ i (hne i k e)]; simpa [mapIL_length] using eL, l.esz, l.row, by simpa [mapIL_length] using l.room, fun n a en => ?_, fun o ho => ?_, l.zero, l.typ⟩
      · obtain ⟨v, e1, e2, e3⟩ := l.cell n (a.mapI π) (by simp [mapIL_get, en])
        exact ⟨v, e1, Rep.ren hφ a e2 (AV.refsL_mem h1 a (List.mem_of_getElem? en)), e3⟩
      · have := l.own o ⟨ho.1, ho.2.1, fun hf => by simpa [mapIL_length] using ho.2.2 hf⟩
        exact ⟨this.1, fun hF => by simpa [mapIL_length] using this.2.1 hF, this.2.2⟩
  · obtain ⟨_, h2⟩ := hb i k e
    rw [hφ i (hne i k e)] at eL
    simpa [mapIL_length] using r.top (π i) _ t L h2 eL
  · obtain ⟨_, k1⟩ := hb i k e1
    obtain ⟨_, k2⟩ := hb j l e2
    rw [hφ i (hne i k e1)] at f1
    rw [hφ j (hne j l e2)] at f2
    exact r.apart (π i) (π j) _ _ L M (fun e => hij (q.inj i j (hne i k e1) (hne j l e2) e)) k1 k2 (by simpa [mapIL_length] using f1) (by simpa [mapIL_length] using f2) g1 g2
  · have := q.slot i
    rw [e] at this
    exact this.elim
  · have := q.slot i
    rw [e] at this
    exact this.elim
end

/-- A state, renamed: elder blocks (el) keep their numbers. -/
structure StRen (π : Nat → Nat) (el : Nat → Prop) (s' s : St) : Prop where
  heap : HeapRen π s'.h s.h
  tm : ∀ k, s'.t k = .junk ∨ ((s'.t k).refs (fun j => s'.h j ≠ .free) ∧ s.t k = (s'.t k).mapI π)
  old : ∀ i, el i → π i = i ∧ s'.h i ≠ .free

section
variable {P : Program} {GL : Globs} {n : Nat} {c : Ctx} {Q : Post} {π : Nat → Nat} {el : Nat → Prop} {s s' : St}

theorem Rel.ren {a : Act} {w : World} (hc : ∀ i t L, c.φ0 i t = some L → el i) (q : StRen π el s' s) (r : Rel GL n c s a w) : Rel GL n c s' a w := by
  obtain ⟨φ, F, rx⟩ := r
  refine ⟨renLocs π s'.h φ, F, rx.size, rx.defers, fun k => ?_, rx.gl, rx.rh.ren q.heap, fun i t L e => ?_, rx.since.data, rx.since.lent⟩
  · rcases q.tm k with h | ⟨h1, h2⟩
    · rw [h]; exact .junk
    · have := rx.tm k
      rw [h2] at this
      exact Rep.ren (π := π) (φ := φ) (live := fun j => s'.h j ≠ .free) (fun i hi t => renLocs_live i hi t) _ this h1
  · obtain ⟨h1, h2⟩ := q.old i (hc i t L e)
    rw [renLocs_live i h2, h1]
    exact rx.since.loc i t L e

/-- A state with other block numbers. -/
theorem AWP.ren {code : Code} (hc : ∀ i t L, c.φ0 i t = some L → el i) (q : StRen π el s' s) (h : AWP P GL n c code s' Q) : AWP P GL n c code s Q := fun a w r => h a w (r.ren hc q)

theorem LoopOk.ren {x : Code} (hc : ∀ i t L, c.φ0 i t = some L → el i) (q : StRen π el s' s) : ∀ {j : Nat}, LoopOk P GL n c x Q j s' → LoopOk P GL n c x Q j s
  | 0, h => h.elim
  | _ + 1, h => AWP.ren hc q h

/-- What lay before the frame began is not free. -/
theorem awp_elder {code : Code} (h : (∀ i t L, c.φ0 i t = some L → s.h i ≠ .free) → AWP P GL n c code s Q) : AWP P GL n c code s Q := fun a w r => by
  obtain ⟨φ, F, rx⟩ := r
  exact h (fun i t L e hf => by
    have := rx.since.loc i t L e
    rw [rx.rh.fresh i t hf] at this
    cases this) a w ⟨φ, F, rx⟩
end
end Go.Proofs.YtpiincgiakkljaaGreatDoor
/-
  Code evaluated with names: what it comes to, told as a statement.
-/
namespace Go.Proofs.YtpiincgiakkljaaGreatDoor
open Go

/-- What must be so: a thing that can be decided, or any other. -/
inductive Cd where
  | d (p : Prop) (i : Decidable p)
  | p (p : Prop)
def Cd.ok : Cd → Prop
  | .d q _ => q
  | .p q => q

/-- How a cell that is loaded is told. -/
inductive Ek where
  | raw
  | int (k : IntKind)
  | bool
  | str
  | ds
  | is (v : AV)

/-- A state told otherwise. -/
inductive Adj where
  | virt (tmp esz : Nat)
  | virtc (i j esz : Nat)
  | told (tmp : Nat) (v : AV)
  | toldc (i j : Nat) (v : AV)
  | cells (i : Nat) (l : List AV)
  | move (b j : Nat)
  | frzc (i j i2 len : Nat)

/-- What an evaluation is told on its way. -/
inductive Scr where
  | e
  | op (fl : List Bool) (s : Scr)
  | ld (et : List Ek) (s : Scr)
  | vl (v : AV) (s : Scr)
  | alt (n : Nat) (s : Scr)
  | tt (s : Scr)
  | ff (s : Scr)
  | sp (a b : Scr)
  | adj (a : Adj) (s : Scr)
  | fin (live : List Nat)
  | finR (live : List Nat) (ren : List (Nat × Bool))

/-- A value that tells no more. -/
def AVle (a b : AV) : Prop := ∀ (φ : Locs) (F G : CSet) (w : World) (m : Nat) (v : Value), Rep φ F G w m b v → Rep φ F G w m a v

noncomputable section
/-- A number told by successors alone. -/
def forceD {α : Type} (n : Nat) (k : Nat → α) : α := Nat.rec (motive := fun _ => (Nat → α) → α) (fun k => k 0) (fun _ ih k => ih fun m => k (Nat.succ m)) n k

def putX (m : Mem) (ups : List (Nat × Slot)) : Mem := List.rec (motive := fun _ => Mem → Mem) (fun m => m) (fun p _ ih m => forceD p.1 fun i => forceD m.next fun nx => ih ⟨Tr.set (path i) m.h p.2, bi (Nat.blt i nx) nx (Nat.succ i), m.lo, m.fp, m.fpm⟩) ups m

def cdK (c : Cd) (closed : Bool) (r : Prop) : Prop := match c with
  | .d q i => bi closed (Decidable.rec (motive := fun _ => Prop) (fun _ => False) (fun _ => r) i) (q ∧ r)
  | .p q => q ∧ r

def cdsK (l : List Cd) (fl : List Bool) (r : Prop) : Prop := List.rec (motive := fun _ => List Bool → Prop) (fun _ => r) (fun c _ ih fl => cdK c (fl.headD true) (ih fl.tail)) l fl

def flK (cs : List Cd) (s : Scr) (k : Scr → Prop) : Prop := match cs with
  | [] => k s
  | c :: l => match s with
    | .op fl s => cdsK (c :: l) fl (k s)
    | s => cdsK (c :: l) [] (k s)

def getI : AV → Int | .int _ n => n | _ => 0
def getB : AV → Bool | .bool b => b | _ => false
def getS : AV → ByteArray | .str s => s | _ => .empty
def getH : AV → SH | .ds h _ _ => h | _ => {}
def getC : AV → List AV | .ds _ c _ => c | _ => []
def getN : AV → Nat | .ds _ _ n => n | _ => 0

def etaE (k : Ek) (a : AV) : AV × List Cd := match k with
  | .raw => (a, [])
  | .int k => (.int k (getI a), [.p (a = .int k (getI a))])
  | .bool => (.bool (getB a), [.p (a = .bool (getB a))])
  | .str => (.str (getS a), [.p (a = .str (getS a))])
  | .ds => (.ds (getH a) (getC a) (getN a), [.p (a = .ds (getH a) (getC a) (getN a))])
  | .is v => (v, [.p (a = v)])

def etaL (g : Nat → AV) (n : Nat) : Nat → List Ek → List AV × List Cd := Nat.rec (motive := fun _ => Nat → List Ek → List AV × List Cd) (fun _ _ => ([], []))
  (fun _ ih o et => ((etaE (et.headD .raw) (g o)).1 :: (ih (o + 1) et.tail).1, (etaE (et.headD .raw) (g o)).2 ++ (ih (o + 1) et.tail).2)) n

def loadX (P : Program) (h : Heap) (t : TypeId) (a : AV) (et : List Ek) : Option (Eff × List Cd) :=
  match aggT P t, sizeT P t, a with
  | some ag, some n, .ra i off tot => match h i with
    | .blk k => some ({ val := bi ag (.agg (etaL (fun j => k.cells.getD j .junk) (bi ag n 1) off et).1) ((etaL (fun j => k.cells.getD j .junk) (bi ag n 1) off et).1.headD .junk), fp := [i] },
        .d (k.cells.length = tot) inferInstance :: .d (off + bi ag n 1 ≤ k.cells.length) inferInstance :: (etaL (fun j => k.cells.getD j .junk) (bi ag n 1) off et).2)
    | _ => none
  | some ag, some n, .da _ cs => some ({ val := bi ag (.agg (etaL (fun j => cs.getD j .junk) (bi ag n 1) 0 et).1) ((etaL (fun j => cs.getD j .junk) (bi ag n 1) 0 et).1.headD .junk) },
        .d (0 + bi ag n 1 ≤ cs.length) inferInstance :: (etaL (fun j => cs.getD j .junk) (bi ag n 1) 0 et).2)
  | _, _, _ => none

def indexX (P : Program) (t : TypeId) (x i : AV) : Option (Eff × List Cd) :=
  match P.underlying t, x, i with
  | some (.slice e), .ds h cs len, .int _ n => (sizeT P e).map fun s => ({ val := .da h.tag (cs.drop (n.toNat * s)), obl := [(0, n), (n + 1, len)] }, [.d (n.toNat * s ≤ cs.length) inferInstance])
  | some (.array len e), .da tg cs, .int _ n => (sizeT P e).map fun s => ({ val := .da tg (cs.drop (n.toNat * s)), obl := [(0, n), (n + 1, len)] }, [.d (n.toNat * s ≤ cs.length) inferInstance])
  | _, _, _ => (indexAddrA P t x i).map fun e => (e, [])

def fieldX (P : Program) (s : TypeId) (a : AV) (f : Nat) : Option (Eff × List Cd) := match a with
  | .da tg cs => (fieldT P s f).map fun x => ({ val := .da tg (cs.drop x.1) }, [.d (x.1 ≤ cs.length) inferInstance])
  | a => (fieldAddrA P s a f).map fun e => (e, [])

def storeX (P : Program) (h : Heap) (t : TypeId) (a x : AV) : Option (Eff × List Cd) :=
  match a, x.cells, sizeT P t with
  | .ra i off tot, some xs, some n => match h i with
    | .blk k => some ({ ups := [(i, .blk { k with cells := splice k.cells off xs })], fp := [i] },
        [.d (k.cells.length = tot) inferInstance, .d (xs.length = n) inferInstance, .d (off + n ≤ tot) inferInstance, .d (k.ao = false) inferInstance, .d (xs.all AV.cell = true) inferInstance, .d (n ≠ 0) inferInstance])
    | _ => none
  | _, _, _ => none

/-- What is appended. -/
def srcX (P : Program) (h : Heap) (t : TypeId) (s : Nat) (x : AV) : Option ((Nat × List AV × List Nat) × List Cd) :=
  match P.underlying t, x with
  | some (.slice _), .ds _ cs len => some ((len, cs, []), [.d (cs.length = len * s) inferInstance])
  | some (.slice _), .rs i off len tot _ => match h i with
    | .blk k => some ((len, (k.cells.drop off).take (len * s), [i]), [.d (k.cells.length = tot) inferInstance, .d (off + len * s ≤ tot) inferInstance])
    | _ => none
  | _, _ => (srcA P h t s x).map fun r => (r, [])

/-- append; alt: 0: behind all cells of a block; 1: behind some; 2: a literal and what is appended become data. -/
def appendX (P : Program) (h : Heap) (nid alt : Nat) (ts : List TypeId) (dst src : AV) : Option (Eff × List Cd) :=
  match ts with
  | [t, tx] => (elemI P t).bind fun (s, b) => (srcX P h tx s src).bind fun ((n, cs, fp), cd) =>
    match dst with
    | .ds hd os len => match alt with
      | 2 => some ({ val := .ds { nn := true } (os ++ cs) (len + n), fp := fp, obl := [((2 * (len + n) + 256) * b, 281474976710656), ((len : Int) + n, 281474976710656)] },
          .d (os.length = len * s) inferInstance :: .d (hd.cap = some len) inferInstance :: .d (hd.tag = false) inferInstance :: .d (hd.nn = true) inferInstance :: .d (AV.m0L cs = true) inferInstance :: .d (AV.m0L os = true) inferInstance :: cd)
      | _ => (appendA P h nid 0 ts dst src).map fun e => (e, [])
    | .rs i off len tot _ => match h i with
      | .blk k => match alt with
        | 1 => match h nid with
          | .free => some ({ val := .rs nid 0 (len + n) (k.cells.take (len * s) ++ cs).length none, ups := [(i, .dead), (nid, .blk ⟨k.cells.take (len * s) ++ cs, s, false, false, k.ty⟩)], fp := i :: fp, obl := [((2 * (len + n) + 256) * b, 281474976710656), ((len : Int) + n, 281474976710656)] },
              .d (off = 0) inferInstance :: .d (k.cells.length = tot) inferInstance :: .d (k.esz = s) inferInstance :: .d (k.fixed = false) inferInstance :: .d (k.ty = none ∨ k.ty = elemT P t) inferInstance :: .d (len * s < tot) inferInstance :: .d (k.ao = false) inferInstance :: cd)
          | _ => none
        | _ => some ({ val := .rs i 0 (len + n) (k.cells ++ cs).length none, ups := [(i, .blk { k with cells := k.cells ++ cs })], fp := i :: fp, obl := [((2 * (len + n) + 256) * b, 281474976710656), ((len : Int) + n, 281474976710656)] },
            .d (off = 0) inferInstance :: .d (k.cells.length = tot) inferInstance :: .d (k.esz = s) inferInstance :: .d (k.fixed = false) inferInstance :: .d (k.ty = none ∨ k.ty = elemT P t) inferInstance :: .d (len * s = tot) inferInstance :: cd)
      | _ => none
    | _ => match h nid, dst with
      | .free, .nils => some ({ val := .rs nid 0 n cs.length none, ups := [(nid, .blk ⟨cs, s, false, false, bty n (elemT P t)⟩)], fp := fp, obl := [((2 * (0 + n) + 256) * b, 281474976710656), ((0 : Int) + n, 281474976710656)] }, cd)
      | _, _ => none
  | _ => none

/-- copy. -/
def copyX (P : Program) (h : Heap) (ts : List TypeId) (dst src : AV) : Option (Eff × List Cd) :=
  match ts with
  | [t, tx] => (elemI P t).bind fun (s, _) => (srcX P h tx s src).bind fun ((n, cs, fp), cd) =>
    match dst with
    | .rs i off len tot _ => match h i with
      | .blk k => some ({ val := .int .i64 (Nat.min n len), ups := [(i, .blk { k with cells := splice k.cells off (cs.take (Nat.min n len * s)) })], fp := i :: fp },
          .d (k.cells.length = tot) inferInstance :: .d (k.ao = false) inferInstance :: .d (off + len * s ≤ tot) inferInstance :: .d (Nat.min n len ≠ 0) inferInstance :: cd)
      | _ => none
    | _ => none
  | _ => none

/-- A part of a slice; alt 1: of a block's slice from its end on. -/
def sliceX (P : Program) (h : Heap) (alt : Nat) (t : TypeId) (x : AV) (lo hi mx : Option AV) : Option (Eff × List Cd) :=
  match P.underlying t, x, mx with
  | some (.slice e), .rs i off len tot cap, none => match sizeT P e, intOr 0 lo, intOr len hi, h i with
    | some s, some l, some u, .blk k => (match lo with
      | none => some ({ val := .rs i (off + l.toNat * s) (u - l).toNat tot (cap.map (· - l.toNat)), fp := [i], obl := [(0, l), (l, u), (u, len)] }, [.d (k.cells.length = tot) inferInstance, .d (k.esz = s) inferInstance])
      | some _ => match alt with
        | 1 => some ({ val := .ds {} [] 0, fp := [i], obl := [(0, l), (l, u), (u, len)] }, [.d (k.cells.length = tot) inferInstance, .d (k.esz = s) inferInstance, .d (l = (len : Int)) inferInstance])
        | _ => some ({ val := .rs i (off + l.toNat * s) (u - l).toNat tot (cap.map (· - l.toNat)), fp := [i], obl := [(0, l), (l, u), (u, len), (l + 1, (len : Int))] }, [.d (k.cells.length = tot) inferInstance, .d (k.esz = s) inferInstance]))
    | _, _, _, _ => none
  | _, _, _ => (sliceA P h t x lo hi mx).map fun e => (e, [])

/-- A part of an aggregate whose place is a name. -/
def indexVX (P : Program) (t : TypeId) (x i : AV) : Option (Eff × List Cd) :=
  match P.underlying t, x, i with
  | some (.array len el), .agg cs, .int _ n => match aggT P el, sizeT P el with
    | some true, some s => some ({ val := .agg ((cs.drop (n.toNat * s)).take s), obl := [(0, n), (n + 1, len)] }, [.d (n.toNat * s + s ≤ cs.length) inferInstance])
    | some false, some s => some ({ val := cs.getD (n.toNat * s) .junk, obl := [(0, n), (n + 1, len)] }, [.d (n.toNat * s < cs.length) inferInstance])
    | _, _ => none
  | _, _, _ => (indexA P t x i).map fun e => (e, [])

inductive Hint where
  | none
  | ld (l : List Ek)
  | alt (n : Nat)

def Hint.eks (h : Hint) : List Ek := match h with | .ld l => l | _ => []
def Hint.num (h : Hint) : Nat := match h with | .alt n => n | _ => 0

def xr (x : Option Eff) : Option (Eff × List Cd) := match x with
  | some e => some (e, [])
  | none => none

/-- What is known of calls, with names. -/
abbrev KX := FuncId → List AV → Heap → Nat → Option (Eff × List Cd)

section
variable (P : Program) (GL : Globs) (ops : Array Oper) (kx : KX)

def primX (o : Oper) (q : Hint) (ρ : Operand → AV) (h : Heap) (nid : Nat) : Option (Eff × List Cd) :=
  match o.op with
  | .load t a => loadX P h t (ρ a) q.eks
  | .indexAddr t x i => indexX P t (ρ x) (ρ i)
  | .index t x i => indexVX P t (ρ x) (ρ i)
  | .fieldAddr s x f => fieldX P s (ρ x) f
  | .store t a x => storeX P h t (ρ a) (ρ x)
  | .slice t x lo hi mx => sliceX P h q.num t (ρ x) (lo.map ρ) (hi.map ρ) (mx.map ρ)
  | .call { callee := .builtin b, args := args, argTypes := ts } => match b, args.toList with
    | .append, [x, y] => appendX P h nid q.num ts.toList (ρ x) (ρ y)
    | .copy, [x, y] => copyX P h ts.toList (ρ x) (ρ y)
    | _, _ => xr (aop P o.op o.type ρ h nid 0)
  | _ => xr (aop P o.op o.type ρ h nid 0)

def opX (o : Oper) (q : Hint) (t : Tr AV) (m : Mem) (nid : Nat) : Option (Eff × List Cd) := match o.op with
  | .call { callee := .value f, args := args, argTypes := _ } => match calleeA P (evalA GL t.tf f) (args.toList.map (evalA GL t.tf)) with
    | some (g, as) => kx g as m.h.hf nid
    | none => primX P o q (evalA GL t.tf) m.h.hf nid
  | _ => primX P o q (evalA GL t.tf) m.h.hf nid

/-- Which kinds the cells of a type have. -/
def kindsT (fuel : Nat) : TypeId → List Ek := Nat.rec (motive := fun _ => TypeId → List Ek) (fun _ => [.raw]) (fun _ ih t => match P.underlying t with
  | some (.int k) => [.int k]
  | some .bool => [.bool]
  | some .string => [.str]
  | some (.slice _) => [.ds]
  | some (.struct fs) => fs.toList.flatMap fun f => ih f.type
  | some (.array n e) => (List.replicate n (ih e)).flatten
  | _ => [.raw]) fuel

/-- What is asked of an operation before it is carried out. -/
inductive Ask where
  | no
  | ld (t : TypeId) (x : Option (Eff × List Cd)) (l : List Ek)
  | app
  | sl
  | call (g : Option (FuncId × List AV))

def askOf (o : Oper) (t : Tr AV) (m : Mem) : Ask := match o.op with
  | .load ty a => .ld ty (loadX P m.h.hf ty (evalA GL t.tf a) []) (kindsT P 8 ty)
  | .slice .. => .sl
  | .call { callee := .builtin .append, .. } => .app
  | .call { callee := .value f, args := args, argTypes := _ } => .call (calleeA P (evalA GL t.tf f) (args.toList.map (evalA GL t.tf)))
  | _ => .no

def askS (s : Scr) (k : Hint → Scr → Prop) : Prop := match s with
  | .ld l s => k (.ld l) s
  | .alt n s => k (.alt n) s
  | s => k .none s

def askK (a : Ask) (s : Scr) (k : Hint → Scr → Prop) : Prop := match a with
  | .no => k .none s
  | _ => askS s k

def endV (v : AV) (cs : List Cd) (s : Scr) (k : AV → Scr → Prop) : Prop := match s with
  | .vl v' s => flK (.p (v = v') :: cs) s (k v')
  | s => flK cs s (k v)

/-- The end of an operation: a call's value told otherwise, what must be so. -/
def endK (call : Bool) (v : AV) (cs : List Cd) (s : Scr) (k : AV → Scr → Prop) : Prop := bi call (endV v cs s k) (flK cs s (k v))

def isCall (o : Oper) : Bool := match o.op with | .call { callee := .value _, .. } => true | _ => false

def oblCd (l : List (Int × Int)) : List Cd := l.map fun p => .d (p.1 ≤ p.2) inferInstance

def tstK (b : Bool) (s : Scr) (k : Scr → Bool → Prop) : Prop := match s with
  | .tt s => bi b (k s true) False
  | .ff s => bi b False (k s false)
  | .sp x y => (b = true → k x true) ∧ (b = false → k y false)
  | _ => False

abbrev KO := Scr → Tr AV → Mem → List Tou → Prop

def runX (o : Oper) (k : KO) (s : Scr) (t : Tr AV) (m : Mem) (tl : List Tou) : Prop := askK (askOf P GL o t m) s fun q s => forceD m.next fun nid => match opX P GL kx o q t m nid with
  | some (e, cs) => endK (isCall o) e.val (cs ++ oblCd e.obl) s fun v s => k s (setT t (o.dst.map path) v) (putX m e.ups) (⟨e.fp, upsIds e.ups, 0, 0⟩ :: tl)
  | none => False

def skipX (o : Oper) (k : KO) (s : Scr) (t : Tr AV) (m : Mem) (tl : List Tou) : Prop := k s (setT t (o.dst.map path) (.tup [])) m (tou0 :: tl)

def stepX (o : Oper) (k : KO) (s : Scr) (t : Tr AV) (m : Mem) (tl : List Tou) : Prop := match o.guard with
  | none => runX P GL kx o k s t m tl
  | some (j, w) => match (ops[j]?).bind (·.dst) with
    | none => skipX o k s t m tl
    | some d => match t.tf d with
      | .tup [] => skipX o k s t m tl
      | .bool b => tstK b s fun s v => bi (v == w) (runX P GL kx o k s (Tr.set (path d) t (.bool v)) m tl) (skipX o k s (Tr.set (path d) t (.bool v)) m tl)
      | _ => False

def sxOps (l : List Oper) (k : KO) : KO := List.rec (motive := fun _ => KO) k (fun o _ ih => stepX P GL ops kx o ih) l

/-! ### States told otherwise -/
def emptyB (esz : Nat) : Slot := .blk ⟨[], esz, false, false, none⟩

abbrev KA := Tr AV → Mem → Prop

def adjX (a : Adj) (k : KA) (t : Tr AV) (m : Mem) : Prop := forceD m.next fun nx => match a with
  | .virt d z => match t.tf d, m.h.hf nx with
    | .nils, .free => k (Tr.set (path d) t (.rs nx 0 0 0 none)) (putX m [(nx, emptyB z)])
    | _, _ => False
  | .virtc i j z => match m.h.hf i, m.h.hf nx with
    | .blk b, .free => (match b.cells.getD j .junk with
      | .nils => k t (putX m [(i, .blk { b with cells := b.cells.set j (.rs nx 0 0 0 none) }), (nx, emptyB z)])
      | _ => False)
    | _, _ => False
  | .told d v => AVle v (t.tf d) ∧ k (Tr.set (path d) t v) m
  | .toldc i j v => match m.h.hf i with
    | .blk b => (AVle v (b.cells.getD j .junk) ∧ v.cell = true) ∧ k t (putX m [(i, .blk { b with cells := b.cells.set j v })])
    | _ => False
  | .cells i l => match m.h.hf i with
    | .blk b => b.cells = l ∧ k t (putX m [(i, .blk { b with cells := l })])
    | _ => False
  | .move i j => match m.h.hf i, m.h.hf nx with
    | .blk b, .free => (match b.cells.getD j .junk with
      | .rs i2 off len tot cap => (match m.h.hf i2 with
        | .blk b2 => bi (decide (b2.ao = false ∧ b2.fixed = false ∧ i2 ≠ i ∧ j < b.cells.length)) (b2.cells.length = tot ∧ k t (putX m [(i2, .dead), (nx, .blk b2), (i, .blk { b with cells := b.cells.set j (.rs nx off len tot cap) })])) False
        | _ => False)
      | _ => False)
    | _, _ => False
  | .frzc i j i2 len => match m.h.hf i, m.h.hf i2 with
    | .blk b, .blk b2 => bi (decide (i2 ≠ i)) ((b.cells.getD j .junk = .rs i2 0 len b2.cells.length none ∧ j < b.cells.length ∧ len * b2.esz = b2.cells.length ∧ ∀ a ∈ b2.cells, a.flat = true) ∧ k t (putX m [(i2, .blk { b2 with ao := true }), (i, .blk { b with cells := b.cells.set j (.ds {} b2.cells len) })])) False
    | _, _ => False

def adjK (s : Scr) (k : Scr → KA) : KA := Scr.rec (motive := fun _ => KA) (k .e) (fun fl s _ => k (.op fl s)) (fun et s _ => k (.ld et s)) (fun v s _ => k (.vl v s)) (fun n s _ => k (.alt n s)) (fun s _ => k (.tt s)) (fun s _ => k (.ff s))
  (fun a b _ _ => k (.sp a b)) (fun a _ ih => adjX a ih) (fun l => k (.fin l)) (fun l r => k (.finR l r)) s

abbrev KE := AExit → Scr → Tr AV → Mem → Prop

def sxRegion (n : Nat) (mixed : Bool) (ops : Array Oper) (draw : Bool) (k : KE) (s : Scr) : KA := adjK s fun s t m => bi (ops.toList.all fun o => dstOk n o.dst)
  (bi draw (bi (mixed && staticB ops) (sxOps P GL ops kx ops.toList (fun s t m tl => bi (heapB (masks ops.toList 0 .e) tl.reverse 0) (k .normal s t m) False) s t m []) False)
    (sxOps P GL ops kx ops.toList (fun s t m _ => k .normal s t m) s t m [])) False

def sxCond (x : Operand) (a b : KE → Scr → KA) (k : KE) (s : Scr) : KA := adjK s fun s t m => match x with
  | .tmp d => (match t.tf d with
    | .bool v => tstK v s fun s v => bi v (a k s (Tr.set (path d) t (.bool v)) m) (b k s (Tr.set (path d) t (.bool v)) m)
    | _ => False)
  | _ => False

def falseK : KE → Scr → KA := fun _ _ _ _ => False

def seqK (b : KE → Scr → KA) (k : KE) : KE := fun e s => match e with
  | .normal => b k s
  | .exit id => k (.exit id) s
  | .ret => k .ret s
  | .panic v => k (.panic v) s

def blockK (id : Nat) (k : KE) : KE := fun e s => match e with
  | .exit id' => bi (Nat.beq id' id) (k .normal s) (k (.exit id') s)
  | .normal => k .normal s
  | .ret => k .ret s
  | .panic v => k (.panic v) s

def sxC (n : Nat) (mixed : Bool) (c : Code) : KE → Scr → KA :=
  Code.rec (motive := fun _ => KE → Scr → KA) (fun k s => k .normal s) (fun _ ops draw => sxRegion P GL kx n mixed ops draw)
    (fun _ _ a b k => a (seqK b k)) (fun x _ _ a b => sxCond x a b) (fun id _ a k => a (blockK id k)) (fun _ _ => falseK) (fun _ _ _ _ _ _ => falseK) (fun id k => k (.exit id)) (fun _ _ => falseK) (fun _ => falseK) (fun _ => falseK) (fun k => k .ret) (fun _ => falseK) c
end

/-- A state in few words. -/
def few (l : List (Nat × AV)) : Tr AV := List.rec (motive := fun _ => Tr AV) .e (fun p _ ih => forceN p.1 fun k => Tr.set (path k) ih p.2) l
def fewS (l : List Slot) : Nat → Tr Slot → Tr Slot := List.rec (motive := fun _ => Nat → Tr Slot → Tr Slot) (fun _ t => t) (fun s _ ih i t => ih (Nat.succ i) (Tr.set (path i) t s)) l
def mm (l : List Slot) : Mem := ⟨fewS l 0 .e, l.length, 0, [], 0⟩

def newIdF (i : Nat) (ren : List (Nat × Bool)) : Nat → Nat := List.rec (motive := fun _ => Nat → Nat) (fun _ => 0) (fun p _ ih j => bi (Nat.beq p.1 i) j (ih (Nat.succ j))) ren
def newId (ren : List (Nat × Bool)) (i : Nat) : Nat := newIdF i ren 0
def inRen (ren : List (Nat × Bool)) (i : Nat) : Bool := List.rec (motive := fun _ => Bool) false (fun p _ ih => bi (Nat.beq p.1 i) true ih) ren

mutual
def AV.refsB (p : Nat → Bool) : AV → Bool
  | .rs i _ _ _ _ => p i
  | .ra i _ _ => p i
  | .mp i => p i
  | .it i => p i
  | .fn _ a b => AV.refsBL p a && AV.refsBL p b
  | .iface _ a => a.refsB p
  | .agg l => AV.refsBL p l
  | .tup l => AV.refsBL p l
  | _ => true
def AV.refsBL (p : Nat → Bool) : List AV → Bool
  | [] => true
  | a :: l => a.refsB p && AV.refsBL p l
end

def finT (live : List Nat) (t : Tr AV) : Tr AV := few (live.map fun k => (k, t.tf k))
def finTR (ren : List (Nat × Bool)) (live : List Nat) (t : Tr AV) : Tr AV := few (live.map fun k => (k, (t.tf k).mapI (newId ren)))

def renSlot (ren : List (Nat × Bool)) (p : Nat × Bool) (s : Slot) (k : Slot → Prop) : Prop := match s with
  | .blk b => bi p.2 (AV.m1L b.cells = true ∧ k (.blk b)) (bi (AV.refsBL (inRen ren) b.cells) (k (.blk { b with cells := AV.mapIL (newId ren) b.cells })) False)
  | .dead => k .dead
  | _ => False

def renSlots (ren : List (Nat × Bool)) (m : Mem) (l : List (Nat × Bool)) (k : List Slot → Prop) : Prop := List.rec (motive := fun _ => (List Slot → Prop) → Prop) (fun k => k []) (fun p _ ih k => renSlot ren p (m.h.hf p.1) fun s => ih fun l => k (s :: l)) l k

def elderB (old : Nat) (ren : List (Nat × Bool)) : Bool := Nat.rec (motive := fun _ => List (Nat × Bool) → Nat → Bool) (fun _ _ => true) (fun _ ih l i => List.rec (motive := fun _ => Bool) false (fun p l _ => bi (Nat.beq p.1 i) (ih l (Nat.succ i)) false) l) old ren 0
def nodupB (ren : List (Nat × Bool)) : Bool := List.rec (motive := fun _ => Bool) true (fun p l ih => bi (inRen l p.1) false ih) ren

/-- The end of an evaluation. -/
def leafK (old : Nat) (K : Tr AV → Mem → Prop) (s : Scr) (t : Tr AV) (m : Mem) : Prop := match s with
  | .fin live => K (finT live t) m
  | .finR live ren => bi (elderB old ren && nodupB ren && live.all fun k => (t.tf k).refsB (inRen ren)) (renSlots ren m ren fun l => K (finTR ren live t) (mm l)) False
  | _ => K t m

def finK (old : Nat) (K : AExit → Tr AV → Mem → Prop) : KE := fun e s => match e with
  | .panic _ => fun _ _ => False
  | e => adjK s fun s t m => leafK old (K e) s t m
end

/-- A part of a code: which way to go at each turn. -/
def cp : List Nat → Code → Code
  | [], c => c
  | 0 :: l, .seq a _ => cp l a
  | _ :: l, .seq _ b => cp l b
  | 0 :: l, .cond _ a _ => cp l a
  | _ :: l, .cond _ _ b => cp l b
  | _ :: l, .block _ a => cp l a
  | _ :: l, .loop a => cp l a
  | _ :: _, c => c

noncomputable def bodyF (f : Func) : Code := f.body.getD .skip

theorem few_cons (p : Nat × AV) (l : List (Nat × AV)) : few (p :: l) = Tr.set (path p.1) (few l) p.2 := by
  obtain ⟨k, a⟩ := p
  cases k <;> rfl

theorem few_le {f : Nat → AV} : ∀ {l : List (Nat × AV)}, (∀ p ∈ l, f p.1 = p.2) → ∀ k, (few l).tf k = .junk ∨ (few l).tf k = f k := by
  intro l
  induction l with
  | nil =>
    intro _ k
    refine .inl ?_
    show Option.rec AV.junk (fun a => a) ((Tr.e : Tr AV).get (path k)) = AV.junk
    rw [Tr.get_e]
  | cons p l ih =>
    intro h k
    have e : (few (p :: l)).tf = upd (few l).tf p.1 p.2 := by rw [few_cons]; exact tf_set (few l) p.1 p.2
    rw [e]
    by_cases hk : k = p.1
    · subst hk
      rw [upd_same]
      exact .inr (h p List.mem_cons_self).symm
    · rw [upd_ne _ _ hk]
      exact ih (fun q hq => h q (List.mem_cons_of_mem _ hq)) k

theorem few_st {f : Nat → AV} {h : Heap} {l : List (Nat × AV)} {s : St} (ht : s.t = f) (hh : s.h = h) (hl : ∀ p ∈ l, f p.1 = p.2) : St.le ⟨(few l).tf, h, 0⟩ s := by
  subst ht hh
  exact ⟨few_le hl, rfl⟩

end Go.Proofs.YtpiincgiakkljaaGreatDoor
/-
  What is told of code evaluated with names is so.
-/
namespace Go.Proofs.YtpiincgiakkljaaGreatDoor
open Go

section
variable {P : Program} {GL : Globs}

theorem cdK_ok {c : Cd} {b : Bool} {r : Prop} (h : cdK c b r) : c.ok ∧ r := by
  cases c with
  | d q i =>
    cases b with
    | false => exact h
    | true =>
      cases i with
      | isTrue hp => exact ⟨hp, h⟩
      | isFalse _ => exact h.elim
  | p q => exact h

theorem cdsK_ok : ∀ {l : List Cd} {fl : List Bool} {r : Prop}, cdsK l fl r → (∀ c ∈ l, c.ok) ∧ r
  | [], fl, r, h => ⟨by simp, h⟩
  | c :: l, fl, r, h => by
    obtain ⟨h1, h2⟩ := cdK_ok (show cdK c (fl.headD true) (cdsK l fl.tail r) from h)
    obtain ⟨h3, h4⟩ := cdsK_ok h2
    refine ⟨fun x hx => ?_, h4⟩
    rcases List.mem_cons.1 hx with e | e
    · subst e; exact h1
    · exact h3 x e

theorem flK_ok {cs : List Cd} {s : Scr} {k : Scr → Prop} (h : flK cs s k) : (∀ c ∈ cs, c.ok) ∧ ∃ s', k s' := by
  cases cs with
  | nil => exact ⟨by simp, s, h⟩
  | cons c l =>
    simp only [flK] at h
    split at h
    · obtain ⟨h1, h2⟩ := cdsK_ok h; exact ⟨h1, _, h2⟩
    · obtain ⟨h1, h2⟩ := cdsK_ok h; exact ⟨h1, _, h2⟩

theorem etaE_ok {k : Ek} {a : AV} (h : ∀ c ∈ (etaE k a).2, c.ok) : (etaE k a).1 = a := by
  cases k with
  | raw => rfl
  | int k => exact (h _ List.mem_cons_self : a = _).symm
  | bool => exact (h _ List.mem_cons_self : a = _).symm
  | str => exact (h _ List.mem_cons_self : a = _).symm
  | ds => exact (h _ List.mem_cons_self : a = _).symm
  | is v => exact (h _ List.mem_cons_self : a = _).symm

theorem etaL_ok {g : Nat → AV} : ∀ {n o : Nat} {et : List Ek}, (∀ c ∈ (etaL g n o et).2, c.ok) → (etaL g n o et).1 = (List.range' o n).map g
  | 0, _, _, _ => rfl
  | n + 1, o, et, h => by
    have h1 : (etaE (et.headD .raw) (g o)).1 = g o := etaE_ok fun c hc => h c (List.mem_append.2 (.inl hc))
    have h2 := etaL_ok (g := g) (n := n) (o := o + 1) (et := et.tail) fun c hc => h c (List.mem_append.2 (.inr hc))
    show (etaE (et.headD .raw) (g o)).1 :: (etaL g n (o + 1) et.tail).1 = _
    rw [h1, h2, List.range'_succ, List.map_cons]

theorem take_drop_getD {l : List AV} {o n : Nat} (h : o + n ≤ l.length) : (l.drop o).take n = (List.range' o n).map fun j => l.getD j .junk := by
  apply List.ext_getElem
  · simp; omega
  · intro i h1 h2
    have hi : o + i < l.length := by simp at h1; omega
    simp [List.getD_eq_getElem?_getD, List.getElem?_eq_getElem hi]

theorem bi_pack (ag : Bool) (l : List AV) : bi ag (.agg l) (l.headD .junk) = packA ag l := by cases ag <;> rfl
theorem bi_if (ag : Bool) (n : Nat) : bi ag n 1 = if ag = true then n else 1 := by cases ag <;> rfl

theorem loadX_ok {h : Heap} {t : TypeId} {a : AV} {et : List Ek} {e : Eff} {cs : List Cd} (he : loadX P h t a et = some (e, cs)) (hc : ∀ c ∈ cs, c.ok) : loadA P h t a = some e := by
  unfold loadX at he
  split at he
  · rename_i ag n i off tot h1 h2
    split at he
    · rename_i k hk
      cases he
      have c1 : k.cells.length = tot := hc _ List.mem_cons_self
      have c2 : off + bi ag n 1 ≤ k.cells.length := hc _ (List.mem_cons_of_mem _ List.mem_cons_self)
      have c3 := etaL_ok (g := fun j => k.cells.getD j .junk) (n := bi ag n 1) (o := off) (et := et) fun c hq => hc c (List.mem_cons_of_mem _ (List.mem_cons_of_mem _ hq))
      have c4 : (if ag = true then n else 1) ≤ (k.cells.drop off).length := by rw [← bi_if]; simp; omega
      simp only [loadA, h1, h2, behind, hk, c1, if_true, c4, bi_pack, c3]
      rw [← bi_if, take_drop_getD c2]
    · cases he
  · rename_i ag n tag l h1 h2
    cases he
    have c2 : 0 + bi ag n 1 ≤ l.length := hc _ List.mem_cons_self
    have c3 := etaL_ok (g := fun j => l.getD j .junk) (n := bi ag n 1) (o := 0) (et := et) fun c hq => hc c (List.mem_cons_of_mem _ hq)
    have c4 : (if ag = true then n else 1) ≤ l.length := by rw [← bi_if]; omega
    simp only [loadA, h1, h2, behind, if_true, c4, bi_pack, c3]
    rw [← bi_if, ← take_drop_getD c2]
    rfl
  · cases he

theorem indexX_ok {t : TypeId} {x i : AV} {e : Eff} {cs : List Cd} (he : indexX P t x i = some (e, cs)) (hc : ∀ c ∈ cs, c.ok) : indexAddrA P t x i = some e := by
  unfold indexX at he
  split at he
  · rename_i el hd l len k n hu
    rw [Option.map_eq_some_iff] at he
    obtain ⟨s, h1, h2⟩ := he
    cases h2
    have c1 : n.toNat * s ≤ l.length := hc _ List.mem_cons_self
    simp only [indexAddrA, hu, h1, Option.bind_some]
    rw [if_pos c1]
  · rename_i len el tg l k n hu
    rw [Option.map_eq_some_iff] at he
    obtain ⟨s, h1, h2⟩ := he
    cases h2
    have c1 : n.toNat * s ≤ l.length := hc _ List.mem_cons_self
    simp only [indexAddrA, hu, h1, Option.bind_some, AV.plus]
    rw [if_pos c1]
    rfl
  · rw [Option.map_eq_some_iff] at he
    obtain ⟨e', h1, h2⟩ := he
    cases h2
    exact h1

theorem fieldX_ok {s : TypeId} {a : AV} {f : Nat} {e : Eff} {cs : List Cd} (he : fieldX P s a f = some (e, cs)) (hc : ∀ c ∈ cs, c.ok) : fieldAddrA P s a f = some e := by
  unfold fieldX at he
  split at he
  · rename_i tg l
    rw [Option.map_eq_some_iff] at he
    obtain ⟨x, h1, h2⟩ := he
    cases h2
    have c1 : x.1 ≤ l.length := hc _ List.mem_cons_self
    simp only [fieldAddrA, h1, Option.bind_some, AV.plus]
    rw [if_pos c1]
    rfl
  · rw [Option.map_eq_some_iff] at he
    obtain ⟨e', h1, h2⟩ := he
    cases h2
    exact h1

theorem storeX_ok {h : Heap} {t : TypeId} {a x : AV} {e : Eff} {cs : List Cd} (he : storeX P h t a x = some (e, cs)) (hc : ∀ c ∈ cs, c.ok) : storeA P h t a x = some e := by
  unfold storeX at he
  split at he
  · rename_i i off tot xs n hx hn
    split at he
    · rename_i k hk
      cases he
      simp only [List.mem_cons, List.mem_nil_iff, or_false, forall_eq_or_imp, forall_eq, Cd.ok] at hc
      obtain ⟨c1, c2, c3, c4, c5, c6⟩ := hc
      simp only [storeA, hx, hn, hk]
      rw [if_pos ⟨c1, c2, c3, c4, c5, c6⟩]
    · cases he
  · cases he

theorem srcX_ok {h : Heap} {t : TypeId} {s : Nat} {x : AV} {r : Nat × List AV × List Nat} {cs : List Cd} (he : srcX P h t s x = some (r, cs)) (hc : ∀ c ∈ cs, c.ok) : srcA P h t s x = some r := by
  unfold srcX at he
  split at he
  · rename_i el hd l len hu
    cases he
    have c1 : l.length = len * s := hc _ List.mem_cons_self
    simp only [srcA, hu]
    rw [if_pos c1]
  · rename_i el i off len tot cap hu
    split at he
    · rename_i k hk
      cases he
      simp only [List.mem_cons, List.mem_nil_iff, or_false, forall_eq_or_imp, forall_eq, Cd.ok] at hc
      simp only [srcA, hu, hk]
      rw [if_pos hc]
    · cases he
  · rw [Option.map_eq_some_iff] at he
    obtain ⟨e', h1, h2⟩ := he
    cases h2
    exact h1

theorem appendX_ok {h : Heap} {nid alt : Nat} {ts : List TypeId} {dst src : AV} {e : Eff} {cs : List Cd} (he : appendX P h nid alt ts dst src = some (e, cs)) (hc : ∀ c ∈ cs, c.ok) : ∃ ch, appendA P h nid ch ts dst src = some e := by
  unfold appendX at he
  split at he
  · rename_i t tx
    rw [Option.bind_eq_some_iff] at he
    obtain ⟨⟨s, b⟩, h1, he⟩ := he
    rw [Option.bind_eq_some_iff] at he
    obtain ⟨⟨⟨n, l, fp⟩, cd⟩, h2, he⟩ := he
    simp only at he
    split at he
    · rename_i hd os len
      split at he
      · cases he
        simp only [List.mem_cons, forall_eq_or_imp, Cd.ok] at hc
        obtain ⟨c1, c2, c3, c4, c5, c6, c7⟩ := hc
        have h3 := srcX_ok h2 c7
        refine ⟨1, ?_⟩
        simp only [appendA, h1, h3, Option.bind_some]
        rw [if_pos ⟨c1, c2, c3, c4⟩, if_pos trivial, if_pos ⟨c5, c6⟩]
      · rw [Option.map_eq_some_iff] at he
        obtain ⟨e', h1, h2⟩ := he
        cases h2
        exact ⟨0, h1⟩
    · rename_i i off len tot cap
      split at he
      · rename_i k hk
        split at he
        · split at he
          · rename_i hf
            cases he
            simp only [List.mem_cons, forall_eq_or_imp, Cd.ok] at hc
            obtain ⟨c1, c2, c3, c4, c5, c6, c7, c8⟩ := hc
            have h3 := srcX_ok h2 c8
            refine ⟨0, ?_⟩
            simp only [appendA, h1, h3, Option.bind_some, hk, hf]
            rw [if_pos ⟨c1, c2, c3, c4, c5⟩, if_neg (by omega), if_pos ⟨c6, c7⟩]
          · cases he
        · cases he
          simp only [List.mem_cons, forall_eq_or_imp, Cd.ok] at hc
          obtain ⟨c1, c2, c3, c4, c5, c6, c8⟩ := hc
          have h3 := srcX_ok h2 c8
          refine ⟨0, ?_⟩
          simp only [appendA, h1, h3, Option.bind_some, hk]
          rw [if_pos ⟨c1, c2, c3, c4, c5⟩, if_pos c6]
      · cases he
    · split at he
      · rename_i hf _ _
        cases he
        have h3 := srcX_ok h2 hc
        refine ⟨0, ?_⟩
        simp only [appendA, h1, h3, Option.bind_some, hf]
      · cases he
  · cases he

theorem copyX_ok {h : Heap} {ts : List TypeId} {dst src : AV} {e : Eff} {cs : List Cd} (he : copyX P h ts dst src = some (e, cs)) (hc : ∀ c ∈ cs, c.ok) : copyA P h ts dst src = some e := by
  unfold copyX at he
  split at he
  · rename_i t tx
    rw [Option.bind_eq_some_iff] at he
    obtain ⟨⟨s, b⟩, h1, he⟩ := he
    rw [Option.bind_eq_some_iff] at he
    obtain ⟨⟨⟨n, l, fp⟩, cd⟩, h2, he⟩ := he
    simp only at he
    split at he
    · split at he
      · rename_i k hk
        cases he
        simp only [List.mem_cons, forall_eq_or_imp, Cd.ok] at hc
        obtain ⟨c1, c2, c3, c4, c5⟩ := hc
        have h3 := srcX_ok h2 c5
        simp only [copyA, h1, h3, Option.bind_some, hk]
        rw [if_pos ⟨c1, c2, c3⟩, if_neg c4]
      · cases he
    · cases he
  · cases he

theorem sliceX_ok {h : Heap} {alt : Nat} {t : TypeId} {x : AV} {lo hi mx : Option AV} {e : Eff} {cs : List Cd} (he : sliceX P h alt t x lo hi mx = some (e, cs)) (hc : ∀ c ∈ cs, c.ok) (ho : e.ok) : sliceA P h t x lo hi mx = some e := by
  unfold sliceX at he
  split at he
  · rename_i el i off len tot cap hu
    split at he
    · rename_i s l u k h1 h2 h3 hk
      split at he
      · cases he
        simp only [List.mem_cons, List.mem_nil_iff, or_false, forall_eq_or_imp, forall_eq, Cd.ok] at hc
        obtain ⟨c1, c2⟩ := hc
        simp only [sliceA, hu, h1, h2, h3, hk]
        rw [if_pos ⟨c1, c2⟩, if_neg (by simp)]
        simp
      · split at he
        · cases he
          simp only [List.mem_cons, List.mem_nil_iff, or_false, forall_eq_or_imp, forall_eq, Cd.ok] at hc
          obtain ⟨c1, c2, c3⟩ := hc
          simp only [sliceA, hu, h1, h2, h3, hk]
          rw [if_pos ⟨c1, c2⟩, if_pos ⟨rfl, c3⟩]
        · cases he
          simp only [List.mem_cons, List.mem_nil_iff, or_false, forall_eq_or_imp, forall_eq, Cd.ok] at hc
          obtain ⟨c1, c2⟩ := hc
          have hlt : l + 1 ≤ (len : Int) := ho (l + 1, (len : Int)) (by simp)
          simp only [sliceA, hu, h1, h2, h3, hk]
          rw [if_pos ⟨c1, c2⟩, if_neg (by omega)]
          simp
    · cases he
  · rw [Option.map_eq_some_iff] at he
    obtain ⟨e', h1, h2⟩ := he
    cases h2
    exact h1

theorem indexVX_ok {t : TypeId} {x i : AV} {e : Eff} {cs : List Cd} (he : indexVX P t x i = some (e, cs)) (hc : ∀ c ∈ cs, c.ok) : indexA P t x i = some e := by
  unfold indexVX at he
  split at he
  · rename_i len el l k n hu
    split at he
    · rename_i s h1 h2
      cases he
      have c1 : n.toNat * s + s ≤ l.length := hc _ List.mem_cons_self
      simp only [indexA, hu, h2, Option.bind_some, partA, h1]
      rw [if_pos c1]
      rfl
    · rename_i s h1 h2
      cases he
      have c1 : n.toNat * s < l.length := hc _ List.mem_cons_self
      simp only [indexA, hu, h2, Option.bind_some, partA, h1]
      simp [List.getElem?_eq_getElem c1, List.getD_eq_getElem?_getD]
    · cases he
  · rw [Option.map_eq_some_iff] at he
    obtain ⟨e', h1, h2⟩ := he
    cases h2
    exact h1

theorem xr_some {x : Option Eff} {e : Eff} {cs : List Cd} (h : xr x = some (e, cs)) : x = some e := by
  unfold xr at h
  split at h
  · cases h; rfl
  · cases h

theorem primX_ok {o : Oper} {q : Hint} {ρ : Operand → AV} {h : Heap} {nid : Nat} {e : Eff} {cs : List Cd} (he : primX P o q ρ h nid = some (e, cs)) (hc : ∀ c ∈ cs, c.ok) (ho : e.ok) : ∃ ch, aop P o.op o.type ρ h nid ch = some e := by
  unfold primX at he
  split at he
  · rename_i t a hop
    exact ⟨0, by rw [hop]; exact loadX_ok he hc⟩
  · rename_i t y i hop
    exact ⟨0, by rw [hop]; exact indexX_ok he hc⟩
  · rename_i t y i hop
    exact ⟨0, by rw [hop]; exact indexVX_ok he hc⟩
  · rename_i s y f hop
    exact ⟨0, by rw [hop]; exact fieldX_ok he hc⟩
  · rename_i t a y hop
    exact ⟨0, by rw [hop]; exact storeX_ok he hc⟩
  · rename_i t y lo hi mx hop
    exact ⟨0, by rw [hop]; exact sliceX_ok he hc ho⟩
  · rename_i b args ts hop
    split at he
    · rename_i y z hl
      obtain ⟨ch, h1⟩ := appendX_ok he hc
      refine ⟨ch, ?_⟩
      rw [hop]
      simp only [aop, hl, List.map_cons, List.map_nil, builtinA]
      exact h1
    · rename_i y z hl
      refine ⟨0, ?_⟩
      rw [hop]
      simp only [aop, hl, List.map_cons, List.map_nil, builtinA]
      exact copyX_ok he hc
    · exact ⟨0, xr_some he⟩
  · exact ⟨0, xr_some he⟩

def KxOk (P : Program) (GL : Globs) (kx : KX) : Prop := ∀ g as h nid e cs, kx g as h nid = some (e, cs) → (∀ c ∈ cs, c.ok) → e.ok → ∀ h', Agree e h h' → Has P GL g as h' (.ret e.val) e.ups

variable {n : Nat} {ops : Array Oper} {kx : KX} {c : Ctx} {Q : Post}

theorem opX_ok (hk : KxOk P GL kx) {o : Oper} {q : Hint} {t : Tr AV} {m : Mem} {e : Eff} {cs : List Cd} {nid : Nat} (h : opX P GL kx o q t m nid = some (e, cs)) (hc : ∀ c ∈ cs, c.ok) (hok : e.ok) (hg : guardA ops t.tf o = some true) (hd : dstOk n o.dst = true) {st : St} (hs : st.t = t.tf) (hh : st.h = m.h.hf) :
    LStep P GL n ops o st e := by
  unfold opX at h
  have prim : primX P o q (evalA GL t.tf) m.h.hf nid = some (e, cs) → LStep P GL n ops o st e := fun h => by
    obtain ⟨ch, h1⟩ := primX_ok h hc hok
    exact lstep_prim (nid := nid) (ch := ch) (by rw [hs]; exact hg) hd (by rw [hs, hh]; exact h1) hok
  split at h
  · rename_i f args ts ho
    split at h
    · rename_i g as hcal
      exact lstep_call (by rw [hs]; exact hg) hd ho (by rw [hs]; exact hcal) (by rw [hh]; exact hk g as _ _ e cs h hc hok)
    · exact prim h
  · exact prim h

theorem endK_ok {b : Bool} {v : AV} {cs : List Cd} {s : Scr} {k : AV → Scr → Prop} (h : endK b v cs s k) : (∀ c ∈ cs, c.ok) ∧ ∃ s', k v s' := by
  unfold endK at h
  cases b with
  | false => exact flK_ok h
  | true =>
    change endV v cs s k at h
    unfold endV at h
    split at h
    · rename_i v' s'
      obtain ⟨h1, s1, h2⟩ := flK_ok h
      have h3 : v = v' := h1 _ List.mem_cons_self
      subst h3
      exact ⟨fun c hc => h1 c (List.mem_cons_of_mem _ hc), s1, h2⟩
    · exact flK_ok h

theorem askK_ok {a : Ask} {s : Scr} {k : Hint → Scr → Prop} (h : askK a s k) : ∃ q s', k q s' := by
  have key : askS s k → ∃ q s', k q s' := fun h => by
    unfold askS at h
    split at h <;> exact ⟨_, _, h⟩
  cases a with
  | no => exact ⟨_, _, h⟩
  | _ => exact key h

theorem obl_ok {l : List (Int × Int)} (h : ∀ c ∈ oblCd l, c.ok) : ∀ p ∈ l, p.1 ≤ p.2 := fun p hp => h _ (List.mem_map.2 ⟨p, hp, rfl⟩)

theorem forceD_eq {α : Type} : ∀ (n : Nat) (k : Nat → α), forceD n k = k n
  | 0, _ => rfl
  | n + 1, k => by
    show forceD n (fun m => k (m + 1)) = _
    rw [forceD_eq n]

theorem put_hf : ∀ (ups : List (Nat × Slot)) (m : Mem), (putX m ups).h.hf = putAll m.h.hf ups
  | [], _ => rfl
  | p :: l, m => by
    show (forceD p.1 fun i => forceD m.next fun nx => putX ⟨Tr.set (path i) m.h p.2, bi (Nat.blt i nx) nx (Nat.succ i), m.lo, m.fp, m.fpm⟩ l).h.hf = _
    rw [forceD_eq, forceD_eq, put_hf l]
    show putAll (Tr.set (path p.1) m.h p.2).hf l = putAll (upd m.h.hf p.1 p.2) l
    rw [hf_set]

def St.is (s : St) (t : Tr AV) (m : Mem) : Prop := s.t = t.tf ∧ s.h = m.h.hf

theorem tf_same {t : Tr AV} {d : Nat} {v : AV} (h : t.tf d = v) : (Tr.set (path d) t v).tf = t.tf := by
  rw [tf_set]
  funext j
  unfold upd
  split
  · rename_i e; rw [e, h]
  · rfl

theorem tstK_ok {b : Bool} {s : Scr} {k : Scr → Bool → Prop} (h : tstK b s k) : ∃ s', k s' b := by
  unfold tstK at h
  cases b <;> split at h
  · exact h.elim
  · exact ⟨_, h⟩
  · exact ⟨_, h.2 rfl⟩
  · exact h.elim
  · exact ⟨_, h⟩
  · exact h.elim
  · exact ⟨_, h.1 rfl⟩
  · exact h.elim

theorem runX_ok (hk : KxOk P GL kx) {o : Oper} {k : KO} {s : Scr} {t : Tr AV} {m : Mem} {tl : List Tou} (h : runX P GL kx o k s t m tl) (hg : guardA ops t.tf o = some true) (hd : dstOk n o.dst = true) {st : St} (hs : st.is t m) :
    ∃ e s' t' m' tou, LStep P GL n ops o st e ∧ (st.put o.dst e).is t' m' ∧ Tou1 tou e ∧ k s' t' m' (tou :: tl) := by
  obtain ⟨q, s0, h⟩ := askK_ok h
  rw [forceD_eq] at h
  split at h
  · rename_i e cs hx
    obtain ⟨h1, s', h2⟩ := endK_ok h
    have h5 : e.ok := obl_ok fun c hc => h1 c (List.mem_append.2 (.inr hc))
    refine ⟨e, s', _, _, _, opX_ok hk hx (fun c hc => h1 c (List.mem_append.2 (.inl hc))) h5 hg hd hs.1 hs.2, ⟨?_, ?_⟩, ⟨fun r hr => .inl hr, fun r hr => .inl ?_⟩, h2⟩
    · rw [setT_tf, ← hs.1]
      cases o.dst <;> rfl
    · show putAll st.h e.ups = (putX m e.ups).h.hf
      rw [put_hf, hs.2]
    · show r ∈ upsIds e.ups
      rw [upsIds_eq]
      exact hr
  · exact h.elim

theorem skipX_ok {o : Oper} {k : KO} {s : Scr} {t : Tr AV} {m : Mem} {tl : List Tou} (h : skipX o k s t m tl) (hg : guardA ops t.tf o = some false) (hd : dstOk n o.dst = true) {st : St} (hs : st.is t m) :
    ∃ e s' t' m' tou, LStep P GL n ops o st e ∧ (st.put o.dst e).is t' m' ∧ Tou1 tou e ∧ k s' t' m' (tou :: tl) := by
  refine ⟨{ val := .tup [] }, s, _, m, _, lstep_skip (by rw [hs.1]; exact hg) hd, ⟨?_, hs.2⟩, ⟨fun r hr => ?_, fun r hr => ?_⟩, h⟩
  · rw [setT_tf, ← hs.1]
    cases o.dst <;> rfl
  · cases hr
  · cases hr

theorem stepX_ok (hk : KxOk P GL kx) {o : Oper} {k : KO} {s : Scr} {t : Tr AV} {m : Mem} {tl : List Tou} (h : stepX P GL ops kx o k s t m tl) (hd : dstOk n o.dst = true) {st : St} (hs : st.is t m) :
    ∃ e s' t' m' tou, LStep P GL n ops o st e ∧ (st.put o.dst e).is t' m' ∧ Tou1 tou e ∧ k s' t' m' (tou :: tl) := by
  unfold stepX at h
  split at h
  · rename_i hg
    exact runX_ok hk h (by unfold guardA; rw [hg]) hd hs
  · rename_i j w hg
    split at h
    · rename_i hj
      exact skipX_ok h (by unfold guardA; simp only [hg, hj]) hd hs
    · rename_i d hj
      split at h
      · rename_i ht
        exact skipX_ok h (by unfold guardA; simp only [hg, hj, ht]) hd hs
      · rename_i b ht
        obtain ⟨s', h1⟩ := tstK_ok h
        have ht2 := tf_same ht
        have hs2 : st.is (Tr.set (path d) t (.bool b)) m := ⟨by rw [ht2]; exact hs.1, hs.2⟩
        have hgd : guardA ops (Tr.set (path d) t (.bool b)).tf o = some (b == w) := by
          unfold guardA
          simp only [hg, hj, ht2, ht]
        rw [bi_eq] at h1
        split at h1
        · rename_i hbw
          exact runX_ok hk h1 (by rw [hgd, hbw]) hd hs2
        · rename_i hbw
          exact skipX_ok h1 (by rw [hgd]; simpa using hbw) hd hs2
      · exact h.elim

theorem sxOps_ok (hk : KxOk P GL kx) : ∀ {l : List Oper} {k : KO} {s : Scr} {t : Tr AV} {m : Mem} {tl : List Tou}, sxOps P GL ops kx l k s t m tl → (l.all fun o => dstOk n o.dst) = true → ∀ {st : St}, st.is t m →
    ∃ (el : List Eff) (st' : St) (s' : Scr) (t' : Tr AV) (m' : Mem) (tl' : List Tou), Chain P GL n ops l st el st' ∧ st'.is t' m' ∧ (tl'.length = el.length ∧ ∀ (i : Nat) (a : Tou) (e : Eff), tl'[i]? = some a → el[i]? = some e → Tou1 a e) ∧ k s' t' m' (tl'.reverse ++ tl)
  | [], k, s, t, m, tl, h, _, st, hs => ⟨[], st, s, t, m, [], .nil, hs, ⟨rfl, fun i a e ha => by simp at ha⟩, h⟩
  | o :: l, k, s, t, m, tl, h, hd, st, hs => by
    simp only [List.all_cons, Bool.and_eq_true] at hd
    obtain ⟨e, s1, t1, m1, tou, h1, h2, h3, h4⟩ := stepX_ok (n := n) hk (show stepX P GL ops kx o (sxOps P GL ops kx l k) s t m tl from h) hd.1 hs
    obtain ⟨el, st', s', t', m', tl', k1, k2, ⟨k3, k4⟩, k5⟩ := sxOps_ok hk h4 hd.2 h2
    refine ⟨e :: el, st', s', t', m', tou :: tl', .cons h1 k1, k2, ⟨by simp [k3], fun i a x ha hx => ?_⟩, by simpa using k5⟩
    cases i with
    | zero =>
      simp at ha hx
      subst ha
      subst hx
      exact h3
    | succ i => exact k4 i a x (by simpa using ha) (by simpa using hx)

theorem awp_text_of_chain {id : Nat} {el : List Eff} {st st' : St} (k1 : Chain P GL n ops ops.toList st el st') (hQ : ∀ s, s.t = st'.t → s.h = st'.h → Q .normal s) : AWP P GL n c (.region id ops false) st Q := by
  obtain ⟨_, l3⟩ := chain_at k1
  obtain ⟨j1, j2⟩ := l3 (fun i => el.getD i {}) st 0 (fun i o e => by simpa using e) (fun i e he => by rw [Nat.zero_add, List.getD_eq_getElem?_getD, he]; rfl) rfl
  refine awp_region_text (es := fun i => el.getD i {}) (fun i o ho => ?_) ?_
  · have := j1 i o (by simpa using ho)
    simpa using this
  · have hsz : stAt ops (fun i => el.getD i {}) st ops.size = st' := by simpa using j2
    rw [hsz]
    exact hQ _ rfl rfl

theorem awp_drawn_of_chain (hm : P.follows .mixedOrders = true) (hst : staticB ops = true) {id : Nat} {el : List Eff} {tl : List Tou} {st st' : St} (c1 : Chain P GL n ops ops.toList st el st') (h5 : tl.length = el.length)
    (h6 : ∀ (i : Nat) (a : Tou) (e : Eff), tl[i]? = some a → el[i]? = some e → Tou1 a e) (hh0 : heapB (masks ops.toList 0 .e) tl 0 = true) (hQ : ∀ s, s.t = st'.t → s.h = st'.h → Q .normal s) : AWP P GL n c (.region id ops true) st Q := by
  have hmk : ∀ j i, bitAt (masks ops.toList 0 .e) j i = true → Waits ops j i := masks_sound ops.toList 0 .e (fun i => by simp) (fun j i h => by
    unfold bitAt at h
    rw [Tr.get_e] at h
    simp at h)
  unfold staticB at hst
  rw [Bool.and_eq_true] at hst
  obtain ⟨l1, l2⟩ := chain_at c1
  obtain ⟨j1, j2⟩ := l2 (fun i => el.getD i {}) st 0 (fun i o e => by simpa using e) (fun i e he => by simp [he]) rfl
  have hsize : ops.size = tl.length := by rw [h5, ← l1]; simp
  refine awp_region_drawn (es := fun i => el.getD i {}) hm (fun i o ho => ?_) (fun i j oi oj hij hoi hoj => ?_) (fun i o ho e he hb => ?_) ?_
  · have := j1 i o (by simpa using ho)
    simpa using this
  · have hi : i < ops.size := by
      rcases Nat.lt_or_ge i ops.size with h | h
      · exact h
      · rw [Array.getElem?_eq_none h] at hoi; cases hoi
    have hj : j < ops.size := by
      rcases Nat.lt_or_ge j ops.size with h | h
      · exact h
      · rw [Array.getElem?_eq_none h] at hoj; cases hoj
    have ti : tl[i]? = some tl[i] := List.getElem?_eq_getElem (by omega)
    have tj : tl[j]? = some tl[j] := List.getElem?_eq_getElem (by omega)
    have ei : el[i]? = some el[i] := List.getElem?_eq_getElem (by omega)
    have ej : el[j]? = some el[j] := List.getElem?_eq_getElem (by omega)
    have gi : el.getD i {} = el[i] := by simp [ei]
    have gj : el.getD j {} = el[j] := by simp [ej]
    have hti := h6 i _ _ ti ei
    have htj := h6 j _ _ tj ej
    rcases tmpsB_sound ops.toList 0 hst.2 i j oi oj hij (by simpa using hoi) (by simpa using hoj) with h | h
    · exact .inl (hmk _ _ (by simpa using h))
    · rcases heapB_sound tl 0 hh0 i j _ _ hij ti tj with h' | h' | h'
      · refine .inr ⟨h, ?_, ?_, ?_⟩
        all_goals
          unfold still at h'
          simp only [Bool.and_eq_true, List.isEmpty_iff] at h'
          obtain ⟨⟨s1, s2⟩, s3⟩ := h'
          have s4 := Nat.eq_of_beq_eq_true s3
          have e1 : ∀ r ∈ (el[i]).fp, False := fun r hr => by
            rcases hti.1 r hr with x | x
            · rw [s1] at x; cases x
            · rw [within_iff] at x; omega
          have e2 : ∀ r ∈ (el[i]).wr, False := fun r hr => by
            rcases hti.2 r hr with x | x
            · rw [s2] at x; cases x
            · rw [within_iff] at x; omega
        · intro r hr; simp only [gi] at hr; exact (e2 r hr).elim
        · intro r hr; simp only [gi] at hr; exact (e2 r hr).elim
        · intro r _ hr; simp only [gi] at hr; exact (e1 r hr).elim
      · obtain ⟨a1, a2, a3⟩ := asideB_sound hti htj h'
        refine .inr ⟨h, ?_, ?_, ?_⟩
        · intro r hr; simp only [gi, gj] at hr ⊢; exact a1 r hr
        · intro r hr; simp only [gi, gj] at hr ⊢; exact a2 r hr
        · intro r hr; simp only [gi, gj] at hr ⊢; exact a3 r hr
      · exact .inl (hmk _ _ (by simpa using h'))
  · have := backB_sound ops.toList 0 hst.1 i o (by simpa using ho) e he hb
    omega
  · have hsz : stAt ops (fun i => el.getD i {}) st ops.size = st' := by simpa using j2
    rw [hsz]
    exact hQ _ rfl rfl
end
end Go.Proofs.YtpiincgiakkljaaGreatDoor
/-
  Code evaluated with names: states told otherwise; whole pieces of code; loops; functions.
-/
namespace Go.Proofs.YtpiincgiakkljaaGreatDoor
open Go

section
variable {P : Program} {GL : Globs} {n : Nat} {kx : KX} {c : Ctx} {Q : Post}

/-- What is known of a state is known of another one. -/
def Turns (GL : Globs) (n : Nat) (c : Ctx) (s s' : St) : Prop := ∀ a w φ F, RelX GL n c φ F s a w → ∃ φ' F', RelX GL n c φ' F' s' a w

theorem Turns.refl {s : St} : Turns GL n c s s := fun _ _ φ F r => ⟨φ, F, r⟩
theorem Turns.trans {s s' s'' : St} (h : Turns GL n c s s') (k : Turns GL n c s' s'') : Turns GL n c s s'' := fun a w φ F r => by
  obtain ⟨φ', F', r'⟩ := h a w φ F r
  exact k a w φ' F' r'

theorem AWP.turn {code : Code} {s s' : St} (h : Turns GL n c s s') (k : AWP P GL n c code s' Q) : AWP P GL n c code s Q := fun a w ⟨φ, F, r⟩ => k a w (h a w φ F r)

theorem AWP.conv {code : Code} {s : St} {Q' : Post} (h : AWP P GL n c code s Q') (hn : ∀ v s', ¬ Q' (.panic v) s') (hq : ∀ e s', Q' e s' → ∃ s'', Q e s'' ∧ Turns GL n c s' s'') : AWP P GL n c code s Q := fun a w r =>
  wp_mono (h a w r) fun e a' w' hp => by
    have key : ∀ {x : AExit}, (∃ s, Q' x s ∧ Rel GL n c s a' w') → ∃ s, Q x s ∧ Rel GL n c s a' w' := by
      rintro x ⟨s', h1, φ, F, h2⟩
      obtain ⟨s'', h3, h4⟩ := hq x s' h1
      exact ⟨s'', h3, h4 _ _ _ _ h2⟩
    cases e with
    | normal => exact key hp
    | exit id => exact key hp
    | ret => exact key hp
    | panic ch =>
      obtain ⟨v, h1, s', x, φ, F, h2, h3⟩ := hp
      exact absurd h2 (hn _ _)
    | goto l => exact hp.elim
    | outgrown => exact hp.elim

theorem RelX.upT {φ : Locs} {F : CSet} {s : St} {a : Act} {w : World} (r : RelX GL n c φ F s a w) {d : Nat} {v : AV} (hv : Rep φ F c.G0 w 2 v (a.tmps.getD d undef)) : RelX GL n c φ F ⟨upd s.t d v, s.h, s.next⟩ a w :=
  ⟨r.size, r.defers, fun k => by
    by_cases hk : k = d
    · subst hk; simp only [upd_same]; exact hv
    · simp only [upd_ne _ _ hk]; exact r.tm k, r.gl, r.rh, r.since⟩

theorem RelX.upH {φ φ' : Locs} {F : CSet} {s : St} {h' : Heap} {a : Act} {w : World} (r : RelX GL n c φ F s a w) (rh : RelH c φ' F h' w) (g : Grow c.G0 φ F w φ' F w) : RelX GL n c φ' F ⟨s.t, h', s.next⟩ a w :=
  ⟨r.size, r.defers, fun k => g.rep (r.tm k), r.gl.grow g, rh, r.since.trans g⟩

theorem RelX.upHF {φ : Locs} {F F' : CSet} {s : St} {h' : Heap} {a : Act} {w : World} (r : RelX GL n c φ F s a w) (rh : RelH c φ F' h' w) (g : Grow c.G0 φ F w φ F' w) : RelX GL n c φ F' ⟨s.t, h', s.next⟩ a w :=
  ⟨r.size, r.defers, fun k => g.rep (r.tm k), r.gl.grow g, rh, r.since.trans g⟩

theorem list_set_get {l : List AV} {j : Nat} {v : AV} {i : Nat} {a : AV} (h : (l.set j v)[i]? = some a) : (i = j ∧ a = v ∧ j < l.length) ∨ (i ≠ j ∧ l[i]? = some a) := by
  by_cases hij : i = j
  · subst hij
    rw [List.getElem?_set] at h
    simp only [if_true] at h
    split at h
    · exact .inl ⟨rfl, by simpa using h.symm, by assumption⟩
    · cases h
  · rw [List.getElem?_set_ne (fun e => hij e.symm)] at h
    exact .inr ⟨hij, h⟩

theorem is_upd_t {st : St} {t : Tr AV} {m : Mem} (hs : st.is t m) (d : Nat) (v : AV) : St.is ⟨upd st.t d v, st.h, st.next⟩ (Tr.set (path d) t v) m := ⟨by rw [tf_set, hs.1], hs.2⟩

theorem adjX_ok {a : Adj} {k : KA} {t : Tr AV} {m : Mem} (h : adjX a k t m) {st : St} (hs : st.is t m) : ∃ t' m' st', st'.is t' m' ∧ k t' m' ∧ Turns GL n c st st' := by
  unfold adjX at h
  rw [forceD_eq] at h
  cases a with
  | virt d z =>
    simp only at h
    split at h
    · rename_i h1 h2
      refine ⟨_, _, ⟨upd st.t d (.rs m.next 0 0 0 none), putAll st.h [(m.next, emptyB z)], st.next⟩, ⟨by rw [tf_set, hs.1], by rw [put_hf, hs.2]⟩, h, fun ac w φ F r => ?_⟩
      have hf : st.h m.next = .free := by rw [hs.2]; exact h2
      obtain ⟨φ', g1, g2, g3⟩ := r.rh.virt hf z
      refine ⟨φ', F, (r.upH g2 g3).upT ?_⟩
      have := r.tm d
      rw [hs.1, h1] at this
      generalize ac.tmps.getD d undef = u at this
      cases this
      exact .rsn (Nat.le_refl _) ⟨_, _, g1⟩ (by simp)
    · exact h.elim
  | virtc i j z =>
    simp only at h
    split at h
    · rename_i b h1 h2
      split at h
      · rename_i h3
        refine ⟨_, _, ⟨st.t, putAll st.h [(i, .blk { b with cells := b.cells.set j (.rs m.next 0 0 0 none) }), (m.next, emptyB z)], st.next⟩, ⟨hs.1, by rw [put_hf, hs.2]⟩, h, fun ac w φ F r => ?_⟩
        have hf : st.h m.next = .free := by rw [hs.2]; exact h2
        have hb : st.h i = .blk b := by rw [hs.2]; exact h1
        have hne : m.next ≠ i := fun e => by rw [e, hb] at hf; cases hf
        obtain ⟨φ', g1, g2, g3⟩ := r.rh.virt hf z
        have hb' : upd st.h m.next (emptyB z) i = .blk b := by rw [upd_ne _ _ hne.symm]; exact hb
        have hr := g2.recell (i := i) (k := b) (l' := b.cells.set j (.rs m.next 0 0 0 none)) hb' (by simp) fun L _ l y x hx => by
          rcases list_set_get hx with ⟨e1, e2, e3⟩ | ⟨e1, e2⟩
          · subst e1 e2
            have e4 : b.cells[y]? = some .nils := by
              rw [List.getD_eq_getElem?_getD, List.getElem?_eq_getElem e3] at h3
              rw [List.getElem?_eq_getElem e3]
              simpa using h3
            obtain ⟨v, f1, f2, f3⟩ := l.cell y _ e4
            cases f2
            exact ⟨_, f1, .rsn (Nat.le_refl _) ⟨_, _, g1⟩ (by simp), f3⟩
          · exact l.cell y x e2
        have he : putAll st.h [(i, .blk { b with cells := b.cells.set j (.rs m.next 0 0 0 none) }), (m.next, emptyB z)] = upd (upd st.h m.next (emptyB z)) i (.blk { b with cells := b.cells.set j (.rs m.next 0 0 0 none) }) := by
          funext q
          simp only [putAll, upd]
          by_cases q1 : q = i
          · subst q1; simp [hne.symm]
          · simp [q1]
        exact ⟨φ', F, by rw [he]; exact r.upH hr ⟨g3.loc, g3.data, g3.lent⟩⟩
      · exact h.elim
    · exact h.elim
  | told d v =>
    obtain ⟨h1, h2⟩ := h
    refine ⟨_, _, ⟨upd st.t d v, st.h, st.next⟩, is_upd_t hs d v, h2, fun ac w φ F r => ⟨φ, F, r.upT ?_⟩⟩
    have := r.tm d
    rw [hs.1] at this
    exact h1 _ _ _ _ _ _ this
  | toldc i j v =>
    simp only at h
    split at h
    · rename_i b h1
      obtain ⟨⟨h2, h4⟩, h3⟩ := h
      refine ⟨_, _, ⟨st.t, putAll st.h [(i, .blk { b with cells := b.cells.set j v })], st.next⟩, ⟨hs.1, by rw [put_hf, hs.2]⟩, h3, fun ac w φ F r => ?_⟩
      have hb : st.h i = .blk b := by rw [hs.2]; exact h1
      have hr := r.rh.recell (i := i) (k := b) (l' := b.cells.set j v) hb (by simp) fun L _ l y x hx => by
        rcases list_set_get hx with ⟨e1, e2, e3⟩ | ⟨e1, e2⟩
        · subst e1 e2
          obtain ⟨u, f1, f2, f3⟩ := l.cell y _ (List.getElem?_eq_getElem e3)
          rw [List.getD_eq_getElem?_getD, List.getElem?_eq_getElem e3] at h2
          exact ⟨_, f1, h2 _ _ _ _ _ _ f2, f3⟩
        · exact l.cell y x e2
      exact ⟨φ, F, r.upH hr (Grow.refl ..)⟩
    · exact h.elim
  | cells i l =>
    simp only at h
    split at h
    · rename_i b h1
      obtain ⟨h2, h3⟩ := h
      refine ⟨_, _, st, ⟨hs.1, ?_⟩, h3, Turns.refl⟩
      rw [put_hf, hs.2]
      subst h2
      funext q
      simp only [putAll, upd]
      split
      · rename_i e; rw [e, h1]
      · rfl
    · exact h.elim
  | move i j =>
    simp only at h
    split at h
    · rename_i b h1 h2
      split at h
      · rename_i i2 off len tot cap h3
        split at h
        · rename_i b2 h4
          rw [bi_eq] at h
          split at h
          · rename_i hd
            obtain ⟨d1, d2, d3, d4⟩ := of_decide_eq_true hd
            obtain ⟨h5, h6⟩ := h
            have hf : st.h m.next = .free := by rw [hs.2]; exact h2
            have hb : st.h i = .blk b := by rw [hs.2]; exact h1
            have hb2 : st.h i2 = .blk b2 := by rw [hs.2]; exact h4
            have hn1 : m.next ≠ i := fun e => by rw [e, hb] at hf; cases hf
            have hn2 : m.next ≠ i2 := fun e => by rw [e, hb2] at hf; cases hf
            refine ⟨_, _, ⟨st.t, putAll st.h [(i2, .dead), (m.next, .blk b2), (i, .blk { b with cells := b.cells.set j (.rs m.next off len tot cap) })], st.next⟩, ⟨hs.1, by rw [put_hf, hs.2]⟩, h6, fun ac w φ F r => ?_⟩
            obtain ⟨φ', g1, g2, g3⟩ := r.rh.shorten b2.cells.length hb2 hf d1 d2 (Nat.le_refl _)
            rw [List.take_length] at g1
            have hb' : upd (upd st.h i2 .dead) m.next (.blk b2) i = .blk b := by rw [upd_ne _ _ hn1.symm, upd_ne _ _ d3.symm]; exact hb
            have hr := g1.recell (i := i) (k := b) (l' := b.cells.set j (.rs m.next off len tot cap)) hb' (by simp) fun L _ l y x hx => by
              rcases list_set_get hx with ⟨e1, e2, e3⟩ | ⟨e1, e2⟩
              · subst e1 e2
                have e4 : b.cells[y]? = some (.rs i2 off len tot cap) := by
                  rw [List.getD_eq_getElem?_getD, List.getElem?_eq_getElem e3] at h3
                  rw [List.getElem?_eq_getElem e3]
                  simpa using h3
                -- the value in the cell, as it was
                rcases r.rh.loc i b hb with ⟨n1, n2, _, _⟩ | ⟨L', eL', l'⟩
                · rw [n2] at e3; simp at e3
                · have hLL : L = L' := by
                    have q1 := g2.loc i _ _ eL'
                    rename_i hφL
                    rw [hφL] at q1
                    cases q1
                    rfl
                  subst hLL
                  obtain ⟨v, f1, f2, f3⟩ := l'.cell y _ e4
                  refine ⟨v, f1, ?_, f3⟩
                  rw [h5] at g3
                  cases f2 with
                  | rsn k0 kk k1 =>
                    refine .rsn k0 ?_ k1
                    rcases r.rh.loc i2 b2 hb2 with ⟨n1, n2, _, _⟩ | ⟨M, eM, _⟩
                    · rw [n2] at h5
                      exact ⟨_, _, g3.trans (by rw [← h5]; exact n1)⟩
                    · exact ⟨_, _, g3.trans (by rw [← h5]; exact eM)⟩
                  | rs k0 k1 k2 k3 k4 => exact .rs k0 (g3.trans k1) k2 k3 k4
              · exact l.cell y x e2
            have he : putAll st.h [(i2, .dead), (m.next, .blk b2), (i, .blk { b with cells := b.cells.set j (.rs m.next off len tot cap) })] = upd (upd (upd st.h i2 .dead) m.next (.blk b2)) i (.blk { b with cells := b.cells.set j (.rs m.next off len tot cap) }) := rfl
            exact ⟨φ', F, by rw [he]; exact r.upH hr ⟨g2.loc, g2.data, g2.lent⟩⟩
          · exact h.elim
        · exact h.elim
      · exact h.elim
    · exact h.elim
  | frzc i j i2 len =>
    simp only at h
    split at h
    · rename_i b b2 h1 h2
      rw [bi_eq] at h
      split at h
      · rename_i hd
        have d1 : i2 ≠ i := of_decide_eq_true hd
        obtain ⟨⟨h3, h4, h5, h6⟩, h7⟩ := h
        have hb : st.h i = .blk b := by rw [hs.2]; exact h1
        have hb2 : st.h i2 = .blk b2 := by rw [hs.2]; exact h2
        refine ⟨_, _, ⟨st.t, putAll st.h [(i2, .blk { b2 with ao := true }), (i, .blk { b with cells := b.cells.set j (.ds {} b2.cells len) })], st.next⟩, ⟨hs.1, by rw [put_hf, hs.2]⟩, h7, fun ac w φ F r => ?_⟩
        have e4 : b.cells[j]? = some (.rs i2 0 len b2.cells.length none) := by
          rw [List.getD_eq_getElem?_getD, List.getElem?_eq_getElem h4] at h3
          rw [List.getElem?_eq_getElem h4]
          simpa using h3
        have hz : ∀ d, frzD (d + 1) st.h (.rs i2 0 len b2.cells.length none) = some (.ds {} b2.cells len, [(i2, .blk { b2 with ao := true })]) := by
          intro d
          have q1 : (b2.cells.take (0 + len * b2.esz)).drop 0 = b2.cells := by rw [Nat.zero_add, h5, List.take_length, List.drop_zero]
          have q2 : splice b2.cells 0 b2.cells = b2.cells := by simp [splice]
          simp only [frzD, hb2]
          rw [if_pos ⟨trivial, by omega⟩, q1, frzDL_flat d h6]
          simp only [List.map_nil, List.contains_nil, m0L_flat h6, q2]
          rfl
        rcases r.rh.loc i b hb with ⟨n1, n2, _, _⟩ | ⟨L', eL', l'⟩
        · rw [n2] at h4; simp at h4
        · obtain ⟨v, f1, f2, f3⟩ := l'.cell j _ e4
          obtain ⟨F', g1, g2, g3⟩ := frzD_sound (hz 0) r.rh f2
          have hb' : putAll st.h [(i2, .blk { b2 with ao := true })] i = .blk b := by
            show upd st.h i2 _ i = _
            rw [upd_ne _ _ d1.symm]; exact hb
          have hr := g1.recell (i := i) (k := b) (l' := b.cells.set j (.ds {} b2.cells len)) hb' (by simp) fun L hL l y x hx => by
            rcases list_set_get hx with ⟨e1, e2, e3⟩ | ⟨e1, e2⟩
            · subst e1 e2
              rw [eL'] at hL
              cases hL
              exact ⟨v, f1, g3.up (by omega), f3⟩
            · exact l.cell y x e2
          exact ⟨φ, F', r.upHF hr g2⟩
      · exact h.elim
    · exact h.elim

theorem adjK_ok {k : Scr → KA} : ∀ {s : Scr} {t : Tr AV} {m : Mem}, adjK s k t m → ∀ {st : St}, st.is t m → ∃ s' t' m' st', st'.is t' m' ∧ k s' t' m' ∧ Turns GL n c st st' := by
  intro s
  induction s with
  | adj a s ih =>
    intro t m h st hs
    obtain ⟨t1, m1, st1, h1, h2, h3⟩ := adjX_ok (GL := GL) (n := n) (c := c) (show adjX a (adjK s k) t m from h) hs
    obtain ⟨s', t', m', st', k1, k2, k3⟩ := ih h2 h1
    exact ⟨s', t', m', st', k1, k2, h3.trans k3⟩
  | _ => intro t m h st hs; exact ⟨_, _, _, st, hs, h, Turns.refl⟩

/-- What is told of a piece of code. -/
def Tells (P : Program) (GL : Globs) (n : Nat) (c : Ctx) (code : Code) (f : KE → Scr → KA) : Prop := ∀ (k : KE) (s : Scr) (t : Tr AV) (m : Mem), f k s t m → ∀ st : St, st.is t m → AWP P GL n c code st fun e st' => ∃ s' t' m', st'.is t' m' ∧ k e s' t' m'

theorem tells_region (hk : KxOk P GL kx) (id : Nat) (ops : Array Oper) (draw : Bool) : Tells P GL n c (.region id ops draw) (sxRegion P GL kx n (P.follows .mixedOrders) ops draw) := by
  intro k s t m h st0 hs0
  obtain ⟨s, t, m, st, hs, h, ht⟩ := adjK_ok (GL := GL) (n := n) (c := c) h hs0
  refine AWP.turn ht ?_
  simp only [bi_eq] at h
  split at h
  · rename_i hd
    cases draw with
    | true =>
      simp only [if_true] at h
      split at h
      · rename_i hm
        rw [Bool.and_eq_true] at hm
        obtain ⟨el, st', s', t', m', tl', k1, k2, ⟨k3, k4⟩, k5⟩ := sxOps_ok hk h hd hs
        split at k5
        · rename_i hh0
          rw [List.append_nil, List.reverse_reverse] at hh0
          exact awp_drawn_of_chain hm.1 hm.2 k1 k3 k4 hh0 fun s e1 e2 => ⟨_, _, _, ⟨e1.trans k2.1, e2.trans k2.2⟩, k5⟩
        · exact k5.elim
      · exact h.elim
    | false =>
      simp only [Bool.false_eq_true, if_false] at h
      obtain ⟨el, st', s', t', m', tl', k1, k2, k3, k5⟩ := sxOps_ok hk h hd hs
      exact awp_text_of_chain k1 fun s e1 e2 => ⟨_, _, _, ⟨e1.trans k2.1, e2.trans k2.2⟩, k5⟩
  · exact h.elim

theorem tells_cond {x : Operand} {a b : Code} {f g : KE → Scr → KA} (ha : Tells P GL n c a f) (hb : Tells P GL n c b g) : Tells P GL n c (.cond x a b) (sxCond x f g) := by
  intro k s t m h st0 hs0
  obtain ⟨s, t, m, st, hs, h, ht⟩ := adjK_ok (GL := GL) (n := n) (c := c) h hs0
  refine AWP.turn ht ?_
  cases x with
  | tmp d =>
    simp only at h
    split at h
    · rename_i v hv
      obtain ⟨s', h1⟩ := tstK_ok h
      have hs2 : st.is (Tr.set (path d) t (.bool v)) m := ⟨by rw [tf_same hv]; exact hs.1, hs.2⟩
      refine awp_cond (b := v) (by show st.t d = _; rw [hs.1, hv]) (fun e => ?_) fun e => ?_
      · subst e
        exact ha _ _ _ _ h1 st hs2
      · subst e
        exact hb _ _ _ _ h1 st hs2
    · exact h.elim
  | _ => exact h.elim

theorem tells_code (hk : KxOk P GL kx) : ∀ code : Code, Tells P GL n c code (sxC P GL kx n (P.follows .mixedOrders) code) := by
  intro code
  induction code with
  | skip => exact fun k s t m h st hs => awp_skip ⟨s, t, m, hs, h⟩
  | region id ops draw => exact tells_region hk id ops draw
  | seq a b iha ihb =>
    intro k s t m h st hs
    refine awp_seq ((iha _ s t m h st hs).mono ?_)
    rintro e st' ⟨s', t', m', h1, h2⟩
    cases e with
    | normal => exact ihb _ _ _ _ h2 _ h1
    | exit id => exact ⟨s', t', m', h1, h2⟩
    | ret => exact ⟨s', t', m', h1, h2⟩
    | panic v => exact ⟨s', t', m', h1, h2⟩
  | cond x a b iha ihb => exact tells_cond iha ihb
  | block id a iha =>
    intro k s t m h st hs
    refine awp_block ((iha _ s t m h st hs).mono ?_)
    rintro e st' ⟨s', t', m', h1, h2⟩
    cases e with
    | normal => exact ⟨s', t', m', h1, h2⟩
    | exit id' =>
      simp only [AExit.inBlock]
      simp only [blockK, bi_eq] at h2
      split at h2
      · rename_i hb
        rw [if_pos (Nat.eq_of_beq_eq_true hb)]
        exact ⟨s', t', m', h1, h2⟩
      · rename_i hb
        rw [if_neg (fun e => hb (by rw [e]; exact Nat.beq_refl id))]
        exact ⟨s', t', m', h1, h2⟩
    | ret => exact ⟨s', t', m', h1, h2⟩
    | panic v => exact ⟨s', t', m', h1, h2⟩
  | exit id => exact fun k s t m h st hs => awp_exit ⟨s, t, m, hs, h⟩
  | ret => exact fun k s t m h st hs => awp_ret ⟨s, t, m, hs, h⟩
  | _ => intro k s t m h; exact h.elim

/-! ### The end -/
theorem finT_le {t : Tr AV} (live : List Nat) (k : Nat) : (finT live t).tf k = .junk ∨ (finT live t).tf k = t.tf k :=
  few_le (l := live.map fun k => (k, t.tf k)) (f := t.tf) (fun p hp => by
    obtain ⟨k, _, rfl⟩ := List.mem_map.1 hp
    rfl) k

theorem turns_le {s s' : St} (hs : s'.le s) : Turns GL n c s s' := fun a w φ F rx => ⟨φ, F, rx.size, rx.defers, fun k => by
  rcases hs.1 k with h | h
  · rw [h]; exact .junk
  · rw [h]; exact rx.tm k, rx.gl, by rw [hs.2]; exact rx.rh, rx.since⟩

mutual
theorem refsB_mapI {ren : List (Nat × Bool)} {π : Nat → Nat} {live : Nat → Prop} (hπ : ∀ i, inRen ren i = true → π (newId ren i) = i ∧ live (newId ren i)) : ∀ (a : AV), a.refsB (inRen ren) = true → (a.mapI (newId ren)).mapI π = a ∧ (a.mapI (newId ren)).refs live
  | .rs i _ _ _ _, h => by obtain ⟨h1, h2⟩ := hπ i h; exact ⟨by simp [AV.mapI, h1], h2⟩
  | .ra i _ _, h => by obtain ⟨h1, h2⟩ := hπ i h; exact ⟨by simp [AV.mapI, h1], h2⟩
  | .mp i, h => by obtain ⟨h1, h2⟩ := hπ i h; exact ⟨by simp [AV.mapI, h1], h2⟩
  | .it i, h => by obtain ⟨h1, h2⟩ := hπ i h; exact ⟨by simp [AV.mapI, h1], h2⟩
  | .fn f a b, h => by
    simp only [AV.refsB, Bool.and_eq_true] at h
    obtain ⟨h1, h2⟩ := refsBL_mapI hπ a h.1
    obtain ⟨h3, h4⟩ := refsBL_mapI hπ b h.2
    exact ⟨by simp [AV.mapI, h1, h3], h2, h4⟩
  | .iface t a, h => by
    obtain ⟨h1, h2⟩ := refsB_mapI hπ a h
    exact ⟨by simp [AV.mapI, h1], h2⟩
  | .agg l, h => by
    obtain ⟨h1, h2⟩ := refsBL_mapI hπ l h
    exact ⟨by simp [AV.mapI, h1], h2⟩
  | .tup l, h => by
    obtain ⟨h1, h2⟩ := refsBL_mapI hπ l h
    exact ⟨by simp [AV.mapI, h1], h2⟩
  | .junk, _ | .bool _, _ | .int _ _, _ | .str _, _ | .nilp, _ | .nils, _ | .nilf, _ | .nili, _ | .nilm, _ | .ds _ _ _, _ | .da _ _, _ => ⟨rfl, trivial⟩
theorem refsBL_mapI {ren : List (Nat × Bool)} {π : Nat → Nat} {live : Nat → Prop} (hπ : ∀ i, inRen ren i = true → π (newId ren i) = i ∧ live (newId ren i)) : ∀ (a : List AV), AV.refsBL (inRen ren) a = true → AV.mapIL π (AV.mapIL (newId ren) a) = a ∧ AV.refsL live (AV.mapIL (newId ren) a)
  | [], _ => ⟨rfl, trivial⟩
  | a :: l, h => by
    simp only [AV.refsBL, Bool.and_eq_true] at h
    obtain ⟨h1, h2⟩ := refsB_mapI hπ a h.1
    obtain ⟨h3, h4⟩ := refsBL_mapI hπ l h.2
    exact ⟨by simp [AV.mapIL, h1, h3], h2, h4⟩
end

mutual
theorem m1_mapI {π : Nat → Nat} {live : Nat → Prop} : ∀ (a : AV), a.m1 = true → a.mapI π = a ∧ a.refs live
  | .rs i _ _ _ _, h => by cases h
  | .ra i _ _, h => by cases h
  | .mp i, h => by cases h
  | .it i, h => by cases h
  | .fn f a b, h => by
    simp only [AV.m1, Bool.and_eq_true] at h
    obtain ⟨h1, h2⟩ := m1L_mapI (π := π) (live := live) a h.1
    obtain ⟨h3, h4⟩ := m1L_mapI (π := π) (live := live) b h.2
    exact ⟨by simp [AV.mapI, h1, h3], h2, h4⟩
  | .iface t a, h => by
    obtain ⟨h1, h2⟩ := m1_mapI (π := π) (live := live) a h
    exact ⟨by simp [AV.mapI, h1], h2⟩
  | .agg l, h => by
    obtain ⟨h1, h2⟩ := m1L_mapI (π := π) (live := live) l h
    exact ⟨by simp [AV.mapI, h1], h2⟩
  | .tup l, h => by
    obtain ⟨h1, h2⟩ := m1L_mapI (π := π) (live := live) l h
    exact ⟨by simp [AV.mapI, h1], h2⟩
  | .junk, _ | .bool _, _ | .int _ _, _ | .str _, _ | .nilp, _ | .nils, _ | .nilf, _ | .nili, _ | .nilm, _ | .ds _ _ _, _ | .da _ _, _ => ⟨rfl, trivial⟩
theorem m1L_mapI {π : Nat → Nat} {live : Nat → Prop} : ∀ (a : List AV), AV.m1L a = true → AV.mapIL π a = a ∧ AV.refsL live a
  | [], _ => ⟨rfl, trivial⟩
  | a :: l, h => by
    simp only [AV.m1L, Bool.and_eq_true] at h
    obtain ⟨h1, h2⟩ := m1_mapI (π := π) (live := live) a h.1
    obtain ⟨h3, h4⟩ := m1L_mapI (π := π) (live := live) l h.2
    exact ⟨by simp [AV.mapIL, h1, h3], h2, h4⟩
end

theorem fewS_hf : ∀ (l : List Slot) (i : Nat) (t : Tr Slot) (k : Nat), (fewS l i t).hf k = if i ≤ k ∧ k < i + l.length then l.getD (k - i) .free else t.hf k := by
  intro l
  induction l with
  | nil => intro i t k; rw [if_neg (by intro h; simp at h; omega)]; rfl
  | cons a l ih =>
    intro i t k
    show (fewS l (i + 1) (Tr.set (path i) t a)).hf k = _
    rw [ih]
    by_cases h : i + 1 ≤ k ∧ k < i + 1 + l.length
    · rw [if_pos h, if_pos ⟨by omega, by simp; omega⟩]
      obtain ⟨j, rfl⟩ : ∃ j, k = i + 1 + j := ⟨k - (i + 1), by omega⟩
      rw [show i + 1 + j - (i + 1) = j by omega, show i + 1 + j - i = j + 1 by omega]
      rfl
    · rw [if_neg h, hf_set]
      by_cases hk : k = i
      · subst hk
        rw [upd_same, if_pos ⟨by omega, by simp⟩]
        simp
      · rw [upd_ne _ _ hk, if_neg (by simp; omega)]

theorem mm_hf (l : List Slot) (k : Nat) : (mm l).h.hf k = l.getD k .free := by
  show (fewS l 0 .e).hf k = _
  rw [fewS_hf]
  split
  · rw [Nat.sub_zero]
  · rw [List.getD_eq_getElem?_getD, List.getElem?_eq_none (by omega)]
    show (Option.rec Slot.free (fun a => a) ((Tr.e : Tr Slot).get (path k)) : Slot) = (none : Option Slot).getD .free
    rw [Tr.get_e]
    rfl

theorem newIdFrom (ren : List (Nat × Bool)) : ∀ (i j : Nat), inRen ren i = true → ∃ k, k < ren.length ∧ newIdF i ren j = j + k ∧ (ren.getD k (0, false)).1 = i := by
  induction ren with
  | nil => intro i j h; cases h
  | cons p l ih =>
    intro i j h
    change bi (Nat.beq p.1 i) true (inRen l i) = true at h
    show ∃ k, k < (p :: l).length ∧ bi (Nat.beq p.1 i) j (newIdF i l (Nat.succ j)) = j + k ∧ ((p :: l).getD k (0, false)).1 = i
    cases hb : Nat.beq p.1 i with
    | true => exact ⟨0, by simp, rfl, Nat.eq_of_beq_eq_true hb⟩
    | false =>
      rw [hb] at h
      obtain ⟨k, h1, h2, h3⟩ := ih i (j + 1) h
      refine ⟨k + 1, by simp; omega, ?_, by simpa using h3⟩
      show newIdF i l (j + 1) = _
      rw [h2]
      omega

theorem newId_ok {ren : List (Nat × Bool)} {i : Nat} (h : inRen ren i = true) : newId ren i < ren.length ∧ (ren.getD (newId ren i) (0, false)).1 = i := by
  obtain ⟨k, h1, h2, h3⟩ := newIdFrom ren i 0 h
  have : newId ren i = k := by
    show newIdF i ren 0 = k
    rw [h2]; omega
  rw [this]
  exact ⟨h1, h3⟩

theorem inRen_iff {ren : List (Nat × Bool)} {i : Nat} : inRen ren i = true ↔ ∃ p ∈ ren, p.1 = i := by
  induction ren with
  | nil => exact ⟨fun h => (by cases h), fun ⟨p, hp, _⟩ => (by cases hp)⟩
  | cons p l ih =>
    show bi (Nat.beq p.1 i) true (inRen l i) = true ↔ _
    cases hb : Nat.beq p.1 i with
    | true => exact ⟨fun _ => ⟨p, List.mem_cons_self, Nat.eq_of_beq_eq_true hb⟩, fun _ => rfl⟩
    | false =>
      rw [show bi false true (inRen l i) = inRen l i from rfl, ih]
      constructor
      · rintro ⟨q, h1, h2⟩; exact ⟨q, List.mem_cons_of_mem _ h1, h2⟩
      · rintro ⟨q, h1, h2⟩
        rcases List.mem_cons.1 h1 with e | e
        · subst e; rw [h2] at hb; simp [Nat.beq_refl] at hb
        · exact ⟨q, e, h2⟩

theorem nodupB_ok : ∀ {ren : List (Nat × Bool)}, nodupB ren = true → ∀ i j, i < ren.length → j < ren.length → (ren.getD i (0, false)).1 = (ren.getD j (0, false)).1 → i = j
  | [], _, i, j, hi, _, _ => by simp at hi
  | p :: l, h, i, j, hi, hj, e => by
    change bi (inRen l p.1) false (nodupB l) = true at h
    cases hb : inRen l p.1 with
    | true => rw [hb] at h; cases h
    | false =>
      rw [hb] at h
      have hno : ∀ k, k < l.length → (l.getD k (0, false)).1 ≠ p.1 := fun k hk e => by
        have : inRen l p.1 = true := inRen_iff.2 ⟨l[k], List.getElem_mem hk, by
          rw [← e, List.getD_eq_getElem?_getD, List.getElem?_eq_getElem hk]; rfl⟩
        rw [hb] at this
        cases this
      cases i with
      | zero => cases j with
        | zero => rfl
        | succ j => exact absurd (by simpa using e.symm) (hno j (by simpa using hj))
      | succ i => cases j with
        | zero => exact absurd (by simpa using e) (hno i (by simpa using hi))
        | succ j => exact congrArg (· + 1) (nodupB_ok h i j (by simpa using hi) (by simpa using hj) (by simpa using e))

theorem elderB_ok : ∀ {old : Nat} {ren : List (Nat × Bool)} {i : Nat}, Nat.rec (motive := fun _ => List (Nat × Bool) → Nat → Bool) (fun _ _ => true) (fun _ ih l i => List.rec (motive := fun _ => Bool) false (fun p l _ => bi (Nat.beq p.1 i) (ih l (Nat.succ i)) false) l) old ren i = true → ∀ k, k < old → k < ren.length ∧ (ren.getD k (0, false)).1 = i + k
  | 0, _, _, _, k, hk => by omega
  | old + 1, [], _, h, _, _ => by cases h
  | old + 1, p :: l, i, h, k, hk => by
    change bi (Nat.beq p.1 i) (Nat.rec (motive := fun _ => List (Nat × Bool) → Nat → Bool) (fun _ _ => true) (fun _ ih l i => List.rec (motive := fun _ => Bool) false (fun p l _ => bi (Nat.beq p.1 i) (ih l (Nat.succ i)) false) l) old l (i + 1)) false = true at h
    cases hb : Nat.beq p.1 i with
    | false => rw [hb] at h; cases h
    | true =>
      rw [hb] at h
      cases k with
      | zero => exact ⟨by simp, by simpa using Nat.eq_of_beq_eq_true hb⟩
      | succ k =>
        obtain ⟨h1, h2⟩ := elderB_ok (old := old) (ren := l) (i := i + 1) h k (by omega)
        exact ⟨by simp; omega, by rw [List.getD_cons_succ, h2]; omega⟩

/-- What a renamed slot is. -/
def SlotTo (ren : List (Nat × Bool)) (s s' : Slot) : Prop := (∃ b, s = .blk b ∧ AV.m1L b.cells = true ∧ s' = .blk b) ∨ (∃ b, s = .blk b ∧ AV.refsBL (inRen ren) b.cells = true ∧ s' = .blk { b with cells := AV.mapIL (newId ren) b.cells }) ∨ (s = .dead ∧ s' = .dead)

theorem renSlots_ok {ren : List (Nat × Bool)} {m : Mem} : ∀ {l : List (Nat × Bool)} {k : List Slot → Prop}, renSlots ren m l k → ∃ r, k r ∧ r.length = l.length ∧ ∀ i, i < l.length → SlotTo ren (m.h.hf (l.getD i (0, false)).1) (r.getD i .free)
  | [], k, h => ⟨[], h, rfl, fun i hi => by simp at hi⟩
  | p :: l, k, h => by
    change renSlot ren p (m.h.hf p.1) (fun s => renSlots ren m l fun l => k (s :: l)) at h
    have key : ∃ s, SlotTo ren (m.h.hf p.1) s ∧ renSlots ren m l fun l => k (s :: l) := by
      unfold renSlot at h
      split at h
      · rename_i b hb
        cases hp : p.2 with
        | true =>
          rw [hp] at h
          exact ⟨_, .inl ⟨b, hb, h.1, rfl⟩, h.2⟩
        | false =>
          rw [hp] at h
          simp only [bi_eq, Bool.false_eq_true, if_false] at h
          split at h
          · rename_i hr
            exact ⟨_, .inr (.inl ⟨b, hb, hr, rfl⟩), h⟩
          · exact h.elim
      · rename_i hb
        exact ⟨_, .inr (.inr ⟨hb, rfl⟩), h⟩
      · exact h.elim
    obtain ⟨s, h1, h2⟩ := key
    obtain ⟨r, h3, h4, h5⟩ := renSlots_ok h2
    refine ⟨s :: r, h3, by simp [h4], fun i hi => ?_⟩
    cases i with
    | zero => exact h1
    | succ i => simpa using h5 i (by simpa using hi)

theorem turns_ren {s s' : St} {π : Nat → Nat} {el : Nat → Prop} (hc : ∀ i t L, c.φ0 i t = some L → el i) (q : StRen π el s' s) : Turns GL n c s s' := fun a w φ F rx => by
  refine ⟨renLocs π s'.h φ, F, rx.size, rx.defers, fun k => ?_, rx.gl, rx.rh.ren q.heap, fun i t L e => ?_, rx.since.data, rx.since.lent⟩
  · rcases q.tm k with h | ⟨h1, h2⟩
    · rw [h]; exact .junk
    · have := rx.tm k
      rw [h2] at this
      exact Rep.ren (π := π) (φ := φ) (live := fun j => s'.h j ≠ .free) (fun i hi t => renLocs_live i hi t) _ this h1
  · obtain ⟨h1, h2⟩ := q.old i (hc i t L e)
    rw [renLocs_live i h2, h1]
    exact rx.since.loc i t L e

theorem finK_ok {old : Nat} (hel : ∀ i t L, c.φ0 i t = some L → i < old) {K : AExit → Tr AV → Mem → Prop} {e : AExit} {s : Scr} {t : Tr AV} {m : Mem} (h : finK old K e s t m) {st : St} (hs : st.is t m) :
    ∃ t' m' st', st'.is t' m' ∧ K e t' m' ∧ Turns GL n c st st' := by
  have key : ∀ e, (∀ v, e ≠ .panic v) → (adjK s fun s t m => leafK old (K e) s t m) t m → ∃ t' m' st', st'.is t' m' ∧ K e t' m' ∧ Turns GL n c st st' := by
    intro e _ h
    obtain ⟨s, t, m, st1, hs, h, ht⟩ := adjK_ok (GL := GL) (n := n) (c := c) h hs
    unfold leafK at h
    split at h
    · rename_i live
      exact ⟨_, m, ⟨(finT live t).tf, st1.h, st1.next⟩, ⟨rfl, hs.2⟩, h, ht.trans (turns_le ⟨fun k => by
        rcases finT_le (t := t) live k with h | h
        · exact .inl h
        · exact .inr (by rw [hs.1]; exact h), rfl⟩)⟩
    · rename_i live ren
      rw [bi_eq] at h
      split at h
      · rename_i hb
        simp only [Bool.and_eq_true, List.all_eq_true] at hb
        obtain ⟨⟨b1, b2⟩, b3⟩ := hb
        obtain ⟨r, h1, h2, h3⟩ := renSlots_ok h
        refine ⟨_, mm r, ⟨(finTR ren live t).tf, (mm r).h.hf, 0⟩, ⟨rfl, rfl⟩, h1, ht.trans (turns_ren (el := fun i => i < old) (π := fun j => (ren.getD j (0, false)).1) hel ?_)⟩
        have hnf : ∀ i, i < ren.length → (mm r).h.hf i ≠ .free := fun i hi => by
          rw [mm_hf]
          rcases h3 i hi with ⟨b, _, _, e⟩ | ⟨b, _, _, e⟩ | ⟨_, e⟩ <;> rw [e] <;> exact fun h => by cases h
        have hfr : ∀ i, (mm r).h.hf i ≠ .free → i < ren.length := fun i hi => by
          rcases Nat.lt_or_ge i ren.length with h | h
          · exact h
          · rw [mm_hf, List.getD_eq_getElem?_getD, List.getElem?_eq_none (by omega)] at hi
            exact absurd rfl hi
        have hπ : ∀ i, inRen ren i = true → (ren.getD (newId ren i) (0, false)).1 = i ∧ (mm r).h.hf (newId ren i) ≠ .free := fun i hi => by
          obtain ⟨q1, q2⟩ := newId_ok hi
          exact ⟨q2, hnf _ q1⟩
        refine ⟨⟨fun i => ?_, fun i j hi hj e => nodupB_ok b2 i j (hfr i hi) (hfr j hj) e⟩, fun k => ?_, fun i hi => ?_⟩
        · by_cases hi : i < ren.length
          · show SlotRen _ _ ((mm r).h.hf i) (st1.h (ren.getD i (0, false)).1)
            rw [hs.2, mm_hf]
            rcases h3 i hi with ⟨b, e1, e2, e3⟩ | ⟨b, e1, e2, e3⟩ | ⟨e1, e3⟩
            · rw [e1, e3]
              obtain ⟨q1, q2⟩ := m1L_mapI (π := fun j => (ren.getD j (0, false)).1) (live := fun j => (mm r).h.hf j ≠ .free) b.cells e2
              exact ⟨q2, by rw [q1]⟩
            · rw [e1, e3]
              obtain ⟨q1, q2⟩ := refsBL_mapI (π := fun j => (ren.getD j (0, false)).1) (live := fun j => (mm r).h.hf j ≠ .free) hπ b.cells e2
              exact ⟨q2, by rw [q1]⟩
            · rw [e3]
              trivial
          · have : (mm r).h.hf i = .free := Classical.byContradiction fun h => hi (hfr i h)
            show SlotRen _ _ ((mm r).h.hf i) _
            rw [this]
            trivial
        · have hf := few_le (l := live.map fun k => (k, (t.tf k).mapI (newId ren))) (f := fun k => if live.contains k = true then (t.tf k).mapI (newId ren) else .junk) (fun p hp => by
            obtain ⟨k, hk, rfl⟩ := List.mem_map.1 hp
            simp [hk]) k
          rcases hf with hf | hf
          · exact .inl hf
          · by_cases hk : live.contains k = true
            · right
              simp only [hk, if_true] at hf
              have hkm : k ∈ live := by simpa using hk
              obtain ⟨q1, q2⟩ := refsB_mapI (π := fun j => (ren.getD j (0, false)).1) (live := fun j => (mm r).h.hf j ≠ .free) hπ (t.tf k) (b3 k hkm)
              show ((few (live.map fun k => (k, (t.tf k).mapI (newId ren)))).tf k).refs _ ∧ st1.t k = AV.mapI _ ((few (live.map fun k => (k, (t.tf k).mapI (newId ren)))).tf k)
              rw [hf, hs.1]
              exact ⟨q2, q1.symm⟩
            · left
              simp only [hk, if_false] at hf
              exact hf
        · obtain ⟨q1, q2⟩ := elderB_ok b1 i hi
          exact ⟨by rw [q2]; omega, hnf i q1⟩
      · exact h.elim
    · exact ⟨t, m, st1, hs, h, ht⟩
  cases e with
  | panic v => exact h.elim
  | normal => exact key _ (fun v h => by cases h) h
  | exit id => exact key _ (fun v h => by cases h) h
  | ret => exact key _ (fun v h => by cases h) h

/-- A state that is so meets what is asked for. -/
def Lf (Q : Post) (e : AExit) (t : Tr AV) (m : Mem) : Prop := ∀ st : St, st.is t m → Q e st

theorem awp_sx (hk : KxOk P GL kx) {old : Nat} (hel : ∀ i t L, c.φ0 i t = some L → i < old) {code : Code} {s : Scr} {t : Tr AV} {m : Mem} (h : sxC P GL kx n (P.follows .mixedOrders) code (finK old (Lf Q)) s t m) {st : St} (hs : st.is t m) : AWP P GL n c code st Q :=
  AWP.conv (tells_code hk code _ s t m h st hs) (fun v s' ⟨_, _, _, _, h⟩ => h) fun e s' ⟨s1, t1, m1, h1, h2⟩ => by
    obtain ⟨t2, m2, s2, h3, h4, h5⟩ := finK_ok (GL := GL) (n := n) hel h2 h1
    exact ⟨s2, h4 s2 h3, h5⟩

/-- A loop, by a number that goes down. -/
theorem awp_loop_sx {α : Type} {x : Code} (I : α → Prop) (T : α → Tr AV) (M : α → Mem) (mu : α → Nat) (h : ∀ a st, I a → st.is (T a) (M a) → AWP P GL n c x st (AExit.andThen (fun s' => ∃ a', I a' ∧ mu a' < mu a ∧ s'.is (T a') (M a')) Q))
    {a : α} {st : St} (h0 : I a) (hs : st.is (T a) (M a)) : AWP P GL n c (.loop x) st Q :=
  awp_loop (fun m s => ∃ a, I a ∧ mu a = m ∧ s.is (T a) (M a)) (mu a) ⟨a, h0, rfl, hs⟩ fun m s ⟨a, h1, h2, h3⟩ => (h a s h1 h3).mono fun e s' hp => by
    cases e with
    | normal =>
      obtain ⟨a', k1, k2, k3⟩ := hp
      exact ⟨mu a', by omega, a', k1, rfl, k3⟩
    | exit id => exact hp
    | ret => exact hp
    | panic v => exact hp

/-! ### Functions -/
noncomputable def upsOf (l : List Slot) : Nat → List (Nat × Slot) := List.rec (motive := fun _ => Nat → List (Nat × Slot)) (fun _ => []) (fun s _ ih i => (i, s) :: ih (i + 1)) l

theorem putAll_upsOf : ∀ (l : List Slot) (i : Nat) (h : Heap) (k : Nat), putAll h (upsOf l i) k = if i ≤ k ∧ k < i + l.length then l.getD (k - i) .free else h k := by
  intro l
  induction l with
  | nil => intro i h k; rw [if_neg (by intro h; simp at h; omega)]; rfl
  | cons a l ih =>
    intro i h k
    show putAll (upd h i a) (upsOf l (i + 1)) k = _
    rw [ih]
    by_cases hh : i + 1 ≤ k ∧ k < i + 1 + l.length
    · rw [if_pos hh, if_pos ⟨by omega, by simp; omega⟩]
      obtain ⟨j, rfl⟩ : ∃ j, k = i + 1 + j := ⟨k - (i + 1), by omega⟩
      rw [show i + 1 + j - (i + 1) = j by omega, show i + 1 + j - i = j + 1 by omega]
      rfl
    · rw [if_neg hh]
      by_cases hk : k = i
      · subst hk
        rw [upd_same, if_pos ⟨by omega, by simp⟩]
        simp
      · rw [upd_ne _ _ hk, if_neg (by simp; omega)]

theorem mm_ups (l0 l : List Slot) (hl : l0.length ≤ l.length) : putAll (mm l0).h.hf (upsOf l 0) = (mm l).h.hf := by
  funext k
  rw [putAll_upsOf, mm_hf, mm_hf]
  split
  · rw [Nat.sub_zero]
  · rw [List.getD_eq_getElem?_getD, List.getElem?_eq_none (by omega), List.getD_eq_getElem?_getD, List.getElem?_eq_none (by omega)]

theorem mm_nil : (mm []).h.hf = fun _ => .free := by
  funext k
  rw [mm_hf]
  rfl

theorem args_ts (l : List AV) : (fun k => l.getD k .junk) = (argsTr l 0 .e).tf := by
  funext k
  rw [argsTr_tf]
  by_cases h : 0 ≤ k ∧ k < 0 + l.length
  · rw [if_pos h]
    rfl
  · rw [if_neg h]
    have e : (Tr.e : Tr AV).tf k = .junk := by
      show Option.rec AV.junk (fun a => a) ((Tr.e : Tr AV).get (path k)) = AV.junk
      rw [Tr.get_e]
    rw [e, List.getD_eq_getElem?_getD, List.getElem?_eq_none (by omega)]
    rfl

/-- How a function ends that is handed data and gives data. -/
def FinL (P : Program) (fn : Func) (a : AV) : Post := fun e s => (e = .ret ∨ e = .normal) ∧ ∃ l as u a2, s.h = (mm l).h.hf ∧ resultsA P s.h s.t fn.results.toList = some as ∧ frzD frzN s.h (packOut as) = some (a2, u) ∧ AVle a a2

/-- How a function ends that leaves blocks. -/
def FinH (P : Program) (fn : Func) (l0 : List Slot) (a : AV) (l : List Slot) : Post := fun e s => (e = .ret ∨ e = .normal) ∧ ∃ as, l0.length ≤ l.length ∧ s.h = (mm l).h.hf ∧ resultsA P s.h s.t fn.results.toList = some as ∧ a = packOut as

theorem has_sx {g : FuncId} {fn : Func} {code : Code} {args : List AV} {l0 l : List Slot} {a : AV} (hf : P.funcs[g]? = some fn) (hb : fn.body = some code) (hlen : args.length ≤ fn.ntmps)
    (hw : ∀ c st, (∀ i t L, c.φ0 i t = some L → i < l0.length) → st.is (argsTr args 0 .e) (mm l0) → AWP P GL fn.ntmps c code st (FinH P fn l0 a l)) : Has P GL g args (mm l0).h.hf (.ret a) (upsOf l 0) := by
  refine has_of_awp (next := 0) hf hb hlen fun c => awp_elder fun hel => ?_
  refine AWP.mono (hw c _ (fun i t L e => ?_) ⟨args_ts args, rfl⟩) ?_
  · have := hel i t L e
    simp only [mm_hf] at this
    rcases Nat.lt_or_ge i l0.length with h | h
    · exact h
    · rw [List.getD_eq_getElem?_getD, List.getElem?_eq_none (by omega)] at this
      exact absurd rfl this
  · rintro e s ⟨he, as, h0, h1, h2, h3⟩
    have : Leave P fn (mm l0).h.hf (.ret a) (upsOf l 0) .ret s := ⟨as, a, [], h2, .inr ⟨h3, rfl⟩, rfl, .inl (by
      show s.h = _
      rw [h1, mm_ups _ _ h0])⟩
    rcases he with e | e <;> subst e <;> exact this

theorem hasL_sx {g : FuncId} {fn : Func} {code : Code} {args : List AV} {a : AV} (hf : P.funcs[g]? = some fn) (hb : fn.body = some code) (hlen : args.length ≤ fn.ntmps)
    (hw : ∀ c st, (∀ i t L, c.φ0 i t = some L → i < 0) → st.is (argsTr args 0 .e) (mm []) → AWP P GL fn.ntmps c code st (FinL P fn a)) : HasL P GL g args a := by
  intro F G w vs hgl hdom hargs
  let c1 : Ctx := ⟨w, fun _ _ => none, F, G, fun _ _ => False, []⟩
  have r1 : RelH c1 (fun _ _ => none) F (fun _ => .free) w := by
    refine ⟨?_, ?_, ?_, fun _ _ _ => rfl, fun _ _ e => e, fun _ _ e => .inl e, hdom, Framed.refl _ _, ?_, ?_⟩
    · intro i k e; cases e
    · intro i k t L e; cases e
    · intro i j k l L M _ e; cases e
    · intro i o e; cases e
    · intro i j o p L M _ e; cases e
  have hl := hargs.len
  have hsz : vs.size = args.length := by simpa using hl.symm
  have hent := enter_rel (fn := fn) (next := 0) hlen hgl r1 (hargs.up (by omega))
  refine calls_of_wp hf hb ?_
  have hel : ∀ i t L, (c1.inner (fun _ _ => none) F w).φ0 i t = some L → i < 0 := fun i t L e => by cases e
  refine wp_mono (hw (c1.inner (fun _ _ => none) F w) ⟨fun k => args.getD k .junk, fun _ => .free, 0⟩ hel ⟨args_ts args, mm_nil.symm⟩ _ _ hent) fun e a' w' hp => ?_
  have key : ∀ {x : AExit} {s' : St}, FinL P fn a x s' → Rel GL fn.ntmps (c1.inner (fun _ _ => none) F w) s' a' w' → a'.defers = [] ∧ ∃ v, (results fn a'.tmps).run P w' = .ok v w' ∧ ∃ v1 F', Ending.returned v = .returned v1 ∧ Framed (fun _ _ => False) w w' ∧ (∀ b o, F b o → F' b o) ∧ (∀ b o, F' b o → F b o ∨ w.heap.size ≤ b) ∧ (∀ b o, F' b o → b < w'.heap.size) ∧ Rep (fun _ _ => none) F' (fun _ _ => False) w' 0 a v1 := by
    rintro x s' ⟨_, l, as, u, a2, h1, h2, h3, hle⟩ ⟨φ', F', rx⟩
    obtain ⟨v, e1, e2⟩ := results_run rx h2
    obtain ⟨F2, k1, k2, k3⟩ := frzD_sound h3 rx.rh e2
    have k1' : RelH c1 φ' F2 (putAll s'.h u) w' := r1.outer k1
    refine ⟨rx.defers, v, e1, v, F2, rfl, k1'.frame, fun b o e => (k2.data b o (rx.since.data b o e).1).1, fun b o e => ?_, fun b o e => k1'.fdom b o (.inl e), (hle _ _ _ _ _ _ k3).any0 rfl⟩
    rcases k1'.fnew b o e with e | e | e
    · exact .inl e
    · exact e.elim
    · exact .inr e
  cases e with
  | normal =>
    obtain ⟨s', h1, h2⟩ := hp
    exact key h1 h2
  | ret =>
    obtain ⟨s', h1, h2⟩ := hp
    exact key h1 h2
  | panic ch =>
    obtain ⟨v, h1, s', x, φ', F', h2, rx, hv⟩ := hp
    rcases h2.1 with e | e <;> cases e
  | exit id =>
    obtain ⟨s', h1, h2⟩ := hp
    rcases h1.1 with e | e <;> cases e
  | goto l => exact hp.elim
  | outgrown => exact hp.elim

theorem finL_ret {fn : Func} {a : AV} {t : Tr AV} {l : List Slot} (as : List AV) (u : List (Nat × Slot)) (h1 : resultsA P (mm l).h.hf t.tf fn.results.toList = some as) (h2 : frzD frzN (mm l).h.hf (packOut as) = some (a, u)) : Lf (FinL P fn a) .ret t (mm l) :=
  fun st hs => ⟨.inl rfl, l, as, u, a, hs.2, by rw [hs.1, hs.2]; exact h1, by rw [hs.2]; exact h2, fun _ _ _ _ _ _ h => h⟩

theorem finL_le {fn : Func} {a a2 : AV} {t : Tr AV} {l : List Slot} (hle : AVle a a2) (as : List AV) (u : List (Nat × Slot)) (h1 : resultsA P (mm l).h.hf t.tf fn.results.toList = some as) (h2 : frzD frzN (mm l).h.hf (packOut as) = some (a2, u)) : Lf (FinL P fn a) .ret t (mm l) :=
  fun st hs => ⟨.inl rfl, l, as, u, a2, hs.2, by rw [hs.1, hs.2]; exact h1, by rw [hs.2]; exact h2, hle⟩

theorem AVle.refl (a : AV) : AVle a a := fun _ _ _ _ _ _ h => h
theorem AVle.nils : AVle (.ds {} [] 0) .nils := fun _ _ _ _ _ _ h => by cases h; exact .dsn rfl (by simp)
inductive AVleL : List AV → List AV → Prop
  | nil : AVleL [] []
  | cons {a b l l'} : AVle a b → AVleL l l' → AVleL (a :: l) (b :: l')
theorem repL_le {φ : Locs} {F G : CSet} {w : World} {m : Nat} : ∀ {l l' : List AV}, AVleL l l' → ∀ {vs : List Value}, RepL φ F G w m l' vs → RepL φ F G w m l vs
  | _, _, .nil, _, h => by cases h; exact .nil
  | _, _, .cons h1 h2, _, h => by
    cases h with
    | cons k1 k2 => exact .cons (h1 _ _ _ _ _ _ k1) (repL_le h2 k2)
theorem AVle.tup {l l' : List AV} (h : AVleL l l') : AVle (.tup l) (.tup l') := fun _ _ _ _ _ _ k => by
  cases k with
  | tup k => exact .tup (repL_le h k)
theorem AVle.agg {l l' : List AV} (h : AVleL l l') : AVle (.agg l) (.agg l') := fun _ _ _ _ _ _ k => by
  cases k with
  | agg k => exact .agg (repL_le h k)

theorem finH_ret {fn : Func} {a : AV} {t : Tr AV} {l0 l : List Slot} (as : List AV) (hl : l0.length ≤ l.length) (h1 : resultsA P (mm l).h.hf t.tf fn.results.toList = some as) (h2 : a = packOut as) : Lf (FinH P fn l0 a l) .ret t (mm l) :=
  fun st hs => ⟨.inl rfl, as, hl, hs.2, by rw [hs.1, hs.2]; exact h1, h2⟩
end
noncomputable def kx0 : KX := fun _ _ _ _ => none
theorem kx0_ok {P : Program} {GL : Globs} : KxOk P GL kx0 := fun _ _ _ _ _ _ h => by cases h
end Go.Proofs.YtpiincgiakkljaaGreatDoor
/-
  A function's contract over few blocks, taken to a greater heap with other numbers.
-/
namespace Go.Proofs.YtpiincgiakkljaaGreatDoor
open Go

def Slot.mapI (π : Nat → Nat) : Slot → Slot
  | .blk k => .blk { k with cells := AV.mapIL π k.cells }
  | s => s

/-- A block that may grow, or none any longer. -/
def plainS : Slot → Prop
  | .blk k => k.fixed = false
  | .dead => True
  | _ => False

section
variable {φ φ2 : Locs} {F G : CSet} {w : World} {π : Nat → Nat} {live : Nat → Prop}
mutual
theorem Rep.renB (hφ : ∀ i, live i → ∀ t, φ2 (π i) t = φ i t) : ∀ (a : AV) {v : Value}, Rep φ F G w 2 a v → a.refs live → Rep φ2 F G w 2 (a.mapI π) v
  | .junk, _, _, _ => .junk
  | .bool _, _, h, _ => by cases h; exact .bool
  | .int _ _, _, h, _ => by cases h; exact .int
  | .str _, _, h, _ => by cases h; exact .str
  | .nilp, _, h, _ => by cases h; exact .nilp
  | .nils, _, h, _ => by cases h; exact .nils
  | .nilf, _, h, _ => by cases h; exact .nilf
  | .nili, _, h, _ => by cases h; exact .nili
  | .nilm, _, h, _ => by cases h; exact .nilm
  | .ds _ _ _, _, h, _ => by
    cases h with
    | dsn h1 h2 => exact .dsn h1 h2
    | ds h1 h2 h3 h4 => exact .ds h1 h2 h3 (Cells.any1 h4)
  | .da _ _, _, h, _ => by
    cases h with
    | da h1 h2 => exact .da h1 (Cells.any1 h2)
  | .rs i _ _ _ _, _, h, hl => by
    cases h with
    | rsn h0 hk h1 => exact .rsn h0 (by obtain ⟨t, D, e⟩ := hk; exact ⟨t, D, by rw [hφ i hl]; exact e⟩) h1
    | rs h0 h1 h2 h3 h4 => exact .rs h0 (by rw [hφ i hl]; exact h1) h2 h3 h4
  | .ra i _ _, _, h, hl => by
    cases h with
    | ra h0 h1 => exact .ra h0 (by rw [hφ i hl]; exact h1)
  | .mp i, _, h, hl => by
    cases h with
    | mp h0 h1 => exact .mp h0 (by rw [hφ i hl]; exact h1)
  | .it i, _, h, hl => by
    cases h with
    | it h0 h1 => exact .it h0 (by rw [hφ i hl]; exact h1)
  | .fn _ a b, _, h, hl => by
    cases h with
    | fn h1 h2 => exact .fn (RepL.renB hφ a h1 hl.1) (RepL.renB hφ b h2 hl.2)
  | .iface _ a, _, h, hl => by
    cases h with
    | iface h1 => exact .iface (Rep.renB hφ a h1 hl)
  | .agg l, _, h, hl => by
    cases h with
    | agg h1 => exact .agg (RepL.renB hφ l h1 hl)
  | .tup l, _, h, hl => by
    cases h with
    | tup h1 => exact .tup (RepL.renB hφ l h1 hl)
theorem RepL.renB (hφ : ∀ i, live i → ∀ t, φ2 (π i) t = φ i t) : ∀ (l : List AV) {vs : List Value}, RepL φ F G w 2 l vs → AV.refsL live l → RepL φ2 F G w 2 (AV.mapIL π l) vs
  | [], _, h, _ => by cases h; exact .nil
  | a :: l, _, h, hl => by
    cases h with
    | cons h1 h2 => exact .cons (Rep.renB hφ a h1 hl.1) (RepL.renB hφ l h2 hl.2)
end
end

/-- The blocks that a call changes, with their numbers there. -/
def upsTo (π : Nat → Nat) (l : List Slot) : List (Nat × Slot) := (List.range l.length).map fun k => (π k, (l.getD k .free).mapI π)

theorem putAll_hit {h : Heap} {u : List (Nat × Slot)} {i : Nat} {s : Slot} (hi : (i, s) ∈ u) (hu : ∀ s', (i, s') ∈ u → s' = s) : putAll h u i = s := by
  induction u generalizing h with
  | nil => cases hi
  | cons p u ih =>
    rw [putAll]
    by_cases hin : ∃ s', (i, s') ∈ u
    · obtain ⟨s', hs'⟩ := hin
      have := hu s' (List.mem_cons_of_mem _ hs')
      subst this
      exact ih hs' fun s'' h'' => hu s'' (List.mem_cons_of_mem _ h'')
    · have hno : i ∉ u.map (·.1) := fun hm => by
        obtain ⟨q, h1, h2⟩ := List.mem_map.1 hm
        exact hin ⟨q.2, by rw [← h2]; exact h1⟩
      rw [putAll_out _ _ _ hno]
      rcases List.mem_cons.1 hi with e | e
      · subst e; simp
      · exact absurd ⟨s, e⟩ hin

theorem upsTo_in {π : Nat → Nat} {l : List Slot} (inj : ∀ i j, i < l.length → j < l.length → π i = π j → i = j) (h : Heap) {i : Nat} (hi : i < l.length) : putAll h (upsTo π l) (π i) = (l.getD i .free).mapI π :=
  putAll_hit (List.mem_map.2 ⟨i, List.mem_range.2 hi, rfl⟩) fun s' hs' => by
    obtain ⟨k, hk, e⟩ := List.mem_map.1 hs'
    simp only [Prod.mk.injEq] at e
    have := inj k i (List.mem_range.1 hk) hi e.1
    subst this
    exact e.2.symm

theorem upsTo_out {π : Nat → Nat} {l : List Slot} (h : Heap) {j : Nat} (hj : ∀ i, i < l.length → π i ≠ j) : putAll h (upsTo π l) j = h j :=
  putAll_out _ _ _ fun hm => by
    obtain ⟨q, h1, h2⟩ := List.mem_map.1 hm
    obtain ⟨k, hk, e⟩ := List.mem_map.1 h1
    subst e
    exact hj k (List.mem_range.1 hk) h2

section
variable {P : Program} {GL : Globs}

open Classical in
theorem Has.frame {g : FuncId} {args : List AV} {l0 l : List Slot} {a : AV} (H : Has P GL g args (mm l0).h.hf (.ret a) (upsOf l 0)) (hlen : l0.length ≤ l.length) (hp0 : ∀ i, i < l0.length → plainS (l0.getD i .free)) (hpl : ∀ i, i < l.length → plainS (l.getD i .free))
    (π : Nat → Nat) (inj : ∀ i j, i < l.length → j < l.length → π i = π j → i = j) (ra : AV.refsL (· < l0.length) args) (rl0 : ∀ i k, i < l0.length → l0.getD i .free = .blk k → AV.refsL (· < l0.length) k.cells)
    (rr : a.refs (· < l.length)) (rl : ∀ i k, i < l.length → l.getD i .free = .blk k → AV.refsL (· < l.length) k.cells)
    {h : Heap} (hs : ∀ i, i < l0.length → h (π i) = (l0.getD i .free).mapI π) (hn : ∀ i, l0.length ≤ i → i < l.length → h (π i) = .free) :
    Has P GL g (AV.mapIL π args) h (.ret (a.mapI π)) (upsTo π l) := by
  intro c φ F w vs hgl r hargs
  have h0nf : ∀ i, i < l0.length → (mm l0).h.hf i ≠ .free := fun i hi e => by
    rw [mm_hf] at e
    have := hp0 i hi
    rw [e] at this
    exact this
  have h0fr : ∀ i, (mm l0).h.hf i ≠ .free → i < l0.length := fun i hi => by
    rcases Nat.lt_or_ge i l0.length with h | h
    · exact h
    · rw [mm_hf, List.getD_eq_getElem?_getD, List.getElem?_eq_none (by omega)] at hi
      exact absurd rfl hi
  have hb0 : ∀ i k, (mm l0).h.hf i = .blk k → i < l0.length ∧ l0.getD i .free = .blk k ∧ h (π i) = .blk { k with cells := AV.mapIL π k.cells } := fun i k e => by
    have hi := h0fr i (by rw [e]; exact fun h => by cases h)
    rw [mm_hf] at e
    exact ⟨hi, e, by rw [hs i hi, e]; rfl⟩
  have q : HeapRen π (mm l0).h.hf h := by
    refine ⟨fun i => ?_, fun i j hi hj e => inj i j (Nat.lt_of_lt_of_le (h0fr i hi) hlen) (Nat.lt_of_lt_of_le (h0fr j hj) hlen) e⟩
    by_cases hi : i < l0.length
    · have hpi := hp0 i hi
      rw [mm_hf]
      cases hk : l0.getD i .free with
      | blk k => exact ⟨AV.refsL_imp (fun j hj => h0nf j hj) (rl0 i k hi hk), by rw [hs i hi, hk]; rfl⟩
      | dead => trivial
      | free => trivial
      | obj o => rw [hk] at hpi; exact hpi.elim
    · have : (mm l0).h.hf i = .free := Classical.byContradiction fun hne => hi (h0fr i hne)
      rw [this]
      trivial
  have r1 := r.ren q
  let φ0 := renLocs π (mm l0).h.hf φ
  have hφ0 : ∀ i, i < l0.length → ∀ t, φ0 i t = φ (π i) t := fun i hi t => renLocs_live i (h0nf i hi) t
  let own1 : CSet := fun b o => ∃ i k L, (mm l0).h.hf i = .blk k ∧ φ0 i k.cells.length = some L ∧ Lies c φ0 F w k L ∧ k.reg L b o
  let c1 : Ctx := ⟨w, φ0, F, c.G0, own1, []⟩
  have hown : ∀ b o, own1 b o → c.own0 b o ∨ c.w0.heap.size ≤ b := fun b o ⟨i, k, L, e1, e2, l1, e3⟩ => by
    have hb : b = L.b := e3.1
    subst hb
    exact (l1.own o e3).2.2
  have r2 : RelH c1 φ0 F (mm l0).h.hf w := by
    refine ⟨fun i k e => ?_, r1.top, r1.apart, r1.fresh, fun _ _ e => e, fun _ _ e => .inl e, r1.fdom, Framed.refl _ _, fun i o e => ?_, fun i j o p L M _ e => ?_⟩
    · rcases r1.loc i k e with h | ⟨L, eL, l1⟩
      · exact .inl h
      · refine .inr ⟨L, eL, l1.esz, l1.row, l1.room, l1.cell, fun o ho => ?_, l1.zero, l1.typ⟩
        obtain ⟨g1, g2, g3⟩ := l1.own o ho
        exact ⟨g1, g2, .inl ⟨i, k, L, e, eL, l1, ho⟩⟩
    · have hi := h0fr i (by rw [e]; exact fun h => by cases h)
      have := hp0 i hi
      rw [mm_hf] at e
      rw [e] at this
      exact this.elim
    · have hi := h0fr i (by rw [e]; exact fun h => by cases h)
      have := hp0 i hi
      rw [mm_hf] at e
      rw [e] at this
      exact this.elim
  have ha0 : RepL φ0 F c.G0 w 2 args vs.toList := RepL.ren (π := π) (φ := φ) (live := (· < l0.length)) (fun i hi t => hφ0 i hi t) args hargs ra
  refine (H c1 φ0 F w vs hgl r2 ha0).mono ?_
  rintro e w1 ⟨v, φ1, F1, k0, k1, k2, k3⟩
  rw [mm_ups _ _ hlen] at k1
  let φ2 : Locs := fun j t => if hj : ∃ i, i < l.length ∧ π i = j then φ1 (Classical.choose hj) t else φ j t
  have hin : ∀ i, i < l.length → ∀ t, φ2 (π i) t = φ1 i t := fun i hi t => by
    have hj : ∃ i', i' < l.length ∧ π i' = π i := ⟨i, hi, rfl⟩
    simp only [φ2]
    rw [dif_pos hj]
    have := Classical.choose_spec hj
    rw [inj _ _ this.1 hi this.2]
  have hout : ∀ j, (∀ i, i < l.length → π i ≠ j) → ∀ t, φ2 j t = φ j t := fun j hj t => by
    simp only [φ2]
    rw [dif_neg fun ⟨i, h1, h2⟩ => hj i h1 h2]
  have split : ∀ j, (∃ i, i < l.length ∧ π i = j) ∨ ∀ i, i < l.length → π i ≠ j := fun j => by
    by_cases hj : ∃ i, i < l.length ∧ π i = j
    · exact .inl hj
    · exact .inr fun i h1 h2 => hj ⟨i, h1, h2⟩
  have hEnd : ∀ i, (mm l).h.hf i = l.getD i .free := mm_hf l
  have g : Grow c.G0 φ F w φ2 F1 w1 := by
    refine ⟨fun j t L e => ?_, k2.data, k2.lent⟩
    rcases split j with ⟨i, hi, rfl⟩ | hj
    · rw [hin i hi]
      rcases Nat.lt_or_ge i l0.length with h1 | h1
      · exact k2.loc i t L ((hφ0 i h1 t).trans e)
      · rw [r.fresh _ t (hn i h1 hi)] at e
        cases e
    · rw [hout j hj]
      exact e
  have notown : ∀ j k L, (∀ i, i < l.length → π i ≠ j) → h j = .blk k → φ j k.cells.length = some L → Lies c φ F w k L → ∀ o, ¬ own1 L.b o := by
    rintro j k L hj e1 e2 l1 o ⟨i, k', M, f1, f2, l2, f3⟩
    obtain ⟨g1, g2, g3⟩ := hb0 i k' f1
    have hb : L.b = M.b := f3.1
    rw [hφ0 i g1] at f2
    exact r.apart j (π i) k _ L M (fun e => hj i (Nat.lt_of_lt_of_le g1 hlen) e.symm) e1 g3 e2 (by simpa [mapIL_length] using f2) (by have := l1.room; omega) f3.2.1.1 hb
  have h2in := fun i (hi : i < l.length) => upsTo_in inj h hi
  have blk2 : ∀ i k', i < l.length → (l.getD i .free).mapI π = .blk k' → ∃ k, l.getD i .free = .blk k ∧ k' = { k with cells := AV.mapIL π k.cells } := by
    intro i k' hi e
    cases hl : l.getD i .free with
    | blk k => rw [hl] at e; cases e; exact ⟨k, rfl, rfl⟩
    | _ => rw [hl] at e; cases e
  refine ⟨v, φ2, F1, k0, ⟨?_, ?_, ?_, ?_, ?_, ?_, ?_, ?_, ?_, ?_⟩, g, Rep.renB (live := (· < l.length)) (fun i hi t => hin i hi t) a k3 rr⟩
  · intro j k' e
    rcases split j with ⟨i, hi, rfl⟩ | hj
    · rw [h2in i hi] at e
      obtain ⟨k, e1, rfl⟩ := blk2 i k' hi e
      rcases k1.loc i k (by rw [hEnd]; exact e1) with ⟨n1, n2, n3, n4⟩ | ⟨L, eL, l1⟩
      · exact .inl ⟨by rw [hin i hi]; exact n1, by simp [n2, AV.mapIL], n3, n4⟩
      · refine .inr ⟨L, by rw [hin i hi]; simpa [mapIL_length] using eL, l1.esz, l1.row, by simpa [mapIL_length] using l1.room, fun n x ex => ?_, fun o ho => ?_, l1.zero, l1.typ⟩
        · rw [mapIL_get] at ex
          rw [Option.map_eq_some_iff] at ex
          obtain ⟨y, e2, rfl⟩ := ex
          obtain ⟨u, f1, f2, f3⟩ := l1.cell n y e2
          exact ⟨u, f1, Rep.renB (live := (· < l.length)) (fun i hi t => hin i hi t) y f2 (AV.refsL_mem (rl i k hi e1) y (List.mem_of_getElem? e2)), f3⟩
        · obtain ⟨g1, g2, g3⟩ := l1.own o ⟨ho.1, ho.2.1, fun hf => by simpa [mapIL_length] using ho.2.2 hf⟩
          refine ⟨g1, fun hF => by simpa [mapIL_length] using g2 hF, ?_⟩
          rcases g3 with g3 | g3
          · exact hown _ _ g3
          · exact .inr (Nat.le_trans r.frame.size g3)
    · rw [upsTo_out h hj] at e
      rcases r.loc j k' e with ⟨n1, n2, n3, n4⟩ | ⟨L, eL, l1⟩
      · exact .inl ⟨by rw [hout j hj]; exact n1, n2, n3, n4⟩
      · have hno := notown j k' L hj e eL l1
        refine .inr ⟨L, by rw [hout j hj]; exact eL, l1.esz, k1.frame.shape hno l1.row, l1.room, fun n x ex => ?_, fun o ho => ?_, l1.zero, fun t ht => k1.frame.shapeE hno (l1.typ t ht)⟩
        · obtain ⟨u, f1, f2, f3⟩ := l1.cell n x ex
          exact ⟨u, by rw [k1.frame.cell l1.lt (hno _)]; exact f1, g.rep f2, f3⟩
        · obtain ⟨g1, g2, g3⟩ := l1.own o ho
          refine ⟨g1, fun hF => ?_, g3⟩
          rcases k1.fnew _ _ hF with q | q | q
          · exact g2 q
          · exact absurd q (hno o)
          · have : w.heap.size ≤ L.b := q
            have := l1.lt
            omega
  · intro j k' t L e et
    rcases split j with ⟨i, hi, rfl⟩ | hj
    · rw [h2in i hi] at e
      obtain ⟨k, e1, rfl⟩ := blk2 i k' hi e
      rw [hin i hi] at et
      simpa [mapIL_length] using k1.top i k t L (by rw [hEnd]; exact e1) et
    · rw [upsTo_out h hj] at e
      rw [hout j hj] at et
      exact r.top j k' t L e et
  · have mixed : ∀ i j k k' L M, i < l.length → (∀ i, i < l.length → π i ≠ j) → l.getD i .free = .blk k → h j = .blk k' → φ1 i k.cells.length = some M → φ j k'.cells.length = some L → M.base ≤ M.room → L.base ≤ L.room → M.b ≠ L.b := by
      intro i j k k' L M hi hj e1 e2 f1 f2 g1 g2 hb
      rcases r.loc j k' e2 with ⟨n1, n2, _, _⟩ | ⟨L', eL, l2⟩
      · rw [n2] at f2
        simp [n1] at f2
        subst f2
        simp [Loc.nowhere] at g2
      · rw [f2] at eL
        cases eL
        rcases k1.loc i k (by rw [hEnd]; exact e1) with ⟨n1, n2, _, _⟩ | ⟨M', eM, l1⟩
        · rw [n2] at f1
          simp [n1] at f1
          subst f1
          simp [Loc.nowhere] at g1
        · rw [f1] at eM
          cases eM
          have hfx : k.fixed = false := by
            have := hpl i hi
            rw [e1] at this
            exact this
          obtain ⟨_, _, q⟩ := l1.own M.base ⟨rfl, ⟨g1, Nat.le_refl _⟩, fun h => by rw [hfx] at h; cases h⟩
          rcases q with q | q
          · rw [hb] at q
            exact notown j k' L hj e2 f2 l2 _ q
          · have : w.heap.size ≤ M.b := q
            have := l2.lt
            omega
    intro j1 j2 k1' k2' L M hne e1 e2 f1 f2 g1 g2
    rcases split j1 with ⟨i1, hi1, rfl⟩ | hj1
    · rw [h2in i1 hi1] at e1
      obtain ⟨a1, b1, rfl⟩ := blk2 i1 k1' hi1 e1
      rw [hin i1 hi1] at f1
      simp only [mapIL_length] at f1
      rcases split j2 with ⟨i2, hi2, rfl⟩ | hj2
      · rw [h2in i2 hi2] at e2
        obtain ⟨a2, b2, rfl⟩ := blk2 i2 k2' hi2 e2
        rw [hin i2 hi2] at f2
        simp only [mapIL_length] at f2
        exact k1.apart i1 i2 a1 a2 L M (fun e => hne (by rw [e])) (by rw [hEnd]; exact b1) (by rw [hEnd]; exact b2) f1 f2 g1 g2
      · rw [upsTo_out h hj2] at e2
        rw [hout j2 hj2] at f2
        exact mixed i1 j2 a1 k2' M L hi1 hj2 b1 e2 f1 f2 g1 g2
    · rw [upsTo_out h hj1] at e1
      rw [hout j1 hj1] at f1
      rcases split j2 with ⟨i2, hi2, rfl⟩ | hj2
      · rw [h2in i2 hi2] at e2
        obtain ⟨a2, b2, rfl⟩ := blk2 i2 k2' hi2 e2
        rw [hin i2 hi2] at f2
        simp only [mapIL_length] at f2
        exact (mixed i2 j1 a2 k1' L M hi2 hj1 b2 e1 f2 f1 g2 g1).symm
      · rw [upsTo_out h hj2] at e2
        rw [hout j2 hj2] at f2
        exact r.apart j1 j2 k1' k2' L M hne e1 e2 f1 f2 g1 g2
  · intro j t e
    rcases split j with ⟨i, hi, rfl⟩ | hj
    · rw [h2in i hi] at e
      have := hpl i hi
      cases hl : l.getD i .free with
      | blk k => rw [hl] at e; cases e
      | dead => rw [hl] at e; cases e
      | free => rw [hl] at this; exact this.elim
      | obj o => rw [hl] at this; exact this.elim
    · rw [upsTo_out h hj] at e
      rw [hout j hj]
      exact r.fresh j t e
  · exact fun b o e => (k2.data b o (r.fsub b o e)).1
  · intro b o e
    rcases k1.fnew b o e with q | q | q
    · exact r.fnew b o q
    · exact .inr (hown b o q)
    · exact .inr (.inr (Nat.le_trans r.frame.size q))
  · exact k1.fdom
  · exact r.frame.after k1.frame hown
  · intro j o e
    rcases split j with ⟨i, hi, rfl⟩ | hj
    · rw [h2in i hi] at e
      have := hpl i hi
      cases hl : l.getD i .free with
      | blk k => rw [hl] at e; cases e
      | dead => rw [hl] at e; cases e
      | free => rw [hl] at this; exact this.elim
      | obj o => rw [hl] at this; exact this.elim
    · rw [upsTo_out h hj] at e
      obtain ⟨L, e1, l1⟩ := r.obj j o e
      refine ⟨L, by rw [hout j hj]; exact e1, l1.grow g fun ob ho hi => k1.frame.objSame ho hi ?_⟩
      rintro ⟨i, k', M, f1, f2, l2, f3⟩
      obtain ⟨g1, g2, g3⟩ := hb0 i k' f1
      have hb : L.b = M.b := f3.1
      rcases r.loc (π i) _ g3 with ⟨n1, n2, _, _⟩ | ⟨M', eM, l3⟩
      · rw [hφ0 i g1] at f2
        have hc : k'.cells = [] := mapIL_nil n2
        rw [hc] at f2
        simp [n1] at f2
        subst f2
        have := f3.2.1.1
        simp [Loc.nowhere] at this
      · rw [hφ0 i g1] at f2
        simp only [mapIL_length] at eM
        rw [f2] at eM
        cases eM
        exact l1.ne l3 hb
  · intro j1 j2 o p L M hne e1 e2 f1 f2
    have hob : ∀ j o, putAll h (upsTo π l) j = .obj o → (∀ i, i < l.length → π i ≠ j) ∧ h j = .obj o := by
      intro j o e
      rcases split j with ⟨i, hi, rfl⟩ | hj
      · rw [h2in i hi] at e
        have := hpl i hi
        cases hl : l.getD i .free with
        | blk k => rw [hl] at e; cases e
        | dead => rw [hl] at e; cases e
        | free => rw [hl] at this; exact this.elim
        | obj o => rw [hl] at this; exact this.elim
      · exact ⟨hj, by rw [upsTo_out h hj] at e; exact e⟩
    obtain ⟨a1, b1⟩ := hob j1 o e1
    obtain ⟨a2, b2⟩ := hob j2 p e2
    rw [hout j1 a1] at f1
    rw [hout j2 a2] at f2
    exact r.objap j1 j2 o p L M hne b1 b2 f1 f2
end
end Go.Proofs.YtpiincgiakkljaaGreatDoor
/-
  Calls that are known, with names: lending, tables of contracts.
-/
namespace Go.Proofs.YtpiincgiakkljaaGreatDoor
open Go

noncomputable section
/-- What lending gives: a value, what must be so, the blocks that are looked at. -/
structure LX where
  a : AV
  cs : List Cd
  fp : List Nat

def lnd1 (h : Heap) (a : AV) : LX := match a with
  | .rs i off len tot _ => match h i with
    | .blk k => ⟨.ds { tag := true } ((k.cells.take (off + len * k.esz)).drop off) len, [.d (k.cells.length = tot) inferInstance, .d (off + len * k.esz ≤ tot) inferInstance, .d (AV.m1L ((k.cells.take (off + len * k.esz)).drop off) = true) inferInstance], [i]⟩
    | _ => ⟨a, [.d False inferInstance], []⟩
  | .ra i off tot => match h i with
    | .blk k => ⟨.da true (k.cells.drop off), [.d (k.cells.length = tot) inferInstance, .d (AV.m1L (k.cells.drop off) = true) inferInstance], [i]⟩
    | _ => ⟨a, [.d False inferInstance], []⟩
  | a => ⟨a, [.d (a.m1 = true) inferInstance], []⟩

structure LXs where
  l : List AV
  cs : List Cd
  fp : List Nat

def lndL1 (h : Heap) (l : List AV) : LXs := List.rec (motive := fun _ => LXs) ⟨[], [], []⟩ (fun a _ ih => ⟨(lnd1 h a).a :: ih.l, (lnd1 h a).cs ++ ih.cs, (lnd1 h a).fp ++ ih.fp⟩) l

def lndX (h : Heap) (a : AV) : LX := match a with
  | .agg l => ⟨.agg (lndL1 h l).l, (lndL1 h l).cs, (lndL1 h l).fp⟩
  | a => lnd1 h a

def lndXL (h : Heap) (l : List AV) : LXs := List.rec (motive := fun _ => LXs) ⟨[], [], []⟩ (fun a _ ih => ⟨(lndX h a).a :: ih.l, (lndX h a).cs ++ ih.cs, (lndX h a).fp ++ ih.fp⟩) l

/-- A function that is lent data and gives data. -/
def kL (g0 : Nat) (f : List AV → Option (AV × List Cd)) : KX := fun g as h _ => bi (Nat.beq g g0) (match f (lndXL h as).l with
  | some (a, cs) => some ({ val := a, fp := (lndXL h as).fp }, (lndXL h as).cs ++ cs)
  | none => none) none

def orK (a b : KX) : KX := fun g as h nid => match a g as h nid with
  | some r => some r
  | none => b g as h nid
end

section
variable {P : Program} {GL : Globs}

theorem lnd_m1 {h : Heap} : ∀ (d : Nat) {a : AV}, a.m1 = true → lnd h d a = some a
  | 0, a, hm => by simp [lnd, hm]
  | d + 1, a, hm => by simp [lnd, hm]

theorem mapM_m1 {h : Heap} (d : Nat) : ∀ {l : List AV}, AV.m1L l = true → l.mapM (lnd h d) = some l
  | [], _ => rfl
  | a :: l, hm => by
    simp only [AV.m1L, Bool.and_eq_true] at hm
    simp only [List.mapM_cons, lnd_m1 d hm.1, mapM_m1 d hm.2]
    rfl

theorem lnd1_ok {h h' : Heap} (d : Nat) {a : AV} (hc : ∀ c ∈ (lnd1 h a).cs, c.ok) (hf : ∀ i ∈ (lnd1 h a).fp, h' i = h i) : lnd h' (d + 1) a = some (lnd1 h a).a := by
  unfold lnd1 at hc hf ⊢
  split at hc
  · rename_i i off len tot cap
    split at hc
    · rename_i k hk
      simp only [hk] at hf ⊢
      simp only [List.mem_cons, List.mem_nil_iff, or_false, forall_eq_or_imp, forall_eq, Cd.ok] at hc
      obtain ⟨c1, c2, c3⟩ := hc
      have hk' : h' i = .blk k := by rw [hf i (by simp)]; exact hk
      simp only [lnd, AV.m1, Bool.false_eq_true, if_false, hk']
      rw [if_pos ⟨c1, c2⟩, mapM_m1 d c3]
      rfl
    · exact absurd (hc _ List.mem_cons_self) id
  · rename_i i off tot
    split at hc
    · rename_i k hk
      simp only [hk] at hf ⊢
      simp only [List.mem_cons, List.mem_nil_iff, or_false, forall_eq_or_imp, forall_eq, Cd.ok] at hc
      obtain ⟨c1, c3⟩ := hc
      have hk' : h' i = .blk k := by rw [hf i (by simp)]; exact hk
      simp only [lnd, AV.m1, Bool.false_eq_true, if_false, hk']
      rw [if_pos c1, mapM_m1 d c3]
      rfl
    · exact absurd (hc _ List.mem_cons_self) id
  · exact lnd_m1 _ (hc _ List.mem_cons_self)

theorem lnd1_m1 {h : Heap} {a : AV} (hm : a.m1 = true) : (lnd1 h a).a = a := by
  cases a <;> first | rfl | (simp [AV.m1] at hm)

theorem lndL1_m1 {h : Heap} : ∀ {l : List AV}, AV.m1L l = true → (lndL1 h l).l = l
  | [], _ => rfl
  | a :: l, hm => by
    simp only [AV.m1L, Bool.and_eq_true] at hm
    show (lnd1 h a).a :: (lndL1 h l).l = _
    rw [lnd1_m1 hm.1, lndL1_m1 hm.2]

theorem lndL1_ok {h h' : Heap} (d : Nat) : ∀ {l : List AV}, (∀ c ∈ (lndL1 h l).cs, c.ok) → (∀ i ∈ (lndL1 h l).fp, h' i = h i) → l.mapM (lnd h' (d + 1)) = some (lndL1 h l).l
  | [], _, _ => rfl
  | a :: l, hc, hf => by
    have h1 := lnd1_ok (h := h) (h' := h') d (a := a) (fun c hq => hc c (List.mem_append.2 (.inl hq))) fun i hi => hf i (List.mem_append.2 (.inl hi))
    have h2 := lndL1_ok (h := h) (h' := h') d (l := l) (fun c hq => hc c (List.mem_append.2 (.inr hq))) fun i hi => hf i (List.mem_append.2 (.inr hi))
    simp only [List.mapM_cons, h1, h2]
    rfl

theorem lndX_ok {h h' : Heap} (d : Nat) {a : AV} (hc : ∀ c ∈ (lndX h a).cs, c.ok) (hf : ∀ i ∈ (lndX h a).fp, h' i = h i) : lnd h' (d + 2) a = some (lndX h a).a := by
  cases a with
  | agg l =>
    show lnd h' (d + 2) (.agg l) = some (.agg (lndL1 h l).l)
    unfold lnd
    split
    · rename_i hm
      rw [lndL1_m1 (by simpa [AV.m1] using hm)]
    · have := lndL1_ok (h := h) (h' := h') d (l := l) hc hf
      simp only [this]
      rfl
  | _ => exact lnd1_ok (d + 1) hc hf

theorem lndXL_ok {h h' : Heap} : ∀ {l : List AV}, (∀ c ∈ (lndXL h l).cs, c.ok) → (∀ i ∈ (lndXL h l).fp, h' i = h i) → lendL h' l = some (lndXL h l).l
  | [], _, _ => rfl
  | a :: l, hc, hf => by
    have h1 := lndX_ok (h := h) (h' := h') 10 (a := a) (fun c hq => hc c (List.mem_append.2 (.inl hq))) fun i hi => hf i (List.mem_append.2 (.inl hi))
    have h2 := lndXL_ok (h := h) (h' := h') (l := l) (fun c hq => hc c (List.mem_append.2 (.inr hq))) fun i hi => hf i (List.mem_append.2 (.inr hi))
    have h3 : l.mapM (lnd h' lendD) = some (lndXL h l).l := h2
    have h4 : lnd h' lendD a = some (lndX h a).a := h1
    show (a :: l).mapM (lnd h' lendD) = _
    simp only [List.mapM_cons, h3, h4]
    rfl

theorem kL_ok {g0 : Nat} {f : List AV → Option (AV × List Cd)} (hf : ∀ as a cs, f as = some (a, cs) → (∀ c ∈ cs, c.ok) → HasL P GL g0 as a) : KxOk P GL (kL g0 f) := by
  intro g as h nid e cs he hc _ h' ha
  unfold kL at he
  rw [bi_eq] at he
  split at he
  · rename_i hg
    have := Nat.eq_of_beq_eq_true hg
    subst this
    split at he
    · rename_i a cs' hfa
      cases he
      exact has_of_hasL (hf _ _ _ hfa fun c hq => hc c (List.mem_append.2 (.inr hq))) (lndXL_ok (fun c hq => hc c (List.mem_append.2 (.inl hq))) ha.1)
    · cases he
  · cases he

theorem orK_ok {a b : KX} (ha : KxOk P GL a) (hb : KxOk P GL b) : KxOk P GL (orK a b) := by
  intro g as h nid e cs he hc ho h' hag
  unfold orK at he
  split at he
  · rename_i r hr
    cases he
    exact ha g as h nid e cs hr hc ho h' hag
  · exact hb g as h nid e cs he hc ho h' hag
end
end Go.Proofs.YtpiincgiakkljaaGreatDoor
/-
  Freezing blocks of plain cells whose number is a name.
-/
namespace Go.Proofs.YtpiincgiakkljaaGreatDoor
open Go

theorem frzD_rs {h : Heap} (d : Nat) {i len : Nat} {cap : Option Nat} {cells : List AV} {esz : Nat} {ao fx : Bool} {ty : Option TypeId} (hi : h i = .blk ⟨cells, esz, ao, fx, ty⟩) (hc : ∀ a ∈ cells, a.flat = true) (hl : len * esz = cells.length) :
    ∃ u, frzD (d + 1) h (.rs i 0 len cells.length cap) = some (.ds {} cells len, u) := by
  have h1 : (cells.take (0 + len * esz)).drop 0 = cells := by
    rw [Nat.zero_add, hl, List.take_length, List.drop_zero]
  refine ⟨[(i, .blk ⟨splice cells 0 cells, esz, true, fx, ty⟩)], ?_⟩
  simp only [frzD, hi]
  rw [if_pos ⟨trivial, by omega⟩, h1, frzDL_flat d hc]
  simp only [List.map_nil, List.contains_nil, m0L_flat hc]
  rfl

theorem frzDL_cons {f : Heap → AV → Option (AV × List (Nat × Slot))} {h : Heap} {a a' : AV} {l l' : List AV} {u u' : List (Nat × Slot)} (h1 : f h a = some (a', u)) (h2 : frzDL f (putAll h u) l = some (l', u')) : frzDL f h (a :: l) = some (a' :: l', u ++ u') := by
  simp only [frzDL, h1, h2]

theorem frzD_tup {h : Heap} {l l' : List AV} {u : List (Nat × Slot)} {d : Nat} (h1 : frzDL (frzD d) h l = some (l', u)) : frzD (d + 1) h (.tup l) = some (.tup l', u) := by
  simp only [frzD, h1]
  rfl

theorem flat_vi (l : List Int) (k : IntKind) : ∀ a ∈ l.map (AV.int k), a.flat = true := fun a ha => by
  obtain ⟨x, _, rfl⟩ := List.mem_map.1 ha
  rfl
end Go.Proofs.YtpiincgiakkljaaGreatDoor
