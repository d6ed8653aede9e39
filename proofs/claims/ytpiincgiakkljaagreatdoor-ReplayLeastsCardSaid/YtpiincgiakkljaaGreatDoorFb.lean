/-
  The abstract operations, eighth part: maps, walks over strings.
-/
import Derived.Test.YtpiincgiakkljaaGreatDoorFa
import Derived.Lib.UnsafeStr
import Derived.Lib.MakeNoZero
import Derived.Laws.IdiomStrings
import Derived.KernelRfl
import Derived.Orders
set_option linter.unusedSimpArgs false
set_option linter.unusedVariables false
namespace Go.Proofs.YtpiincgiakkljaaGreatDoor
open Go

def setBlk (w : World) (r : Nat) (o : Obj) : World := { w with heap := w.heap.setIfInBounds r o }

section
variable {P : Program} {c : Ctx} {φ : Locs} {F : CSet} {h : Heap} {w : World}

theorem run_getObj' {r : Nat} {ob : Obj} (hb : w.heap[r]? = some ob) (ho : isObj ob = true) : (getObj r).run P w = .ok ob w := by
  cases ob <;> simp [isObj] at ho <;> simp [getObj, Sem.run, hb]

theorem run_setObj' {r : Nat} {ob : Obj} (ob' : Obj) (hb : w.heap[r]? = some ob) (ho : isObj ob = true) : (setObj r ob').run P w = .ok () (setBlk w r ob') := by
  cases ob <;> simp [isObj] at ho <;> simp [setObj, Sem.run, hb, setBlk]

theorem setBlk_heap {r : Nat} {ob ob' : Obj} (hb : w.heap[r]? = some ob) (k : Nat) : (setBlk w r ob').heap[k]? = if k = r then some ob' else w.heap[k]? := by
  have := lt_of_heap hb
  simp only [setBlk, Array.getElem?_setIfInBounds]
  by_cases hk : k = r
  · subst hk
    simp [this]
  · rw [if_neg (fun e => hk e.symm), if_neg hk]

theorem cell_obj {ob : Obj} {b o : Nat} (hb : w.heap[b]? = some ob) (ho : isObj ob = true) : w.cell? ⟨b, o, none⟩ = none := by
  cases ob <;> simp [isObj] at ho <;> simp [World.cell?, hb]

theorem setBlk_cell {r : Nat} {ob ob' : Obj} (hb : w.heap[r]? = some ob) (ho : isObj ob = true) (ho' : isObj ob' = true) (b o : Nat) : (setBlk w r ob').cell? ⟨b, o, none⟩ = w.cell? ⟨b, o, none⟩ := by
  by_cases hk : b = r
  · subst hk
    rw [cell_obj hb ho, cell_obj (w := setBlk w b ob') (by rw [setBlk_heap hb]; simp) ho']
  · have : (setBlk w r ob').heap[b]? = w.heap[b]? := by rw [setBlk_heap hb, if_neg hk]
    unfold World.cell?
    rw [this]

theorem framed_setBlk {r : Nat} {ob ob' : Obj} (hb : w.heap[r]? = some ob) (ho : isObj ob = true) (ho' : isObj ob' = true) : Framed (fun b o => b = r ∧ o = 0) w (setBlk w r ob') := by
  refine ⟨rfl, rfl, by simp [setBlk], fun k hk => ?_⟩
  by_cases e : k = r
  · subst e
    exact .inr (.inr ⟨ob, ob', hb, by rw [setBlk_heap hb]; simp, ho, ho', rfl, rfl⟩)
  · exact .inl (by rw [setBlk_heap hb, if_neg e])

/-- An object of the frame's own is turned. -/
theorem RelH.setObj (r : RelH c φ F h w) {i : Nat} {o o' : AObj} {L : Loc} {ob' : Obj} (hi : h i = .obj o) (hL : φ i 0 = some L) (l : LiesO c φ F w o L) (hrep : ObjRep φ F c.G0 w o' ob') :
    RelH c φ F (upd h i (.obj o')) (setBlk w L.b ob') ∧ Grow c.G0 φ F w φ F (setBlk w L.b ob') := by
  obtain ⟨ob, hb, hob⟩ := l.there
  have ho := hob.isObj
  have ho' := hrep.isObj
  have hc := setBlk_cell hb ho ho'
  have hg : Grow c.G0 φ F w φ F (setBlk w L.b ob') := ⟨fun _ _ _ e => e, fun b o e => ⟨e, hc b o⟩, fun b o e => ⟨e, hc b o⟩⟩
  have hne : ∀ {k : Blk} {M : Loc}, Lies c φ F w k M → M.b ≠ L.b := fun lk e => l.ne lk e.symm
  have hsub : ∀ j k, upd h i (.obj o') j = .blk k → h j = .blk k := fun j k e => by
    have hj : j ≠ i := fun q => by subst q; simp at e
    rwa [upd_ne _ _ hj] at e
  have hsubo : ∀ j k, j ≠ i → upd h i (.obj o') j = .obj k → h j = .obj k := fun j k hj e => by rwa [upd_ne _ _ hj] at e
  refine ⟨⟨fun j k e => ?_, fun j k t M e => r.top j k t M (hsub j k e), fun j1 j2 k1 k2 M1 M2 hn e1 e2 => r.apart j1 j2 k1 k2 M1 M2 hn (hsub _ _ e1) (hsub _ _ e2), fun j t e => ?_, r.fsub, r.fnew, fun b o e => ?_, ?_, fun j p e => ?_, fun j1 j2 p1 p2 M1 M2 hn e1 e2 f1 f2 => ?_⟩, hg⟩
  · rcases r.loc j k (hsub j k e) with q | ⟨M, f1, lk⟩
    · exact .inl q
    · have hh : (setBlk w L.b ob').heap[M.b]? = w.heap[M.b]? := by rw [setBlk_heap hb, if_neg (hne lk)]
      refine .inr ⟨M, f1, lk.esz, by rw [hh]; exact lk.row, lk.room, fun n a en => ?_, lk.own, lk.zero, fun t ht => by rw [hh]; exact lk.typ t ht⟩
      obtain ⟨v, g1, g2, g3⟩ := lk.cell n a en
      exact ⟨v, by rw [hc]; exact g1, hg.rep g2, g3⟩
  · have hj : j ≠ i := fun q => by subst q; simp at e
    rw [upd_ne _ _ hj] at e
    exact r.fresh j t e
  · exact Nat.lt_of_lt_of_le (r.fdom b o e) (by simp [setBlk])
  · refine r.frame.after (framed_setBlk hb ho ho') ?_
    rintro b o ⟨rfl, rfl⟩
    exact l.own
  · by_cases hj : j = i
    · subst hj
      simp at e
      subst e
      exact ⟨L, hL, ⟨ob', by rw [setBlk_heap hb]; simp, hrep.mono hg⟩, l.own⟩
    · obtain ⟨M, f1, lo⟩ := r.obj j p (hsubo j p hj e)
      refine ⟨M, f1, lo.grow hg fun q eq _ => ?_⟩
      rw [setBlk_heap hb, if_neg (r.objap j i p o M L hj (hsubo j p hj e) hi f1 hL)]
      exact eq
  · have get : ∀ j p, upd h i (.obj o') j = .obj p → ∃ p', h j = .obj p' := fun j p e => by
      by_cases hj : j = i
      · subst hj; exact ⟨o, hi⟩
      · exact ⟨p, hsubo j p hj e⟩
    obtain ⟨q1, g1⟩ := get j1 p1 e1
    obtain ⟨q2, g2⟩ := get j2 p2 e2
    exact r.objap j1 j2 q1 q2 M1 M2 hn g1 g2 f1 f2

/-- A new object of the frame's own. -/
theorem RelH.allocObj (r : RelH c φ F h w) {i : Nat} (hi : h i = .free) {o : AObj} {ob : Obj} (hrep : ObjRep φ F c.G0 w o ob) :
    ∃ φ', φ' i 0 = some ⟨w.heap.size, 0, 0, 0⟩ ∧ RelH c φ' F (upd h i (.obj o)) (w.alloc ob) ∧ Grow c.G0 φ F w φ' F (w.alloc ob) := by
  let L : Loc := ⟨w.heap.size, 0, 0, 0⟩
  let φ' : Locs := fun j t => if j = i ∧ t = 0 then some L else φ j t
  have hφ : ∀ j t, j ≠ i → φ' j t = φ j t := fun j t hj => by simp [φ', hj]
  have hi0 : φ' i 0 = some L := by simp [φ']
  have hg : Grow c.G0 φ F w φ' F (w.alloc ob) := by
    refine ⟨fun j t M ej => ?_, (grow_alloc φ F w _ r.fdom).data, (grow_alloc φ F w _ r.fdom).lent⟩
    have : j ≠ i := by
      rintro rfl
      rw [r.fresh _ _ hi] at ej
      cases ej
    rw [hφ j t this, ej]
  have hsub : ∀ j k, upd h i (.obj o) j = .blk k → j ≠ i ∧ h j = .blk k := fun j k e => by
    have hj : j ≠ i := fun q => by subst q; simp at e
    rw [upd_ne _ _ hj] at e
    exact ⟨hj, e⟩
  have hsubo : ∀ j k, j ≠ i → upd h i (.obj o) j = .obj k → h j = .obj k := fun j k hj e => by rwa [upd_ne _ _ hj] at e
  refine ⟨φ', hi0, ⟨fun j k e => ?_, fun j k t M e et => ?_, fun j1 j2 k1 k2 M1 M2 hn e1 e2 f1 f2 => ?_, fun j t e => ?_, r.fsub, r.fnew, fun b o e => ?_, r.frame.trans (framed_alloc _ _ _), fun j p e => ?_, fun j1 j2 p1 p2 M1 M2 hn e1 e2 f1 f2 => ?_⟩, hg⟩
  · obtain ⟨hj, e⟩ := hsub j k e
    rcases r.loc j k e with ⟨q1, q2⟩ | ⟨M, f1, lk⟩
    · exact .inl ⟨by rw [hφ j 0 hj]; exact q1, q2⟩
    · refine .inr ⟨M, by rw [hφ j _ hj]; exact f1, lk.esz, ?_, lk.room, fun n a en => ?_, lk.own, lk.zero, fun t ht => ?_⟩
      · rw [heap_alloc w _ _ lk.lt]; exact lk.row
      · obtain ⟨v, g1, g2, g3⟩ := lk.cell n a en
        exact ⟨v, by rw [cell_alloc w _ _ _ lk.lt]; exact g1, hg.rep g2, g3⟩
      · rw [heap_alloc w _ _ lk.lt]; exact lk.typ t ht
  · obtain ⟨hj, e⟩ := hsub j k e
    rw [hφ j t hj] at et
    exact r.top j k t M e et
  · obtain ⟨h1, e1⟩ := hsub j1 k1 e1
    obtain ⟨h2, e2⟩ := hsub j2 k2 e2
    rw [hφ _ _ h1] at f1
    rw [hφ _ _ h2] at f2
    exact r.apart j1 j2 k1 k2 M1 M2 hn e1 e2 f1 f2
  · have hj : j ≠ i := fun q => by subst q; simp at e
    rw [upd_ne _ _ hj] at e
    rw [hφ j t hj]
    exact r.fresh j t e
  · have := r.fdom b o e
    rw [alloc_size]
    omega
  · by_cases hj : j = i
    · subst hj
      simp at e
      subst e
      exact ⟨L, hi0, ⟨ob, alloc_new w ob, hrep.mono hg⟩, .inr r.frame.size⟩
    · obtain ⟨M, f1, lo⟩ := r.obj j p (hsubo j p hj e)
      exact ⟨M, by rw [hφ j 0 hj]; exact f1, lo.grow hg fun q e _ => by rw [heap_alloc w _ _ lo.lt]; exact e⟩
  · by_cases h1 : j1 = i
    · subst h1
      rw [hi0] at f1
      cases f1
      have h2 : j2 ≠ j1 := fun e => hn e.symm
      obtain ⟨M, g1, lo⟩ := r.obj j2 p2 (hsubo j2 p2 h2 e2)
      rw [hφ j2 0 h2, g1] at f2
      cases f2
      have := lo.lt
      exact fun e => by simp [L] at e; omega
    · rw [hφ j1 0 h1] at f1
      by_cases h2 : j2 = i
      · subst h2
        rw [hi0] at f2
        cases f2
        obtain ⟨M, g1, lo⟩ := r.obj j1 p1 (hsubo j1 p1 h1 e1)
        rw [g1] at f1
        cases f1
        have := lo.lt
        exact fun e => by simp [L] at e; omega
      · rw [hφ j2 0 h2] at f2
        exact r.objap j1 j2 p1 p2 M1 M2 hn (hsubo _ _ h1 e1) (hsubo _ _ h2 e2) f1 f2
end
end Go.Proofs.YtpiincgiakkljaaGreatDoor
/-
  The abstract operations, ninth part: what maps, walks over strings, capacities, assertions of types give.
-/
namespace Go.Proofs.YtpiincgiakkljaaGreatDoor
open Go

section
variable {P : Program} {c : Ctx} {φ : Locs} {F : CSet} {h : Heap} {w : World}

def AV.vals : List AV → Option (List Value)
  | [] => some []
  | a :: l => match a.val, AV.vals l with
    | some v, some vs => some (v :: vs)
    | _, _ => none

theorem RepL.vals {G : CSet} {m : Nat} : ∀ {as vs us}, RepL φ F G w m as vs → AV.vals as = some us → vs = us
  | _, _, _, .nil, e => by simpa [AV.vals] using e
  | _, _, _, .cons (a := a) (as := as) h k, e => by
    cases h1 : a.val with
    | none => simp [AV.vals, h1] at e
    | some x => cases h2 : AV.vals as with
      | none => simp [AV.vals, h1, h2] at e
      | some y =>
        simp [AV.vals, h1, h2] at e
        rw [h.val h1, k.vals h2, ← e]

/-- A type's zero value. -/
def zeroV (P : Program) (t : TypeId) : Option Value := (P.info? t).bind (·.zero)

theorem zeroV_run {t : TypeId} {v : Value} (hz : zeroV P t = some v) (w : World) : (zeroValue t).run P w = .ok v w := by
  unfold zeroV at hz
  cases hi : P.info? t with
  | none => simp [hi] at hz
  | some i =>
    simp [hi] at hz
    simp [zeroValue, typeInfo, hi, hz]

/-- Where a key stands. -/
def posNow (d : TypeDesc) (k : Value) : List Value → Nat → Option (Option Nat)
  | [], _ => some none
  | x :: l, i => match Instr.sameNow d k x with
    | some true => some (some i)
    | some false => posNow d k l (i + 1)
    | none => none

theorem findNow_pos {d : TypeDesc} {k : Value} : ∀ {es : List MapEntry} {i : Nat} {r : Option Nat}, posNow d k (es.map (·.key)) i = some r →
    (r = none → Instr.findNow d k es i = some none) ∧ ∀ j, r = some j → i ≤ j ∧ ∃ e, es[j - i]? = some e ∧ Instr.findNow d k es i = some (some (j, e.val)) := by
  intro es
  induction es with
  | nil =>
    intro i r e
    simp [posNow] at e
    subst e
    exact ⟨fun _ => rfl, fun j q => by cases q⟩
  | cons x l ih =>
    intro i r e
    simp only [List.map_cons, posNow] at e
    unfold Instr.findNow
    split at e
    · rename_i hs
      cases e
      refine ⟨(fun q => by cases q), fun j q => ?_⟩
      cases q
      exact ⟨Nat.le_refl _, x, by simp, by rw [hs]⟩
    · rename_i hs
      obtain ⟨h1, h2⟩ := ih e
      rw [hs]
      refine ⟨h1, fun j q => ?_⟩
      obtain ⟨g1, e', g2, g3⟩ := h2 j q
      refine ⟨by omega, e', ?_, g3⟩
      rw [show j - i = (j - (i + 1)) + 1 by omega]
      simpa using g2
    · cases e

def okPack (ok : Bool) (v : AV) (b : Bool) : AV := bif ok then .tup [v, .bool b] else v

theorem rep_okPack {G : CSet} {m : Nat} {a : AV} {v : Value} (ok b : Bool) (hv : Rep φ F G w m a v) : Rep φ F G w m (okPack ok a b) (if ok = true then .tuple #[v, .bool b] else v) := by
  cases ok
  · simpa [okPack] using hv
  · simpa [okPack] using Rep.tup (.cons hv (.cons .bool .nil))

def lookupA (P : Program) (h : Heap) (t : TypeId) (x ix : AV) (ok : Bool) : Option Eff :=
  match P.underlying t, ix.val with
  | some (.map kt et), some vk => match P.underlying kt, zeroV P et with
    | some d, some zv => match x with
      | .nilm => if (pureRun P (Instr.checkKey true 10000 kt vk)).isSome = true then some { val := okPack ok (constAV zv) false } else none
      | .mp i => match h i with
        | .obj (.map es _) => match AV.vals (es.map (·.1)) with
          | some ks => if (pureRun P (Instr.checkKey es.isEmpty 10000 kt vk)).isSome = true then (match posNow d vk ks 0 with
              | some none => some { val := okPack ok (constAV zv) false, fp := [i] }
              | some (some j) => (es[j]?).map fun e => { val := okPack ok e.2.1 true, fp := [i] }
              | none => none) else none
          | none => none
        | _ => none
      | _ => none
    | _, _ => none
  | _, _ => none

theorem pureRun_unit {s : Sem Unit} (hs : (pureRun P s).isSome = true) (w : World) : s.run P w = .ok () w := by
  obtain ⟨u, hu⟩ := Option.isSome_iff_exists.1 hs
  exact pureRun_run hu w

theorem RelH.getMap (r : RelH c φ F h w) {i : Nat} {es : List (AV × AV × Nat)} {clk : Nat} {v : Value} (hi : h i = .obj (.map es clk)) (hv : Rep φ F c.G0 w 2 (.mp i) v) :
    ∃ L es', φ i 0 = some L ∧ v = .map (some L.b) ∧ LiesO c φ F w (.map es clk) L ∧ w.heap[L.b]? = some (.map es' clk) ∧ RepL φ F c.G0 w 2 (es.map (·.1)) (es'.toList.map (·.key)) ∧
      RepL φ F c.G0 w 2 (es.map (·.2.1)) (es'.toList.map (·.val)) ∧ es'.toList.map (·.born) = es.map (·.2.2) := by
  cases hv with
  | mp g1 g2 =>
    obtain ⟨L, e1, l⟩ := r.obj i _ hi
    rw [g2] at e1
    cases e1
    obtain ⟨ob, f1, f2⟩ := l.there
    cases ob with
    | map es' clk' =>
      obtain ⟨q1, q2, q3, q4⟩ := f2
      subst q1
      exact ⟨_, es', g2, rfl, l, f1, q2, q3, q4⟩
    | _ => exact f2.elim

theorem lookupA_sound (r : RelH c φ F h w) {t : TypeId} {x ix : AV} {vx vi : Value} {ok : Bool} {e : Eff} (he : lookupA P h t x ix ok = some e) (hx : Rep φ F c.G0 w 2 x vx) (hi : Rep φ F c.G0 w 2 ix vi) :
    OpOk P c φ F h w (Instr.lookup t vx vi ok) e := by
  unfold lookupA at he
  split at he
  · rename_i kt et vk hu hvk
    have hvi := hi.val hvk
    subst hvi
    split at he
    · rename_i d zv hd hz
      split at he
      · split at he
        · rename_i hck
          cases he
          cases hx
          have h1 := pureRun_unit hck w
          refine OpOk.same r (u := if ok = true then .tuple #[zv, .bool false] else zv) ?_ rfl (rep_okPack _ _ (rep_constAV _))
          simp [Instr.lookup, run_underlying hu, h1, Instr.findKey, run_underlying hd, Instr.findNow, zeroV_run hz]
        · cases he
      · rename_i i
        split at he
        · rename_i es clk hh
          split at he
          · rename_i ks hks
            split at he
            · rename_i hck
              obtain ⟨L, es', e1, e2, e3, e4, e5, e6, e7⟩ := r.getMap hh hx
              subst e2
              have hk := e5.vals hks
              have h1 := pureRun_unit hck w
              have hem : es'.isEmpty = es.isEmpty := by
                have := e5.len
                simp at this
                cases es with
                | nil => simp at this; simp [Array.eq_empty_of_size_eq_zero this.symm]
                | cons a l => simp at this; have hz : es'.size ≠ 0 := (by omega); simp [Array.isEmpty, hz]
              have hg : (getObj L.b).run P w = .ok (.map es' clk) w := run_getObj' e4 rfl
              split at he
              · rename_i hp
                cases he
                rw [← hk] at hp
                have := (findNow_pos hp).1 rfl
                refine OpOk.same r (u := if ok = true then .tuple #[zv, .bool false] else zv) ?_ rfl (rep_okPack _ _ (rep_constAV _))
                simp [Instr.lookup, run_underlying hu, hg, hem, h1, Instr.findKey, run_underlying hd, this, zeroV_run hz]
              · rename_i j hp
                rw [Option.map_eq_some_iff] at he
                obtain ⟨en, hen, rfl⟩ := he
                rw [← hk] at hp
                obtain ⟨_, e', f1, f2⟩ := (findNow_pos hp).2 j rfl
                have hval : Rep φ F c.G0 w 2 en.2.1 e'.val := by
                  obtain ⟨v, g1, g2⟩ := e6.get j en.2.1 (by simp [hen])
                  simp at f1
                  simp [f1] at g1
                  subst g1
                  exact g2
                refine OpOk.same r (u := if ok = true then .tuple #[e'.val, .bool true] else e'.val) ?_ rfl (rep_okPack _ _ hval)
                simp [Instr.lookup, run_underlying hu, hg, hem, h1, Instr.findKey, run_underlying hd, f2]
              · cases he
            · cases he
          · cases he
        · cases he
      · cases he
    · cases he
  · cases he

def mapUpdateA (P : Program) (h : Heap) (t : TypeId) (m k x : AV) : Option Eff :=
  match P.underlying t, k.val, m with
  | some (.map kt _), some vk, .mp i => match P.underlying kt, h i with
    | some d, .obj (.map es clk) => match AV.vals (es.map (·.1)) with
      | some ks => if (pureRun P (Instr.checkKey false 10000 kt vk)).isSome = true then (match posNow d vk ks 0 with
          | some none => some { ups := [(i, .obj (.map (es ++ [(k, x, clk)]) (clk + 1)))], fp := [i] }
          | some (some j) => match ks[j]?, es[j]? with
            | some old, some e => if Instr.sameBits 10000 old vk = true then some { ups := [(i, .obj (.map (es.set j (k, x, e.2.2)) clk))], fp := [i] } else none
            | _, _ => none
          | none => none) else none
      | none => none
    | _, _ => none
  | _, _, _ => none

theorem RepL.set' {G : CSet} {m : Nat} : ∀ {as : List AV} {vs : List Value} (j : Nat) {a : AV} {v : Value}, RepL φ F G w m as vs → Rep φ F G w m a v → RepL φ F G w m (as.set j a) (vs.set j v)
  | _, _, _, _, _, .nil, _ => .nil
  | _, _, 0, _, _, .cons _ k, q => .cons q k
  | _, _, j + 1, _, _, .cons h k, q => .cons h (RepL.set' j k q)

theorem mapUpdateA_sound (r : RelH c φ F h w) {t : TypeId} {m k x : AV} {vm vk' vx : Value} {e : Eff} (he : mapUpdateA P h t m k x = some e) (hm : Rep φ F c.G0 w 2 m vm) (hk : Rep φ F c.G0 w 2 k vk') (hx : Rep φ F c.G0 w 2 x vx) :
    e.val = .junk ∧ ∃ w' φ' F', (Instr.mapUpdate t vm vk' vx).run P w = .ok () w' ∧ RelH c φ' F' (putAll h e.ups) w' ∧ Grow c.G0 φ F w φ' F' w' := by
  unfold mapUpdateA at he
  split at he
  · rename_i kt et vk i hu hvk
    have hkv := hk.val hvk
    subst hkv
    split at he
    · rename_i d es clk hd hh
      split at he
      · rename_i ks hks
        split at he
        · rename_i hck
          obtain ⟨L, es', e1, e2, e3, e4, e5, e6, e7⟩ := r.getMap hh hm
          subst e2
          have hkk := e5.vals hks
          have h1 := pureRun_unit hck w
          have hg : (getObj L.b).run P w = .ok (.map es' clk) w := run_getObj' e4 rfl
          have hs : ∀ ob, (Go.setObj L.b ob).run P w = .ok () (setBlk w L.b ob) := fun ob => run_setObj' ob e4 rfl
          split at he
          · rename_i hp
            cases he
            rw [← hkk] at hp
            have hf := (findNow_pos hp).1 rfl
            have hrep : ObjRep φ F c.G0 w (.map (es ++ [(k, x, clk)]) (clk + 1)) (.map (es'.push { key := vk', val := vx, born := clk }) (clk + 1)) :=
              ⟨rfl, by simpa using e5.append (.cons hk .nil), by simpa using e6.append (.cons hx .nil), by simp [e7]⟩
            obtain ⟨g1, g2⟩ := r.setObj hh e1 e3 hrep
            refine ⟨rfl, _, φ, F, ?_, g1, g2⟩
            simp [Instr.mapUpdate, run_underlying hu, hg, h1, Instr.findKey, run_underlying hd, hf, hs]
          · rename_i j hp
            split at he
            · rename_i old en ho hen
              split at he
              · rename_i hsb
                cases he
                rw [← hkk] at hp
                obtain ⟨_, e', f1, f2⟩ := (findNow_pos hp).2 j rfl
                rw [Nat.sub_zero] at f1
                have f1' : es'[j]? = some e' := by simpa using f1
                have hold : e'.key = old := by
                  rw [← hkk] at ho
                  simp [f1] at ho
                  exact ho
                have hborn : e'.born = en.2.2 := by
                  have := congrArg (fun l => l[j]?) e7
                  simp [f1, hen] at this
                  exact this
                have hlst : (es'.modify j fun q => { key := vk', val := vx, born := q.born }).toList = es'.toList.set j { key := vk', val := vx, born := e'.born } := by
                  apply List.ext_getElem?
                  intro n
                  rw [Array.getElem?_toList, Array.getElem?_modify, List.getElem?_set]
                  split
                  · rename_i hn
                    subst hn
                    have : j < es'.toList.length := by
                      rcases Nat.lt_or_ge j es'.toList.length with q | q
                      · exact q
                      · simp [List.getElem?_eq_none q] at f1
                    rw [if_pos this]
                    simp [f1']
                  · simp
                have hrep : ObjRep φ F c.G0 w (.map (es.set j (k, x, en.2.2)) clk) (.map (es'.modify j fun q => { key := vk', val := vx, born := q.born }) clk) := by
                  refine ⟨rfl, ?_, ?_, ?_⟩
                  · rw [hlst, List.map_set, List.map_set]
                    exact e5.set' j hk
                  · rw [hlst, List.map_set, List.map_set]
                    exact e6.set' j hx
                  · rw [hlst, List.map_set, List.map_set, hborn, e7]
                obtain ⟨g1, g2⟩ := r.setObj hh e1 e3 hrep
                refine ⟨rfl, _, φ, F, ?_, g1, g2⟩
                simp [Instr.mapUpdate, run_underlying hu, hg, h1, Instr.findKey, run_underlying hd, f2, f1', Instr.keyThatStays, hold, hsb, hs]
              · cases he
            · cases he
          · cases he
        · cases he
      · cases he
    · cases he
  · cases he

def makeMapA (h : Heap) (nid : Nat) : Option Eff :=
  match h nid with
  | .free => some { val := .mp nid, ups := [(nid, .obj (.map [] 0))] }
  | _ => none

theorem makeMapA_sound (r : RelH c φ F h w) {nid : Nat} {t : TypeId} {e : Eff} (he : makeMapA h nid = some e) : OpOk P c φ F h w (Instr.makeMap t none) e := by
  unfold makeMapA at he
  split at he
  · rename_i hf
    cases he
    obtain ⟨φ', g1, g2, g3⟩ := r.allocObj hf (o := .map [] 0) (ob := .map #[] 0) ⟨rfl, .nil, .nil, rfl⟩
    exact ⟨.map (some w.heap.size), w.alloc (.map #[] 0), φ', F, by simp [Instr.makeMap], g2, g3, Rep.mp (L := ⟨w.heap.size, 0, 0, 0⟩) (Nat.le_refl _) g1⟩
  · cases he

/-- A walk over a string. -/
def rangeA (P : Program) (h : Heap) (nid : Nat) (t : TypeId) (x : AV) : Option Eff :=
  match P.underlying t, x, h nid with
  | some .string, .str s, .free => some { val := .it nid, ups := [(nid, .obj (.iter s 0))] }
  | _, _, _ => none

theorem rangeA_sound (r : RelH c φ F h w) {nid : Nat} {t : TypeId} {x : AV} {vx : Value} {e : Eff} (he : rangeA P h nid t x = some e) (hx : Rep φ F c.G0 w 2 x vx) : OpOk P c φ F h w (Instr.range t vx) e := by
  unfold rangeA at he
  split at he
  · rename_i s hu hf
    cases he
    cases hx
    obtain ⟨φ', g1, g2, g3⟩ := r.allocObj hf (o := .iter s 0) (ob := .stringIter s 0) ⟨rfl, rfl⟩
    exact ⟨.pointer (some ⟨w.heap.size, 0, none⟩), w.alloc (.stringIter s 0), φ', F, by simp [Instr.range, run_underlying hu], g2, g3, Rep.it (L := ⟨w.heap.size, 0, 0, 0⟩) (Nat.le_refl _) g1⟩
  · cases he

def nextA (h : Heap) (it : AV) (isString : Bool) : Option Eff :=
  match it, isString with
  | .it i, true => match h i with
    | .obj (.iter s pos) => if pos < s.size then some { val := .tup [.bool true, .int .i64 pos, .int .i32 (Utf8.decode s pos).1], ups := [(i, .obj (.iter s (pos + (Utf8.decode s pos).2)))], fp := [i] } else some { val := .tup [.bool false], fp := [i] }
    | _ => none
  | _, _ => none

theorem nextA_sound (r : RelH c φ F h w) {it : AV} {vi : Value} {b : Bool} {t : TypeId} {e : Eff} (he : nextA h it b = some e) (hi : Rep φ F c.G0 w 2 it vi) : OpOk P c φ F h w (Instr.next vi b t) e := by
  unfold nextA at he
  split at he
  · rename_i i
    split at he
    · rename_i s pos hh
      cases hi with
      | it g1 g2 =>
        obtain ⟨L, e1, l⟩ := r.obj i _ hh
        rw [g2] at e1
        cases e1
        obtain ⟨ob, f1, f2⟩ := l.there
        cases ob with
        | stringIter s' p' =>
          obtain ⟨rfl, rfl⟩ := f2
          have hg := run_getObj' (P := P) f1 rfl
          split at he
          · rename_i hlt
            cases he
            obtain ⟨q1, q2⟩ := r.setObj hh g2 l (o' := .iter s' (p' + (Utf8.decode s' p').2)) (ob' := .stringIter s' (p' + (Utf8.decode s' p').2)) ⟨rfl, rfl⟩
            have hs := run_setObj' (P := P) (.stringIter s' (p' + (Utf8.decode s' p').2)) f1 rfl
            refine ⟨.tuple #[.bool true, goInt p', .int .i32 (Utf8.decode s' p').1], _, φ, F, ?_, q1, q2, ?_⟩
            · simp [Instr.next, hg, hlt, hs]
            · exact .tup (vs := [.bool true, goInt p', .int .i32 (Utf8.decode s' p').1]) (.cons .bool (.cons .int (.cons .int .nil)))
          · rename_i hlt
            cases he
            refine OpOk.same r (u := .tuple #[.bool false]) ?_ rfl (.tup (vs := [.bool false]) (.cons .bool .nil))
            simp [Instr.next, hg, hlt]
        | _ => exact f2.elim
    · cases he
  · cases he

/-- A value behind an interface, of a type that is no interface. -/
def assertA (P : Program) (x : AV) (t : TypeId) (ok : Bool) : Option Eff :=
  match P.underlying t, x with
  | some (.interface _), _ => none
  | some _, .iface t' v => if t' = t then some { val := okPack ok v true } else bif ok then (zeroV P t).map fun z => { val := .tup [constAV z, .bool false] } else none
  | some _, .nili => bif ok then (zeroV P t).map fun z => { val := .tup [constAV z, .bool false] } else none
  | _, _ => none

theorem assertA_sound (r : RelH c φ F h w) {x : AV} {vx : Value} {xt t : TypeId} {ok : Bool} {e : Eff} (he : assertA P x t ok = some e) (hx : Rep φ F c.G0 w 2 x vx) : OpOk P c φ F h w (Instr.typeAssert vx xt t ok) e := by
  unfold assertA at he
  split at he
  · cases he
  · rename_i d t' v hni hu
    cases hx with
    | iface hv =>
      rename_i u
      split at he
      · rename_i ht
        cases he
        subst ht
        refine OpOk.same r (u := if ok = true then .tuple #[u, .bool true] else u) ?_ rfl (rep_okPack _ _ hv)
        cases d <;> first | exact absurd rfl (hni _) | simp [Instr.typeAssert, run_underlying hu]
      · rename_i ht
        cases ok with
        | false => cases he
        | true =>
          simp only [cond_true, Option.map_eq_some_iff] at he
          obtain ⟨z, hz, rfl⟩ := he
          refine OpOk.same r (u := .tuple #[z, .bool false]) ?_ rfl (.tup (vs := [z, .bool false]) (.cons (rep_constAV z) (.cons .bool .nil)))
          cases d <;> first | exact absurd rfl (hni _) | simp [Instr.typeAssert, run_underlying hu, ht, zeroV_run hz]
  · rename_i d hni hu
    cases hx
    cases ok with
    | false => cases he
    | true =>
      simp only [cond_true, Option.map_eq_some_iff] at he
      obtain ⟨z, hz, rfl⟩ := he
      refine OpOk.same r (u := .tuple #[z, .bool false]) ?_ rfl (.tup (vs := [z, .bool false]) (.cons (rep_constAV z) (.cons .bool .nil)))
      cases d <;> first | exact absurd rfl (hni _) | simp [Instr.typeAssert, run_underlying hu, zeroV_run hz]
  · cases he

/-- A slice's capacity. -/
def capA (P : Program) (ts : List TypeId) (args : List AV) : Option Eff :=
  match ts, args with
  | [t], [x] => match P.underlying t, x with
    | some (.slice _), .ds hd _ _ => hd.cap.bind fun c => if hd.nn = true then some { val := .int .i64 c } else none
    | some (.slice _), .rs _ _ _ _ (some c) => some { val := .int .i64 c }
    | some (.slice _), .nils => some { val := .int .i64 0 }
    | _, _ => none
  | _, _ => none

theorem capA_sound (r : RelH c φ F h w) {ts : Array TypeId} {ty : TypeId} {args : List AV} {vs : Array Value} {e : Eff} (he : capA P ts.toList args = some e) (hx : RepL φ F c.G0 w 2 args vs.toList) : OpOk P c φ F h w (Builtin.cap_ ts ty vs) e := by
  unfold capA at he
  split at he
  · rename_i t x hts
    have hts' : ts = #[t] := Array.ext' (by simpa using hts)
    subst hts'
    generalize hvs : vs.toList = l at hx
    cases hx with
    | cons h1 h2 =>
      cases h2
      rename_i v
      have hv' : vs = #[v] := Array.ext' (by simpa using hvs)
      subst hv'
      split at he
      · rename_i hd cs n hu
        rw [Option.bind_eq_some_iff] at he
        obtain ⟨c', hc, he⟩ := he
        split at he
        · rename_i hnn
          cases he
          cases h1 with
          | dsn q1 q2 => rw [hnn] at q1; cases q1
          | ds q1 q2 q3 q4 =>
            have := q2 _ hc
            subst this
            exact OpOk.same r (u := goInt _) (by simp [Builtin.cap_, run_underlying hu]) rfl .int
        · cases he
      · rename_i c' hu
        cases he
        cases h1 with
        | rsn q1 q2 q3 =>
          have := q3 _ rfl
          subst this
          exact OpOk.same r (u := goInt _) (by simp [Builtin.cap_, run_underlying hu]) rfl .int
        | rs q1 q2 q3 q4 q5 =>
          have := q3 _ rfl
          subst this
          exact OpOk.same r (u := goInt _) (by simp [Builtin.cap_, run_underlying hu]) rfl .int
      · rename_i hu
        cases he
        cases h1
        exact OpOk.same r (u := goInt 0) (by simp [Builtin.cap_, run_underlying hu, goInt]) rfl .int
      · cases he
  · cases he
end
end Go.Proofs.YtpiincgiakkljaaGreatDoor
/-
  The abstract operations, tenth part: strings that share bytes, pointers that pass through unsafe.Pointer, two functions without bodies.
-/
namespace Go.Proofs.YtpiincgiakkljaaGreatDoor
open Go

section
variable {P : Program} {c : Ctx} {φ : Locs} {F : CSet} {h : Heap} {w : World}

/-! ### Where variables lie -/
theorem rowAt_mono {fits : TypeId → Bool} {off n : Nat} : ∀ {d : Nat} {e : TypeId} {a b : Nat}, a ≤ b → rowAt P fits d e a off n = true → rowAt P fits d e b off n = true := by
  intro d e a b hab
  cases d with
  | zero => intro h; simp [rowAt] at h
  | succ d =>
    intro h
    by_cases hs : P.cellsOf e = 0
    · simp [rowAt, hs] at h
    · simp only [rowAt, hs, if_false, Bool.or_eq_true, Bool.and_eq_true, decide_eq_true_eq] at h ⊢
      rcases h with h | h
      · exact .inl ⟨⟨h.1.1, by omega⟩, h.2⟩
      · exact .inr ⟨by omega, h.2⟩

theorem liesAt_mono {e : TypeId} {a b off : Nat} (hab : a ≤ b) : ∀ {d : Nat} {u : TypeId} {n : Nat}, liesAt P d e a off u n = true → liesAt P d e b off u n = true := by
  intro d
  induction d with
  | zero => intro u n h; simp [liesAt] at h
  | succ d ih =>
    intro u n h
    unfold liesAt at h ⊢
    rw [Bool.or_eq_true] at h ⊢
    rcases h with h | h
    · exact .inl (rowAt_mono hab h)
    · refine .inr ?_
      split at h
      · rename_i hu
        exact ih h
      · cases h

/-- Does a pointer into a block lead to so many variables of a type? -/
def liesB (P : Program) (k : Blk) (off : Nat) (u : TypeId) (n : Nat) : Bool :=
  match k.ty with
  | some e => liesAt P P.depth e (k.cells.length / P.cellsOf e) off u n
  | none => false

theorem liesB_sound {k : Blk} {L : Loc} {off : Nat} {u : TypeId} {n : Nat} (hb : liesB P k off u n = true) (l : Lies c φ F w k L) : (variablesAt ⟨L.b, L.base + off, none⟩ u n).run P w = .ok true w := by
  unfold liesB at hb
  split at hb
  · rename_i e he
    obtain ⟨cs, h1, h2⟩ := l.typ e he
    have hz := l.zero
    have hm := liesAt_mono (b := cs.size / P.cellsOf e) (Nat.div_le_div_right (by have := l.room; omega)) hb
    simp [variablesAt, shape, Sem.run, World.shape?, h1, hz, hm, program]
  · cases hb

/-! ### Bytes that a string shares -/
def byteA (n : Int) : Option UInt8 := let x := n.toNat.toUInt8; if Int.ofNat x.toNat = n then some x else none

def bytesA : List AV → Option (List UInt8)
  | [] => some []
  | .int .u8 n :: l => match byteA n, bytesA l with
    | some x, some l => some (x :: l)
    | _, _ => none
  | _ => none

theorem bytesA_get {b : Nat} : ∀ {cs : List AV} {l : List UInt8} {o : Nat}, bytesA cs = some l → (∀ (i : Nat) (x : AV), cs[i]? = some x → ∃ u, w.cell? ⟨b, o + i, none⟩ = some u ∧ Rep φ F c.G0 w 2 x u) →
    ∀ (j : Nat) (x : UInt8), l[j]? = some x → w.cell? ⟨b, o + j, none⟩ = some (.int .u8 x.toNat) := by
  intro cs
  induction cs with
  | nil => intro l o e _ j n q; simp [bytesA] at e; subst e; simp at q
  | cons x cs ih =>
    intro l o e hc j n q
    unfold bytesA at e
    split at e
    · cases ‹_ :: _ = []›
    · rename_i m cs' hx
      cases hx
      split at e
      · rename_i y l' h1 h2
        cases e
        have hy : Int.ofNat y.toNat = m := by
          simp only [byteA] at h1
          split at h1
          · cases h1
            assumption
          · cases h1
        cases j with
        | zero =>
          simp at q
          subst q
          obtain ⟨u, f1, f2⟩ := hc 0 _ rfl
          cases f2
          rw [f1, ← hy]
          rfl
        | succ j =>
          have := ih (o := o + 1) h2 (fun i y hy => by
            have := hc (i + 1) y (by simpa using hy)
            rwa [show o + (i + 1) = o + 1 + i by omega] at this) j n (by simpa using q)
          rwa [show o + (j + 1) = o + 1 + j by omega]
      · cases e
    · cases e

theorem bytesA_len : ∀ {cs : List AV} {l : List UInt8}, bytesA cs = some l → l.length = cs.length := by
  intro cs
  induction cs with
  | nil => intro l e; simp [bytesA] at e; subst e; rfl
  | cons x cs ih =>
    intro l e
    unfold bytesA at e
    split at e
    · cases ‹_ :: _ = []›
    · rename_i hx
      cases hx
      split at e
      · rename_i y l' h1 h2
        cases e
        simp [ih h2]
      · cases e
    · cases e

theorem freeze_heap {b o n : Nat} {cs : Array Value} {e : TypeId} {fr : Nat × Nat} (hb : w.heap[b]? = some (.cells cs e fr)) (hn : n ≠ 0) : ∃ fr', (w.freeze ⟨b, o, none⟩ n).heap[b]? = some (.cells cs e fr') := by
  obtain ⟨lo, hi⟩ := fr
  unfold World.freeze
  rw [if_neg hn]
  simp [Array.getElem?_modify, hb]

theorem freeze_other {b o n k : Nat} (hk : k ≠ b) : (w.freeze ⟨b, o, none⟩ n).heap[k]? = w.heap[k]? := by
  unfold World.freeze
  split
  · rfl
  · have : ¬ b = k := fun e => hk e.symm
    simp [Array.getElem?_modify, this]

theorem freeze_cell {b o n : Nat} (b' o' : Nat) : (w.freeze ⟨b, o, none⟩ n).cell? ⟨b', o', none⟩ = w.cell? ⟨b', o', none⟩ := by
  by_cases hn : n = 0
  · unfold World.freeze; rw [if_pos hn]
  by_cases hb : b' = b
  · subst hb
    cases hx : w.heap[b']? with
    | none =>
      have : (w.freeze ⟨b', o, none⟩ n).heap[b']? = none := by
        unfold World.freeze
        rw [if_neg hn]
        simp [Array.getElem?_modify, hx]
      simp [World.cell?, hx, this]
    | some ob =>
      cases ob with
      | cells cs e fr =>
        obtain ⟨fr', h1⟩ := freeze_heap (o := o) hx hn
        simp [World.cell?, hx, h1]
      | _ =>
        have : (w.freeze ⟨b', o, none⟩ n).heap[b']? = w.heap[b']? := by
          unfold World.freeze
          rw [if_neg hn]
          simp [Array.getElem?_modify, hx]
        simp [World.cell?, hx, this]
  · have := freeze_other (w := w) (b := b) (o := o) (n := n) hb
    unfold World.cell?
    rw [this]

/-- Bytes of a block are shared by a string: the block is used no longer. -/
theorem RelH.share (r : RelH c φ F h w) {i : Nat} {k : Blk} {L : Loc} {off n : Nat} (hi : h i = .blk k) (hL : φ i k.cells.length = some L) (l : Lies c φ F w k L) (hn : n ≠ 0) (hoff : off + n ≤ k.cells.length) :
    RelH c φ F (upd h i .dead) (w.freeze ⟨L.b, L.base + off, none⟩ n) ∧ Grow c.G0 φ F w φ F (w.freeze ⟨L.b, L.base + off, none⟩ n) := by
  obtain ⟨cs, e, hrow, hroom⟩ := l.row
  obtain ⟨fr', hfr⟩ := freeze_heap (o := L.base + off) hrow hn
  have hc := fun b o => freeze_cell (w := w) (b := L.b) (o := L.base + off) (n := n) b o
  have hg : Grow c.G0 φ F w φ F (w.freeze ⟨L.b, L.base + off, none⟩ n) := ⟨fun _ _ _ e => e, fun b o e => ⟨e, hc b o⟩, fun b o e => ⟨e, hc b o⟩⟩
  have hsz : (w.freeze ⟨L.b, L.base + off, none⟩ n).heap.size = w.heap.size := by
    unfold World.freeze
    split <;> simp
  have hfm : Framed (fun b o => b = L.b ∧ o = L.base + off) w (w.freeze ⟨L.b, L.base + off, none⟩ n) := by
    refine ⟨by unfold World.freeze; split <;> rfl, by unfold World.freeze; split <;> rfl, by omega, fun q hq => ?_⟩
    by_cases hb : q = L.b
    · subst hb
      exact .inr (.inl ⟨cs, cs, e, _, fr', hrow, hfr, rfl, fun _ _ => rfl, .inr ⟨L.base + off, rfl, rfl⟩⟩)
    · exact .inl (freeze_other hb)
  have rd := r.dead i (by rw [hi]; simp)
  have hne : ∀ j l' M, j ≠ i → h j = .blk l' → φ j l'.cells.length = some M → Lies c φ F w l' M → M.b ≠ L.b := fun j l' M hj e f lj => r.apart j i l' k M L hj e hi f hL (by have := lj.room; omega) (by have := l.room; omega)
  refine ⟨⟨fun j l' ej => ?_, rd.top, rd.apart, rd.fresh, r.fsub, r.fnew, fun b o e => by rw [hsz]; exact r.fdom b o e, ?_, fun j o ej => ?_, rd.objap⟩, hg⟩
  · have hj : j ≠ i := fun q => by subst q; simp at ej
    rw [upd_ne _ _ hj] at ej
    rcases r.loc j l' ej with q | ⟨M, f1, lj⟩
    · exact .inl q
    · have hh : (w.freeze ⟨L.b, L.base + off, none⟩ n).heap[M.b]? = w.heap[M.b]? := freeze_other (hne j l' M hj ej f1 lj)
      refine .inr ⟨M, f1, lj.esz, by rw [hh]; exact lj.row, lj.room, fun m a em => ?_, lj.own, lj.zero, fun t ht => by rw [hh]; exact lj.typ t ht⟩
      obtain ⟨v, g1, g2, g3⟩ := lj.cell m a em
      exact ⟨v, by rw [hc]; exact g1, hg.rep g2, g3⟩
  · refine r.frame.after hfm ?_
    rintro b o ⟨rfl, rfl⟩
    exact (l.own _ ⟨rfl, by have := l.room; omega, fun _ => by omega⟩).2.2
  · have hj : j ≠ i := fun q => by subst q; simp at ej
    rw [upd_ne _ _ hj] at ej
    obtain ⟨M, f1, lo⟩ := r.obj j o ej
    exact ⟨M, f1, lo.grow hg fun ob eo _ => by rw [freeze_other (lo.ne l)]; exact eo⟩

def unsafeStringA (P : Program) (h : Heap) (ts : List TypeId) (args : List AV) : Option Eff :=
  match ts, args with
  | [pt, _], [.ra i 0 tot, .int .i64 n] => match P.underlying pt, h i with
    | some (.pointer u), .blk k => if 0 < n ∧ n ≤ 9223372036854775807 ∧ k.cells.length = tot ∧ n.toNat ≤ tot ∧ k.ty = some u ∧ P.cellsOf u = 1 then
        (bytesA (k.cells.take n.toNat)).map fun l => { val := .str ⟨l.toArray⟩, ups := [(i, .dead)], fp := [i] } else none
    | _, _ => none
  | [_, _], [.nilp, .int .i64 n] => if n = 0 then some { val := .str .empty } else none
  | _, _ => none

theorem unsafeStringA_sound (r : RelH c φ F h w) {ts : Array TypeId} {ty : TypeId} {args : List AV} {vs : Array Value} {e : Eff} (he : unsafeStringA P h ts.toList args = some e) (hx : RepL φ F c.G0 w 2 args vs.toList) :
    OpOk P c φ F h w (Builtin.unsafeString_ ts ty vs) e := by
  unfold unsafeStringA at he
  split at he
  · rename_i pt it i tot n hts
    have hts0 : ts = #[pt, it] := Array.ext' (by simpa using hts)
    subst hts0
    generalize hvs : vs.toList = l at hx
    cases hx with
    | cons h1 h2 => cases h2 with
      | cons h2 h3 =>
        cases h3
        cases h2
        cases h1 with
        | ra g1 g2 =>
          rename_i L
          have hv' : vs = #[.pointer (some ⟨L.b, L.base + 0, none⟩), .int .i64 n] := Array.ext' (by simpa using hvs)
          subst hv'
          split at he
          · rename_i u k hu hk
            split at he
            · rename_i hcond
              obtain ⟨c1, c2, c3, c4, c5, c6⟩ := hcond
              rw [Option.map_eq_some_iff] at he
              obtain ⟨bs, hbs, rfl⟩ := he
              have lies : Lies c φ F w k L := by
                rcases r.loc i k hk with ⟨q1, q2, _⟩ | ⟨M, q1, q2⟩
                · rw [q2] at c3
                  simp at c3
                  omega
                · rw [c3, g2] at q1
                  cases q1
                  exact q2
              have hL : φ i k.cells.length = some L := by rw [c3]; exact g2
              have hlen : bs.length = n.toNat := by rw [bytesA_len hbs]; simp; omega
              have hz := lies.zero
              obtain ⟨cs, t1, t2⟩ := lies.typ u c5
              have hcell := bytesA_get (c := c) (φ := φ) (F := F) (w := w) (b := L.b) (o := 0) hbs fun j x ej => by
                rw [List.getElem?_take] at ej
                split at ej
                · obtain ⟨v, f1, f2, _⟩ := lies.cell _ _ ej
                  exact ⟨v, by rw [← hz]; exact f1, f2⟩
                · cases ej
              have hn : (bs.length : Int) = n := by omega
              have hroom := lies.room
              have hrun := Lib.run_unsafeString_row (P := P) (w := w) pt it ty u hu c6 L.b cs.size (by simp [World.shape?, t1]) bs (fun e => by rw [e] at hlen; simp at hlen; omega) (by omega) (by omega) (fun j x q => by
                rw [addr_add]
                exact hcell j x q)
              obtain ⟨q1, q2⟩ := r.share (off := 0) (n := n.toNat) hk hL lies (by omega) (by omega)
              rw [hn, hlen] at hrun
              simp only [hz, Nat.add_zero] at q1 q2 ⊢
              exact ⟨.string ⟨bs.toArray⟩, _, φ, F, hrun, q1, q2, .str⟩
            · cases he
          · cases he
  · rename_i pt it n hts
    split at he
    · rename_i hn
      subst hn
      cases he
      have hts0 : ts = #[pt, it] := Array.ext' (by simpa using hts)
      subst hts0
      generalize hvs : vs.toList = l at hx
      cases hx with
      | cons h1 h2 => cases h2 with
        | cons h2 h3 =>
          cases h3
          cases h2
          cases h1
          have hv' : vs = #[.pointer none, .int .i64 0] := Array.ext' (by simpa using hvs)
          subst hv'
          exact OpOk.same r (u := .string .empty) (Lib.run_unsafeString_none _ _ _ _ _) rfl .str
    · cases he
  · cases he

def sliceDataA (args : List AV) : Option Eff :=
  match args with
  | [.rs i off len tot _] => if len ≠ 0 then some { val := .ra i off tot } else none
  | [.nils] => some { val := .nilp }
  | _ => none

theorem sliceDataA_sound (r : RelH c φ F h w) {ts : Array TypeId} {ty : TypeId} {args : List AV} {vs : Array Value} {e : Eff} (he : sliceDataA args = some e) (hx : RepL φ F c.G0 w 2 args vs.toList) :
    OpOk P c φ F h w (Builtin.unsafeSliceData_ ts ty vs) e := by
  unfold sliceDataA at he
  split at he
  · split at he
    · rename_i hl
      cases he
      generalize hvs : vs.toList = l at hx
      cases hx with
      | cons h1 h2 =>
        cases h2
        rename_i v
        have hv' : vs = #[v] := Array.ext' (by simpa using hvs)
        subst hv'
        cases h1 with
        | rsn => exact absurd rfl hl
        | rs g1 g2 g3 g4 g5 => exact OpOk.same r (Lib.run_unsafeSliceData_row _ _ _ _ _ _ (by omega)) rfl (.ra g1 g2)
    · cases he
  · cases he
    generalize hvs : vs.toList = l at hx
    cases hx with
    | cons h1 h2 =>
      cases h2
      cases h1
      have hv' : vs = #[.slice none 0 0] := Array.ext' (by simpa using hvs)
      subst hv'
      exact OpOk.same r (u := .pointer none) (Lib.run_unsafeSliceData_nil _ _ _ _ _) rfl .nilp
  · cases he

/-- A pointer through unsafe.Pointer. -/
def ptrConvA (P : Program) (h : Heap) (s d : TypeId) (x : AV) : Option Eff :=
  match P.underlying s, P.underlying d, x with
  | some (.pointer t), some .unsafePointer, .ra i off tot => match h i, sizeT P t with
    | .blk k, some n => if k.cells.length = tot ∧ off < tot ∧ n ≠ 0 then some { val := .ra i off tot, fp := [i] } else none
    | _, _ => none
  | some .unsafePointer, some (.pointer u), .ra i off tot => match h i, sizeT P u with
    | .blk k, some _ => if k.cells.length = tot ∧ off < tot ∧ liesB P k off u 1 = true then some { val := .ra i off tot, fp := [i] } else none
    | _, _ => none
  | _, _, _ => none

theorem RelH.behind' (r : RelH c φ F h w) {i off tot : Nat} {k : Blk} {v : Value} (hk : h i = .blk k) (ht : k.cells.length = tot) (ho : off < tot) (hv : Rep φ F c.G0 w 2 (.ra i off tot) v) :
    ∃ L, v = .pointer (some ⟨L.b, L.base + off, none⟩) ∧ Lies c φ F w k L := by
  cases hv with
  | ra g1 g2 =>
    rcases r.loc i k hk with ⟨q1, q2, _⟩ | ⟨M, q1, q2⟩
    · rw [q2] at ht
      simp at ht
      omega
    · rw [ht, g2] at q1
      cases q1
      exact ⟨_, rfl, q2⟩

theorem ptrConvA_sound (r : RelH c φ F h w) {s d : TypeId} {x : AV} {vx : Value} {e : Eff} (he : ptrConvA P h s d x = some e) (hx : Rep φ F c.G0 w 2 x vx) : OpOk P c φ F h w (convert s d vx) e := by
  unfold ptrConvA at he
  split at he
  · rename_i t i off tot hs hd
    split at he
    · rename_i k n hk hn
      split at he
      · rename_i hc
        obtain ⟨c1, c2, c3⟩ := hc
        cases he
        obtain ⟨L, rfl, l⟩ := r.behind' hk c1 c2 hx
        obtain ⟨cs, e, hrow, hroom⟩ := l.row
        refine OpOk.same r ?_ rfl hx
        have hsh : ∀ b, b = L.b → (shape b).run P w = .ok (some (e, cs.size)) w := fun b hb => by subst hb; simp [shape, Sem.run, World.shape?, hrow]
        have h1 : (Conv.seenAt ⟨L.b, L.base + off, none⟩).run P w = .ok ⟨L.b, L.base + off, none⟩ w := by simp [Conv.seenAt, viewAt, hsh]
        have h2 : (cellsIn L.b).run P w = .ok (some cs.size) w := by simp [cellsIn, hsh]
        have h3 : ¬ cs.size ≤ L.base + off := by have := l.room; omega
        simp [convert, run_underlying hs, run_underlying hd, Conv.unsafePointer, h1, h2, run_sizeOf hn, c3, h3]
      · cases he
    · cases he
  · rename_i u i off tot hs hd
    split at he
    · rename_i k q hk hz
      split at he
      · rename_i hc
        obtain ⟨c1, c2, c3⟩ := hc
        cases he
        obtain ⟨L, rfl, l⟩ := r.behind' hk c1 c2 hx
        obtain ⟨cs, e, hrow, hroom⟩ := l.row
        refine OpOk.same r ?_ rfl hx
        have hsh : ∀ b, b = L.b → (shape b).run P w = .ok (some (e, cs.size)) w := fun b hb => by subst hb; simp [shape, Sem.run, World.shape?, hrow]
        have h1 : (Conv.seenAt ⟨L.b, L.base + off, none⟩).run P w = .ok ⟨L.b, L.base + off, none⟩ w := by simp [Conv.seenAt, viewAt, hsh]
        have h2 := liesB_sound c3 l
        by_cases hq : q = 0
        · simp [convert, run_underlying hs, run_underlying hd, Conv.unsafePointer, h1, h2, run_sizeOf hz, hq]
        · simp [convert, run_underlying hs, run_underlying hd, Conv.unsafePointer, h1, h2, run_sizeOf hz, hq]
      · cases he
    · cases he
  · cases he
end
end Go.Proofs.YtpiincgiakkljaaGreatDoor
/-
  The abstract operations, eleventh part: two functions without bodies.
-/
namespace Go.Proofs.YtpiincgiakkljaaGreatDoor
open Go

theorem noEsc_next1 : (Extern.allNextRows.lookup "internal/abi.NoEscape").isNone = true := by kernel_rfl
theorem noEsc_next0 : (Extern.allNextRows.lookup "").isNone = true := by kernel_rfl
theorem noEsc_gen : (Extern.allGenericRows.lookup "internal/abi.NoEscape").isNone = true := by kernel_rfl
theorem noEsc_typed : (Extern.allTypedRows.lookup "internal/abi.NoEscape").isNone = true := by kernel_rfl
theorem noEsc_row : Extern.allRows.lookup "internal/abi.NoEscape" = some Extern.AbiNoEscape.same := by kernel_rfl
theorem mkNo_next1 : (Extern.allNextRows.lookup "internal/bytealg.MakeNoZero").isNone = true := by kernel_rfl
theorem mkNo_gen : (Extern.allGenericRows.lookup "internal/bytealg.MakeNoZero").isNone = true := by kernel_rfl
theorem mkNo_row : Extern.allTypedRows.lookup "internal/bytealg.MakeNoZero" = some Extern.BytealgMakeNoZero.makeNoZero := by kernel_rfl

section
variable {P : Program} {c : Ctx} {φ : Locs} {F : CSet} {h : Heap} {w : World}

theorem isNone_eq {α : Type} {o : Option α} (h : o.isNone = true) : o = none := by cases o <;> simp_all

theorem run_mk (m : Mark) : (mark m).run P w = .ok () w := by simp [mark, Sem.run]

theorem run_noEsc {g : FuncId} {fn : Func} (hf : P.funcs[g]? = some fn) (hb : fn.body.isNone = true) (ho : fn.origin = "") (hn : fn.name = "internal/abi.NoEscape") (v : Value) :
    (callFunc g #[v]).run P w = .ok (.value v) w := by
  have e1 : Extern.findNext fn = none := by
    unfold Extern.findNext
    simp [hn, ho, isNone_eq noEsc_next1, isNone_eq noEsc_next0]
  have e2 : Extern.find fn = some Extern.AbiNoEscape.same := by
    unfold Extern.find
    simp [hn, isNone_eq noEsc_gen, isNone_eq noEsc_typed, noEsc_row]
  have e3n : ¬ fn.name = "runtime.NumGoroutine" := by rw [hn]; decide
  have hbn := isNone_eq hb
  have e4 : Extern.AbiNoEscape.same #[v] = pure v := rfl
  simp [callFunc, hf, e3n, hbn, e1, e2, e4, run_mk]

/-- Bytes of a string, a string of bytes. -/
def convBytesA (P : Program) (h : Heap) (s d : TypeId) (x : AV) : Option Eff :=
  match P.underlying s, P.underlying d with
  | some .string, some (.slice e) => match P.underlying e, x with
    | some (.int .u8), .str b => some { val := .ds { nn := true } (b.data.toList.map fun c => .int .u8 c.toNat) b.size }
    | _, _ => none
  | some (.slice e), some .string => match P.underlying e, x with
    | some (.int .u8), .ds _ cs len => if cs.length = len then (bytesA cs).map fun l => { val := .str ⟨l.toArray⟩ } else none
    | some (.int .u8), .rs i off len tot _ => match h i with
      | .blk k => if k.cells.length = tot ∧ off + len ≤ tot then (bytesA ((k.cells.drop off).take len)).map fun l => { val := .str ⟨l.toArray⟩, fp := [i] } else none
      | _ => none
    | some (.int .u8), .nils => some { val := .str .empty }
    | _, _ => none
  | _, _ => none

theorem repL_u8 {G : CSet} {m : Nat} : ∀ (l : List UInt8), RepL φ F G w m (l.map fun c => .int .u8 c.toNat) (l.map fun c => .int .u8 c.toNat)
  | [] => .nil
  | _ :: l => .cons .int (repL_u8 l)

theorem m0L_u8 : ∀ (l : List UInt8), AV.m0L (l.map fun c => .int .u8 c.toNat) = true
  | [] => rfl
  | _ :: l => by simp only [List.map_cons, AV.m0L, AV.m0, m0L_u8 l, Bool.and_self]

theorem run_stringNil {s d e : TypeId} (hs : P.underlying s = some (.slice e)) (he : P.underlying e = some (.int .u8)) (hd : P.underlying d = some .string) (w : World) : (convert s d (.slice none 0 0)).run P w = .ok (.string .empty) w := by
  simp [convert, run_underlying hs, run_underlying hd, run_underlying he, Conv.bytesToString]

theorem run_stringOf {s d e : TypeId} (hs : P.underlying s = some (.slice e)) (he : P.underlying e = some (.int .u8)) (hd : P.underlying d = some .string) {b o cap : Nat} {cs : List AV} {l : List UInt8} (hl : bytesA cs = some l)
    (hc : ∀ (i : Nat) (x : AV), cs[i]? = some x → ∃ u, w.cell? ⟨b, o + i, none⟩ = some u ∧ Rep φ F c.G0 w 2 x u) : (convert s d (.slice (some ⟨b, o, none⟩) cs.length cap)).run P w = .ok (.string ⟨l.toArray⟩) w := by
  have hg := bytesA_get (c := c) (φ := φ) (F := F) (w := w) (b := b) (o := o) hl hc
  have := run_convert_bytes_back (P := P) w s d e ⟨b, o, none⟩ cap l hs he hd (fun j hj => by
    rw [addr_add]
    exact hg j l[j] (List.getElem?_eq_getElem hj))
  rwa [bytesA_len hl] at this

theorem convBytesA_sound (r : RelH c φ F h w) {s d : TypeId} {x : AV} {vx : Value} {e : Eff} (he : convBytesA P h s d x = some e) (hx : Rep φ F c.G0 w 2 x vx) : OpOk P c φ F h w (convert s d vx) e := by
  unfold convBytesA at he
  split at he
  · rename_i el hs hd
    split at he
    · rename_i b he8
      cases he
      cases hx
      have hrun := run_bytes_of_string (P := P) w s d el b hs hd he8
      have rd : RelH c φ F h w.drew := r.drew
      have hgd : Grow c.G0 φ F w φ F w.drew := ⟨fun _ _ _ e => e, fun _ _ e => ⟨e, rfl⟩, fun _ _ e => ⟨e, rfl⟩⟩
      have hrow : bytesRow b (grownCap w b.size 0 el) = ((b.data.toList.map fun c => Value.int .u8 c.toNat) ++ List.replicate (grownCap w b.size 0 el - b.size) (Value.int .u8 0)).toArray := by
        apply Array.ext'
        simp [bytesRow]
      rw [hrow] at hrun
      obtain ⟨F', g1, g2, g3⟩ := rd.allocData (m := 2) (cs := b.data.toList.map fun c => .int .u8 c.toNat) (vs := b.data.toList.map fun c => .int .u8 c.toNat) (repL_u8 _) (m0L_u8 _) (by
        intro v hv
        rw [List.mem_map] at hv
        obtain ⟨y, _, rfl⟩ := hv
        rfl) (List.replicate (grownCap w b.size 0 el - b.size) (Value.int .u8 0)) el _
      exact ⟨_, _, φ, F', hrun, g1, hgd.trans g2, .ds (by simp) (by simp) (by simpa using grownCap_ge w b.size 0 el) g3⟩
    · cases he
  · rename_i el hs hd
    split at he
    · rename_i hd' cs len he8
      split at he
      · rename_i hlen
        rw [Option.map_eq_some_iff] at he
        obtain ⟨l, hl, rfl⟩ := he
        cases hx with
        | dsn q1 q2 =>
          simp [bytesA] at hl
          subst hl
          exact OpOk.same r (run_stringNil hs he8 hd w) rfl .str
        | ds q1 q2 q3 q4 =>
          refine OpOk.same r ?_ rfl .str
          subst hlen
          exact run_stringOf (c := c) (φ := φ) (F := F) hs he8 hd hl fun i y ey => by
            obtain ⟨_, u, f1, f2, _⟩ := q4.get i y ey
            exact ⟨u, f1, f2.up (by split <;> omega)⟩
      · cases he
    · rename_i i off len tot cap he8
      split at he
      · rename_i k hk
        split at he
        · rename_i hc
          obtain ⟨c1, c2⟩ := hc
          rw [Option.map_eq_some_iff] at he
          obtain ⟨l, hl, rfl⟩ := he
          have htl : ((k.cells.drop off).take len).length = len := by simp; omega
          cases hx with
          | rsn q1 qk q2 =>
            have : ((k.cells.drop off).take 0) = [] := by simp
            rw [this] at hl
            simp [bytesA] at hl
            subst hl
            exact OpOk.same r (run_stringNil hs he8 hd w) rfl .str
          | rs g1 g2 g3 g4 g5 =>
            rename_i L cc
            refine OpOk.same r ?_ rfl .str
            have key := run_stringOf (P := P) (w := w) (c := c) (φ := φ) (F := F) (b := L.b) (o := L.base + off) (cap := cc) hs he8 hd hl fun j y ey => by
              rw [List.getElem?_take] at ey
              split at ey
              · rw [List.getElem?_drop] at ey
                rcases r.loc i k hk with ⟨p1, p2, _⟩ | ⟨M, p1, p2⟩
                · simp [p2] at ey
                · rw [c1, g2] at p1
                  cases p1
                  obtain ⟨u, f1, f2, _⟩ := p2.cell _ _ ey
                  exact ⟨u, by rw [Nat.add_assoc]; exact f1, f2⟩
              · cases ey
            rwa [htl] at key
        · cases he
      · cases he
    · rename_i he8
      cases he
      cases hx
      exact OpOk.same r (run_stringNil hs he8 hd w) rfl .str
    · cases he
  · cases he

def externNA (P : Program) (h : Heap) (nid : Nat) (f : AV) (args : List AV) : Option Eff :=
  match f with
  | .fn (.func g) [] [] => match P.funcs[g]? with
    | some fn => if fn.body.isNone = true ∧ fn.origin = "" then
        (if fn.name = "internal/abi.NoEscape" then (match args with
          | [x] => some { val := x }
          | _ => none)
        else if fn.name = "internal/bytealg.MakeNoZero" then (match args, fn.resultTypes.toList, h nid with
          | [.int .i64 n], [t], .free => match P.underlying t with
            | some (.slice el) => if 0 ≤ n ∧ n ≤ 281474976710656 then some { val := .rs nid 0 n.toNat 0 none, ups := [(nid, .blk ⟨[], 1, false, false, some el⟩)] } else none
            | _ => none
          | _, _, _ => none)
        else none) else none
    | none => none
  | _ => none

theorem externNA_sound (r : RelH c φ F h w) {nid : Nat} {f : AV} {args : List AV} {vf : Value} {vs : Array Value} {e : Eff} (he : externNA P h nid f args = some e) (hf : Rep φ F c.G0 w 2 f vf) (hx : RepL φ F c.G0 w 2 args vs.toList) :
    ∃ g v w' φ', vf = .func (.func g) #[] #[] ∧ (callFunc g vs).run P w = .ok (.value v) w' ∧ RelH c φ' F (putAll h e.ups) w' ∧ Grow c.G0 φ F w φ' F w' ∧ Rep φ' F c.G0 w' 2 e.val v := by
  unfold externNA at he
  split at he
  · rename_i g
    have hvf : vf = .func (.func g) #[] #[] := by
      cases hf with
      | fn k1 k2 => cases k1; cases k2; rfl
    split at he
    · rename_i fn hfn
      split at he
      · rename_i hc
        obtain ⟨hb, ho⟩ := hc
        split at he
        · rename_i hn
          split at he
          · cases he
            generalize hvs : vs.toList = l at hx
            cases hx with
            | cons h1 h2 =>
              cases h2
              rename_i v
              have hv' : vs = #[v] := Array.ext' (by simpa using hvs)
              subst hv'
              exact ⟨g, v, w, φ, hvf, run_noEsc hfn hb ho hn v, r, Grow.refl .., h1⟩
          · cases he
        · split at he
          · rename_i hn
            split at he
            · rename_i n t hres hfree
              split at he
              · rename_i el hu
                split at he
                · rename_i hlim
                  cases he
                  have hrt : fn.resultTypes = #[t] := Array.ext' (by simpa using hres)
                  generalize hvs : vs.toList = l at hx
                  cases hx with
                  | cons h1 h2 =>
                    cases h2
                    cases h1
                    have hv' : vs = #[.int .i64 n] := Array.ext' (by simpa using hvs)
                    subst hv'
                    have e1 : Extern.findNext fn = none := by
                      unfold Extern.findNext
                      simp [hn, ho, isNone_eq mkNo_next1, isNone_eq noEsc_next0]
                    have e2 : Extern.find fn = some (Extern.BytealgMakeNoZero.makeNoZero fn.params #[t]) := by
                      unfold Extern.find
                      simp [hn, isNone_eq mkNo_gen, mkNo_row, hrt]
                    have e3n : ¬ fn.name = "runtime.NumGoroutine" := by rw [hn]; decide
                    have hbn := isNone_eq hb
                    have hnn : ((n.toNat : Nat) : Int) = n := by omega
                    obtain ⟨cs, q1, q2, _⟩ := Lib.run_makeNoZero (P := P) w fn.params t el hu n.toNat (by omega)
                    rw [hnn] at q1
                    have rd : RelH c φ F h w.drew.drew := r.drew.drew
                    have hgd : Grow c.G0 φ F w φ F w.drew.drew := ⟨fun _ _ _ e => e, fun _ _ e => ⟨e, rfl⟩, fun _ _ e => ⟨e, rfl⟩⟩
                    obtain ⟨f1, f2⟩ := rd.free_none hfree
                    obtain ⟨φ', g1, g2, g3⟩ := rd.alloc ⟨[], 1, false, false, some el⟩ (f1 _) (f2 _) [] .nil (by simp) cs.toList el fun t' q => by cases q; rfl
                    have hq : ([] ++ cs.toList).toArray = cs := by simp
                    rw [hq] at g2 g3
                    refine ⟨g, .slice (some ⟨w.heap.size, 0, none⟩) n.toNat cs.size, _, φ', hvf, ?_, g2, hgd.trans g3, ?_⟩
                    · simp [callFunc, hfn, e3n, hbn, run_mk, e1, e2, q1]
                    · have hz : φ' nid 0 = some ⟨w.drew.drew.heap.size, 0, ([] ++ cs.toList).length, 1⟩ := g1
                      exact Rep.rs (L := ⟨w.drew.drew.heap.size, 0, ([] ++ cs.toList).length, 1⟩) (Nat.le_refl _) hz (by simp) q2 (by simp)
                · cases he
              · cases he
            · cases he
          · cases he
      · cases he
    · cases he
  · cases he
end
end Go.Proofs.YtpiincgiakkljaaGreatDoor
/-
  The abstract operations, seventh part: scalars, and all of them together.
-/
namespace Go.Proofs.YtpiincgiakkljaaGreatDoor
open Go

section
variable {P : Program} {c : Ctx} {φ : Locs} {F : CSet} {h : Heap} {w : World}

/-- Is a value surely not nil? -/
def AV.there : AV → Bool
  | .ds hd _ len => hd.nn || len != 0
  | .rs _ _ len tot _ => len != 0 || tot != 0
  | .da .. | .ra .. | .fn .. | .iface .. => true
  | _ => false

theorem Rep.there {G : CSet} {m : Nat} {a v} (hr : Rep φ F G w m a v) (h : a.there = true) : (∃ x n k, v = .slice (some x) n k) ∨ (∃ x, v = .pointer (some x)) ∨ (∃ f x y, v = .func f x y) ∨ ∃ t x, v = .iface t x := by
  cases hr with
  | dsn h1 h2 => simp [AV.there, h1] at h
  | ds => exact .inl ⟨_, _, _, rfl⟩
  | da => exact .inr (.inl ⟨_, rfl⟩)
  | rsn => simp [AV.there] at h
  | rs => exact .inl ⟨_, _, _, rfl⟩
  | ra => exact .inr (.inl ⟨_, rfl⟩)
  | fn => exact .inr (.inr (.inl ⟨_, _, _, rfl⟩))
  | iface => exact .inr (.inr (.inr ⟨_, _, rfl⟩))
  | _ => simp [AV.there] at h

def kindA : TypeDesc → AV → Bool
  | .slice _, .ds .. | .slice _, .rs .. | .pointer _, .da .. | .pointer _, .ra .. | .func .., .fn .. | .interface _, .iface .. => true
  | _, _ => false

def nilA : TypeDesc → AV → Bool
  | .slice _, .nils | .pointer _, .nilp | .func .., .nilf | .interface _, .nili => true
  | _, _ => false

/-- Held against nil: the one side surely is not nil, the other one is. -/
def nilCmpA (P : Program) (op : BinOp) (t : TypeId) (x y : AV) : Option Eff :=
  match P.underlying t with
  | some d => if (op == .eql || op == .neq) && (x.there && kindA d x && nilA d y || y.there && kindA d y && nilA d x) then some { val := .bool (op == .neq) } else none
  | none => none

def kindOk (d : TypeDesc) (v : Value) : Prop :=
  match d, v with
  | .slice _, .slice .. | .pointer _, .pointer _ | .func .., .func .. | .interface _, .iface .. => True
  | _, _ => False

def nilOf : TypeDesc → Value
  | .slice _ => .slice none 0 0
  | .pointer _ => .pointer none
  | .func .. => .nilFunc
  | _ => .nilIface

theorem run_nilcmp {op : BinOp} {t : TypeId} {xo yo : Operand} {d : TypeDesc} {v : Value} (hop : op = .eql ∨ op = .neq) (hu : P.underlying t = some d) (hv : (∃ x n k, v = .slice (some x) n k) ∨ (∃ x, v = .pointer (some x)) ∨ (∃ f x y, v = .func f x y) ∨ ∃ t x, v = .iface t x)
    (hk : kindOk d v) (w : World) : (do eqGuard op t xo yo v (nilOf d); binOp op t v (nilOf d) : Sem Value).run P w = .ok (.bool (op == .neq)) w ∧
      (do eqGuard op t xo yo (nilOf d) v; binOp op t (nilOf d) v : Sem Value).run P w = .ok (.bool (op == .neq)) w := by
  have key : ∀ n, (Op.equalIn (n + 1) t v (nilOf d)).run P w = .ok false w ∧ (Op.equalIn (n + 1) t (nilOf d) v).run P w = .ok false w := by
    intro n
    rcases hv with ⟨x, n, k, rfl⟩ | ⟨x, rfl⟩ | ⟨f, x, y, rfl⟩ | ⟨s, x, rfl⟩ <;> cases d <;> simp only [kindOk] at hk <;> simp [nilOf, Op.equalIn, run_underlying hu]
  have e1 : (Op.equal t v (nilOf d)).run P w = .ok false w := (key 9999).1
  have e2 : (Op.equal t (nilOf d) v).run P w = .ok false w := (key 9999).2
  clear key
  generalize hq1 : Op.equal t v (nilOf d) = s1 at e1
  generalize hq2 : Op.equal t (nilOf d) v = s2 at e2
  rcases hv with ⟨x, n, k, rfl⟩ | ⟨x, rfl⟩ | ⟨f, x, y, rfl⟩ | ⟨s, x, rfl⟩ <;> cases d <;> simp only [kindOk] at hk <;> simp only [nilOf] at hq1 hq2 <;> rcases hop with rfl | rfl <;>
    simp [eqGuard, nilOf, binOp, hq1, hq2, e1, e2]

theorem nilA_sound {G : CSet} {m : Nat} {d : TypeDesc} {a v} (h : nilA d a = true) (hr : Rep φ F G w m a v) : v = nilOf d := by
  cases d <;> cases a <;> simp [nilA] at h <;> cases hr <;> rfl

theorem kindA_sound {G : CSet} {m : Nat} {d : TypeDesc} {a v} (h : kindA d a = true) (ht : a.there = true) (hr : Rep φ F G w m a v) : kindOk d v := by
  cases d <;> cases a <;> simp [kindA] at h <;> cases hr <;> first | trivial | (simp_all [AV.there])

theorem nilCmpA_sound (r : RelH c φ F h w) {op : BinOp} {t : TypeId} {xo yo : Operand} {x y : AV} {vx vy : Value} {e : Eff} (he : nilCmpA P op t x y = some e) (hx : Rep φ F c.G0 w 2 x vx) (hy : Rep φ F c.G0 w 2 y vy) :
    OpOk P c φ F h w (do eqGuard op t xo yo vx vy; binOp op t vx vy) e := by
  unfold nilCmpA at he
  split at he
  · rename_i d hu
    split at he
    · rename_i hc
      cases he
      simp only [Bool.and_eq_true, Bool.or_eq_true, beq_iff_eq] at hc
      obtain ⟨hop, hc⟩ := hc
      rcases hc with ⟨⟨h1, h2⟩, h3⟩ | ⟨⟨h1, h2⟩, h3⟩
      · rw [nilA_sound h3 hy]
        exact OpOk.same r (run_nilcmp hop hu (hx.there h1) (kindA_sound h2 h1 hx) w).1 rfl .bool
      · rw [nilA_sound h3 hx]
        exact OpOk.same r (run_nilcmp hop hu (hy.there h1) (kindA_sound h2 h1 hy) w).2 rfl .bool
    · cases he
  · cases he

def binA (P : Program) (op : BinOp) (t : TypeId) (xo yo : Operand) (x y : AV) : Option Eff :=
  match x.val, y.val with
  | some vx, some vy => (pureRun P (do eqGuard op t xo yo vx vy; binOp op t vx vy)).map fun v => { val := constAV v }
  | _, _ => none

theorem binA_sound (r : RelH c φ F h w) {op : BinOp} {t : TypeId} {xo yo : Operand} {x y : AV} {vx vy : Value} {e : Eff} (he : binA P op t xo yo x y = some e) (hx : Rep φ F c.G0 w 2 x vx) (hy : Rep φ F c.G0 w 2 y vy) :
    OpOk P c φ F h w (do eqGuard op t xo yo vx vy; binOp op t vx vy) e := by
  unfold binA at he
  split at he
  · rename_i ux uy h1 h2
    rw [hx.val h1, hy.val h2]
    rw [Option.map_eq_some_iff] at he
    obtain ⟨v, hv, rfl⟩ := he
    exact OpOk.same r (pureRun_run hv w) rfl (rep_constAV v)
  · cases he

/-- A pointer held against itself. -/
def ptrCmpA (P : Program) (op : BinOp) (t : TypeId) (x y : AV) : Option Eff :=
  match P.underlying t, x, y with
  | some (.pointer el), .ra i off tot, .ra j off' tot' => if i = j ∧ off = off' ∧ tot = tot' ∧ (op = .eql ∨ op = .neq) ∧ (sizeT P el).isSome = true then some { val := .bool (op == .eql) } else none
  | _, _, _ => none

theorem ptrCmpA_sound (r : RelH c φ F h w) {op : BinOp} {t : TypeId} {xo yo : Operand} {x y : AV} {vx vy : Value} {e : Eff} (he : ptrCmpA P op t x y = some e) (hx : Rep φ F c.G0 w 2 x vx) (hy : Rep φ F c.G0 w 2 y vy) :
    OpOk P c φ F h w (do eqGuard op t xo yo vx vy; binOp op t vx vy) e := by
  unfold ptrCmpA at he
  split at he
  · rename_i el i off tot j off' tot' hu
    split at he
    · rename_i hc
      obtain ⟨rfl, rfl, rfl, hop, hs⟩ := hc
      cases he
      obtain ⟨n, hn⟩ := Option.isSome_iff_exists.1 hs
      cases hx with
      | ra g1 g2 =>
        cases hy with
        | ra k1 k2 =>
          rw [g2] at k2
          cases k2
          rename_i L
          have key : ∀ m, (Op.equalIn (m + 1) t (.pointer (some ⟨L.b, L.base + off, none⟩)) (.pointer (some ⟨L.b, L.base + off, none⟩))).run P w = .ok true w := by
            intro m
            by_cases hz : n = 0
            · simp [Op.equalIn, run_underlying hu, run_sizeOf hn, hz]
            · simp [Op.equalIn, run_underlying hu, run_sizeOf hn, hz, sameAddr]
          have e1 : (Op.equal t (.pointer (some ⟨L.b, L.base + off, none⟩)) (.pointer (some ⟨L.b, L.base + off, none⟩))).run P w = .ok true w := key 9999
          generalize hq : Op.equal t (.pointer (some ⟨L.b, L.base + off, none⟩)) (.pointer (some ⟨L.b, L.base + off, none⟩)) = s1 at e1
          rcases hop with rfl | rfl
          · exact OpOk.same r (u := .bool true) (by simp [eqGuard, binOp, hq, e1]) rfl .bool
          · exact OpOk.same r (u := .bool false) (by simp [eqGuard, binOp, hq, e1]) rfl .bool
    · cases he
  · cases he

def unA (P : Program) (op : UnOp) (x : AV) : Option Eff :=
  match x.val with
  | some v => (pureRun P (Op.unary op v)).map fun v => { val := constAV v }
  | none => none

theorem unA_sound (r : RelH c φ F h w) {op : UnOp} {x : AV} {vx : Value} {e : Eff} (he : unA P op x = some e) (hx : Rep φ F c.G0 w 2 x vx) : OpOk P c φ F h w (Op.unary op vx) e := by
  unfold unA at he
  split at he
  · rename_i v h1
    rw [hx.val h1]
    rw [Option.map_eq_some_iff] at he
    obtain ⟨v, hv, rfl⟩ := he
    exact OpOk.same r (pureRun_run hv w) rfl (rep_constAV v)
  · cases he

def convA (P : Program) (s d : TypeId) (x : AV) : Option Eff :=
  match x.val with
  | some v => (pureRun P (convert s d v)).map fun v => { val := constAV v }
  | none => none

theorem convA_sound (r : RelH c φ F h w) {s d : TypeId} {x : AV} {vx : Value} {e : Eff} (he : convA P s d x = some e) (hx : Rep φ F c.G0 w 2 x vx) : OpOk P c φ F h w (convert s d vx) e := by
  unfold convA at he
  split at he
  · rename_i v h1
    rw [hx.val h1]
    rw [Option.map_eq_some_iff] at he
    obtain ⟨v, hv, rfl⟩ := he
    exact OpOk.same r (pureRun_run hv w) rfl (rep_constAV v)
  · cases he

/-- A part of an aggregate: cells from a place on, as a value of a type. -/
def partA (P : Program) (t : TypeId) (cs : List AV) (off : Nat) : Option AV :=
  match aggT P t, sizeT P t with
  | some true, some n => if off + n ≤ cs.length then some (.agg ((cs.drop off).take n)) else none
  | some false, some _ => cs[off]?
  | _, _ => none

theorem partA_sound {G : CSet} {t : TypeId} {cs : List AV} {vs : Array Value} {off : Nat} {a : AV} (he : partA P t cs off = some a) (hr : RepL φ F G w 2 cs vs.toList) : ∃ u, (part t vs off).run P w = .ok u w ∧ Rep φ F G w 2 a u := by
  unfold partA at he
  split at he
  · rename_i n h1 h2
    split at he
    · rename_i hle
      cases he
      refine ⟨.agg (vs.extract off (off + n)), by simp [part, run_isAgg h1, run_sizeOf h2], ?_⟩
      have := Rep.agg ((hr.drop off).take n)
      have hq : ((vs.toList.drop off).take n).toArray = vs.extract off (off + n) := by
        apply Array.ext'
        simp [List.extract_eq_take_drop, Array.toList_extract]
      rw [hq] at this
      exact this
    · cases he
  · rename_i n h1 h2
    obtain ⟨u, e1, e2⟩ := hr.get off a he
    refine ⟨u, ?_, e2⟩
    have : vs[off]? = some u := by simpa using e1
    simp [part, run_isAgg h1, this]
  · cases he

def fieldA (P : Program) (t : TypeId) (x : AV) (f : Nat) : Option Eff :=
  match P.underlying t, x with
  | some (.struct fs), .agg cs => (fs[f]?).bind fun fd => (partA P fd.type cs fd.offset).map fun a => { val := a }
  | _, _ => none

theorem fieldA_sound (r : RelH c φ F h w) {t : TypeId} {x : AV} {vx : Value} {f : Nat} {e : Eff} (he : fieldA P t x f = some e) (hx : Rep φ F c.G0 w 2 x vx) : OpOk P c φ F h w (Instr.field t vx f) e := by
  unfold fieldA at he
  split at he
  · rename_i fs cs hu
    rw [Option.bind_eq_some_iff] at he
    obtain ⟨fd, h1, he⟩ := he
    rw [Option.map_eq_some_iff] at he
    obtain ⟨a, h2, rfl⟩ := he
    cases hx with
    | agg hr =>
      rename_i vs
      obtain ⟨u, e1, e2⟩ := partA_sound (P := P) (vs := vs.toArray) h2 (by simpa using hr)
      exact OpOk.same r (u := u) (by simp [Instr.field, run_underlying hu, h1, asAgg, e1]) rfl e2
  · cases he

def indexA (P : Program) (t : TypeId) (x i : AV) : Option Eff :=
  match P.underlying t, x, i with
  | some (.array len el), .agg cs, .int _ n => (sizeT P el).bind fun s => (partA P el cs (n.toNat * s)).map fun a => { val := a, obl := [(0, n), (n + 1, len)] }
  | some .string, .str b, .int _ n => some { val := .int .u8 ((b.data.getD n.toNat 0).toNat), obl := [(0, n), (n + 1, b.size)] }
  | _, _, _ => none

theorem indexA_sound (r : RelH c φ F h w) {t : TypeId} {x i : AV} {vx vi : Value} {e : Eff} (he : indexA P t x i = some e) (hok : e.ok) (hx : Rep φ F c.G0 w 2 x vx) (hi : Rep φ F c.G0 w 2 i vi) : OpOk P c φ F h w (Instr.index t vx vi) e := by
  unfold indexA at he
  split at he
  · rename_i len el cs k n hu
    rw [Option.bind_eq_some_iff] at he
    obtain ⟨s, h1, he⟩ := he
    rw [Option.map_eq_some_iff] at he
    obtain ⟨a, h2, rfl⟩ := he
    have o1 := hok (0, n) (by simp)
    have o2 := hok (n + 1, len) (by simp)
    simp only at o1 o2
    cases hi
    cases hx with
    | agg hr =>
      rename_i vs
      obtain ⟨u, e1, e2⟩ := partA_sound (P := P) (vs := vs.toArray) h2 (by simpa using hr)
      have : 0 ≤ n ∧ n < (len : Int) := by omega
      exact OpOk.same r (u := u) (by simp [Instr.index, asIntOf, run_underlying hu, this, run_sizeOf h1, e1]) rfl e2
  · rename_i b k n hu
    cases he
    have o1 := hok (0, n) (by simp)
    have o2 := hok (n + 1, b.size) (by simp)
    simp only at o1 o2
    cases hi
    cases hx
    have hlt : n.toNat < b.size := by omega
    refine OpOk.same r (u := .int .u8 (b[n.toNat].toNat)) ?_ rfl ?_
    · simp [Instr.index, asIntOf, run_underlying hu, o1, hlt]
    · have : b.data.getD n.toNat 0 = b[n.toNat] := by
        have hd : n.toNat < b.data.size := hlt
        simp [Array.getD, hd]
        rw [dif_pos hlt]
        rfl
      rw [this]
      exact .int
  · cases he

def lenA (P : Program) (ts : List TypeId) (args : List AV) : Option Eff :=
  match ts, args with
  | [t], [x] => match P.underlying t, x with
    | some (.slice _), .ds _ _ len | some (.slice _), .rs _ _ len _ _ => some { val := .int .i64 len }
    | some (.slice _), .nils => some { val := .int .i64 0 }
    | some .string, .str b => some { val := .int .i64 b.size }
    | some (.array n _), _ => some { val := .int .i64 n }
    | _, _ => none
  | _, _ => none

theorem lenA_sound (r : RelH c φ F h w) {ts : Array TypeId} {ty : TypeId} {args : List AV} {vs : Array Value} {e : Eff} (he : lenA P ts.toList args = some e) (hx : RepL φ F c.G0 w 2 args vs.toList) : OpOk P c φ F h w (Builtin.len_ ts ty vs) e := by
  unfold lenA at he
  split at he
  · rename_i t x hts
    have hts' : ts = #[t] := Array.ext' (by simpa using hts)
    subst hts'
    generalize hvs : vs.toList = l at hx
    cases hx with
    | cons h1 h2 =>
      cases h2
      rename_i v
      have hv' : vs = #[v] := Array.ext' (by simpa using hvs)
      subst hv'
      split at he
      · rename_i hu
        cases he
        cases h1 with
        | dsn => exact OpOk.same r (u := goInt 0) (by simp [Builtin.len_, run_underlying hu, goInt]) rfl .int
        | ds => exact OpOk.same r (u := goInt _) (by simp [Builtin.len_, run_underlying hu]) rfl .int
      · rename_i hu
        cases he
        cases h1 with
        | rsn => exact OpOk.same r (u := goInt 0) (by simp [Builtin.len_, run_underlying hu, goInt]) rfl .int
        | rs => exact OpOk.same r (u := goInt _) (by simp [Builtin.len_, run_underlying hu]) rfl .int
      · rename_i hu
        cases he
        cases h1
        exact OpOk.same r (u := goInt 0) (by simp [Builtin.len_, run_underlying hu, goInt]) rfl .int
      · rename_i hu
        cases he
        cases h1
        exact OpOk.same r (u := goInt _) (by simp [Builtin.len_, run_underlying hu]) rfl .int
      · rename_i hu
        cases he
        exact OpOk.same r (u := goInt _) (by simp [Builtin.len_, run_underlying hu]) rfl .int
      · cases he
  · cases he

def mmA (P : Program) (mx : Bool) (ts : Array TypeId) (ty : TypeId) (args : List AV) : Option Eff :=
  match AV.vals args with
  | some vs => (pureRun P (if mx then Builtin.max_ ts ty vs.toArray else Builtin.min_ ts ty vs.toArray)).map fun v => { val := constAV v }
  | none => none

theorem mmA_sound (r : RelH c φ F h w) {mx : Bool} {ts : Array TypeId} {ty : TypeId} {args : List AV} {vs : Array Value} {e : Eff} (he : mmA P mx ts ty args = some e) (hx : RepL φ F c.G0 w 2 args vs.toList) :
    OpOk P c φ F h w (if mx then Builtin.max_ ts ty vs else Builtin.min_ ts ty vs) e := by
  unfold mmA at he
  split at he
  · rename_i us h1
    have := hx.vals h1
    rw [Option.map_eq_some_iff] at he
    obtain ⟨v, hv, rfl⟩ := he
    rw [← this] at hv
    simp at hv
    exact OpOk.same r (pureRun_run hv w) rfl (rep_constAV v)
  · cases he

def builtinA (P : Program) (h : Heap) (nid ch : Nat) (b : Builtin) (ts : Array TypeId) (ty : TypeId) (args : List AV) : Option Eff :=
  match b, args with
  | .append, [x, y] => appendA P h nid ch ts.toList x y
  | .copy, [x, y] => copyA P h ts.toList x y
  | .len, args => lenA P ts.toList args
  | .max, args => mmA P true ts ty args
  | .min, args => mmA P false ts ty args
  | .cap, args => capA P ts.toList args
  | .unsafeString, args => unsafeStringA P h ts.toList args
  | .unsafeSliceData, args => sliceDataA args
  | _, _ => none

/-- A function without a body, that looks at nothing but its arguments. -/
def externA (P : Program) (f : AV) (args : List AV) : Option Eff :=
  match f with
  | .fn (.func g) [] [] => match P.funcs[g]? with
    | some fn => if fn.body.isNone = true then (match AV.vals args with
      | some vs => match pureRun P (callFunc g vs.toArray) with
        | some (.value v) => some { val := constAV v }
        | _ => none
      | none => none) else none
    | none => none
  | _ => none

theorem externA_sound (r : RelH c φ F h w) {f : AV} {args : List AV} {vf : Value} {vs : Array Value} {e : Eff} (he : externA P f args = some e) (hf : Rep φ F c.G0 w 2 f vf) (hx : RepL φ F c.G0 w 2 args vs.toList) :
    ∃ g v, vf = .func (.func g) #[] #[] ∧ (callFunc g vs).run P w = .ok (.value v) w ∧ e.ups = [] ∧ Rep φ F c.G0 w 2 e.val v := by
  unfold externA at he
  split at he
  · rename_i g
    split at he
    · split at he
      · split at he
        · rename_i us hu
          split at he
          · rename_i v hv
            cases he
            have := hx.vals hu
            cases hf with
            | fn k1 k2 =>
              cases k1
              cases k2
              refine ⟨g, v, rfl, ?_, rfl, rep_constAV v⟩
              have h1 := pureRun_run hv w
              rw [← this] at h1
              simpa using h1
          · cases he
        · cases he
      · cases he
    · cases he
  · cases he

/-- An operation that is no call of a function. -/
def aop (P : Program) (o : Op) (ty : TypeId) (ρ : Operand → AV) (h : Heap) (nid ch : Nat) : Option Eff :=
  match o with
  | .move x | .assign x => some { val := ρ x }
  | .pick c a b => match ρ c with
    | .bool true => some { val := ρ a }
    | .bool false => some { val := ρ b }
    | _ => none
  | .alloc e => allocA P h nid e
  | .box t x => boxA h nid t (ρ x)
  | .build t ps => buildA P t (ps.toList.map fun p => (p.1, ρ p.2))
  | .buildSlice t len ps => buildSliceA P h nid t len (ps.toList.map fun p => (p.1, ρ p.2))
  | .load t a => loadA P h t (ρ a)
  | .store t a x => storeA P h t (ρ a) (ρ x)
  | .nilCheck x => match ρ x with
    | .da t cs => some { val := .da t cs }
    | .ra i off tot => some { val := .ra i off tot }
    | .fn (.func f) a b => some { val := .fn (.func f) a b }
    | _ => none
  | .binOp op t x y _ => match binA P op t x y (ρ x) (ρ y) with
    | some e => some e
    | none => match nilCmpA P op t (ρ x) (ρ y) with
      | some e => some e
      | none => ptrCmpA P op t (ρ x) (ρ y)
  | .unOp op _ x => unA P op (ρ x)
  | .convert s d x => match convA P s d (ρ x) with
    | some e => some e
    | none => match ptrConvA P h s d (ρ x) with
      | some e => some e
      | none => convBytesA P h s d (ρ x)
  | .makeInterface t x => match P.underlying t with
    | some (.interface _) => none
    | some _ => some { val := .iface t (ρ x) }
    | none => none
  | .makeFunc f a b => some { val := .fn f (a.toList.map ρ) (b.toList.map ρ) }
  | .makeSlice t l n => makeSliceA P h nid t (ρ l) (ρ n)
  | .slice t x lo hi mx => sliceA P h t (ρ x) (lo.map ρ) (hi.map ρ) (mx.map ρ)
  | .fieldAddr s x f => fieldAddrA P s (ρ x) f
  | .field t x f => fieldA P t (ρ x) f
  | .indexAddr t x i => indexAddrA P t (ρ x) (ρ i)
  | .index t x i => indexA P t (ρ x) (ρ i)
  | .extract x i => match ρ x with
    | .tup l => (l[i]?).map fun a => { val := a }
    | _ => none
  | .call { callee := .builtin b, args, argTypes } => builtinA P h nid ch b argTypes ty (args.toList.map ρ)
  | .call { callee := .value f, args, argTypes := _ } => match externA P (ρ f) (args.toList.map ρ) with
    | some e => some e
    | none => externNA P h nid (ρ f) (args.toList.map ρ)
  | .makeMap _ none => makeMapA h nid
  | .lookup t x ix ok => lookupA P h t (ρ x) (ρ ix) ok
  | .mapUpdate t m k x => mapUpdateA P h t (ρ m) (ρ k) (ρ x)
  | .insert t m k x => mapUpdateA P h t (ρ m) (ρ k) (ρ x)
  | .range t x => rangeA P h nid t (ρ x)
  | .next it b => nextA h (ρ it) b
  | .typeAssert x _ t ok => assertA P (ρ x) t ok
  | _ => none

/-- What is shown of an operation that is no call. -/
def StepOk (P : Program) (c : Ctx) (φ : Locs) (F : CSet) (h : Heap) (w : World) (s : Sem Next) (e : Eff) : Prop :=
  ∃ u w' φ' F', (s.run P w = .ok (.value u) w' ∨ (s.run P w = .ok .skip w' ∧ u = undef)) ∧ RelH c φ' F' (putAll h e.ups) w' ∧ Grow c.G0 φ F w φ' F' w' ∧ Rep φ' F' c.G0 w' 2 e.val u

theorem OpOk.step {s : Sem Value} {e : Eff} (k : OpOk P c φ F h w s e) : StepOk P c φ F h w (do pure (.value (← s))) e := by
  obtain ⟨u, w', φ', F', h1, h2, h3, h4⟩ := k
  exact ⟨u, w', φ', F', .inl (by simp [h1]), h2, h3, h4⟩

theorem repL_map {m : Nat} {G : CSet} (f : Operand → AV) (g : Operand → Value) (hf : ∀ x, Rep φ F G w m (f x) (g x)) (l : List Operand) : RepL φ F G w m (l.map f) (l.map g) := by
  induction l with
  | nil => exact .nil
  | cons x l ih => exact .cons (hf x) ih

theorem repO_map {G : CSet} (f : Operand → AV) (g : Operand → Value) (hf : ∀ x, Rep φ F G w 2 (f x) (g x)) (o : Option Operand) : RepO φ F G w (o.map f) (o.map g) := by
  cases o with
  | none => exact .none
  | some x => exact .some (hf x)

theorem repL_parts {m : Nat} {G : CSet} (f : Operand → AV) (g : Operand → Value) (hf : ∀ x, Rep φ F G w m (f x) (g x)) (l : Array (Nat × Operand)) :
    (l.toList.map fun p => (p.1, f p.2)).map (·.1) = (l.map fun (i, x) => (i, g x)).toList.map (·.1) ∧ RepL φ F G w m ((l.toList.map fun p => (p.1, f p.2)).map (·.2)) ((l.map fun (i, x) => (i, g x)).toList.map (·.2)) := by
  simp only [Array.toList_map, List.map_map]
  refine ⟨rfl, ?_⟩
  generalize l.toList = l
  induction l with
  | nil => exact .nil
  | cons x l ih => exact .cons (hf x.2) ih

theorem aop_sound (r : RelH c φ F h w) {o : Oper} {ρ : Operand → AV} {ev : Operand → Value} (hρ : ∀ x, Rep φ F c.G0 w 2 (ρ x) (ev x)) {nid ch : Nat} {e : Eff} (he : aop P o.op o.type ρ h nid ch = some e) (hok : e.ok) :
    StepOk P c φ F h w (execOp ev o) e := by
  unfold aop at he
  unfold execOp
  split at he
  · rename_i x ho
    cases he
    simp only [ho]
    exact ⟨ev x, w, φ, F, .inl rfl, r, Grow.refl .., hρ x⟩
  · rename_i x ho
    cases he
    simp only [ho]
    exact ⟨ev x, w, φ, F, .inl rfl, r, Grow.refl .., hρ x⟩
  · rename_i x a b ho
    simp only [ho]
    have hx := hρ x
    split at he
    · rename_i hx'
      cases he
      rw [hx'] at hx
      generalize ev x = u at hx
      cases hx
      exact ⟨ev a, w, φ, F, .inl (by simp [asBool]), r, Grow.refl .., hρ a⟩
    · rename_i hx'
      cases he
      rw [hx'] at hx
      generalize ev x = u at hx
      cases hx
      exact ⟨ev b, w, φ, F, .inl (by simp [asBool]), r, Grow.refl .., hρ b⟩
    · cases he
  · rename_i t ho
    simp only [ho]
    exact (allocA_sound r he _).step
  · rename_i t x ho
    simp only [ho]
    exact (boxA_sound r he (hρ x)).step
  · rename_i t ps ho
    simp only [ho]
    obtain ⟨h1, h2⟩ := repL_parts ρ ev hρ ps
    exact (buildA_sound r he h1 h2).step
  · rename_i t len ps ho
    simp only [ho]
    obtain ⟨h1, h2⟩ := repL_parts ρ ev hρ ps
    exact (buildSliceA_sound r he h1 h2).step
  · rename_i t a ho
    simp only [ho]
    obtain ⟨h1, u, h2, h3⟩ := loadA_sound r he (hρ a)
    exact (OpOk.same r h2 h1 h3).step
  · rename_i t a x ho
    simp only [ho]
    obtain ⟨h1, w', φ', F', h2, h3, h4⟩ := storeA_sound r he (hρ a) (hρ x)
    exact ⟨undef, w', φ', F', .inr ⟨by simp [h2], rfl⟩, h3, h4, by rw [h1]; exact .junk⟩
  · rename_i x ho
    simp only [ho]
    have hx := hρ x
    split at he
    · rename_i t cs hx'
      cases he
      rw [hx'] at hx
      generalize ev x = u at hx
      cases hx with
      | da h1 h2 => exact ⟨_, w, φ, F, .inl rfl, r, Grow.refl .., .da h1 h2⟩
    · rename_i i off tot hx'
      cases he
      rw [hx'] at hx
      generalize ev x = u at hx
      cases hx with
      | ra h1 h2 => exact ⟨_, w, φ, F, .inl rfl, r, Grow.refl .., .ra h1 h2⟩
    · rename_i f a b hx'
      cases he
      rw [hx'] at hx
      generalize ev x = u at hx
      cases hx with
      | fn h1 h2 => exact ⟨_, w, φ, F, .inl rfl, r, Grow.refl .., .fn h1 h2⟩
    · cases he
  · rename_i op t x y ty ho
    simp only [ho]
    split at he
    · rename_i e' hb
      cases he
      exact (binA_sound r hb (hρ x) (hρ y)).step
    · split at he
      · rename_i e' hb
        cases he
        exact (nilCmpA_sound r hb (hρ x) (hρ y)).step
      · exact (ptrCmpA_sound r he (hρ x) (hρ y)).step
  · rename_i op t x ho
    simp only [ho]
    exact (unA_sound r he (hρ x)).step
  · rename_i s d x ho
    simp only [ho]
    split at he
    · rename_i e' hc
      cases he
      exact (convA_sound r hc (hρ x)).step
    · split at he
      · rename_i e' hc
        cases he
        exact (ptrConvA_sound r hc (hρ x)).step
      · exact (convBytesA_sound r he (hρ x)).step
  · rename_i t x ho
    simp only [ho]
    split at he
    · cases he
    · rename_i d hd hu
      cases he
      refine (OpOk.same r (u := .iface t (ev x)) ?_ rfl (.iface (hρ x))).step
      rw [Instr.makeInterface, Sem.run_bind, run_underlying hu]
      cases d <;> first | rfl | exact absurd rfl (hd _)
    · cases he
  · rename_i f a b ho
    simp only [ho]
    cases he
    refine (OpOk.same r (u := .func f (a.map ev) (b.map ev)) rfl rfl ?_).step
    have := Rep.fn (f := f) (repL_map ρ ev hρ a.toList) (repL_map ρ ev hρ b.toList)
    rwa [show (a.toList.map ev).toArray = a.map ev from Array.ext' (by simp), show (b.toList.map ev).toArray = b.map ev from Array.ext' (by simp)] at this
  · rename_i t l n ho
    simp only [ho]
    exact (makeSliceA_sound r he hok (hρ l) (hρ n)).step
  · rename_i t x lo hi mx ho
    simp only [ho]
    exact (sliceA_sound r he hok (hρ x) (repO_map ρ ev hρ lo) (repO_map ρ ev hρ hi) (repO_map ρ ev hρ mx)).step
  · rename_i s x f ho
    simp only [ho]
    exact (fieldAddrA_sound r he (hρ x)).step
  · rename_i t x f ho
    simp only [ho]
    exact (fieldA_sound r he (hρ x)).step
  · rename_i t x i ho
    simp only [ho]
    exact (indexAddrA_sound r he hok (hρ x) (hρ i)).step
  · rename_i t x i ho
    simp only [ho]
    exact (indexA_sound r he hok (hρ x) (hρ i)).step
  · rename_i x i ho
    simp only [ho]
    have hx := hρ x
    split at he
    · rename_i l hx'
      rw [Option.map_eq_some_iff] at he
      obtain ⟨a, h1, rfl⟩ := he
      rw [hx'] at hx
      generalize ev x = u at hx
      cases hx with
      | tup hr =>
        rename_i vs
        obtain ⟨u, e1, e2⟩ := hr.get _ _ h1
        exact (OpOk.same r (u := u) (by simp [Instr.extract, e1]) rfl e2).step
    · cases he
  · rename_i b args ts ho
    simp only [ho]
    have hargs := repL_map ρ ev hρ args.toList
    have hrun : (do let d ← resolve ev { callee := .builtin b, args := args, argTypes := ts } o.type; invoke d.target d.args : Sem Next) = builtin b ts o.type (args.map fun | .const _ => true | _ => false) (args.map ev) := rfl
    rw [hrun]
    unfold builtinA at he
    split at he
    · rename_i x y hl
      rw [hl] at hargs
      generalize hav : args.toList.map ev = avs at hargs
      cases hargs with
      | cons h1 h2 =>
        cases h2 with
        | cons h2 h3 =>
          cases h3
          have : args.map ev = #[_, _] := Array.ext' (by simpa using hav)
          rw [this]
          exact (appendA_sound r he hok h1 h2).step
    · rename_i x y hl
      rw [hl] at hargs
      generalize hav : args.toList.map ev = avs at hargs
      cases hargs with
      | cons h1 h2 =>
        cases h2 with
        | cons h2 h3 =>
          cases h3
          have : args.map ev = #[_, _] := Array.ext' (by simpa using hav)
          rw [this]
          exact (copyA_sound r he h1 h2).step
    · exact (lenA_sound (ts := ts) (ty := o.type) (vs := args.map ev) r he (by simpa using hargs)).step
    · exact (mmA_sound (vs := args.map ev) r he (by simpa using hargs)).step
    · exact (mmA_sound (vs := args.map ev) r he (by simpa using hargs)).step
    · exact (capA_sound (ts := ts) (ty := o.type) (vs := args.map ev) r he (by simpa using hargs)).step
    · exact (unsafeStringA_sound (ts := ts) (ty := o.type) (vs := args.map ev) r he (by simpa using hargs)).step
    · exact (sliceDataA_sound (ts := ts) (ty := o.type) (vs := args.map ev) r he (by simpa using hargs)).step
    · cases he
  · rename_i f args ts ho
    simp only [ho]
    split at he
    · rename_i e' hc
      cases he
      obtain ⟨g, v, h1, h2, h3, h4⟩ := externA_sound (vs := args.map ev) r hc (hρ f) (by simpa using repL_map ρ ev hρ args.toList)
      refine ⟨v, w, φ, F, .inl ?_, by rw [h3]; exact r, Grow.refl .., h4⟩
      simp [resolve, h1, Deferred.ofValue, invoke, h2]
    · obtain ⟨g, v, w', φ', h1, h2, h3, h4, h5⟩ := externNA_sound (vs := args.map ev) r he (hρ f) (by simpa using repL_map ρ ev hρ args.toList)
      refine ⟨v, w', φ', F, .inl ?_, h3, h4, h5⟩
      simp [resolve, h1, Deferred.ofValue, invoke, h2]
  · rename_i t ho
    simp only [ho]
    exact (makeMapA_sound r he).step
  · rename_i t x ix ok ho
    simp only [ho]
    exact (lookupA_sound r he (hρ x) (hρ ix)).step
  · rename_i t m k x ho
    simp only [ho]
    obtain ⟨h1, w', φ', F', h2, h3, h4⟩ := mapUpdateA_sound r he (hρ m) (hρ k) (hρ x)
    exact ⟨undef, w', φ', F', .inr ⟨by simp [h2], rfl⟩, h3, h4, by rw [h1]; exact .junk⟩
  · rename_i t m k x ho
    simp only [ho]
    obtain ⟨h1, w', φ', F', h2, h3, h4⟩ := mapUpdateA_sound r he (hρ m) (hρ k) (hρ x)
    exact ⟨undef, w', φ', F', .inr ⟨by simp [h2], rfl⟩, h3, h4, by rw [h1]; exact .junk⟩
  · rename_i t x ho
    simp only [ho]
    exact (rangeA_sound r he (hρ x)).step
  · rename_i it b ho
    simp only [ho]
    exact (nextA_sound r he (hρ it)).step
  · rename_i x xt t ok ho
    simp only [ho]
    exact (assertA_sound r he (hρ x)).step
  · cases he
end
end Go.Proofs.YtpiincgiakkljaaGreatDoor
/-
  States of a frame, what it means that code does something to them, and the rules of control.
-/
namespace Go.Proofs.YtpiincgiakkljaaGreatDoor
open Go

/-- What the package-level variables that are read hold. -/
abbrev Globs := Nat → Option (List AV)

structure St where
  t : Nat → AV
  h : Heap
  next : Nat

def evalA (GL : Globs) (t : Nat → AV) : Operand → AV
  | .tmp k => t k
  | .const v => constAV v
  | .global g => match GL g with
    | some cs => .da false cs
    | none => .junk
  | .func f => .fn (.func f) [] []

/-- What the variables hold, in a world. -/
def Glob (GL : Globs) (F : CSet) (w : World) : Prop := ∀ g cs, GL g = some cs → Cells (fun _ _ => none) F (fun _ _ => False) w false g 0 cs

theorem Glob.grow {GL : Globs} {G : CSet} {φ φ' : Locs} {F F' : CSet} {w w' : World} (h : Glob GL F w) (g : Grow G φ F w φ' F' w') : Glob GL F' w' :=
  fun i cs e => (h i cs e).mono (fun _ _ _ e => e) g.data (fun _ _ e => e.elim)

structure RelX (GL : Globs) (n : Nat) (c : Ctx) (φ : Locs) (F : CSet) (s : St) (a : Act) (w : World) : Prop where
  size : a.tmps.size = n
  defers : a.defers = c.defs
  tm : ∀ k, Rep φ F c.G0 w 2 (s.t k) (a.tmps.getD k undef)
  gl : Glob GL F w
  rh : RelH c φ F s.h w
  since : Grow c.G0 c.φ0 c.F0 c.w0 φ F w

def Rel (GL : Globs) (n : Nat) (c : Ctx) (s : St) (a : Act) (w : World) : Prop := ∃ φ F, RelX GL n c φ F s a w

theorem RelX.eval {GL : Globs} {n : Nat} {c : Ctx} {φ : Locs} {F : CSet} {s : St} {a : Act} {w : World} (r : RelX GL n c φ F s a w) (x : Operand) : Rep φ F c.G0 w 2 (evalA GL s.t x) (a.eval x) := by
  cases x with
  | tmp k => exact r.tm k
  | const v => exact rep_constAV v
  | global g =>
    simp only [evalA, Act.eval]
    cases h : GL g with
    | none => exact .junk
    | some cs => exact .da (by simp) ((r.gl g cs h).any0 rfl)
  | func f =>
    exact .fn (vs := []) (us := []) .nil .nil

/-- A state behind an operation. -/
def St.put (s : St) (dst : Option Tmp) (e : Eff) : St :=
  { t := match dst with | some d => upd s.t d e.val | none => s.t, h := putAll s.h e.ups, next := s.next }

def dstOk (n : Nat) : Option Tmp → Bool
  | some d => d < n
  | none => true

theorem RelX.put {GL : Globs} {n : Nat} {c : Ctx} {φ φ' : Locs} {F F' : CSet} {s : St} {a : Act} {w w' : World} (r : RelX GL n c φ F s a w) {dst : Option Tmp} {e : Eff} {u : Value} (hd : dstOk n dst = true)
    (rh : RelH c φ' F' (putAll s.h e.ups) w') (g : Grow c.G0 φ F w φ' F' w') (hu : Rep φ' F' c.G0 w' 2 e.val u) : RelX GL n c φ' F' (s.put dst e) (a.put dst u) w' := by
  cases dst with
  | none => exact ⟨r.size, r.defers, fun k => g.rep (r.tm k), r.gl.grow g, rh, r.since.trans g⟩
  | some d =>
    simp only [dstOk, decide_eq_true_eq] at hd
    refine ⟨by simp [Act.put, r.size], r.defers, fun k => ?_, r.gl.grow g, rh, r.since.trans g⟩
    by_cases hk : k = d
    · subst hk
      have : (a.tmps.setIfInBounds k u).getD k undef = u := by
        simp [Array.getD, r.size, hd]
      simp only [St.put, Act.put, upd_same, this]
      exact hu
    · have : (a.tmps.setIfInBounds d u).getD k undef = a.tmps.getD k undef := by
        simp only [Array.getD_eq_getD_getElem?]
        rw [Array.getElem?_setIfInBounds_ne (fun e => hk e.symm)]
      simp only [St.put, Act.put, upd_ne _ _ hk, this]
      exact g.rep (r.tm k)

inductive AExit where
  | normal
  | exit (id : Nat)
  | ret
  | panic (v : AV)

abbrev Post := AExit → St → Prop

/-- The model's post-condition of an abstract one. -/
def post (GL : Globs) (n : Nat) (c : Ctx) (Q : Post) : Exit → Act → World → Prop
  | .normal, a, w => ∃ s, Q .normal s ∧ Rel GL n c s a w
  | .exit id, a, w => ∃ s, Q (.exit id) s ∧ Rel GL n c s a w
  | .ret, a, w => ∃ s, Q .ret s ∧ Rel GL n c s a w
  | .panic chain, a, w => ∃ v, chain = [{ v, recovered := false }] ∧ ∃ s x φ F, Q (.panic x) s ∧ RelX GL n c φ F s a w ∧ Rep φ F c.G0 w 2 x v
  | _, _, _ => False

/-- Code, from a state on, comes to what is asked for. -/
def AWP (P : Program) (GL : Globs) (n : Nat) (c : Ctx) (code : Code) (s : St) (Q : Post) : Prop := ∀ a w, Rel GL n c s a w → code.wp P (post GL n c Q) a w

section
variable {P : Program} {GL : Globs} {n : Nat} {c : Ctx} {s : St} {Q : Post}

theorem AWP.mono {code : Code} {Q' : Post} (h : AWP P GL n c code s Q) (hq : ∀ e s, Q e s → Q' e s) : AWP P GL n c code s Q' := fun a w r =>
  wp_mono (h a w r) fun e a' w' hp => by
    cases e with
    | normal => exact hp.imp fun s h => ⟨hq _ _ h.1, h.2⟩
    | exit id => exact hp.imp fun s h => ⟨hq _ _ h.1, h.2⟩
    | ret => exact hp.imp fun s h => ⟨hq _ _ h.1, h.2⟩
    | panic ch =>
      obtain ⟨v, h1, s, x, φ, F, h2, h3⟩ := hp
      exact ⟨v, h1, s, x, φ, F, hq _ _ h2, h3⟩
    | goto l => exact hp.elim
    | outgrown => exact hp.elim

theorem awp_skip (h : Q .normal s) : AWP P GL n c .skip s Q := fun _ _ r => wp_skip ⟨s, h, r⟩
theorem awp_exit {id : Nat} (h : Q (.exit id) s) : AWP P GL n c (.exit id) s Q := fun _ _ r => wp_exit ⟨s, h, r⟩
theorem awp_ret (h : Q .ret s) : AWP P GL n c .ret s Q := fun _ _ r => wp_ret ⟨s, h, r⟩

def AExit.andThen (K : St → Prop) (Q : Post) : Post
  | .normal, s => K s
  | e, s => Q e s

theorem awp_seq {x y : Code} (h : AWP P GL n c x s (AExit.andThen (fun s => AWP P GL n c y s Q) Q)) : AWP P GL n c (.seq x y) s Q := fun a w r =>
  wp_seq (wp_mono (h a w r) fun e a' w' hp => by
    cases e with
    | normal =>
      obtain ⟨s', h1, h2⟩ := hp
      exact h1 a' w' h2
    | exit id => exact hp
    | ret => exact hp
    | panic ch => exact hp
    | goto l => exact hp.elim
    | outgrown => exact hp.elim)

theorem awp_cond {x : Operand} {y z : Code} {b : Bool} (hb : evalA GL s.t x = .bool b) (h1 : b = true → AWP P GL n c y s Q) (h2 : b = false → AWP P GL n c z s Q) : AWP P GL n c (.cond x y z) s Q := fun a w r => by
  obtain ⟨φ, F, rx⟩ := r
  have he := rx.eval x
  rw [hb] at he
  have hv : a.eval x = .bool b := by
    generalize a.eval x = v at he
    cases he
    rfl
  exact wp_cond_split hv (fun e => h1 e a w ⟨φ, F, rx⟩) (fun e => h2 e a w ⟨φ, F, rx⟩)

def AExit.inBlock (id : Nat) (Q : Post) : Post
  | .exit id', s => if id' = id then Q .normal s else Q (.exit id') s
  | e, s => Q e s

theorem awp_block {id : Nat} {x : Code} (h : AWP P GL n c x s (AExit.inBlock id Q)) : AWP P GL n c (.block id x) s Q := fun a w r =>
  wp_block (wp_mono (h a w r) fun e a' w' hp => by
    cases e with
    | normal => exact hp
    | exit id' =>
      obtain ⟨s', h1, h2⟩ := hp
      simp only [AExit.inBlock] at h1
      simp only [Exit.inBlock]
      split at h1
      · rename_i he
        rw [if_pos he]
        exact ⟨s', h1, h2⟩
      · rename_i he
        rw [if_neg he]
        exact ⟨s', h1, h2⟩
    | ret => exact hp
    | panic ch => exact hp
    | goto l => exact hp.elim
    | outgrown => exact hp.elim)

/-- A loop: what holds at each round's head, and a number that goes down. -/
theorem awp_loop {x : Code} (I : Nat → St → Prop) (m : Nat) (h0 : I m s) (hr : ∀ m s, I m s → AWP P GL n c x s (AExit.andThen (fun s' => ∃ m', m' < m ∧ I m' s') Q)) : AWP P GL n c (.loop x) s Q := fun a w r => by
  intro b k cs
  have key : ∀ m s a w, I m s → Rel GL n c s a w → ∃ e a' w', post GL n c Q e a' w' ∧ Arrives P (lone (b.at a (.code x :: .inLoop x :: k)) cs w) b k cs e a' w' := by
    intro m
    induction m using Nat.strongRecOn with
    | _ m ih =>
      intro s a w hI r
      obtain ⟨e, a₁, w₁, hq, harr⟩ := hr m s hI a w r b (.inLoop x :: k) cs
      cases e with
      | normal =>
        obtain ⟨s', ⟨m', hm, hI'⟩, r'⟩ := hq
        obtain ⟨e₂, a₂, w₂, hq₂, harr₂⟩ := ih m' hm s' a₁ w₁ hI' r'
        exact ⟨e₂, a₂, w₂, hq₂, .of_steps (Steps.trans harr (.one step_inLoop)) harr₂⟩
      | exit id => exact ⟨.exit id, a₁, w₁, hq, .pass (x := .inLoop x) rfl (fun _ _ => .inl (by simp)) harr⟩
      | goto l => exact hq.elim
      | ret => exact ⟨.ret, a₁, w₁, hq, .pass (x := .inLoop x) rfl (fun _ _ => .inl (by simp)) harr⟩
      | panic ch => exact ⟨.panic ch, a₁, w₁, hq, .pass (x := .inLoop x) rfl (fun _ _ => .inl (by simp)) harr⟩
      | outgrown => exact hq.elim
  obtain ⟨e, a', w', hq, harr⟩ := key m s a w h0 r
  exact ⟨e, a', w', hq, .of_steps (.one step_loop) harr⟩

/-- A loop that ends after so many rounds. -/
def LoopOk (P : Program) (GL : Globs) (n : Nat) (c : Ctx) (x : Code) (Q : Post) : Nat → St → Prop
  | 0, _ => False
  | j + 1, s => AWP P GL n c x s (AExit.andThen (LoopOk P GL n c x Q j) Q)

theorem LoopOk.mono {x : Code} {Q' : Post} (hq : ∀ e s, Q e s → Q' e s) : ∀ {j : Nat} {s : St}, LoopOk P GL n c x Q j s → LoopOk P GL n c x Q' j s := by
  intro j
  induction j with
  | zero => intro s h; exact h
  | succ j ih =>
    intro s h
    refine AWP.mono h fun e s hp => ?_
    cases e with
    | normal => exact ih hp
    | exit id => exact hq _ _ hp
    | ret => exact hq _ _ hp
    | panic v => exact hq _ _ hp

theorem LoopOk.awp {x : Code} {j : Nat} {s : St} (h : LoopOk P GL n c x Q j s) : AWP P GL n c (.loop x) s Q :=
  awp_loop (LoopOk P GL n c x Q) j h fun m s hm => by
    cases m with
    | zero => exact hm.elim
    | succ m =>
      refine AWP.mono hm fun e s hp => ?_
      cases e with
      | normal => exact ⟨m, by omega, hp⟩
      | exit id => exact hp
      | ret => exact hp
      | panic v => exact hp

/-- Code that comes to what is asked for; a loop after so many rounds. -/
def AWJ (P : Program) (GL : Globs) (n : Nat) (c : Ctx) (j : Nat) (x : Code) (s : St) (Q : Post) : Prop :=
  match x with
  | .loop a => LoopOk P GL n c a Q j s
  | x => AWP P GL n c x s Q

theorem AWJ.awp {j : Nat} {x : Code} {s : St} (h : AWJ P GL n c j x s Q) : AWP P GL n c x s Q := by
  cases x with
  | loop a => exact LoopOk.awp h
  | _ => exact h
end
end Go.Proofs.YtpiincgiakkljaaGreatDoor
/-
  Freezing, lending: a frame's own blocks as data.
-/
namespace Go.Proofs.YtpiincgiakkljaaGreatDoor
open Go

section
variable {P : Program} {GL : Globs} {n : Nat} {c : Ctx} {φ : Locs} {F : CSet} {h : Heap} {w : World}

mutual
/-- A value made data: the blocks that it leads to are marked. -/
def frz (h : Heap) : AV → Option (AV × List (Nat × Slot))
  | .rs i off len tot _ => match h i with
    | .blk k => if k.cells.length = tot ∧ off + len * k.esz ≤ tot ∧ AV.m0L ((k.cells.take (off + len * k.esz)).drop off) = true then some (.ds {} ((k.cells.take (off + len * k.esz)).drop off) len, [(i, .blk { k with ao := true })]) else none
    | _ => none
  | .ra i off tot => match h i with
    | .blk k => if k.cells.length = tot ∧ AV.m0L ((k.cells.take k.cells.length).drop off) = true then some (.da false ((k.cells.take k.cells.length).drop off), [(i, .blk { k with ao := true })]) else none
    | _ => none
  | .fn f a b => match frzL h a with
    | some (a, u) => match frzL (putAll h u) b with
      | some (b, v) => some (.fn f a b, u ++ v)
      | none => none
    | none => none
  | .iface t a => (frz h a).map fun x => (.iface t x.1, x.2)
  | .agg l => (frzL h l).map fun x => (.agg x.1, x.2)
  | .tup l => (frzL h l).map fun x => (.tup x.1, x.2)
  | a => if a.m0 then some (a, []) else none
def frzL (h : Heap) : List AV → Option (List AV × List (Nat × Slot))
  | [] => some ([], [])
  | a :: l => match frz h a with
    | some (a, u) => match frzL (putAll h u) l with
      | some (l, v) => some (a :: l, u ++ v)
      | none => none
    | none => none
end

theorem putAll_append (h : Heap) (u v : List (Nat × Slot)) : putAll h (u ++ v) = putAll (putAll h u) v := by
  induction u generalizing h with
  | nil => rfl
  | cons x u ih => exact ih _

/-- A nowhere block, marked. -/
theorem RelH.mark0 (r : RelH c φ F h w) {i : Nat} {k : Blk} (hi : h i = .blk k) : RelH c φ F (upd h i (.blk { k with ao := true })) w := by
  have hkk : ∀ j l, upd h i (.blk { k with ao := true }) j = .blk l → ∃ l', h j = .blk l' ∧ l'.cells = l.cells ∧ l'.fixed = l.fixed ∧ l'.esz = l.esz ∧ (l'.ao = true → l.ao = true) ∧ l'.ty = l.ty := by
    intro j l ej
    by_cases hj : j = i
    · subst hj
      simp at ej
      subst ej
      exact ⟨k, hi, rfl, rfl, rfl, fun _ => rfl, rfl⟩
    · rw [upd_ne _ _ hj] at ej
      exact ⟨l, ej, rfl, rfl, rfl, id, rfl⟩
  have hregs : ∀ (l l' : Blk) (M : Loc) b o, l'.cells = l.cells → l'.fixed = l.fixed → l.reg M b o → l'.reg M b o := fun l l' M b o h1 h2 ⟨a1, a2, a3⟩ => ⟨a1, a2, fun hf => by rw [h1]; exact a3 (by rw [← h2]; exact hf)⟩
  have ho : ∀ j o, upd h i (.blk { k with ao := true }) j = .obj o → h j = .obj o := fun j o ej => by
    have hj : j ≠ i := fun e => by subst e; simp at ej
    rw [upd_ne _ _ hj] at ej
    exact ej
  refine ⟨?_, ?_, ?_, ?_, r.fsub, r.fnew, r.fdom, r.frame, fun j o ej => r.obj j o (ho j o ej), fun j1 j2 o p L M hne e1 e2 => r.objap j1 j2 o p L M hne (ho _ _ e1) (ho _ _ e2)⟩
  · intro j l ej
    obtain ⟨l', e1, e2, e3, e4, e5, e6⟩ := hkk j l ej
    rcases r.loc j l' e1 with ⟨h1, h2, h3, h4⟩ | ⟨M, f1, ml⟩
    · exact .inl ⟨h1, by rw [← e2]; exact h2, by rw [← e3]; exact h3, by rw [← e6]; exact h4⟩
    · refine .inr ⟨M, by rw [← e2]; exact f1, by rw [← e4]; exact ml.esz, ml.row, by rw [← e2]; exact ml.room, fun n a en => ml.cell n a (by rw [e2]; exact en), fun o ho => ?_, ml.zero, by rw [← e6]; exact ml.typ⟩
      obtain ⟨h1, h2, h3⟩ := ml.own o (hregs l l' M M.b o e2 e3 ho)
      exact ⟨h1, fun hf => ⟨e5 (h2 hf).1, by rw [← e2]; exact (h2 hf).2⟩, h3⟩
  · intro j l t M ej et
    obtain ⟨l', e1, e2, _⟩ := hkk j l ej
    rw [← e2]
    exact r.top j l' t M e1 et
  · intro j1 j2 l1 l2 M1 M2 hne e1 e2 f1 f2 hr1 hr2
    obtain ⟨l1', a1, a2, a3, _⟩ := hkk j1 l1 e1
    obtain ⟨l2', b1, b2, b3, _⟩ := hkk j2 l2 e2
    exact r.apart j1 j2 l1' l2' M1 M2 hne a1 b1 (by rw [a2]; exact f1) (by rw [b2]; exact f2) hr1 hr2
  · intro j t ej
    by_cases hj : j = i
    · subst hj
      simp at ej
    · rw [upd_ne _ _ hj] at ej
      exact r.fresh j t ej

theorem frz_block (r : RelH c φ F h w) {i : Nat} {k : Blk} (lo hi : Nat) {L : Loc} (hi' : h i = .blk k) (hL : φ i k.cells.length = some L) (hhi : hi ≤ k.cells.length) (hm : AV.m0L ((k.cells.take hi).drop lo) = true) :
    ∃ F', RelH c φ F' (upd h i (.blk { k with ao := true })) w ∧ Grow c.G0 φ F w φ F' w ∧ Cells φ F' c.G0 w false L.b (L.base + lo) ((k.cells.take hi).drop lo) := by
  rcases r.loc i k hi' with ⟨q1, q2, _⟩ | ⟨M, q1, q2⟩
  · refine ⟨F, r.mark0 hi', Grow.refl .., ?_⟩
    rw [q2]
    simp
    exact .nil
  · rw [hL] at q1
    cases q1
    exact r.freeze lo hi hi' hL q2 hhi hm

mutual
theorem frz_sound : ∀ {a a' : AV} {u : List (Nat × Slot)} {h : Heap} {F : CSet} {v : Value}, frz h a = some (a', u) → RelH c φ F h w → Rep φ F c.G0 w 2 a v →
    ∃ F', RelH c φ F' (putAll h u) w ∧ Grow c.G0 φ F w φ F' w ∧ Rep φ F' c.G0 w 0 a' v
  | .rs i off len tot cap, a', u, h, F, v, he, r, hv => by
    simp only [frz] at he
    split at he
    · rename_i k hi
      split at he
      · rename_i hc
        obtain ⟨c1, c2, c3⟩ := hc
        cases he
        cases hv with
        | rsn g1 gk g2 =>
          refine ⟨F, by simpa [putAll] using r.mark0 hi, Grow.refl .., ?_⟩
          have : (k.cells.take (off + 0 * k.esz)).drop off = [] := by simp
          rw [this]
          exact .dsn rfl (by simp)
        | rs g0 g1 g2 g3 g4 =>
          rw [← c1] at g1
          obtain ⟨F', f1, f2, f3⟩ := frz_block r off (off + len * k.esz) hi g1 (by omega) c3
          exact ⟨F', by simpa [putAll] using f1, f2, .ds (by simp) (by simp) g3 f3⟩
      · cases he
    · cases he
  | .ra i off tot, a', u, h, F, v, he, r, hv => by
    simp only [frz] at he
    split at he
    · rename_i k hi
      split at he
      · rename_i hc
        obtain ⟨c1, c3⟩ := hc
        cases he
        cases hv with
        | ra g0 g1 =>
          rw [← c1] at g1
          obtain ⟨F', f1, f2, f3⟩ := frz_block r off k.cells.length hi g1 (Nat.le_refl _) c3
          exact ⟨F', by simpa [putAll] using f1, f2, .da (by simp) f3⟩
      · cases he
    · cases he
  | .fn f a b, a', u, h, F, v, he, r, hv => by
    simp only [frz] at he
    split at he
    · rename_i a1 u1 h1
      split at he
      · rename_i b1 u2 h2
        cases he
        cases hv with
        | fn k1 k2 =>
          obtain ⟨F1, f1, f2, f3⟩ := frzL_sound h1 r k1
          obtain ⟨F2, g1, g2, g3⟩ := frzL_sound h2 f1 (f2.repL k2)
          exact ⟨F2, by rw [putAll_append]; exact g1, f2.trans g2, .fn (g2.repL f3) g3⟩
      · cases he
    · cases he
  | .iface t a, a', u, h, F, v, he, r, hv => by
    simp only [frz, Option.map_eq_some_iff] at he
    obtain ⟨⟨x, y⟩, h1, h2⟩ := he
    cases h2
    cases hv with
    | iface k =>
      obtain ⟨F1, f1, f2, f3⟩ := frz_sound h1 r k
      exact ⟨F1, f1, f2, .iface f3⟩
  | .agg l, a', u, h, F, v, he, r, hv => by
    simp only [frz, Option.map_eq_some_iff] at he
    obtain ⟨⟨x, y⟩, h1, h2⟩ := he
    cases h2
    cases hv with
    | agg k =>
      obtain ⟨F1, f1, f2, f3⟩ := frzL_sound h1 r k
      exact ⟨F1, f1, f2, .agg f3⟩
  | .tup l, a', u, h, F, v, he, r, hv => by
    simp only [frz, Option.map_eq_some_iff] at he
    obtain ⟨⟨x, y⟩, h1, h2⟩ := he
    cases h2
    cases hv with
    | tup k =>
      obtain ⟨F1, f1, f2, f3⟩ := frzL_sound h1 r k
      exact ⟨F1, f1, f2, .tup f3⟩
  | .junk, a', u, h, F, v, he, r, hv => frz_plain rfl he r hv
  | .bool b, a', u, h, F, v, he, r, hv => frz_plain rfl he r hv
  | .int k n, a', u, h, F, v, he, r, hv => frz_plain rfl he r hv
  | .str s, a', u, h, F, v, he, r, hv => frz_plain rfl he r hv
  | .nilp, a', u, h, F, v, he, r, hv => frz_plain rfl he r hv
  | .nils, a', u, h, F, v, he, r, hv => frz_plain rfl he r hv
  | .nilf, a', u, h, F, v, he, r, hv => frz_plain rfl he r hv
  | .nili, a', u, h, F, v, he, r, hv => frz_plain rfl he r hv
  | .nilm, a', u, h, F, v, he, r, hv => frz_plain rfl he r hv
  | .mp i, a', u, h, F, v, he, r, hv => frz_plain rfl he r hv
  | .it i, a', u, h, F, v, he, r, hv => frz_plain rfl he r hv
  | .ds x y z, a', u, h, F, v, he, r, hv => frz_plain rfl he r hv
  | .da x y, a', u, h, F, v, he, r, hv => frz_plain rfl he r hv
theorem frzL_sound : ∀ {a a' : List AV} {u : List (Nat × Slot)} {h : Heap} {F : CSet} {v : List Value}, frzL h a = some (a', u) → RelH c φ F h w → RepL φ F c.G0 w 2 a v →
    ∃ F', RelH c φ F' (putAll h u) w ∧ Grow c.G0 φ F w φ F' w ∧ RepL φ F' c.G0 w 0 a' v
  | [], a', u, h, F, v, he, r, hv => by
    simp [frzL] at he
    obtain ⟨rfl, rfl⟩ := he
    cases hv
    exact ⟨F, r, Grow.refl .., .nil⟩
  | a :: l, a', u, h, F, v, he, r, hv => by
    simp only [frzL] at he
    split at he
    · rename_i a1 u1 h1
      split at he
      · rename_i b1 u2 h2
        cases he
        cases hv with
        | cons k1 k2 =>
          obtain ⟨F1, f1, f2, f3⟩ := frz_sound h1 r k1
          obtain ⟨F2, g1, g2, g3⟩ := frzL_sound h2 f1 (f2.repL k2)
          exact ⟨F2, by rw [putAll_append]; exact g1, f2.trans g2, .cons (g2.rep f3) g3⟩
      · cases he
    · cases he
theorem frz_plain : ∀ {a a' : AV} {u : List (Nat × Slot)} {h : Heap} {F : CSet} {v : Value}, frz h a = (if a.m0 then some (a, []) else none) → frz h a = some (a', u) → RelH c φ F h w → Rep φ F c.G0 w 2 a v →
    ∃ F', RelH c φ F' (putAll h u) w ∧ Grow c.G0 φ F w φ F' w ∧ Rep φ F' c.G0 w 0 a' v
  | a, a', u, h, F, v, hq, he, r, hv => by
    rw [hq] at he
    split at he
    · rename_i hm
      cases he
      exact ⟨F, r, Grow.refl .., hv.m0 hm⟩
    · cases he
end

mutual
/-- No reference into the frame's heap (at the top). -/
def AV.m1 : AV → Bool
  | .rs .. | .ra .. | .mp .. | .it .. => false
  | .fn _ a b => AV.m1L a && AV.m1L b
  | .iface _ a => a.m1
  | .agg l => AV.m1L l
  | .tup l => AV.m1L l
  | _ => true
def AV.m1L : List AV → Bool
  | [] => true
  | a :: l => a.m1 && AV.m1L l
end

mutual
theorem Rep.m1 {G : CSet} : ∀ {m a v}, a.m1 = true → Rep φ F G w m a v → Rep φ F G w 1 a v
  | _, _, _, _, .junk => .junk
  | _, _, _, _, .bool => .bool
  | _, _, _, _, .int => .int
  | _, _, _, _, .str => .str
  | _, _, _, _, .nilp => .nilp
  | _, _, _, _, .nils => .nils
  | _, _, _, _, .nilf => .nilf
  | _, _, _, _, .nili => .nili
  | _, _, _, _, .dsn h1 h2 => .dsn h1 h2
  | _, _, _, hm, .ds h1 h2 h3 h4 => .ds (fun e => Nat.le_refl _) h2 h3 h4
  | _, _, _, hm, .da h1 h2 => .da (fun e => Nat.le_refl _) h2
  | _, _, _, hm, .rsn h0 hk h => by simp [AV.m1] at hm
  | _, _, _, hm, .rs h0 h1 h2 h3 h4 => by simp [AV.m1] at hm
  | _, _, _, hm, .ra h0 h => by simp [AV.m1] at hm
  | _, _, _, _, .nilm => .nilm
  | _, _, _, hm, .mp h0 h => by simp [AV.m1] at hm
  | _, _, _, hm, .it h0 h => by simp [AV.m1] at hm
  | _, _, _, hm, .fn h1 h2 => by
      simp [AV.m1] at hm
      exact .fn (RepL.m1 hm.1 h1) (RepL.m1 hm.2 h2)
  | _, _, _, hm, .iface h => .iface (Rep.m1 (by simpa [AV.m1] using hm) h)
  | _, _, _, hm, .agg h => .agg (RepL.m1 (by simpa [AV.m1] using hm) h)
  | _, _, _, hm, .tup h => .tup (RepL.m1 (by simpa [AV.m1] using hm) h)
theorem RepL.m1 {G : CSet} : ∀ {m as vs}, AV.m1L as = true → RepL φ F G w m as vs → RepL φ F G w 1 as vs
  | _, _, _, _, .nil => .nil
  | _, _, _, hm, .cons h k => by
      simp [AV.m1L] at hm
      exact .cons (Rep.m1 hm.1 h) (RepL.m1 hm.2 k)
end

/-- A value lent: what it leads to of the frame's own is borrowed data. -/
def lnd (h : Heap) : Nat → AV → Option AV
  | 0, a => if a.m1 then some a else none
  | d + 1, a => if a.m1 then some a else match a with
    | .rs i off len tot _ => match h i with
      | .blk k => if k.cells.length = tot ∧ off + len * k.esz ≤ tot then (((k.cells.take (off + len * k.esz)).drop off).mapM (lnd h d)).map fun cs => .ds { tag := true } cs len else none
      | _ => none
    | .ra i off tot => match h i with
      | .blk k => if k.cells.length = tot then ((k.cells.drop off).mapM (lnd h d)).map fun cs => .da true cs else none
      | _ => none
    | .fn f x y => match x.mapM (lnd h d), y.mapM (lnd h d) with
      | some x, some y => some (.fn f x y)
      | _, _ => none
    | .iface t x => (lnd h d x).map fun x => .iface t x
    | .agg l => (l.mapM (lnd h d)).map fun l => .agg l
    | .tup l => (l.mapM (lnd h d)).map fun l => .tup l
    | _ => none

/-- What is borrowed while a frame's callee runs. -/
def Lent (c : Ctx) (φ : Locs) (h : Heap) : CSet := fun b o => c.G0 b o ∨ ∃ i k L, h i = .blk k ∧ φ i k.cells.length = some L ∧ b = L.b ∧ L.base ≤ o ∧ o < L.base + k.cells.length

theorem mapM_get {α β : Type} {f : α → Option β} : ∀ {l : List α} {l' : List β}, l.mapM f = some l' → l.length = l'.length ∧ ∀ (i : Nat) (a : α), l[i]? = some a → ∃ b, l'[i]? = some b ∧ f a = some b
  | [], l', e => by
    simp at e
    subst e
    exact ⟨rfl, by simp⟩
  | a :: l, l', e => by
    simp only [List.mapM_cons, Option.bind_eq_bind, Option.pure_def, Option.bind_eq_some_iff] at e
    obtain ⟨b, h1, l2, h2, h3⟩ := e
    cases h3
    obtain ⟨g1, g2⟩ := mapM_get h2
    refine ⟨by simp [g1], fun i x e => ?_⟩
    cases i with
    | zero => simp at e; subst e; exact ⟨b, rfl, h1⟩
    | succ i => simpa using g2 i x (by simpa using e)

theorem lnd_sound (r : RelH c φ F h w) : ∀ {d : Nat} {a a' : AV} {v : Value}, lnd h d a = some a' → Rep φ F c.G0 w 2 a v → Rep φ F (Lent c φ h) w 1 a' v := by
  have hup : ∀ {m a v}, Rep φ F c.G0 w m a v → Rep φ F (Lent c φ h) w m a v := fun k => k.mono (fun _ _ _ e => e) (fun _ _ e => ⟨e, rfl⟩) (fun _ _ e => ⟨.inl e, rfl⟩)
  intro d
  induction d with
  | zero =>
    intro a a' v he hv
    simp only [lnd] at he
    split at he
    · rename_i hm
      cases he
      exact hup (hv.m1 hm)
    · cases he
  | succ d ih =>
    intro a a' v he hv
    have ihL : ∀ {l l' : List AV} {vs : List Value}, l.mapM (lnd h d) = some l' → RepL φ F c.G0 w 2 l vs → RepL φ F (Lent c φ h) w 1 l' vs := by
      intro l l' vs e hr
      obtain ⟨g1, g2⟩ := mapM_get e
      refine RepL.ofGet (by rw [← g1]; exact hr.len) fun i b u e1 e2 => ?_
      have hi : i < l.length := by
        rcases Nat.lt_or_ge i l.length with h | h
        · exact h
        · rw [List.getElem?_eq_none (by omega)] at e1
          cases e1
      obtain ⟨b', f1, f2⟩ := g2 i l[i] (List.getElem?_eq_getElem hi)
      rw [e1] at f1
      cases f1
      obtain ⟨u', f3, f4⟩ := hr.get i l[i] (List.getElem?_eq_getElem hi)
      rw [e2] at f3
      cases f3
      exact ih f2 f4
    have hblk : ∀ {i : Nat} {k : Blk} {L : Loc} {lo : Nat} {l l' : List AV}, h i = .blk k → φ i k.cells.length = some L → (∀ (j : Nat) (a : AV), l[j]? = some a → k.cells[lo + j]? = some a) → l.mapM (lnd h d) = some l' →
        Cells φ F (Lent c φ h) w true L.b (L.base + lo) l' := by
      intro i k L lo l l' hi hL hsub e
      obtain ⟨g1, g2⟩ := mapM_get e
      refine Cells.ofGet fun j b e1 => ?_
      have hj : j < l.length := by
        rcases Nat.lt_or_ge j l.length with h | h
        · exact h
        · rw [List.getElem?_eq_none (by omega)] at e1
          cases e1
      obtain ⟨b', f1, f2⟩ := g2 j l[j] (List.getElem?_eq_getElem hj)
      rw [e1] at f1
      cases f1
      have hk := hsub j l[j] (List.getElem?_eq_getElem hj)
      rcases r.loc i k hi with ⟨q1, q2, _⟩ | ⟨M, q1, q2⟩
      · rw [q2] at hk
        simp at hk
      · rw [hL] at q1
        cases q1
        obtain ⟨u, f3, f4, f5⟩ := q2.cell _ _ hk
        have hlt : lo + j < k.cells.length := by
          rcases Nat.lt_or_ge (lo + j) k.cells.length with h | h
          · exact h
          · rw [List.getElem?_eq_none h] at hk
            cases hk
        refine ⟨?_, u, by rw [Nat.add_assoc]; exact f3, ?_, f5⟩
        · simp only [if_true]
          exact .inr ⟨i, k, L, hi, hL, rfl, by omega, by omega⟩
        · simp only [if_true]
          exact ih f2 f4
    simp only [lnd] at he
    split at he
    · rename_i hm
      cases he
      exact hup (hv.m1 hm)
    · split at he
      · rename_i i off len tot cap
        split at he
        · rename_i k hi
          split at he
          · rename_i hc
            obtain ⟨c1, c2⟩ := hc
            rw [Option.map_eq_some_iff] at he
            obtain ⟨cs, h1, rfl⟩ := he
            cases hv with
            | rsn g1 gk g2 =>
              simp at h1
              subst h1
              exact .dsn rfl (by simp)
            | rs g0 g1 g2 g3 g4 =>
              rw [← c1] at g1
              refine .ds (fun _ => Nat.le_refl _) (by simp) g3 (hblk hi g1 (fun j a e => ?_) h1)
              rw [List.getElem?_drop, List.getElem?_take] at e
              split at e
              · exact e
              · cases e
          · cases he
        · cases he
      · rename_i i off tot
        split at he
        · rename_i k hi
          split at he
          · rename_i c1
            rw [Option.map_eq_some_iff] at he
            obtain ⟨cs, h1, rfl⟩ := he
            cases hv with
            | ra g0 g1 =>
              rw [← c1] at g1
              refine .da (fun _ => Nat.le_refl _) (hblk hi g1 (fun j a e => ?_) h1)
              rwa [List.getElem?_drop] at e
          · cases he
        · cases he
      · split at he
        · rename_i x y h1 h2
          cases he
          cases hv with
          | fn k1 k2 => exact .fn (ihL h1 k1) (ihL h2 k2)
        · cases he
      · rw [Option.map_eq_some_iff] at he
        obtain ⟨x, h1, rfl⟩ := he
        cases hv with
        | iface k => exact .iface (ih h1 k)
      · rw [Option.map_eq_some_iff] at he
        obtain ⟨x, h1, rfl⟩ := he
        cases hv with
        | agg k => exact .agg (ihL h1 k)
      · rw [Option.map_eq_some_iff] at he
        obtain ⟨x, h1, rfl⟩ := he
        cases hv with
        | tup k => exact .tup (ihL h1 k)
      · cases he

/-- The caller's side of a call to which nothing of its own goes but lent or made data. -/
theorem RelH.called (r : RelH c φ F h w) {F' : CSet} {w' : World} (hf : Framed (fun _ _ => False) w w') (hs : ∀ b o, F b o → F' b o) (hn : ∀ b o, F' b o → F b o ∨ w.heap.size ≤ b) (hd : ∀ b o, F' b o → b < w'.heap.size) :
    RelH c φ F' h w' ∧ Grow c.G0 φ F w φ F' w' := by
  have hg : Grow c.G0 φ F w φ F' w' := ⟨fun _ _ _ e => e, fun b o e => ⟨hs b o e, hf.cell (r.fdom b o (.inl e)) id⟩, fun b o e => ⟨e, hf.cell (r.fdom b o (.inr e)) id⟩⟩
  refine ⟨⟨?_, r.top, r.apart, r.fresh, fun b o e => hs b o (r.fsub b o e), ?_, ?_, r.frame.after hf (fun _ _ e => e.elim), fun j o ej => (r.obj j o ej).imp fun M h => ⟨h.1, h.2.grow hg fun ob e ho => hf.objSame e ho id⟩, r.objap⟩, hg⟩
  · intro i k e
    rcases r.loc i k e with q | ⟨L, h1, l⟩
    · exact .inl q
    · refine .inr ⟨L, h1, l.esz, hf.shape (fun _ h => h) l.row, l.room, fun j a ej => ?_, fun o ho => ?_, l.zero, fun t ht => hf.shapeE (fun _ h => h) (l.typ t ht)⟩
      · obtain ⟨v, h2, h3, h4⟩ := l.cell j a ej
        exact ⟨v, by rw [hf.cell l.lt id]; exact h2, hg.rep h3, h4⟩
      · obtain ⟨h2, h3, h4⟩ := l.own o ho
        refine ⟨h2, fun e => ?_, h4⟩
        rcases hn _ _ e with e | e
        · exact h3 e
        · have := l.lt
          omega
  · intro b o e
    rcases hn b o e with e | e
    · exact r.fnew b o e
    · exact .inr (.inr (Nat.le_trans r.frame.size e))
  · intro b o e
    rcases e with e | e
    · exact hd b o e
    · exact Nat.lt_of_lt_of_le (r.fdom b o (.inr e)) hf.size
end
end Go.Proofs.YtpiincgiakkljaaGreatDoor
/-
  What a function gives is made data, as deep as it goes.
-/
namespace Go.Proofs.YtpiincgiakkljaaGreatDoor
open Go

def frzDL (f : Heap → AV → Option (AV × List (Nat × Slot))) : Heap → List AV → Option (List AV × List (Nat × Slot))
  | _, [] => some ([], [])
  | h, a :: l => match f h a with
    | some (a', u) => match frzDL f (putAll h u) l with
      | some (l', u') => some (a' :: l', u ++ u')
      | none => none
    | none => none

def frzD : Nat → Heap → AV → Option (AV × List (Nat × Slot))
  | 0, h, a => frz h a
  | d + 1, h, a => match a with
    | .rs i off len tot _ => match h i with
      | .blk k => if k.cells.length = tot ∧ off + len * k.esz ≤ tot then (match frzDL (frzD d) h ((k.cells.take (off + len * k.esz)).drop off) with
          | some (cs, u) => if (u.map (·.1)).contains i = false ∧ AV.m0L cs = true then some (.ds {} cs len, u ++ [(i, .blk { k with cells := splice k.cells off cs, ao := true })]) else none
          | none => none) else none
      | _ => none
    | .ra i off tot => match h i with
      | .blk k => if k.cells.length = tot ∧ off ≤ tot then (match frzDL (frzD d) h (k.cells.drop off) with
          | some (cs, u) => if (u.map (·.1)).contains i = false ∧ AV.m0L cs = true then some (.da false cs, u ++ [(i, .blk { k with cells := splice k.cells off cs, ao := true })]) else none
          | none => none) else none
      | _ => none
    | .iface t x => (frzD d h x).map fun p => (.iface t p.1, p.2)
    | .agg l => (frzDL (frzD d) h l).map fun p => (.agg p.1, p.2)
    | .tup l => (frzDL (frzD d) h l).map fun p => (.tup p.1, p.2)
    | a => frz h a

section
variable {c : Ctx} {φ : Locs} {F : CSet} {h : Heap} {w : World}

/-- A block's cells, told otherwise. -/
theorem RelH.recell (r : RelH c φ F h w) {i : Nat} {k : Blk} {l' : List AV} (hi : h i = .blk k) (hlen : l'.length = k.cells.length)
    (hc : ∀ L, φ i k.cells.length = some L → Lies c φ F w k L → ∀ (j : Nat) (a : AV), l'[j]? = some a → ∃ v, w.cell? ⟨L.b, L.base + j, none⟩ = some v ∧ Rep φ F c.G0 w 2 a v ∧ v.oneCell' = true) :
    RelH c φ F (upd h i (.blk { k with cells := l' })) w := by
  have hkk : ∀ j l, upd h i (.blk { k with cells := l' }) j = .blk l → ∃ l0, h j = .blk l0 ∧ l0.cells.length = l.cells.length ∧ l0.fixed = l.fixed ∧ l0.esz = l.esz ∧ l0.ao = l.ao ∧ l0.ty = l.ty ∧ (j ≠ i → l0 = l) ∧ (j = i → l0 = k ∧ l.cells = l') := by
    intro j l ej
    by_cases hj : j = i
    · subst hj
      simp at ej
      subst ej
      exact ⟨k, hi, hlen.symm, rfl, rfl, rfl, rfl, fun h => absurd rfl h, fun _ => ⟨rfl, rfl⟩⟩
    · rw [upd_ne _ _ hj] at ej
      exact ⟨l, ej, rfl, rfl, rfl, rfl, rfl, fun _ => rfl, fun h => absurd h hj⟩
  have ho : ∀ j o, upd h i (.blk { k with cells := l' }) j = .obj o → h j = .obj o := fun j o ej => by
    have hj : j ≠ i := fun e => by subst e; simp at ej
    rwa [upd_ne _ _ hj] at ej
  refine ⟨fun j l ej => ?_, fun j l t M ej et => ?_, fun j1 j2 l1 l2 M1 M2 hne e1 e2 f1 f2 g1 g2 => ?_, fun j t ej => ?_, r.fsub, r.fnew, r.fdom, r.frame, fun j o ej => r.obj j o (ho j o ej), fun j1 j2 o p L M hne e1 e2 => r.objap j1 j2 o p L M hne (ho _ _ e1) (ho _ _ e2)⟩
  · obtain ⟨l0, e1, e2, e3, e4, e5, e6, e7, e8⟩ := hkk j l ej
    rcases r.loc j l0 e1 with ⟨q1, q2, q3, q4⟩ | ⟨M, f1, ml⟩
    · exact .inl ⟨q1, List.length_eq_zero_iff.1 (by rw [← e2, q2]; rfl), by rw [← e3]; exact q3, by rw [← e6]; exact q4⟩
    · have hreg : ∀ b o, l.reg M b o → l0.reg M b o := fun b o ⟨a1, a2, a3⟩ => ⟨a1, a2, fun hf => by rw [e2]; exact a3 (by rw [← e3]; exact hf)⟩
      refine .inr ⟨M, by rw [← e2]; exact f1, by rw [← e4]; exact ml.esz, ml.row, by rw [← e2]; exact ml.room, fun m a em => ?_, fun o ho => ?_, ml.zero, by rw [← e6]; exact ml.typ⟩
      · by_cases hj : j = i
        · obtain ⟨q1, q2⟩ := e8 hj
          subst hj
          subst q1
          rw [q2] at em
          exact hc M f1 ml m a em
        · have := e7 hj
          subst this
          exact ml.cell m a em
      · obtain ⟨h1, h2, h3⟩ := ml.own o (hreg _ _ ho)
        exact ⟨h1, fun hf => by have := h2 hf; rw [e5, e2] at this; exact this, h3⟩
  · obtain ⟨l0, e1, e2, _⟩ := hkk j l ej
    rw [← e2]
    exact r.top j l0 t M e1 et
  · obtain ⟨k1, a1, a2, _⟩ := hkk j1 l1 e1
    obtain ⟨k2, b1, b2, _⟩ := hkk j2 l2 e2
    exact r.apart j1 j2 k1 k2 M1 M2 hne a1 b1 (by rw [a2]; exact f1) (by rw [b2]; exact f2) g1 g2
  · have hj : j ≠ i := fun e => by subst e; simp at ej
    rw [upd_ne _ _ hj] at ej
    exact r.fresh j t ej

theorem frzDL_sound {f : Heap → AV → Option (AV × List (Nat × Slot))}
    (hf : ∀ {a a' : AV} {u : List (Nat × Slot)} {h : Heap} {F : CSet} {v : Value}, f h a = some (a', u) → RelH c φ F h w → Rep φ F c.G0 w 2 a v → ∃ F', RelH c φ F' (putAll h u) w ∧ Grow c.G0 φ F w φ F' w ∧ Rep φ F' c.G0 w 0 a' v) :
    ∀ {l l' : List AV} {u : List (Nat × Slot)} {h : Heap} {F : CSet} {vs : List Value}, frzDL f h l = some (l', u) → RelH c φ F h w → RepL φ F c.G0 w 2 l vs → ∃ F', RelH c φ F' (putAll h u) w ∧ Grow c.G0 φ F w φ F' w ∧ RepL φ F' c.G0 w 0 l' vs := by
  intro l
  induction l with
  | nil =>
    intro l' u h F vs he r hv
    simp [frzDL] at he
    obtain ⟨rfl, rfl⟩ := he
    cases hv
    exact ⟨F, r, Grow.refl .., .nil⟩
  | cons a l ih =>
    intro l' u h F vs he r hv
    simp only [frzDL] at he
    split at he
    · rename_i a1 u1 h1
      split at he
      · rename_i l1 u2 h2
        cases he
        cases hv with
        | cons k1 k2 =>
          obtain ⟨F1, f1, f2, f3⟩ := hf h1 r k1
          obtain ⟨F2, g1, g2, g3⟩ := ih h2 f1 (f2.repL k2)
          exact ⟨F2, by rw [putAll_append]; exact g1, f2.trans g2, .cons (g2.rep f3) g3⟩
      · cases he
    · cases he

theorem putAll_not {u : List (Nat × Slot)} : ∀ {h : Heap} {i : Nat}, (u.map (·.1)).contains i = false → putAll h u i = h i := by
  induction u with
  | nil => intro h i _; rfl
  | cons p u ih =>
    intro h i hi
    simp only [List.map_cons, List.contains_cons, Bool.or_eq_false_iff] at hi
    show putAll (upd h p.1 p.2) u i = h i
    rw [ih hi.2, upd_ne _ _ (by simpa using hi.1)]

theorem m0L_splice {cs : List AV} {l : List AV} {off : Nat} (hle : off + cs.length ≤ l.length) (hm : AV.m0L cs = true) : AV.m0L (((splice l off cs).take (off + cs.length)).drop off) = true := by
  have : ((splice l off cs).take (off + cs.length)).drop off = cs := by
    apply List.ext_getElem?
    intro n
    rw [List.getElem?_drop, List.getElem?_take]
    split
    · rw [splice_get _ _ _ hle]
      rename_i h
      rw [if_pos ⟨by omega, by omega⟩]
      congr 1
      omega
    · rw [List.getElem?_eq_none (by omega)]
  rw [this]
  exact hm

theorem seg_eq {cs : List AV} {l : List AV} {off : Nat} (hle : off + cs.length ≤ l.length) : ((splice l off cs).take (off + cs.length)).drop off = cs := by
  apply List.ext_getElem?
  intro n
  rw [List.getElem?_drop, List.getElem?_take]
  split
  · rw [splice_get _ _ _ hle]
    rename_i h
    rw [if_pos ⟨by omega, by omega⟩]
    congr 1
    omega
  · rw [List.getElem?_eq_none (by omega)]

theorem putAll_snoc (h : Heap) (u : List (Nat × Slot)) (i : Nat) (s : Slot) : putAll h (u ++ [(i, s)]) = upd (putAll h u) i s := by
  rw [putAll_append]
  rfl

/-- A block whose cells from a place on are made data. -/
theorem frz_seg (r : RelH c φ F h w) {f : Heap → AV → Option (AV × List (Nat × Slot))}
    (hf : ∀ {a a' : AV} {u : List (Nat × Slot)} {h : Heap} {F : CSet} {v : Value}, f h a = some (a', u) → RelH c φ F h w → Rep φ F c.G0 w 2 a v → ∃ F', RelH c φ F' (putAll h u) w ∧ Grow c.G0 φ F w φ F' w ∧ Rep φ F' c.G0 w 0 a' v)
    {i : Nat} {k : Blk} {off n : Nat} {cs : List AV} {u : List (Nat × Slot)} {L : Loc} (hi : h i = .blk k) (hL : φ i k.cells.length = some L) (hle : off + n ≤ k.cells.length) (he : frzDL f h ((k.cells.take (off + n)).drop off) = some (cs, u))
    (hu : (u.map (·.1)).contains i = false) (hm : AV.m0L cs = true) :
    ∃ F', RelH c φ F' (putAll h (u ++ [(i, .blk { k with cells := splice k.cells off cs, ao := true })])) w ∧ Grow c.G0 φ F w φ F' w ∧ Cells φ F' c.G0 w false L.b (L.base + off) cs := by
  rcases r.loc i k hi with ⟨q1, q2, q3⟩ | ⟨M, q1, lies⟩
  · rw [q2] at hle
    have h0 : off = 0 ∧ n = 0 := by simp at hle; omega
    obtain ⟨rfl, rfl⟩ := h0
    have hnil : ((k.cells.take (0 + 0)).drop 0) = [] := by simp
    rw [hnil] at he
    simp [frzDL] at he
    obtain ⟨rfl, rfl⟩ := he
    refine ⟨F, ?_, Grow.refl .., .nil⟩
    have hs : splice k.cells 0 ([] : List AV) = k.cells := by simp [splice]
    rw [hs]
    exact r.mark0 hi
  · rw [hL] at q1
    cases q1
    have hseg : ((k.cells.take (off + n)).drop off).length = n := by simp; omega
    obtain ⟨vs, e1, e2, e3, e4⟩ := rows_of (c := c) (φ := φ) (F := F) (w := w) (b := L.b) (o := L.base + off) (n := n) (cs := (k.cells.take (off + n)).drop off) (fun j x ej => by
      rw [List.getElem?_drop, List.getElem?_take] at ej
      split at ej
      · obtain ⟨u, f1, f2, f3⟩ := lies.cell _ _ ej
        exact ⟨u, by rw [Nat.add_assoc]; exact f1, f2, f3⟩
      · cases ej) hseg
    obtain ⟨F1, r1, g1, rl⟩ := frzDL_sound hf he r e2
    have hcl : cs.length = n := by rw [rl.len, e1]
    have hi1 : putAll h u i = .blk k := by rw [putAll_not hu]; exact hi
    have hsl := splice_length k.cells off cs (by omega)
    have r2 := r1.recell (l' := splice k.cells off cs) hi1 hsl (fun L' hL' lies' j a ej => by
      rw [hL] at hL'
      cases hL'
      rw [splice_get _ _ _ (by omega)] at ej
      split at ej
      · rename_i hj
        obtain ⟨v, f1, f2⟩ := rl.get _ _ ej
        refine ⟨v, ?_, f2.up (by omega), e4 v (List.mem_of_getElem? f1)⟩
        have := e3 (j - off) v f1
        rwa [show L.base + off + (j - off) = L.base + j by omega] at this
      · exact lies'.cell j a ej)
    obtain ⟨F2, s1, s2, s3⟩ := frz_block r2 off (off + cs.length) (L := L) (upd_same _ _ _) (by simp only [hsl]; exact hL) (by simp only [hsl]; omega) (m0L_splice (by omega) hm)
    refine ⟨F2, ?_, g1.trans s2, ?_⟩
    · rw [putAll_snoc]
      rw [upd_upd] at s1
      exact s1
    · simp only at s3
      rwa [seg_eq (by omega)] at s3

theorem frzD_sound : ∀ {d : Nat} {a a' : AV} {u : List (Nat × Slot)} {h : Heap} {F : CSet} {v : Value}, frzD d h a = some (a', u) → RelH c φ F h w → Rep φ F c.G0 w 2 a v →
    ∃ F', RelH c φ F' (putAll h u) w ∧ Grow c.G0 φ F w φ F' w ∧ Rep φ F' c.G0 w 0 a' v := by
  intro d
  induction d with
  | zero => intro a a' u h F v he r hv; exact frz_sound he r hv
  | succ d ih =>
    intro a a' u h F v he r hv
    cases a with
    | rs i off len tot cap =>
      simp only [frzD] at he
      split at he
      · rename_i k hi
        split at he
        · rename_i hc
          split at he
          · rename_i cs u1 h1
            split at he
            · rename_i hu
              cases he
              cases hv with
              | rsn g1 gk g2 =>
                have h0 : ((k.cells.take (0 + 0 * k.esz)).drop 0) = ([] : List AV) := by simp
                have hcs : cs = [] ∧ u1 = [] := by
                  have : ((k.cells.take (off + 0 * k.esz)).drop off) = ([] : List AV) := by simp
                  rw [this] at h1
                  simp [frzDL] at h1
                  exact ⟨h1.1.symm ▸ rfl, h1.2.symm ▸ rfl⟩
                obtain ⟨rfl, rfl⟩ := hcs
                refine ⟨F, ?_, Grow.refl .., .dsn rfl (by simp)⟩
                have hs : splice k.cells off ([] : List AV) = k.cells := by simp [splice]
                rw [hs]
                exact r.mark0 hi
              | rs g0 g1 g2 g3 g4 =>
                rw [← hc.1] at g1
                obtain ⟨F', f1, f2, f3⟩ := frz_seg r ih hi g1 (by omega) h1 hu.1 hu.2
                exact ⟨F', f1, f2, .ds (by simp) (by simp) g3 f3⟩
            · cases he
          · cases he
        · cases he
      · cases he
    | ra i off tot =>
      simp only [frzD] at he
      split at he
      · rename_i k hi
        split at he
        · rename_i hc
          split at he
          · rename_i cs u1 h1
            split at he
            · rename_i hu
              cases he
              cases hv with
              | ra g0 g1 =>
                rw [← hc.1] at g1
                have hd : k.cells.drop off = (k.cells.take (off + (k.cells.length - off))).drop off := by
                  rw [List.take_of_length_le (by omega)]
                rw [hd] at h1
                obtain ⟨F', f1, f2, f3⟩ := frz_seg r ih hi g1 (by omega) h1 hu.1 hu.2
                exact ⟨F', f1, f2, .da (by simp) f3⟩
            · cases he
          · cases he
        · cases he
      · cases he
    | iface t x =>
      simp only [frzD, Option.map_eq_some_iff] at he
      obtain ⟨⟨x', u'⟩, h1, h2⟩ := he
      cases h2
      cases hv with
      | iface k1 =>
        obtain ⟨F1, f1, f2, f3⟩ := ih h1 r k1
        exact ⟨F1, f1, f2, .iface f3⟩
    | agg l =>
      simp only [frzD, Option.map_eq_some_iff] at he
      obtain ⟨⟨x', u'⟩, h1, h2⟩ := he
      cases h2
      cases hv with
      | agg k1 =>
        obtain ⟨F1, f1, f2, f3⟩ := frzDL_sound ih h1 r k1
        exact ⟨F1, f1, f2, .agg f3⟩
    | tup l =>
      simp only [frzD, Option.map_eq_some_iff] at he
      obtain ⟨⟨x', u'⟩, h1, h2⟩ := he
      cases h2
      cases hv with
      | tup k1 =>
        obtain ⟨F1, f1, f2, f3⟩ := frzDL_sound ih h1 r k1
        exact ⟨F1, f1, f2, .tup f3⟩
    | _ => exact frz_sound he r hv
end
end Go.Proofs.YtpiincgiakkljaaGreatDoor
/-
  An abstract operation looks at its operands, and at the blocks that it names, alone.
-/
namespace Go.Proofs.YtpiincgiakkljaaGreatDoor
open Go

def Eff.wr (e : Eff) : List Nat := e.ups.map (·.1)

def Agree (e : Eff) (h h' : Heap) : Prop := (∀ i ∈ e.fp, h' i = h i) ∧ ∀ i ∈ e.wr, h' i = h i

section
variable {P : Program} {h h' : Heap} {e : Eff}

theorem newA_local {nid esz : Nat} {cs : List AV} {ty : Option TypeId} (he : newA h nid esz cs ty = some e) (ha : Agree e h h') : newA h' nid esz cs ty = some e := by
  unfold newA at he ⊢
  split at he
  · rename_i hf
    split at he
    · rename_i hc
      cases he
      have := ha.2 nid (by simp [Eff.wr])
      rw [this, hf]
      simp [hc]
    · cases he
  · cases he

theorem allocA_local {nid : Nat} {t : TypeId} (he : allocA P h nid t = some e) (ha : Agree e h h') : allocA P h' nid t = some e := by
  unfold allocA at he ⊢
  rw [Option.bind_eq_some_iff] at he ⊢
  obtain ⟨cs, h1, he⟩ := he
  exact ⟨cs, h1, newA_local he ha⟩

theorem boxA_local {nid : Nat} {t : TypeId} {x : AV} (he : boxA h nid t x = some e) (ha : Agree e h h') : boxA h' nid t x = some e := by
  unfold boxA at he ⊢
  rw [Option.bind_eq_some_iff] at he ⊢
  obtain ⟨cs, h1, he⟩ := he
  exact ⟨cs, h1, newA_local he ha⟩

theorem behind_local {a : AV} {cs : List AV} {fp : List Nat} (hb : behind h a = some (cs, fp)) (ha : ∀ i ∈ fp, h' i = h i) : behind h' a = some (cs, fp) := by
  cases a <;> simp only [behind] at hb ⊢
  case da => exact hb
  case ra i off tot =>
    cases hi : h i with
    | free => simp [hi] at hb
    | dead => simp [hi] at hb
    | obj _ => simp [hi] at hb
    | blk k =>
      simp only [hi] at hb
      split at hb
      · rename_i ht
        cases hb
        rw [ha i (by simp), hi]
        simp [ht]
      · cases hb
  all_goals cases hb

theorem loadA_local {t : TypeId} {a : AV} (he : loadA P h t a = some e) (ha : Agree e h h') : loadA P h' t a = some e := by
  unfold loadA at he ⊢
  split at he
  · rename_i ag n cs fp h1 h2 h3
    have hfp : e.fp = fp := by
      cases ag <;> simp only [if_true, if_false, Bool.false_eq_true] at he <;> split at he <;> first | (cases he; rfl) | cases he
    rw [h1, h2, behind_local h3 (by rw [← hfp]; exact ha.1)]
    exact he
  · cases he

theorem storeA_local {t : TypeId} {a x : AV} (he : storeA P h t a x = some e) (ha : Agree e h h') : storeA P h' t a x = some e := by
  unfold storeA at he ⊢
  split at he
  · rename_i i off tot xs n hx hn
    split at he
    · rename_i k hi
      split at he
      · rename_i hc
        cases he
        have := ha.1 i (by simp)
        simp only [this, hi]
        rw [if_pos hc]
      · cases he
    · cases he
  · cases he

theorem sliceA_local {t : TypeId} {x : AV} {lo hi mx : Option AV} (he : sliceA P h t x lo hi mx = some e) (ha : Agree e h h') : sliceA P h' t x lo hi mx = some e := by
  unfold sliceA at he ⊢
  split at he
  · exact he
  · exact he
  · exact he
  · exact he
  · split at he
    · rename_i s l u k h1 h2 h3 h4
      split at he
      · rename_i hc
        split at he
        · rename_i hd
          cases he
          have := ha.1 _ (List.mem_singleton.2 rfl)
          simp only [h1, h2, h3, this, h4]
          rw [if_pos hc, if_pos hd]
        · rename_i hd
          cases he
          have := ha.1 _ (List.mem_singleton.2 rfl)
          simp only [h1, h2, h3, this, h4]
          rw [if_pos hc, if_neg hd]
      · cases he
    · cases he
  · split at he
    · rename_i s l u m k h1 h2 h3 h4 h5
      split at he
      · rename_i hc
        cases he
        have := ha.1 _ (List.mem_singleton.2 rfl)
        simp only [h1, h2, h3, h4, this, h5]
        rw [if_pos hc]
      · cases he
    · cases he
  · cases he

theorem makeSliceA_local {nid : Nat} {t : TypeId} {l n : AV} (he : makeSliceA P h nid t l n = some e) (ha : Agree e h h') : makeSliceA P h' nid t l n = some e := by
  unfold makeSliceA at he ⊢
  rw [Option.bind_eq_some_iff] at he ⊢
  obtain ⟨el, h1, he⟩ := he
  refine ⟨el, h1, ?_⟩
  split at he
  · rename_i s zs b l n h2 h3 h4 h5
    split at he
    · rename_i hc
      cases he
      have := ha.2 nid (by simp [Eff.wr])
      simp only [h2, h3, h4, this, h5]
      rw [if_pos hc]
    · cases he
  · cases he

theorem buildSliceA_local {nid : Nat} {t : TypeId} {len : Nat} {ps : List (Nat × AV)} (he : buildSliceA P h nid t len ps = some e) (ha : Agree e h h') : buildSliceA P h' nid t len ps = some e := by
  unfold buildSliceA at he ⊢
  rw [Option.bind_eq_some_iff] at he ⊢
  obtain ⟨el, h1, he⟩ := he
  refine ⟨el, h1, ?_⟩
  split at he
  · rename_i s zs h2 h3
    split at he
    · rename_i hc
      rw [if_pos hc]
      rw [Option.bind_eq_some_iff] at he ⊢
      obtain ⟨cs, h4, he⟩ := he
      refine ⟨cs, h4, ?_⟩
      split at he
      · cases he
      · rename_i hb
        rw [if_neg hb]
        split at he
        · rename_i hm
          rw [if_pos hm]
          exact he
        · rename_i hm
          rw [if_neg hm]
          split at he
          · rename_i hf
            split at he
            · rename_i hl
              cases he
              have := ha.2 nid (by simp [Eff.wr])
              rw [this, hf]
              simp [hl]
            · cases he
          · cases he
    · cases he
  · cases he

theorem srcA_local {t : TypeId} {s : Nat} {x : AV} {n : Nat} {cs : List AV} {fp : List Nat} (he : srcA P h t s x = some (n, cs, fp)) (ha : ∀ i ∈ fp, h' i = h i) : srcA P h' t s x = some (n, cs, fp) := by
  unfold srcA at he ⊢
  split at he
  · exact he
  · exact he
  · split at he
    · rename_i k hi
      split at he
      · rename_i hc
        cases he
        have := ha _ (List.mem_singleton.2 rfl)
        simp only [this, hi]
        rw [if_pos hc]
      · cases he
    · cases he
  · exact he
  · cases he

theorem appendA_local {nid ch : Nat} {ts : List TypeId} {dst src : AV} (he : appendA P h nid ch ts dst src = some e) (ha : Agree e h h') : appendA P h' nid ch ts dst src = some e := by
  unfold appendA at he ⊢
  split at he
  · rename_i t tx
    rw [Option.bind_eq_some_iff] at he ⊢
    obtain ⟨⟨s, b⟩, h1, he⟩ := he
    refine ⟨(s, b), h1, ?_⟩
    simp only at he ⊢
    rw [Option.bind_eq_some_iff] at he ⊢
    obtain ⟨⟨n, cs, fp⟩, h2, he⟩ := he
    refine ⟨(n, cs, fp), ?_, ?_⟩
    · refine srcA_local h2 fun i hi => ha.1 i ?_
      simp only at he
      split at he
      · split at he
        · cases he; exact hi
        · cases he
      · split at he
        · split at he
          · split at he
            · cases he; exact hi
            · cases he
          · split at he
            · cases he; exact hi
            · cases he; exact hi
            · cases he
        · cases he
      · split at he
        · split at he
          · split at he
            · cases he; exact List.mem_cons_of_mem _ hi
            · split at he
              · split at he
                · cases he; exact List.mem_cons_of_mem _ hi
                · cases he
              · cases he
          · cases he
        · cases he
      · cases he
    · simp only at he ⊢
      split at he
      · split at he
        · rename_i hf
          cases he
          have := ha.2 nid (by simp [Eff.wr])
          rw [this, hf]
        · cases he
      · split at he
        · rename_i hc
          rw [if_pos hc]
          split at he
          · rename_i hch
            rw [if_pos hch]
            exact he
          · rename_i hch
            rw [if_neg hch]
            split at he
            · exact he
            · rename_i hf
              cases he
              have := ha.2 nid (by simp [Eff.wr])
              simp only [this, hf]
            · cases he
        · cases he
      · split at he
        · rename_i k hi
          split at he
          · rename_i hc
            split at he
            · rename_i hfull
              cases he
              have := ha.1 _ List.mem_cons_self
              simp only [this, hi]
              rw [if_pos hc, if_pos hfull]
            · rename_i hfull
              split at he
              · rename_i hf
                split at he
                · rename_i hlt
                  cases he
                  have h3 := ha.1 _ List.mem_cons_self
                  have h4 := ha.2 nid (by simp [Eff.wr])
                  simp only [h3, hi, h4, hf]
                  rw [if_pos hc, if_neg hfull, if_pos hlt]
                · cases he
              · cases he
          · cases he
        · cases he
      · cases he
  · cases he

theorem copyA_local {ts : List TypeId} {dst src : AV} (he : copyA P h ts dst src = some e) (ha : Agree e h h') : copyA P h' ts dst src = some e := by
  unfold copyA at he ⊢
  split at he
  · rename_i t tx
    rw [Option.bind_eq_some_iff] at he ⊢
    obtain ⟨⟨s, b⟩, h1, he⟩ := he
    refine ⟨(s, b), h1, ?_⟩
    simp only at he ⊢
    rw [Option.bind_eq_some_iff] at he ⊢
    obtain ⟨⟨n, cs, fp⟩, h2, he⟩ := he
    simp only at he
    split at he
    · rename_i i off len tot cap
      split at he
      · rename_i k hi
        split at he
        · rename_i hc
          have hfp : e.fp = i :: fp := by
            split at he <;> (cases he; rfl)
          refine ⟨(n, cs, fp), srcA_local h2 fun i hi => ha.1 i (by rw [hfp]; exact List.mem_cons_of_mem _ hi), ?_⟩
          have h3 := ha.1 _ (by rw [hfp]; exact List.mem_cons_self)
          simp only [h3, hi]
          rw [if_pos hc]
          exact he
        · cases he
      · cases he
    · cases he
  · cases he

theorem makeMapA_local {nid : Nat} (he : makeMapA h nid = some e) (ha : Agree e h h') : makeMapA h' nid = some e := by
  unfold makeMapA at he ⊢
  split at he
  · rename_i hf
    cases he
    rw [ha.2 nid (by simp [Eff.wr]), hf]
  · cases he

theorem lookupA_local {t : TypeId} {x ix : AV} {ok : Bool} (he : lookupA P h t x ix ok = some e) (ha : Agree e h h') : lookupA P h' t x ix ok = some e := by
  unfold lookupA at he ⊢
  split at he
  · rename_i kt et vk h1 h2
    split at he
    · rename_i d zv h3 h4
      split at he
      · exact he
      · rename_i i
        have hi : i ∈ e.fp := by
          split at he
          · split at he
            · split at he
              · split at he
                · cases he; simp
                · rw [Option.map_eq_some_iff] at he
                  obtain ⟨a, _, rfl⟩ := he
                  simp
                · cases he
              · cases he
            · cases he
          · cases he
        simp only [ha.1 i hi]
        exact he
      · exact he
    · cases he
  · cases he

theorem mapUpdateA_local {t : TypeId} {m k x : AV} (he : mapUpdateA P h t m k x = some e) (ha : Agree e h h') : mapUpdateA P h' t m k x = some e := by
  unfold mapUpdateA at he ⊢
  split at he
  · rename_i kt et vk i h1 h2
    have hi : i ∈ e.fp := by
      split at he
      · split at he
        · split at he
          · split at he
            · cases he; simp
            · split at he
              · split at he
                · cases he; simp
                · cases he
              · cases he
            · cases he
          · cases he
        · cases he
      · cases he
    simp only [ha.1 i hi]
    exact he
  · cases he

theorem rangeA_local {nid : Nat} {t : TypeId} {x : AV} (he : rangeA P h nid t x = some e) (ha : Agree e h h') : rangeA P h' nid t x = some e := by
  unfold rangeA at he ⊢
  split at he
  · rename_i s h1 h2
    cases he
    rw [ha.2 nid (by simp [Eff.wr]), h1, h2]
  · cases he

theorem nextA_local {it : AV} {b : Bool} (he : nextA h it b = some e) (ha : Agree e h h') : nextA h' it b = some e := by
  unfold nextA at he ⊢
  split at he
  · rename_i i
    have hi : i ∈ e.fp := by
      split at he
      · split at he <;> (cases he; simp)
      · cases he
    simp only [ha.1 i hi]
    exact he
  · cases he

theorem unsafeStringA_local {ts : List TypeId} {args : List AV} (he : unsafeStringA P h ts args = some e) (ha : Agree e h h') : unsafeStringA P h' ts args = some e := by
  unfold unsafeStringA at he ⊢
  split at he
  · rename_i pt it i tot n
    have hi : i ∈ e.fp := by
      split at he
      · split at he
        · rw [Option.map_eq_some_iff] at he
          obtain ⟨a, _, rfl⟩ := he
          simp
        · cases he
      · cases he
    simp only [ha.1 i hi]
    exact he
  · exact he
  · cases he

theorem ptrConvA_local {s d : TypeId} {x : AV} (he : ptrConvA P h s d x = some e) (ha : Agree e h h') : ptrConvA P h' s d x = some e := by
  unfold ptrConvA at he ⊢
  split at he
  · rename_i t i off tot h1 h2
    have hi : i ∈ e.fp := by
      split at he
      · split at he
        · cases he; simp
        · cases he
      · cases he
    simp only [ha.1 i hi]
    exact he
  · rename_i t i off tot h1 h2
    have hi : i ∈ e.fp := by
      split at he
      · split at he
        · cases he; simp
        · cases he
      · cases he
    simp only [ha.1 i hi]
    exact he
  · cases he

theorem convBytesA_not {s d : TypeId} {x : AV} (he : convBytesA P h s d x = some e) (h2 : Heap) : ptrConvA P h2 s d x = none := by
  unfold convBytesA at he
  unfold ptrConvA
  split at he
  · rename_i el hs hd
    simp only [hs, hd]
  · rename_i el hs hd
    simp only [hs, hd]
  · cases he

theorem convBytesA_local {s d : TypeId} {x : AV} (he : convBytesA P h s d x = some e) (ha : Agree e h h') : convBytesA P h' s d x = some e := by
  unfold convBytesA at he ⊢
  split at he
  · exact he
  · split at he
    · exact he
    · rename_i i off len tot cap he8
      have hi : i ∈ e.fp := by
        split at he
        · split at he
          · rw [Option.map_eq_some_iff] at he
            obtain ⟨a, _, rfl⟩ := he
            simp
          · cases he
        · cases he
      simp only [ha.1 i hi]
      exact he
    · exact he
    · cases he
  · cases he

theorem externNA_local {nid : Nat} {f : AV} {args : List AV} (he : externNA P h nid f args = some e) (ha : Agree e h h') : externNA P h' nid f args = some e := by
  unfold externNA at he ⊢
  split at he
  · split at he
    · rename_i fn hfn
      split at he
      · rename_i hc
        rw [if_pos hc]
        split at he
        · rename_i hn
          rw [if_pos hn]
          exact he
        · rename_i hn
          rw [if_neg hn]
          split at he
          · rename_i hn2
            rw [if_pos hn2]
            split at he
            · rename_i n t h1 h2
              have hi : nid ∈ e.wr := by
                split at he
                · split at he
                  · cases he; simp [Eff.wr]
                  · cases he
                · cases he
              simp only [ha.2 nid hi, h1, h2]
              exact he
            · cases he
          · cases he
      · cases he
    · cases he
  · cases he

theorem aop_local {o : Op} {ty : TypeId} {ρ ρ' : Operand → AV} {nid ch : Nat} (he : aop P o ty ρ h nid ch = some e) (hρ : ∀ x ∈ o.operands, ρ' x = ρ x) (ha : Agree e h h') : aop P o ty ρ' h' nid ch = some e := by
  have hparts : ∀ ps : Array (Nat × Operand), (∀ x ∈ (ps.toList.map (·.2)).toArray, ρ' x = ρ x) → (ps.toList.map fun p => (p.1, ρ' p.2)) = (ps.toList.map fun p => (p.1, ρ p.2)) := fun ps hp =>
    List.map_congr_left fun p hm => by rw [hp p.2 (by simp only [List.mem_toArray, List.mem_map]; exact ⟨p, hm, rfl⟩)]
  have hlist : ∀ xs : Array Operand, (∀ x ∈ xs, ρ' x = ρ x) → xs.toList.map ρ' = xs.toList.map ρ := fun xs hp => List.map_congr_left fun x hm => hp x (by simpa using hm)
  cases o <;> simp only [Op.operands] at hρ <;> simp only [aop] at he ⊢
  case move x => rw [hρ x (by simp)]; exact he
  case assign x => rw [hρ x (by simp)]; exact he
  case pick x a b => rw [hρ x (by simp), hρ a (by simp), hρ b (by simp)]; exact he
  case alloc t => exact allocA_local he ha
  case box t x => rw [hρ x (by simp)]; exact boxA_local he ha
  case build t ps => rw [hparts ps hρ]; exact he
  case buildSlice t n ps => rw [hparts ps hρ]; exact buildSliceA_local he ha
  case load t a => rw [hρ a (by simp)]; exact loadA_local he ha
  case store t a x => rw [hρ a (by simp), hρ x (by simp)]; exact storeA_local he ha
  case nilCheck x => rw [hρ x (by simp)]; exact he
  case binOp op t x y ty => rw [hρ x (by simp), hρ y (by simp)]; exact he
  case unOp op t x => rw [hρ x (by simp)]; exact he
  case convert a b x =>
    rw [hρ x (by simp)]
    split at he
    · exact he
    · split at he
      · rename_i e' hc
        cases he
        rw [ptrConvA_local hc ha]
      · rw [convBytesA_not he h']
        exact convBytesA_local he ha
  case makeInterface t x => rw [hρ x (by simp)]; exact he
  case makeFunc f a b => rw [hlist a fun x hx => hρ x (by simp [hx]), hlist b fun x hx => hρ x (by simp [hx])]; exact he
  case makeSlice t l n => rw [hρ l (by simp), hρ n (by simp)]; exact makeSliceA_local he ha
  case slice t x lo hi mx =>
    have h1 : lo.map ρ' = lo.map ρ := by cases lo with | none => rfl | some y => simp [hρ y (by simp)]
    have h2 : hi.map ρ' = hi.map ρ := by cases hi with | none => rfl | some y => simp [hρ y (by simp)]
    have h3 : mx.map ρ' = mx.map ρ := by cases mx with | none => rfl | some y => simp [hρ y (by simp)]
    rw [hρ x (by simp), h1, h2, h3]
    exact sliceA_local he ha
  case fieldAddr s x f => rw [hρ x (by simp)]; exact he
  case field s x f => rw [hρ x (by simp)]; exact he
  case indexAddr t x i => rw [hρ x (by simp), hρ i (by simp)]; exact he
  case index t x i => rw [hρ x (by simp), hρ i (by simp)]; exact he
  case extract x i => rw [hρ x (by simp)]; exact he
  case makeMap t r =>
    cases r with
    | none => exact makeMapA_local he ha
    | some r => cases he
  case lookup t x ix ok => rw [hρ x (by simp), hρ ix (by simp)]; exact lookupA_local he ha
  case mapUpdate t m k x => rw [hρ m (by simp), hρ k (by simp), hρ x (by simp)]; exact mapUpdateA_local he ha
  case insert t m k x => rw [hρ m (by simp), hρ k (by simp), hρ x (by simp)]; exact mapUpdateA_local he ha
  case range t x => rw [hρ x (by simp)]; exact rangeA_local he ha
  case next it b => rw [hρ it (by simp)]; exact nextA_local he ha
  case typeAssert x xt t ok => rw [hρ x (by simp)]; exact he
  case call c =>
    obtain ⟨cal, args, ts⟩ := c
    cases cal with
    | builtin b =>
      simp only [Call.operands] at hρ
      simp only at he ⊢
      rw [hlist args fun x hx => hρ x (by simpa using hx)]
      generalize args.toList.map ρ = as at he ⊢
      unfold builtinA at he ⊢
      split at he
      · exact appendA_local he ha
      · exact copyA_local he ha
      · exact he
      · exact he
      · exact he
      · exact he
      · exact unsafeStringA_local he ha
      · exact he
      · cases he
    | value f =>
      simp only [Call.operands] at hρ
      simp only at he ⊢
      rw [hlist args fun x hx => hρ x (by simp [hx]), hρ f (by simp)]
      split at he
      · exact he
      · exact externNA_local he ha
    | invoke r m => cases he
  all_goals cases he
end
end Go.Proofs.YtpiincgiakkljaaGreatDoor
