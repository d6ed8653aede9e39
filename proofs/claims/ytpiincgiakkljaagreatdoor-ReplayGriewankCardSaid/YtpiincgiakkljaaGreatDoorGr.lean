/-
  ReplayGriewank: the law's parts.
-/
import Derived.Test.YtpiincgiakkljaaGreatDoorCx
set_option linter.unusedSimpArgs false
set_option linter.unusedVariables false
namespace Go.Proofs.YtpiincgiakkljaaGreatDoor
open Go

section
variable {P : Program} {GL : Globs} {n : Nat} {ops : Array Oper} {kn : Kn} {run : CC → Tr AV → Mem → Res} {c : Ctx} {Q : Post}

theorem chain_append {l1 l2 : List Oper} {s s1 s2 : St} {e1 e2 : List Eff} (h1 : Chain P GL n ops l1 s e1 s1) (h2 : Chain P GL n ops l2 s1 e2 s2) : Chain P GL n ops (l1 ++ l2) s (e1 ++ e2) s2 := by
  induction h1 with
  | nil => exact h2
  | cons a _ ih => exact .cons a (ih h2)

theorem does_all {l : List Oper} {t t' : Tr AV} {m m' : Mem} {el : List Eff} (h : Does P GL n ops l t m t' m' el) {s : St} (hs : s.t = t.tf) (hh : s.h = m.h.hf) : ∃ s', Chain P GL n ops l s el s' ∧ s'.t = t'.tf ∧ s'.h = m'.h.hf := by
  obtain ⟨s', c1, c2, c3, c4⟩ := h.2 s hs fun i _ => by rw [hh]
  refine ⟨s', c1, c2, ?_⟩
  funext i
  by_cases hi : Touched m' i
  · exact c3 i hi
  · rw [c4 i hi, hh, h.1.out i hi]

/-- A region in two parts: what is told between them otherwise is the same. -/
theorem region_two (hkn : KnOk P GL kn) (hrun : BodyOk P GL run) {id : Nat} {l1 l2 : List Oper} (hops : ops.toList = l1 ++ l2) {t t1 t2 t3 : Tr AV} {m m1 m3 : Mem} (ok : MemOk m)
    (h1 : opsC P run (envC P GL kn) (opersC P GL n ops l1) t m = .norm t1 m1) (ht : t2.tf = t1.tf) (h2 : opsC P run (envC P GL kn) (opersC P GL n ops l2) t2 m1 = .norm t3 m3)
    {s : St} (hs : s.t = t.tf) (hh : s.h = m.h.hf) (hQ : MemOk m3 → ∀ s', s'.t = t3.tf → s'.h = m3.h.hf → Q .normal s') : AWP P GL n c (.region id ops false) s Q := by
  obtain ⟨t', m', el, e1, d1⟩ := opsC_spec hkn hrun l1 t m ok (by rw [h1]; exact fun h => by cases h)
  obtain ⟨rfl, rfl⟩ : t1 = t' ∧ m1 = m' := by rw [h1] at e1; simpa using e1
  obtain ⟨t'', m'', el2, e2, d2⟩ := opsC_spec hkn hrun l2 t2 m1 d1.1.ok (by rw [h2]; exact fun h => by cases h)
  obtain ⟨rfl, rfl⟩ : t3 = t'' ∧ m3 = m'' := by rw [h2] at e2; simpa using e2
  obtain ⟨s1, c1, c2, c3⟩ := does_all d1 hs hh
  obtain ⟨s2, k1, k2, k3⟩ := does_all d2 (c2.trans ht.symm) c3
  have hc := chain_append c1 k1
  rw [← hops] at hc
  obtain ⟨_, l3⟩ := chain_at hc
  obtain ⟨j1, j2⟩ := l3 (fun i => (el ++ el2).getD i {}) s 0 (fun i o e => by simpa using e) (fun i e he => by rw [Nat.zero_add, List.getD_eq_getElem?_getD, he]; rfl) rfl
  refine awp_region_text (es := fun i => (el ++ el2).getD i {}) (fun i o ho => ?_) ?_
  · have := j1 i o (by simpa using ho)
    simpa using this
  · have hsz : stAt ops (fun i => (el ++ el2).getD i {}) s ops.size = s2 := by simpa using j2
    rw [hsz]
    exact hQ d2.1.ok _ k2 k3
end

/-- What ReplayGriewank knows of calls. -/
noncomputable def kn4 : Kn where
  kn := fun g l => bif Nat.beq g 8 then (match l with
      | [.int .i64 (.ofNat a), .int .i64 (.ofNat b)] => bif Nat.ble 1 a && (Nat.ble a 40 && Nat.ble b a) then some (fun nid => ⟨vi (chooseT a b), [], nid⟩) else none
      | _ => none)
    else kn3.kn g l

theorem kn4_ok (m : Int) : KnOk prog (gl m) kn4 where
  byVal := by
    intro g l f nid h hp hx
    unfold kn4 at h
    simp only at h
    cases h1 : Nat.beq g 8 with
    | true =>
      rw [h1] at h
      simp only [cond_true] at h
      split at h
      · rename_i a b
        cases hc : (Nat.ble 1 a && (Nat.ble a 40 && Nat.ble b a)) with
        | true =>
          rw [hc] at h
          cases h
          simp only [Bool.and_eq_true] at hc
          have := Nat.eq_of_beq_eq_true h1
          subst this
          exact (choose_hasL m a b (Nat.le_of_ble_eq_true hc.1) (Nat.le_of_ble_eq_true hc.2.1) (Nat.le_of_ble_eq_true hc.2.2)).has rfl hp
        | false => rw [hc] at h; cases h
      · cases h
    | false =>
      rw [h1] at h
      exact (kn3_ok m).byVal g l f nid h hp hx
  byLend := fun _ _ _ _ h _ => by cases h

noncomputable def gwC : Code := bodyOf Tryz.f3
noncomputable abbrev gwN : Nat := Tryz.f3.ntmps
noncomputable def rh (c : Code) (m : Int) : Tr AV → Mem → Res := runC prog (gl m) kn4 100000 (codeC prog (gl m) (prog.follows .mixedOrders) gwN c)
theorem rh_eq (c : Code) (m : Int) (t : Tr AV) (mm : Mem) : runC prog (gl m) kn4 100000 (codeC prog (gl m) (prog.follows .mixedOrders) gwN c) t mm = rh c m t mm := rfl

noncomputable def g2 : Code := sq2 (sq2 gwC)
noncomputable def g4 : Code := sq2 g2
noncomputable def g5 : Code := sq2 g4
noncomputable def g7 : Code := sq2 g5
noncomputable def g8 : Code := sq2 g7
noncomputable def g9 : Code := sq2 g8
noncomputable def g10 : Code := sq2 g9

noncomputable def gw0 (m x y z : Int) : Res := rh (sq1 gwC) m (argsTr [vb x, vb y, vb z] 0 .e) m0
noncomputable def gw1 (m x y z : Int) : Res := rh (sq1 (sq2 gwC)) m (tOf (gw0 m x y z)) (mOf (gw0 m x y z))
noncomputable def gw2 (m n s z : Int) : Res := rh (sq1 g2) m (few [(2, vb z), (7, vi n), (8, vi s), (9, vi 0)]) m0
noncomputable def gw4 (m n s z : Int) : Res := rh (sq1 g4) m (tOf (gw2 m n s z)) (mOf (gw2 m n s z))
noncomputable def gw5 (m n s z : Int) : Res := rh (sq1 g5) m (tOf (gw4 m n s z)) (mOf (gw4 m n s z))
noncomputable def gw7 (m n s z : Int) : Res := rh (sq1 g7) m (tOf (gw5 m n s z)) (mOf (gw5 m n s z))
noncomputable def gwE : AV := .int .i64 0
noncomputable def gw8 (m s L z : Int) : Res := rh (sq1 g8) m (few [(2, vb z), (8, vi s), (10, vi L), (11, vi L), (12, gwE)]) m0
noncomputable def gw9 (m s L k : Int) : Res := rh (sq1 g9) m (few [(8, vi s), (10, vi L), (11, vi L), (12, gwE), (13, vi k)]) m0
noncomputable def gOps : Array Oper := match sq1 g10 with | .region _ ops _ => ops | _ => #[]
noncomputable def gId : Nat := match sq1 g10 with | .region i _ _ => i | _ => 0
noncomputable def go1 (m : Int) (l : List Oper) : Tr AV → Mem → Res := opsC prog (runC prog (gl m) kn4 1000) (envC prog (gl m) kn4) (opersC prog (gl m) gwN gOps l)
noncomputable def gwA (m s L k : Int) : Res := go1 m (gOps.toList.take 6) (tOf (gw9 m s L k)) (mOf (gw9 m s L k))
noncomputable def gwZ (m s L k : Int) : Res := go1 m (gOps.toList.drop 6) (Tr.set (path 61) (tOf (gwA m s L k)) (.bool true)) (mOf (gwA m s L k))

noncomputable def gwB1 (m n s z : Int) : Bool := isNorm (gw2 m n s z) && (isNorm (gw4 m n s z) && (isNorm (gw5 m n s z) && (isNorm (gw7 m n s z) &&
  (AV.eqB ((tOf (gw7 m n s z)).tf 8) (vi s) && (AV.eqB ((tOf (gw7 m n s z)).tf 10) ((tOf (gw7 m n s z)).tf 11) && (AV.eqB ((tOf (gw7 m n s z)).tf 12) gwE && ((match (tOf (gw7 m n s z)).tf 11 with | .int .i64 _ => true | _ => false) && memB m0 (mOf (gw7 m n s z)))))))))
noncomputable def gwB2 (m s L k : Int) : Bool := isNorm (gw9 m s L k) && (isNorm (gwA m s L k) && (isNorm (gwZ m s L k) && (AV.eqB ((tOf (gwZ m s L k)).tf 6) (.bool true) && memB m0 (mOf (gwZ m s L k)))))

set_option maxRecDepth 1000000
theorem gwcode : gwC = .seq (sq1 gwC) (.seq (sq1 (sq2 gwC)) (.seq (sq1 g2) (.seq (sq1 g4) (.seq (sq1 g5) (.seq (sq1 g7) (.seq (sq1 g8) (.seq (sq1 g9) (.seq (.region gId gOps false) .ret)))))))) := by kernel_rfl
theorem gwbody : Tryz.f3.body = some gwC := by kernel_rfl
theorem gwres : Tryz.f3.results.toList = [.tmp 6] := by kernel_rfl
theorem gwn0 (m x y z : Int) : isNorm (gw0 m x y z) = true := by kernel_rfl
theorem gwn1 (m x y z : Int) : isNorm (gw1 m x y z) = true := by kernel_rfl
theorem gwm1 (m x y z : Int) : memB m0 (mOf (gw1 m x y z)) = true := by kernel_rfl
theorem gw_1 (m x y z : Int) : (tOf (gw1 m x y z)).tf 2 = vb z := by kernel_rfl
theorem gw_9 (m x y z : Int) : (tOf (gw1 m x y z)).tf 9 = vi 0 := by kernel_rfl
theorem gw_7 (m y z : Int) : (nums 256).all (fun x => AV.eqB ((tOf (gw1 m x y z)).tf 7) (vi (1 + x % 40))) = true := by kernel_rfl
theorem gw_8 (m x z : Int) : (nums 256).all (fun y => AV.eqB ((tOf (gw1 m x y z)).tf 8) (vi (1 + y % 8))) = true := by kernel_rfl
theorem gwb1 (m z : Int) : gwB1 m 7 3 z = true := by kernel_rfl
theorem gwt2 (m z : Int) : (tOf (gw7 m 7 3 z)).tf 2 = vb z := by kernel_rfl
theorem gwn8 (m s L z : Int) : isNorm (gw8 m s L z) = true := by kernel_rfl
theorem gwm8 (m s L z : Int) : memB m0 (mOf (gw8 m s L z)) = true := by kernel_rfl
theorem gw8_13 (m s L : Int) : (nums 256).all (fun z => AV.eqB ((tOf (gw8 m s L z)).tf 13) (vi (z % 21))) = true := by kernel_rfl
theorem gwb2 (m L : Int) : gwB2 m 3 L 4 = true := by kernel_rfl
end Go.Proofs.YtpiincgiakkljaaGreatDoor
