/-
  replay.plan, replay.Plan, replay.Reach, ReplayLeasts as the code says them.
-/
import Derived.Test.YtpiincgiakkljaaGreatDoorU4
set_option linter.unusedSimpArgs false
set_option linter.unusedVariables false
namespace Go.Proofs.YtpiincgiakkljaaGreatDoor
open Go

noncomputable abbrev F29 : Code := bodyF Tryz.f29
noncomputable def pnA (m n s : Int) (K : AExit → Tr AV → Mem → Prop) (S : Scr) : Prop := sxC prog (gl m) kx0 22 mo (cp [0] F29) (finK 0 K) S (argsTr [vi n, vi s] 0 .e) (mm [])
noncomputable def pnB (m n s : Int) (T : List AV) (K : AExit → Tr AV → Mem → Prop) (S : Scr) : Prop := sxC prog (gl m) (kFill T) 22 mo (cp [1,0] F29) (finK 0 K) S (few [(0, vi n), (1, vi s)]) (mm [])
noncomputable def pnT (n s : Int) (l : List (Nat × AV)) : Tr AV := few ([(0, vi n), (1, vi s), (5, .ra 0 0 2)] ++ l)
noncomputable def pnC (m n s : Int) (T : List AV) (K : AExit → Tr AV → Mem → Prop) (S : Scr) : Prop := sxC prog (gl m) kx0 22 mo (cp [1,1,0,0] F29) (finK 0 K) S (pnT n s []) (mm [.blk ⟨[.da false T, .nils], 2, false, false, some 113⟩])
noncomputable def pnD (m n s : Int) (T : List AV) (p p' : List (Int × Int)) (b : Bool) (K : AExit → Tr AV → Mem → Prop) (S : Scr) : Prop := sxC prog (gl m) (kAct T p p') 22 mo (cp [1,1,0,1,0] F29) (finK 0 K) S (pnT n s [(10, .bool b)]) (mm [plB T 1 p, acB p])
noncomputable def pnDs (m n s : Int) (T : List AV) (p : List (Int × Int)) (b : Bool) (K : AExit → Tr AV → Mem → Prop) (S : Scr) : Prop := sxC prog (gl m) kx0 22 mo (cp [1,1,0,1,1] F29) (finK 0 K) S (pnT n s [(10, .bool b)]) (mm [plB T 1 p, acB p])
noncomputable def pnE (m n s : Int) (C : Int → Int → Int → Prop) (T : List AV) (p p' : List (Int × Int)) (K : AExit → Tr AV → Mem → Prop) (S : Scr) : Prop := sxC prog (gl m) (kPl 45 T p p' C) 22 mo (cp [1,1,1,0] F29) (finK 0 K) S (pnT n s []) (mm [plB T 1 p, acB p])
noncomputable def pnF (m : Int) (T : List AV) (p : List (Int × Int)) (K : AExit → Tr AV → Mem → Prop) (S : Scr) : Prop := sxC prog (gl m) kx0 22 mo (cp [1,1,1,1] F29) (finK 0 K) S (few [(5, .ra 0 0 2)]) (mm [plB T 1 p, acB p])
set_option maxRecDepth 100000 in
theorem pnA_eq (m : Int) (n : Int) (s : Int) (K : AExit → Tr AV → Mem → Prop) : pnA m n s K (Scr.fin [0, 1]) = (
    K AExit.normal (few [(0, AV.int IntKind.i64 n), (1, AV.int IntKind.i64 s)]) (mm [])) := by kernel_rfl
set_option maxRecDepth 100000 in
theorem pnB_eq (m : Int) (n : Int) (s : Int) (T : List AV) (K : AExit → Tr AV → Mem → Prop) : pnB m n s T K (Scr.fin [0, 1, 5]) = (
    T = tabF ∧
  K AExit.normal (few [(0, AV.int IntKind.i64 n), (1, AV.int IntKind.i64 s), (5, AV.ra 0 0 2)])
    (mm [Slot.blk (Blk.mk [AV.da false T, AV.nils] 2 false false (some 113))])) := by kernel_rfl
set_option maxRecDepth 100000 in
theorem pnC_eq (m : Int) (n : Int) (s : Int) (T : List AV) (K : AExit → Tr AV → Mem → Prop) : pnC m n s T K (Scr.adj (Adj.virtc 0 1 2) (Scr.fin [0, 1, 5, 10])) = (
    K AExit.normal
  (few [(0, AV.int IntKind.i64 n), (1, AV.int IntKind.i64 s), (5, AV.ra 0 0 2), (10, AV.bool (decide (n > 1)))])
  (mm
    [Slot.blk (Blk.mk [AV.da false T, AV.rs 1 0 0 0 none] 2 false false (some 113)),
      Slot.blk (Blk.mk [] 2 false false none)])) := by kernel_rfl
set_option maxRecDepth 100000 in
theorem pnD_eq (m : Int) (n : Int) (s : Int) (T : List AV) (p : List (Int × Int)) (p' : List (Int × Int)) (b : Bool) (K : AExit → Tr AV → Mem → Prop) : pnD m n s T p p' b K (Scr.finR [0, 1, 5] [(0, false), (2, true)]) = (
    T = T ∧
  eA p = eA p ∧
    List.length p = List.length p ∧
      List.length (eA p) = List.length (eA p) ∧
        cAct p p' 1 1 0 ∧
          AV.m1L (eA p') = true ∧
            K AExit.normal (few [(0, AV.int IntKind.i64 n), (1, AV.int IntKind.i64 s), (5, AV.ra 0 0 2)])
              (mm
                [Slot.blk
                    (Blk.mk [AV.da false T, AV.rs 1 0 (List.length p') (List.length (eA p')) none] 2 false false
                      (some 113)),
                  Slot.blk (Blk.mk (eA p') 2 false false none)])) := by kernel_rfl
set_option maxRecDepth 100000 in
theorem pnDs_eq (m : Int) (n : Int) (s : Int) (T : List AV) (p : List (Int × Int)) (b : Bool) (K : AExit → Tr AV → Mem → Prop) : pnDs m n s T p b K (Scr.fin [0, 1, 5]) = (
    K AExit.normal (few [(0, AV.int IntKind.i64 n), (1, AV.int IntKind.i64 s), (5, AV.ra 0 0 2)])
  (mm
    [Slot.blk (Blk.mk [AV.da false T, AV.rs 1 0 (List.length p) (List.length (eA p)) none] 2 false false (some 113)),
      Slot.blk (Blk.mk (eA p) 2 false false none)])) := by kernel_rfl
set_option maxRecDepth 100000 in
theorem pnE_eq (m : Int) (n : Int) (s : Int) (C : Int → Int → Int → Prop) (T : List AV) (p : List (Int × Int)) (p' : List (Int × Int)) (K : AExit → Tr AV → Mem → Prop) : pnE m n s C T p p' K (Scr.finR [5] [(0, false), (2, true)]) = (
    T = T ∧
  eA p = eA p ∧
    List.length p = List.length p ∧
      List.length (eA p) = List.length (eA p) ∧
        C 0 n (IntKind.wrap IntKind.i64 (s - 1)) ∧
          AV.m1L (eA p') = true ∧
            K AExit.normal (few [(5, AV.ra 0 0 2)])
              (mm
                [Slot.blk
                    (Blk.mk [AV.da false T, AV.rs 1 0 (List.length p') (List.length (eA p')) none] 2 false false
                      (some 113)),
                  Slot.blk (Blk.mk (eA p') 2 false false none)])) := by kernel_rfl
set_option maxRecDepth 100000 in
theorem pnF_eq (m : Int) (T : List AV) (p : List (Int × Int)) (K : AExit → Tr AV → Mem → Prop) : pnF m T p K (Scr.fin [4]) = (
    K AExit.ret (few [(4, AV.rs 1 0 (List.length p) (List.length (eA p)) none)])
  (mm
    [Slot.blk (Blk.mk [AV.da false T, AV.rs 1 0 (List.length p) (List.length (eA p)) none] 2 false false (some 113)),
      Slot.blk (Blk.mk (eA p) 2 false false none)])) := by kernel_rfl

noncomputable abbrev F10 : Code := bodyF Tryz.f10
noncomputable def reA (m s t : Int) (K : AExit → Tr AV → Mem → Prop) (S : Scr) : Prop := sxC prog (gl m) kx0 37 mo (cp [0] F10) (finK 0 K) S (argsTr [vi s, vi t] 0 .e) (mm [])
noncomputable def reB (m s t : Int) (K : AExit → Tr AV → Mem → Prop) (S : Scr) : Prop := sxC prog (gl m) kx0 37 mo (cp [1,0] F10) (finK 0 K) S (few [(0, vi s), (1, vi t)]) (mm [])
set_option maxRecDepth 100000 in
theorem reA_eq (m : Int) (s : Int) (t : Int) (K : AExit → Tr AV → Mem → Prop) : reA m s t K (Scr.fin [0, 1]) = (
    K AExit.normal (few [(0, AV.int IntKind.i64 s), (1, AV.int IntKind.i64 t)]) (mm [])) := by kernel_rfl
set_option maxRecDepth 100000 in
theorem reB_eq (m : Int) (s : Int) (t : Int) (K : AExit → Tr AV → Mem → Prop) : reB m s t K (Scr.sp (Scr.tt (Scr.tt (Scr.tt (Scr.tt (Scr.tt (Scr.tt (Scr.fin [4, 5])))))))
  (Scr.ff
    (Scr.sp (Scr.tt (Scr.tt (Scr.tt (Scr.tt (Scr.fin [4, 5])))))
      (Scr.ff (Scr.sp (Scr.tt (Scr.tt (Scr.fin [4, 5]))) (Scr.ff (Scr.sp (Scr.fin [4, 5]) (Scr.fin [0, 1])))))))) = (
    (decide (s < 1) = true → K AExit.ret (few [(4, AV.int IntKind.i64 0), (5, AV.int IntKind.i64 2)]) (mm [])) ∧
  (decide (s < 1) = false →
    (decide (s > 8) = true → K AExit.ret (few [(4, AV.int IntKind.i64 0), (5, AV.int IntKind.i64 2)]) (mm [])) ∧
      (decide (s > 8) = false →
        (decide (t < 0) = true → K AExit.ret (few [(4, AV.int IntKind.i64 0), (5, AV.int IntKind.i64 2)]) (mm [])) ∧
          (decide (t < 0) = false →
            (decide (t > 20) = true →
                K AExit.ret (few [(4, AV.int IntKind.i64 0), (5, AV.int IntKind.i64 2)]) (mm [])) ∧
              (decide (t > 20) = false →
                K AExit.normal (few [(0, AV.int IntKind.i64 s), (1, AV.int IntKind.i64 t)]) (mm [])))))) := by kernel_rfl
end Go.Proofs.YtpiincgiakkljaaGreatDoor
/-
  replay.plan, replay.Reach: their contracts.
-/
namespace Go.Proofs.YtpiincgiakkljaaGreatDoor
open Go

def planL (n s : Nat) : List (Int × Int) := (if n > 1 then [(1, 0)] else []) ++ backL n 0 n (s - 1)

theorem F29_split : F29 = .seq (cp [0] F29) (.seq (cp [1,0] F29) (.seq (.seq (cp [1,1,0,0] F29) (.cond (.tmp 10) (cp [1,1,0,1,0] F29) (cp [1,1,0,1,1] F29))) (.seq (cp [1,1,1,0] F29) (cp [1,1,1,1] F29)))) := by kernel_rfl

theorem eA_flat : ∀ (p : List (Int × Int)), ∀ a ∈ eA p, a.flat = true := fun p a ha => by
  obtain ⟨q, _, h⟩ := List.mem_flatMap.1 ha
  simp only [List.mem_cons, List.mem_nil_iff, or_false] at h
  rcases h with rfl | rfl <;> rfl

set_option maxRecDepth 100000 in
theorem plan_hasL (m : Int) (n s : Nat) (hn0 : 1 ≤ n) (hn : n ≤ 40) (hs0 : 1 ≤ s) (hs : s ≤ 8) (hl : (planL n s).length ≤ 100000) : HasL prog (gl m) 29 [vi n, vi s] (dA {} (planL n s)) := by
  refine hasL_sx Tryz.func29 (code := F29) (by kernel_rfl) (of_decide_eq_true (by kernel_rfl)) fun c st hel h0 => ?_
  rw [F29_split]
  refine awp_seq (awp_sx kx0_ok hel ((pnA_eq m n s _).mpr fun st1 h1 => ?_) h0)
  refine awp_seq (awp_sx (kFill_ok m tabF) hel ((pnB_eq m n s tabF _).mpr ⟨rfl, fun st2 h2 => ?_⟩) h1)
  refine awp_seq (awp_seq (awp_sx kx0_ok hel ((pnC_eq m n s tabF _).mpr fun st3 h3 => ?_) h2))
  obtain ⟨p1, hp1⟩ : ∃ p1 : List (Int × Int), p1 = if n > 1 then [(1, 0)] else [] := ⟨_, rfl⟩
  have hpl : planL n s = p1 ++ backL n 0 n (s - 1) := by rw [hp1]; rfl
  rw [hpl] at hl ⊢
  rw [List.length_append] at hl
  have w : IntKind.wrap IntKind.i64 ((s : Int) - 1) = ((s - 1 : Nat) : Int) := by rw [wrap_ok (by omega) (by omega)]; omega
  have rest : ∀ st4 : St, st4.is (pnT n s []) (mm [plB tabF 1 p1, acB p1]) → AWP prog (gl m) 22 c (.seq (cp [1,1,1,0] F29) (cp [1,1,1,1] F29)) st4 (FinL prog Tryz.f29 (dA {} (p1 ++ backL n 0 n (s - 1)))) := by
    intro st4 h4
    have hk : KxOk prog (gl m) (kPl 45 tabF p1 (p1 ++ backL n 0 n (s - 1)) (fun a b d => a = 0 ∧ b = (n : Int) ∧ d = ((s - 1 : Nat) : Int))) := kPl_ok m fun a b d ⟨e1, e2, e3⟩ => by
      subst e1 e2 e3
      exact back_has m n n (s - 1) 0 p1 hn0 (Nat.le_refl _) hn (by omega) (by omega) (by omega) (by omega)
    refine awp_seq (awp_sx hk hel ((pnE_eq m n s _ tabF p1 _ _).mpr ⟨rfl, rfl, rfl, rfl, ⟨rfl, rfl, w⟩, m1L_eA _, fun st5 h5 => ?_⟩) h4)
    generalize p1 ++ backL n 0 n (s - 1) = p at *
    refine awp_sx kx0_ok hel ((pnF_eq m tabF p _).mpr ?_) h5
    obtain ⟨u, hu⟩ := frzD_rs (h := (mm [plB tabF 1 p, acB p]).h.hf) 11 (i := 1) (len := p.length) (cap := none) (cells := eA p) (esz := 2) (ao := false) (fx := false) (ty := none) (by rw [mm_hf]; rfl) (eA_flat p) (eA_length p).symm
    exact finL_ret (a := dA {} p) [.rs 1 0 p.length (eA p).length none] u (by kernel_rfl) hu
  refine awp_cond (b := decide ((n : Int) > 1)) (condT h3 (by kernel_rfl)) (fun hb => ?_) (fun hb => ?_)
  · have hb' : n > 1 := by have := of_decide_eq_true hb; omega
    rw [if_pos hb'] at hp1
    refine awp_sx (kAct_ok m tabF [] p1) hel ((pnD_eq m n s tabF [] p1 _ _).mpr ⟨rfl, rfl, rfl, rfl, by rw [hp1]; exact cAct_one [] 1 0 (by simp), m1L_eA _, ?_⟩) h3
    exact rest
  · have hb' : ¬ n > 1 := by have := of_decide_eq_false hb; omega
    rw [if_neg hb'] at hp1
    subst hp1
    refine awp_sx kx0_ok hel ((pnDs_eq m n s tabF [] _ _).mpr ?_) h3
    exact rest

noncomputable def rch (m : Int) (s t : Nat) : Bool := frozenB prog Tryz.f10 (.tup [vi (reachV s t), vi 0]) (runC prog (gl m) kn3 10000 (bodyC prog (gl m) Tryz.f10) (argsTr [vi s, vi t] 0 .e) ⟨.e, 0, 0, [], 0⟩)
theorem rch_all (m : Int) : ((List.range 9).all fun s => (List.range 21).all fun t => Nat.beq s 0 || rch m s t) = true := by kernel_rfl
end Go.Proofs.YtpiincgiakkljaaGreatDoor
