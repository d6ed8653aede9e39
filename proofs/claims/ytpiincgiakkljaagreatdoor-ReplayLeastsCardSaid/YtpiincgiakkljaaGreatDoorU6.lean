/-
  replay.Plan, ReplayLeasts as the code says them.
-/
import Derived.Test.YtpiincgiakkljaaGreatDoorU5
import Derived.Test.YtpiincgiakkljaaGreatDoorUm
set_option linter.unusedSimpArgs false
set_option linter.unusedVariables false
namespace Go.Proofs.YtpiincgiakkljaaGreatDoor
open Go

noncomputable def kPn : KX := kL 29 fun l => match l with
  | [.int .i64 n, .int .i64 s] => some (dA {} (planL n.toNat s.toNat), [.p (1 ≤ n ∧ n ≤ 40 ∧ 1 ≤ s ∧ s ≤ 8 ∧ (planL n.toNat s.toNat).length ≤ 100000)])
  | _ => none
theorem kPn_ok (m : Int) : KxOk prog (gl m) kPn := kL_ok fun l v cs h hc => by
  split at h
  · rename_i n s
    cases h
    simp only [List.mem_cons, List.mem_nil_iff, or_false, forall_eq_or_imp, forall_eq, Cd.ok] at hc
    have := plan_hasL m n.toNat s.toNat (by omega) (by omega) (by omega) (by omega) hc.2.2.2.2
    rw [show ((n.toNat : Nat) : Int) = n by omega, show ((s.toNat : Nat) : Int) = s by omega] at this
    exact this
  · cases h
noncomputable def kPln : KX := orK kAsked kPn
theorem kPln_ok (m : Int) : KxOk prog (gl m) kPln := orK_ok (kAsked_ok m) (kPn_ok m)

noncomputable abbrev F18 : Code := bodyF Tryz.f18
noncomputable def plnA (m n s : Int) (K : AExit → Tr AV → Mem → Prop) (S : Scr) : Prop := sxC prog (gl m) kPln 16 mo F18 (finK 0 K) S (argsTr [vi n, vi s] 0 .e) (mm [])
set_option maxRecDepth 100000 in
theorem plnA_eq (m : Int) (n : Int) (s : Int) (K : AExit → Tr AV → Mem → Prop) : plnA m n s K (Scr.sp (Scr.fin [4, 5]) (Scr.fin [4, 5])) = (
    ((askedV n s != 0) = true → K AExit.ret (few [(4, AV.nils), (5, AV.int IntKind.i64 (askedV n s))]) (mm [])) ∧
  ((askedV n s != 0) = false →
    (1 ≤ n ∧ n ≤ 40 ∧ 1 ≤ s ∧ s ≤ 8 ∧ List.length (planL (Int.toNat n) (Int.toNat s)) ≤ 100000) ∧
      K AExit.ret
        (few
          [(4,
              AV.ds (SH.mk false false none) (eA (planL (Int.toNat n) (Int.toNat s)))
                (List.length (planL (Int.toNat n) (Int.toNat s)))),
            (5, AV.int IntKind.i64 0)])
        (mm []))) := by kernel_rfl

noncomputable def kLeast (x e : Int) : KX := kL 9 fun l => match l with
  | [.int .i64 n, .int .i64 s] => some (.tup [vi x, vi e], [.p (leastV n s = x ∧ askedV n s = e)])
  | _ => none
theorem kLeast_ok (m x e : Int) : KxOk prog (gl m) (kLeast x e) := kL_ok fun l v cs h hc => by
  split at h
  · rename_i n s
    cases h
    simp only [List.mem_cons, List.mem_nil_iff, or_false, forall_eq_or_imp, forall_eq, Cd.ok] at hc
    have := least_hasL m n s
    rw [hc.1, hc.2] at this
    exact this
  · cases h

noncomputable def kTwo (g : Nat) (a b : AV) (C : Int → Int → Prop) : KX := kL g fun l => match l with
  | [.int .i64 x, .int .i64 y] => some (.tup [a, b], [.p (C x y)])
  | _ => none
theorem kTwo_ok (m : Int) {g : Nat} {a b : AV} {C : Int → Int → Prop} (H : ∀ x y, C x y → HasL prog (gl m) g [vi x, vi y] (.tup [a, b])) : KxOk prog (gl m) (kTwo g a b C) := kL_ok fun l v cs h hc => by
  split at h
  · rename_i x y
    cases h
    simp only [List.mem_cons, List.mem_nil_iff, or_false, forall_eq_or_imp, forall_eq, Cd.ok] at hc
    exact H x y hc
  · cases h
noncomputable def kOne (g : Nat) (a : AV) (C : Int → Int → Prop) : KX := kL g fun l => match l with
  | [.int .i64 x, .int .i64 y] => some (a, [.p (C x y)])
  | _ => none
theorem kOne_ok (m : Int) {g : Nat} {a : AV} {C : Int → Int → Prop} (H : ∀ x y, C x y → HasL prog (gl m) g [vi x, vi y] a) : KxOk prog (gl m) (kOne g a C) := kL_ok fun l v cs h hc => by
  split at h
  · rename_i x y
    cases h
    simp only [List.mem_cons, List.mem_nil_iff, or_false, forall_eq_or_imp, forall_eq, Cd.ok] at hc
    exact H x y hc
  · cases h

noncomputable abbrev F6 : Code := bodyF Tryz.f6
noncomputable def lsA (m n s t : Int) (K : AExit → Tr AV → Mem → Prop) (S : Scr) : Prop := sxC prog (gl m) kx0 113 mo (cp [0] F6) (finK 0 K) S (argsTr [vi n, vi s, vi t] 0 .e) (mm [])
noncomputable def lsT (n s t : Int) (l : List (Nat × AV)) : Tr AV := few ([(0, vi n), (1, vi s), (2, vi t)] ++ l)
noncomputable def lsB (m n s t x e : Int) (C : Int → Int → Prop) (K : AExit → Tr AV → Mem → Prop) (S : Scr) : Prop := sxC prog (gl m) (kTwo 9 (vi x) (vi e) C) 113 mo (cp [1,0] F6) (finK 0 K) S (lsT n s t []) (mm [])
noncomputable def lsC (m n s t x e : Int) (q : List (Int × Int)) (e2 : Int) (C : Int → Int → Prop) (K : AExit → Tr AV → Mem → Prop) (S : Scr) : Prop := sxC prog (gl m) (kTwo 18 (dA {} q) (vi e2) C) 113 mo (cp [1,1,0] F6) (finK 0 K) S (lsT n s t [(7, vi x), (8, vi e)]) (mm [])
noncomputable def lsU (n s t x e : Int) (q : List (Int × Int)) (e2 : Int) (l : List (Nat × AV)) : Tr AV := few ([(0, vi n), (1, vi s), (2, vi t), (7, vi x), (8, vi e), (9, dA {} q), (10, vi e2)] ++ l)
noncomputable def lsD (m n s t x e : Int) (q : List (Int × Int)) (e2 y e3 : Int) (C : Int → Int → Prop) (K : AExit → Tr AV → Mem → Prop) (S : Scr) : Prop := sxC prog (gl m) (kTwo 10 (vi y) (vi e3) C) 113 mo (cp [1,1,1,0] F6) (finK 0 K) S (lsU n s t x e q e2 []) (mm [])
noncomputable def lsE (m n s t x e : Int) (q : List (Int × Int)) (e2 y e3 z : Int) (C : Int → Int → Prop) (K : AExit → Tr AV → Mem → Prop) (S : Scr) : Prop := sxC prog (gl m) (kOne 19 (vi z) C) 113 mo (cp [1,1,1,1,0] F6) (finK 0 K) S (lsU n s t x e q e2 [(11, vi y), (12, vi e3)]) (mm [])
noncomputable def lsF (m n s t x e : Int) (q : List (Int × Int)) (e2 : Int) (b : Bool) (K : AExit → Tr AV → Mem → Prop) (S : Scr) : Prop := sxC prog (gl m) (orK (kBad b) kAlive) 113 mo (cp [1,1,1,1,1,0] F6) (finK 0 K) S (lsU n s t x e q e2 []) (mm [])
noncomputable def lsG (m n s t x e : Int) (q : List (Int × Int)) (e2 : Int) (ro : List Int) (r1 r2 : Int) (K : AExit → Tr AV → Mem → Prop) (S : Scr) : Prop := sxC prog (gl m) (kRef q ro r1 r2) 113 mo (cp [1,1,1,1,1,1,0] F6) (finK 0 K) S (lsU n s t x e q e2 []) (mm [])
noncomputable def lsH (m n s t x e : Int) (q : List (Int × Int)) (e2 : Int) (r0 r1 r2 : Int) (ro : List Int) (w : Int) (C : Int → Int → Prop) (K : AExit → Tr AV → Mem → Prop) (S : Scr) : Prop := sxC prog (gl m) (orK (kOne 20 (vi w) C) kAlive) 113 mo (cp [1,1,1,1,1,1,1] F6) (finK 0 K) S (few [(0, vi n), (1, vi s), (7, vi x), (8, vi e), (10, vi e2), (13, .ra 0 0 4)]) (mm [toldD r0 r1 r2 ro])
set_option maxRecDepth 100000 in
theorem lsA_eq (m : Int) (n : Int) (s : Int) (t : Int) (K : AExit → Tr AV → Mem → Prop) : lsA m n s t K (Scr.fin [0, 1, 2]) = (
    K AExit.normal (few [(0, AV.int IntKind.i64 n), (1, AV.int IntKind.i64 s), (2, AV.int IntKind.i64 t)]) (mm [])) := by kernel_rfl
set_option maxRecDepth 100000 in
theorem lsB_eq (m : Int) (n : Int) (s : Int) (t : Int) (x : Int) (e : Int) (C : Int → Int → Prop) (K : AExit → Tr AV → Mem → Prop) : lsB m n s t x e C K (Scr.fin [0, 1, 2, 7, 8]) = (
    C n s ∧
  K AExit.normal
    (few
      [(0, AV.int IntKind.i64 n), (1, AV.int IntKind.i64 s), (2, AV.int IntKind.i64 t), (7, AV.int IntKind.i64 x),
        (8, AV.int IntKind.i64 e)])
    (mm [])) := by kernel_rfl
set_option maxRecDepth 100000 in
theorem lsC_eq (m : Int) (n : Int) (s : Int) (t : Int) (x : Int) (e : Int) (q : List (Int × Int)) (e2 : Int) (C : Int → Int → Prop) (K : AExit → Tr AV → Mem → Prop) : lsC m n s t x e q e2 C K (Scr.fin [0, 1, 2, 7, 8, 9, 10]) = (
    C n s ∧
  K AExit.normal
    (few
      [(0, AV.int IntKind.i64 n), (1, AV.int IntKind.i64 s), (2, AV.int IntKind.i64 t), (7, AV.int IntKind.i64 x),
        (8, AV.int IntKind.i64 e), (9, AV.ds (SH.mk false false none) (eA q) (List.length q)),
        (10, AV.int IntKind.i64 e2)])
    (mm [])) := by kernel_rfl
set_option maxRecDepth 100000 in
theorem lsD_eq (m : Int) (n : Int) (s : Int) (t : Int) (x : Int) (e : Int) (q : List (Int × Int)) (e2 : Int) (y : Int) (e3 : Int) (C : Int → Int → Prop) (K : AExit → Tr AV → Mem → Prop) : lsD m n s t x e q e2 y e3 C K (Scr.fin [0, 1, 2, 7, 8, 9, 10, 11, 12]) = (
    C s t ∧
  K AExit.normal
    (few
      [(0, AV.int IntKind.i64 n), (1, AV.int IntKind.i64 s), (2, AV.int IntKind.i64 t), (7, AV.int IntKind.i64 x),
        (8, AV.int IntKind.i64 e), (9, AV.ds (SH.mk false false none) (eA q) (List.length q)),
        (10, AV.int IntKind.i64 e2), (11, AV.int IntKind.i64 y), (12, AV.int IntKind.i64 e3)])
    (mm [])) := by kernel_rfl
set_option maxRecDepth 100000 in
theorem lsE_eq (m : Int) (n : Int) (s : Int) (t : Int) (x : Int) (e : Int) (q : List (Int × Int)) (e2 : Int) (y : Int) (e3 : Int) (z : Int) (C : Int → Int → Prop) (K : AExit → Tr AV → Mem → Prop) : lsE m n s t x e q e2 y e3 z C K (Scr.sp
  (Scr.tt
    (Scr.tt
      (Scr.tt
        (Scr.tt
          (Scr.tt
            (Scr.tt
              (Scr.sp (Scr.tt (Scr.tt (Scr.fin [6])))
                (Scr.ff (Scr.sp (Scr.fin [6]) (Scr.fin [0, 1, 2, 7, 8, 9, 10]))))))))))
  (Scr.ff
    (Scr.sp
      (Scr.tt
        (Scr.tt
          (Scr.tt
            (Scr.tt
              (Scr.sp (Scr.tt (Scr.tt (Scr.fin [6])))
                (Scr.ff (Scr.sp (Scr.fin [6]) (Scr.fin [0, 1, 2, 7, 8, 9, 10]))))))))
      (Scr.ff
        (Scr.sp
          (Scr.tt
            (Scr.tt
              (Scr.sp (Scr.tt (Scr.tt (Scr.fin [6])))
                (Scr.ff (Scr.sp (Scr.fin [6]) (Scr.fin [0, 1, 2, 7, 8, 9, 10]))))))
          (Scr.ff
            (Scr.sp
              (Scr.sp (Scr.tt (Scr.tt (Scr.fin [6]))) (Scr.ff (Scr.sp (Scr.fin [6]) (Scr.fin [0, 1, 2, 7, 8, 9, 10]))))
              (Scr.sp (Scr.tt (Scr.tt (Scr.fin [6])))
                (Scr.ff (Scr.sp (Scr.fin [6]) (Scr.fin [0, 1, 2, 7, 8, 9, 10]))))))))))) = (
    (decide (s < 1) = true →
    ((y != 0) = true → K AExit.ret (few [(6, AV.bool false)]) (mm [])) ∧
      ((y != 0) = false →
        ((e3 != 2) = true → K AExit.ret (few [(6, AV.bool false)]) (mm [])) ∧
          ((e3 != 2) = false →
            K AExit.normal
              (few
                [(0, AV.int IntKind.i64 n), (1, AV.int IntKind.i64 s), (2, AV.int IntKind.i64 t),
                  (7, AV.int IntKind.i64 x), (8, AV.int IntKind.i64 e),
                  (9, AV.ds (SH.mk false false none) (eA q) (List.length q)), (10, AV.int IntKind.i64 e2)])
              (mm [])))) ∧
  (decide (s < 1) = false →
    (decide (s > 8) = true →
        ((y != 0) = true → K AExit.ret (few [(6, AV.bool false)]) (mm [])) ∧
          ((y != 0) = false →
            ((e3 != 2) = true → K AExit.ret (few [(6, AV.bool false)]) (mm [])) ∧
              ((e3 != 2) = false →
                K AExit.normal
                  (few
                    [(0, AV.int IntKind.i64 n), (1, AV.int IntKind.i64 s), (2, AV.int IntKind.i64 t),
                      (7, AV.int IntKind.i64 x), (8, AV.int IntKind.i64 e),
                      (9, AV.ds (SH.mk false false none) (eA q) (List.length q)), (10, AV.int IntKind.i64 e2)])
                  (mm [])))) ∧
      (decide (s > 8) = false →
        (decide (t < 0) = true →
            ((y != 0) = true → K AExit.ret (few [(6, AV.bool false)]) (mm [])) ∧
              ((y != 0) = false →
                ((e3 != 2) = true → K AExit.ret (few [(6, AV.bool false)]) (mm [])) ∧
                  ((e3 != 2) = false →
                    K AExit.normal
                      (few
                        [(0, AV.int IntKind.i64 n), (1, AV.int IntKind.i64 s), (2, AV.int IntKind.i64 t),
                          (7, AV.int IntKind.i64 x), (8, AV.int IntKind.i64 e),
                          (9, AV.ds (SH.mk false false none) (eA q) (List.length q)), (10, AV.int IntKind.i64 e2)])
                      (mm [])))) ∧
          (decide (t < 0) = false →
            (decide (t > 20) = true →
                ((y != 0) = true → K AExit.ret (few [(6, AV.bool false)]) (mm [])) ∧
                  ((y != 0) = false →
                    ((e3 != 2) = true → K AExit.ret (few [(6, AV.bool false)]) (mm [])) ∧
                      ((e3 != 2) = false →
                        K AExit.normal
                          (few
                            [(0, AV.int IntKind.i64 n), (1, AV.int IntKind.i64 s), (2, AV.int IntKind.i64 t),
                              (7, AV.int IntKind.i64 x), (8, AV.int IntKind.i64 e),
                              (9, AV.ds (SH.mk false false none) (eA q) (List.length q)), (10, AV.int IntKind.i64 e2)])
                          (mm [])))) ∧
              (decide (t > 20) = false →
                C s t ∧
                  ((y != z) = true → K AExit.ret (few [(6, AV.bool false)]) (mm [])) ∧
                    ((y != z) = false →
                      ((e3 != 0) = true → K AExit.ret (few [(6, AV.bool false)]) (mm [])) ∧
                        ((e3 != 0) = false →
                          K AExit.normal
                            (few
                              [(0, AV.int IntKind.i64 n), (1, AV.int IntKind.i64 s), (2, AV.int IntKind.i64 t),
                                (7, AV.int IntKind.i64 x), (8, AV.int IntKind.i64 e),
                                (9, AV.ds (SH.mk false false none) (eA q) (List.length q)),
                                (10, AV.int IntKind.i64 e2)])
                            (mm [])))))))) := by kernel_rfl
set_option maxRecDepth 100000 in
theorem lsF_eq (m : Int) (n : Int) (s : Int) (t : Int) (x : Int) (e : Int) (q : List (Int × Int)) (e2 : Int) (b : Bool) (K : AExit → Tr AV → Mem → Prop) : lsF m n s t x e q e2 b K (Scr.sp
  (Scr.sp
    (Scr.tt
      (Scr.sp (Scr.tt (Scr.tt (Scr.sp (Scr.tt (Scr.sp (Scr.fin [6]) (Scr.fin [6]))) (Scr.ff (Scr.ff (Scr.fin [6]))))))
        (Scr.ff (Scr.ff (Scr.ff (Scr.ff (Scr.ff (Scr.fin [6]))))))))
    (Scr.ff (Scr.ff (Scr.ff (Scr.ff (Scr.ff (Scr.ff (Scr.ff (Scr.fin [6])))))))))
  (Scr.fin [0, 1, 2, 7, 8, 9, 10])) = (
    decide (badP n s) = b ∧
  (b = true →
      ((x == 0) = true →
          ((e == 2) = true →
              (((↑(List.length q) : Int) == 0) = true →
                  ((e2 == 2) = true → K AExit.ret (few [(6, AV.bool true)]) (mm [])) ∧
                    ((e2 == 2) = false → K AExit.ret (few [(6, AV.bool false)]) (mm []))) ∧
                (((↑(List.length q) : Int) == 0) = false → K AExit.ret (few [(6, AV.bool false)]) (mm []))) ∧
            ((e == 2) = false → K AExit.ret (few [(6, AV.bool false)]) (mm []))) ∧
        ((x == 0) = false → K AExit.ret (few [(6, AV.bool false)]) (mm []))) ∧
    (b = false →
      K AExit.normal
        (few
          [(0, AV.int IntKind.i64 n), (1, AV.int IntKind.i64 s), (2, AV.int IntKind.i64 t), (7, AV.int IntKind.i64 x),
            (8, AV.int IntKind.i64 e), (9, AV.ds (SH.mk false false none) (eA q) (List.length q)),
            (10, AV.int IntKind.i64 e2)])
        (mm []))) := by kernel_rfl
set_option maxRecDepth 100000 in
theorem lsG_eq (m : Int) (n : Int) (s : Int) (t : Int) (x : Int) (e : Int) (q : List (Int × Int)) (e2 : Int) (ro : List Int) (r1 : Int) (r2 : Int) (K : AExit → Tr AV → Mem → Prop) : lsG m n s t x e q e2 ro r1 r2 K (Scr.fin [0, 1, 7, 8, 10, 13]) = (
    eA q = eA q ∧
  List.length q = List.length q ∧
    (1 ≤ n ∧ n ≤ 40 ∧ 0 ≤ s) ∧
      checkV n s q = (ro, r1, r2) ∧
        K AExit.normal
          (few
            [(0, AV.int IntKind.i64 n), (1, AV.int IntKind.i64 s), (7, AV.int IntKind.i64 x), (8, AV.int IntKind.i64 e),
              (10, AV.int IntKind.i64 e2), (13, AV.ra 0 0 4)])
          (mm
            [Slot.blk
                (Blk.mk
                  [AV.int IntKind.i64 (sumZ ro), AV.int IntKind.i64 r1, AV.int IntKind.i64 r2,
                    AV.ds (SH.mk false false none) (List.map vi ro) (List.length ro)]
                  4 false false (some 39))])) := by kernel_rfl
set_option maxRecDepth 100000 in
theorem lsH_eq (m : Int) (n : Int) (s : Int) (t : Int) (x : Int) (e : Int) (q : List (Int × Int)) (e2 : Int) (r0 : Int) (r1 : Int) (r2 : Int) (ro : List Int) (w : Int) (C : Int → Int → Prop) (K : AExit → Tr AV → Mem → Prop) : lsH m n s t x e q e2 r0 r1 r2 ro w C K (Scr.sp
  (Scr.tt
    (Scr.sp
      (Scr.tt
        (Scr.sp
          (Scr.tt
            (Scr.tt
              (Scr.sp (Scr.tt (Scr.tt (Scr.tt (Scr.sp (Scr.fin [6]) (Scr.fin [6])))))
                (Scr.ff (Scr.ff (Scr.ff (Scr.ff (Scr.fin [6]))))))))
          (Scr.ff (Scr.ff (Scr.ff (Scr.ff (Scr.ff (Scr.ff (Scr.ff (Scr.fin [6]))))))))))
      (Scr.ff (Scr.ff (Scr.ff (Scr.ff (Scr.ff (Scr.ff (Scr.ff (Scr.ff (Scr.ff (Scr.fin [6]))))))))))))
  (Scr.ff (Scr.ff (Scr.ff (Scr.ff (Scr.ff (Scr.ff (Scr.ff (Scr.ff (Scr.ff (Scr.ff (Scr.ff (Scr.fin [6]))))))))))))) = (
    C n s ∧
  ((x == w) = true →
      ((e == 0) = true →
          ((e2 == 0) = true →
              ((r2 == 0) = true →
                  ((r0 == x) = true →
                      K AExit.ret (few [(6, AV.bool true)])
                        (mm
                          [Slot.blk
                              (Blk.mk
                                [AV.int IntKind.i64 r0, AV.int IntKind.i64 r1, AV.int IntKind.i64 r2,
                                  AV.ds (SH.mk false false none) (List.map vi ro) (List.length ro)]
                                4 false false (some 39))])) ∧
                    ((r0 == x) = false →
                      K AExit.ret (few [(6, AV.bool false)])
                        (mm
                          [Slot.blk
                              (Blk.mk
                                [AV.int IntKind.i64 r0, AV.int IntKind.i64 r1, AV.int IntKind.i64 r2,
                                  AV.ds (SH.mk false false none) (List.map vi ro) (List.length ro)]
                                4 false false (some 39))]))) ∧
                ((r2 == 0) = false →
                  K AExit.ret (few [(6, AV.bool false)])
                    (mm
                      [Slot.blk
                          (Blk.mk
                            [AV.int IntKind.i64 r0, AV.int IntKind.i64 r1, AV.int IntKind.i64 r2,
                              AV.ds (SH.mk false false none) (List.map vi ro) (List.length ro)]
                            4 false false (some 39))]))) ∧
            ((e2 == 0) = false →
              K AExit.ret (few [(6, AV.bool false)])
                (mm
                  [Slot.blk
                      (Blk.mk
                        [AV.int IntKind.i64 r0, AV.int IntKind.i64 r1, AV.int IntKind.i64 r2,
                          AV.ds (SH.mk false false none) (List.map vi ro) (List.length ro)]
                        4 false false (some 39))]))) ∧
        ((e == 0) = false →
          K AExit.ret (few [(6, AV.bool false)])
            (mm
              [Slot.blk
                  (Blk.mk
                    [AV.int IntKind.i64 r0, AV.int IntKind.i64 r1, AV.int IntKind.i64 r2,
                      AV.ds (SH.mk false false none) (List.map vi ro) (List.length ro)]
                    4 false false (some 39))]))) ∧
    ((x == w) = false →
      K AExit.ret (few [(6, AV.bool false)])
        (mm
          [Slot.blk
              (Blk.mk
                [AV.int IntKind.i64 r0, AV.int IntKind.i64 r1, AV.int IntKind.i64 r2,
                  AV.ds (SH.mk false false none) (List.map vi ro) (List.length ro)]
                4 false false (some 39))]))) := by kernel_rfl
end Go.Proofs.YtpiincgiakkljaaGreatDoor
/-
  ReplayLeasts answers true.
-/
namespace Go.Proofs.YtpiincgiakkljaaGreatDoor
open Go

def PlanV (n s : Int) : List (Int × Int) × Int := if badP n s then ([], 2) else (planL n.toNat s.toNat, 0)
abbrev inReach (s t : Int) : Prop := 1 ≤ s ∧ s ≤ 8 ∧ 0 ≤ t ∧ t ≤ 20
def ReachV (s t : Int) : Int × Int := if inReach s t then (reachV s.toNat t.toNat, 0) else (0, 2)

set_option maxRecDepth 100000 in
theorem Plan_hasL (m n s : Int) : HasL prog (gl m) 18 [vi n, vi s] (.tup [dA {} (PlanV n s).1, vi (PlanV n s).2]) := by
  refine hasL_sx Tryz.func18 (code := F18) (by kernel_rfl) (of_decide_eq_true (by kernel_rfl)) fun c st hel h0 => awp_sx (kPln_ok m) hel ((plnA_eq m n s _).mpr ⟨fun hb => ?_, fun hb => ?_⟩) h0
  · have hb' := asked_ne.1 hb
    rw [asked_2 hb', PlanV, if_pos hb']
    exact finL_le (a2 := .tup [.nils, vi 2]) (AVle.tup (.cons AVle.nils (.cons (AVle.refl _) .nil))) [.nils, vi 2] [] (by kernel_rfl) (by rfl)
  · have hb' := asked_eq.1 hb
    rw [PlanV, if_neg hb']
    unfold badP at hb'
    obtain ⟨o, _, h2, _⟩ := plan_ok (n := n.toNat) (s := s.toNat) (by omega) (by omega) (by omega) (by omega)
    refine ⟨⟨by omega, by omega, by omega, by omega, by omega⟩, ?_⟩
    generalize planL n.toNat s.toNat = p
    exact finL_ret (a := .tup [dA {} p, vi 0]) [dA {} p, vi 0] [] (by kernel_rfl) (by rfl)

theorem F10_split : F10 = .seq (cp [0] F10) (.seq (cp [1,0] F10) (cp [1,1] F10)) := by kernel_rfl

set_option maxRecDepth 100000 in
theorem Reach_hasL (m s t : Int) : HasL prog (gl m) 10 [vi s, vi t] (.tup [vi (ReachV s t).1, vi (ReachV s t).2]) := by
  by_cases h : inReach s t
  · rw [ReachV, if_pos h]
    unfold inReach at h
    have hh := List.all_eq_true.1 (List.all_eq_true.1 (rch_all m) s.toNat (List.mem_range.2 (by omega))) t.toNat (List.mem_range.2 (by omega))
    have q1 : Nat.beq s.toNat 0 = false := by
      cases hs : s.toNat with
      | zero => omega
      | succ n => rfl
    rw [q1, Bool.false_or] at hh
    unfold rch at hh
    rw [show ((s.toNat : Nat) : Int) = s by omega, show ((t.toNat : Nat) : Int) = t by omega] at hh
    exact hasL_of_run (kn3_ok m) Tryz.func10 (code := F10) (by kernel_rfl) rfl hh
  · rw [ReachV, if_neg h]
    refine hasL_sx Tryz.func10 (code := F10) (by kernel_rfl) (of_decide_eq_true (by kernel_rfl)) fun c st hel h0 => ?_
    rw [F10_split]
    refine awp_seq (awp_sx kx0_ok hel ((reA_eq m s t _).mpr fun st1 h1 => ?_) h0)
    unfold inReach at h
    have fin : Lf (FinL prog Tryz.f10 (.tup [vi 0, vi 2])) .ret (few [(4, AV.int IntKind.i64 0), (5, AV.int IntKind.i64 2)]) (mm []) := finL_ret [vi 0, vi 2] [] (by kernel_rfl) (by rfl)
    refine awp_seq (awp_sx kx0_ok hel ((reB_eq m s t _).mpr ⟨fun g1 => ?_, fun g1 => ⟨fun g2 => ?_, fun g2 => ⟨fun g3 => ?_, fun g3 => ⟨fun g4 => ?_, fun g4 => ?_⟩⟩⟩⟩) h1)
    · exact fin
    · exact fin
    · exact fin
    · exact fin
    · have e1 := of_decide_eq_false g1
      have e2 := of_decide_eq_false g2
      have e3 := of_decide_eq_false g3
      have e4 := of_decide_eq_false g4
      exact absurd ⟨by omega, by omega, by omega, by omega⟩ h

theorem F6_split : F6 = .seq (cp [0] F6) (.seq (cp [1,0] F6) (.seq (cp [1,1,0] F6) (.seq (cp [1,1,1,0] F6) (.seq (cp [1,1,1,1,0] F6) (.seq (cp [1,1,1,1,1,0] F6) (.seq (cp [1,1,1,1,1,1,0] F6) (cp [1,1,1,1,1,1,1] F6))))))) := by kernel_rfl

theorem fin6 (l : List Slot) : Lf (FinL prog Tryz.f6 (.bool true)) .ret (few [(6, AV.bool true)]) (mm l) := finL_ret [.bool true] [] (by rw [mm_hfL]; kernel_rfl) (by rfl)

set_option maxRecDepth 100000 in
theorem ReplayLeasts_hasL (m n s t : Int) : HasL prog (gl m) 6 [vi n, vi s, vi t] (.bool true) := by
  refine hasL_sx Tryz.func6 (code := F6) (by kernel_rfl) (of_decide_eq_true (by kernel_rfl)) fun c st hel h0 => ?_
  rw [F6_split]
  have k9 : KxOk prog (gl m) (kTwo 9 (vi (leastV n s)) (vi (askedV n s)) (fun a b => a = n ∧ b = s)) := kTwo_ok m fun a b ⟨e1, e2⟩ => by subst e1 e2; exact least_hasL m a b
  have k18 : KxOk prog (gl m) (kTwo 18 (dA {} (PlanV n s).1) (vi (PlanV n s).2) (fun a b => a = n ∧ b = s)) := kTwo_ok m fun a b ⟨e1, e2⟩ => by subst e1 e2; exact Plan_hasL m a b
  have k10 : KxOk prog (gl m) (kTwo 10 (vi (ReachV s t).1) (vi (ReachV s t).2) (fun a b => a = s ∧ b = t)) := kTwo_ok m fun a b ⟨e1, e2⟩ => by subst e1 e2; exact Reach_hasL m a b
  have k19 : KxOk prog (gl m) (kOne 19 (vi (reachV s.toNat t.toNat)) (fun a b => a = s ∧ b = t ∧ inReach s t)) := kOne_ok m fun a b ⟨e1, e2, e3⟩ => by
    subst e1 e2
    unfold inReach at e3
    have := refReach_hasL m a.toNat b.toNat (by omega) (by omega)
    rw [show ((a.toNat : Nat) : Int) = a by omega, show ((b.toNat : Nat) : Int) = b by omega] at this
    exact this
  refine awp_seq (awp_sx kx0_ok hel ((lsA_eq m n s t _).mpr fun st1 h1 => ?_) h0)
  refine awp_seq (awp_sx k9 hel ((lsB_eq m n s t _ _ _ _).mpr ⟨⟨rfl, rfl⟩, fun st2 h2 => ?_⟩) h1)
  refine awp_seq (awp_sx k18 hel ((lsC_eq m n s t _ _ _ _ _ _).mpr ⟨⟨rfl, rfl⟩, fun st3 h3 => ?_⟩) h2)
  refine awp_seq (awp_sx k10 hel ((lsD_eq m n s t _ _ _ _ _ _ _ _).mpr ⟨⟨rfl, rfl⟩, fun st4 h4 => ?_⟩) h3)
  have rest : ∀ st5 : St, st5.is (lsU n s t (leastV n s) (askedV n s) (PlanV n s).1 (PlanV n s).2 []) (mm []) → AWP prog (gl m) 113 c (.seq (cp [1,1,1,1,1,0] F6) (.seq (cp [1,1,1,1,1,1,0] F6) (cp [1,1,1,1,1,1,1] F6))) st5 (FinL prog Tryz.f6 (.bool true)) := by
    intro st5 h5
    by_cases hb : badP n s
    · rw [PlanV, if_pos hb, leastV, if_pos hb, askedV, if_pos hb] at h5
      refine awp_seq (awp_sx (orK_ok (kBad_ok m true) (kAlive_ok m)) hel ((lsF_eq m n s t 0 2 [] 2 true _).mpr ⟨decide_eq_true hb, fun _ => ⟨fun _ => ⟨fun _ => ⟨fun _ => ⟨fun _ => ?_, fun h => ?_⟩, fun h => ?_⟩, fun h => ?_⟩, fun h => ?_⟩, fun h => ?_⟩) h5)
      · exact fin6 []
      all_goals exact absurd h (by decide)
    · have hbb := hb
      unfold badP at hbb
      obtain ⟨o, v1, v2, v3, v4⟩ := plan_ok (n := n.toNat) (s := s.toNat) (by omega) (by omega) (by omega) (by omega)
      have en : ((n.toNat : Nat) : Int) = n := by omega
      have es : ((s.toNat : Nat) : Int) = s := by omega
      rw [en, es] at v1 v3 v4
      have k20 : KxOk prog (gl m) (kOne 20 (vi (leastV n s)) (fun a b => a = n ∧ b = s)) := kOne_ok m fun a b ⟨e1, e2⟩ => by
        subst e1 e2
        have := refLeast_hasL m a.toNat b.toNat (by omega) (by omega) (by omega) (by omega)
        rw [en, es, ← v4] at this
        exact this
      rw [PlanV, if_neg hb, askedV, if_neg hb] at h5
      simp only at h5
      generalize planL n.toNat s.toNat = q at *
      generalize leastV n s = x at *
      refine awp_seq (awp_sx (orK_ok (kBad_ok m false) (kAlive_ok m)) hel ((lsF_eq m n s t x 0 q 0 false _).mpr ⟨decide_eq_false hb, fun h => ?_, fun _ st6 h6 => ?_⟩) h5)
      · cases h
      refine awp_seq (awp_sx (kRef_ok m q o 0 0) hel ((lsG_eq m n s t x 0 q 0 o 0 0 _).mpr ⟨rfl, rfl, by omega, v1, fun st7 h7 => ?_⟩) h6)
      rw [v3] at h7
      refine awp_sx (orK_ok k20 (kAlive_ok m)) hel ((lsH_eq m n s t x 0 q 0 x 0 0 o x _ _).mpr ⟨⟨rfl, rfl⟩, fun _ => ⟨fun _ => ⟨fun _ => ⟨fun _ => ⟨fun _ => ?_, fun h => ?_⟩, fun h => ?_⟩, fun h => ?_⟩, fun h => ?_⟩, fun h => ?_⟩) h7
      · exact fin6 _
      all_goals simp at h
  by_cases hr : inReach s t
  · have hrr := hr
    unfold inReach at hrr
    rw [ReachV, if_pos hr] at h4
    refine awp_seq (awp_sx k19 hel ((lsE_eq m n s t _ _ _ _ (reachV s.toNat t.toNat) 0 (reachV s.toNat t.toNat) _ _).mpr ⟨fun g => ?_, fun _ => ⟨fun g => ?_, fun _ => ⟨fun g => ?_, fun _ => ⟨fun g => ?_, fun _ => ⟨⟨rfl, rfl, hr⟩, fun g => ?_, fun _ => ⟨fun g => ?_, fun _ => ?_⟩⟩⟩⟩⟩⟩) h4)
    · have := of_decide_eq_true g; omega
    · have := of_decide_eq_true g; omega
    · have := of_decide_eq_true g; omega
    · have := of_decide_eq_true g; omega
    · simp at g
    · simp at g
    · exact rest
  · rw [ReachV, if_neg hr] at h4
    refine awp_seq (awp_sx k19 hel ((lsE_eq m n s t _ _ _ _ 0 2 (reachV s.toNat t.toNat) _ _).mpr ⟨fun _ => ⟨fun g => ?_, fun _ => ⟨fun g => ?_, fun _ => ?_⟩⟩, fun g1 => ⟨fun _ => ⟨fun g => ?_, fun _ => ⟨fun g => ?_, fun _ => ?_⟩⟩, fun g2 => ⟨fun _ => ⟨fun g => ?_, fun _ => ⟨fun g => ?_, fun _ => ?_⟩⟩, fun g3 => ⟨fun _ => ⟨fun g => ?_, fun _ => ⟨fun g => ?_, fun _ => ?_⟩⟩, fun g4 => ?_⟩⟩⟩⟩) h4)
    · simp at g
    · simp at g
    · exact rest
    · simp at g
    · simp at g
    · exact rest
    · simp at g
    · simp at g
    · exact rest
    · simp at g
    · simp at g
    · exact rest
    · have e1 := of_decide_eq_false g1
      have e2 := of_decide_eq_false g2
      have e3 := of_decide_eq_false g3
      have e4 := of_decide_eq_false g4
      exact absurd ⟨by omega, by omega, by omega, by omega⟩ hr
end Go.Proofs.YtpiincgiakkljaaGreatDoor
