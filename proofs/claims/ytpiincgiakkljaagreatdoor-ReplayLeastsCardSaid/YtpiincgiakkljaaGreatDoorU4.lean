/-
  (*planner).back as the code says it.
-/
import Derived.Test.YtpiincgiakkljaaGreatDoorU3
set_option linter.unusedSimpArgs false
set_option linter.unusedVariables false
namespace Go.Proofs.YtpiincgiakkljaaGreatDoor
open Go

noncomputable def cAct (p p' : List (Int × Int)) (x y z : Int) : Prop := 0 ≤ x ∧ p.length + x.toNat ≤ 1000000 ∧ p' = p ++ List.replicate x.toNat (y, z)
noncomputable def kAct (T : List AV) (p p' : List (Int × Int)) : KX := kPl 44 T p p' (cAct p p')
theorem kAct_ok (m : Int) (T : List AV) (p p' : List (Int × Int)) : KxOk prog (gl m) (kAct T p p') := kPl_ok m fun x y z ⟨h1, h2, h3⟩ => by
  have := act_has m T p x.toNat y z h2
  rw [show ((x.toNat : Nat) : Int) = x by omega] at this
  subst h3
  exact this

noncomputable abbrev F45 : Code := bodyF Tryz.f45
noncomputable def bkS (T : List AV) (p : List (Int × Int)) : Mem := mm [plB T 2 p, .dead, acB p]
noncomputable def bkT (fr n c : Int) (l : List (Nat × AV)) : Tr AV := few ([(0, .ra 0 0 2), (1, vi fr), (2, vi n), (3, vi c)] ++ l)
noncomputable def bkA (m : Int) (T : List AV) (p : List (Int × Int)) (fr n c : Int) (K : AExit → Tr AV → Mem → Prop) (S : Scr) : Prop := sxC prog (gl m) kx0 81 mo (cp [0,0,0] F45) (finK 2 K) S (argsTr [.ra 0 0 2, vi fr, vi n, vi c] 0 .e) (mm [plB T 1 p, acB p])
noncomputable def bkB (m : Int) (T : List AV) (p p' : List (Int × Int)) (fr n c : Int) (b : Bool) (K : AExit → Tr AV → Mem → Prop) (S : Scr) : Prop := sxC prog (gl m) (kAct T p p') 81 mo (cp [0,0,1,0] F45) (finK 2 K) S (bkT fr n c [(10, .bool b)]) (bkS T p)
noncomputable def bkC (m : Int) (T : List AV) (p : List (Int × Int)) (fr n c : Int) (b : Bool) (K : AExit → Tr AV → Mem → Prop) (S : Scr) : Prop := sxC prog (gl m) kx0 81 mo (cp [0,0,1,1,0] F45) (finK 2 K) S (bkT fr n c [(10, .bool b)]) (bkS T p)
noncomputable def bkD (m : Int) (T : List AV) (p : List (Int × Int)) (fr n c : Int) (b : Bool) (K : AExit → Tr AV → Mem → Prop) (S : Scr) : Prop := sxC prog (gl m) kx0 81 mo (cp [0,0,1,1,1,0,0,0] F45) (finK 2 K) S (bkT fr n c [(15, .bool b)]) (bkS T p)
noncomputable def bkE (m : Int) (T : List AV) (p : List (Int × Int)) (fr k : Int) (K : AExit → Tr AV → Mem → Prop) (S : Scr) : Prop := sxC prog (gl m) kx0 81 mo (cp [0,0,1,1,1,0,0,1,0,0,0] F45) (finK 2 K) S (few [(0, .ra 0 0 2), (1, vi fr), (8, vi k)]) (bkS T p)
noncomputable def bkF (m : Int) (T : List AV) (p p' : List (Int × Int)) (fr k : Int) (K : AExit → Tr AV → Mem → Prop) (S : Scr) : Prop := sxC prog (gl m) (kAct T p p') 81 mo (cp [0,0,1,1,1,0,0,1,0,0,1,0,0,0] F45) (finK 2 K) S (few [(0, .ra 0 0 2), (1, vi fr), (8, vi k)]) (bkS T p)
noncomputable def bkG (m : Int) (T : List AV) (p p' : List (Int × Int)) (fr k : Int) (K : AExit → Tr AV → Mem → Prop) (S : Scr) : Prop := sxC prog (gl m) (kAct T p p') 81 mo (cp [0,0,1,1,1,0,0,1,0,0,1,0,0,1,0] F45) (finK 2 K) S (few [(0, .ra 0 0 2), (1, vi fr), (8, vi k)]) (bkS T p)
noncomputable def bkH (m : Int) (T : List AV) (p p' : List (Int × Int)) (fr k : Int) (b : Bool) (K : AExit → Tr AV → Mem → Prop) (S : Scr) : Prop := sxC prog (gl m) (kAct T p p') 81 mo (cp [0,0,1,1,1,0,0,1,0,0,1,0,0,1,1,1,0] F45) (finK 2 K) S (few [(0, .ra 0 0 2), (1, vi fr), (8, vi k), (30, .bool b)]) (bkS T p)
noncomputable def bkHs (m : Int) (T : List AV) (p : List (Int × Int)) (fr k : Int) (b : Bool) (K : AExit → Tr AV → Mem → Prop) (S : Scr) : Prop := sxC prog (gl m) kx0 81 mo (cp [0,0,1,1,1,0,0,1,0,0,1,0,0,1,1,1,1] F45) (finK 2 K) S (few [(0, .ra 0 0 2), (1, vi fr), (8, vi k), (30, .bool b)]) (bkS T p)
noncomputable def bkHc (m : Int) (T : List AV) (p : List (Int × Int)) (fr k : Int) (K : AExit → Tr AV → Mem → Prop) (S : Scr) : Prop := sxC prog (gl m) kx0 81 mo (cp [0,0,1,1,1,0,0,1,0,0,1,0,0,1,1,0] F45) (finK 2 K) S (few [(0, .ra 0 0 2), (1, vi fr), (8, vi k)]) (bkS T p)
noncomputable def bkI (m : Int) (T : List AV) (p : List (Int × Int)) (fr k : Int) (K : AExit → Tr AV → Mem → Prop) (S : Scr) : Prop := sxC prog (gl m) kx0 81 mo (cp [0,0,1,1,1,0,0,1,0,0,1,1] F45) (finK 2 K) S (few [(0, .ra 0 0 2), (1, vi fr), (8, vi k)]) (bkS T p)
noncomputable def bkJ (m : Int) (T : List AV) (p : List (Int × Int)) (fr n c x : Int) (b : Bool) (K : AExit → Tr AV → Mem → Prop) (S : Scr) : Prop := sxC prog (gl m) kx0 81 mo (cp [1,0] F45) (finK 2 K) S (bkT fr n c [(15, .bool b)]) (bkS T p)
noncomputable def bkK (m : Int) (T : List AV) (p p' : List (Int × Int)) (fr n c x : Int) (K : AExit → Tr AV → Mem → Prop) (S : Scr) : Prop := sxC prog (gl m) (kAct T p p') 81 mo (cp [1,1,0] F45) (finK 2 K) S (bkT fr n c [(9, vi x)]) (bkS T p)
noncomputable def bkLc (m : Int) (T : List AV) (p : List (Int × Int)) (fr n c x : Int) (K : AExit → Tr AV → Mem → Prop) (S : Scr) : Prop := sxC prog (gl m) kx0 81 mo (cp [1,1,1,0,0] F45) (finK 2 K) S (bkT fr n c [(9, vi x)]) (bkS T p)
noncomputable def bkL (m : Int) (T : List AV) (p p' : List (Int × Int)) (fr n c x : Int) (b : Bool) (K : AExit → Tr AV → Mem → Prop) (S : Scr) : Prop := sxC prog (gl m) (kAct T p p') 81 mo (cp [1,1,1,0,1,0] F45) (finK 2 K) S (bkT fr n c [(9, vi x), (51, .bool b)]) (bkS T p)
noncomputable def bkLs (m : Int) (T : List AV) (p : List (Int × Int)) (fr n c x : Int) (b : Bool) (K : AExit → Tr AV → Mem → Prop) (S : Scr) : Prop := sxC prog (gl m) kx0 81 mo (cp [1,1,1,0,1,1] F45) (finK 2 K) S (bkT fr n c [(9, vi x), (51, .bool b)]) (bkS T p)
noncomputable def bkM (m : Int) (C : Int → Int → Int → Prop) (T : List AV) (p p' : List (Int × Int)) (fr n c x : Int) (K : AExit → Tr AV → Mem → Prop) (S : Scr) : Prop := sxC prog (gl m) (kPl 45 T p p' C) 81 mo (cp [1,1,1,1,0] F45) (finK 2 K) S (bkT fr n c [(9, vi x)]) (bkS T p)
noncomputable def bkNc (m : Int) (T : List AV) (p : List (Int × Int)) (fr n c x : Int) (K : AExit → Tr AV → Mem → Prop) (S : Scr) : Prop := sxC prog (gl m) kx0 81 mo (cp [1,1,1,1,1,0,0] F45) (finK 2 K) S (bkT fr n c [(9, vi x)]) (bkS T p)
noncomputable def bkN (m : Int) (T : List AV) (p p' : List (Int × Int)) (fr n c x : Int) (b : Bool) (K : AExit → Tr AV → Mem → Prop) (S : Scr) : Prop := sxC prog (gl m) (kAct T p p') 81 mo (cp [1,1,1,1,1,0,1,0] F45) (finK 2 K) S (bkT fr n c [(9, vi x), (67, .bool b)]) (bkS T p)
noncomputable def bkNs (m : Int) (T : List AV) (p : List (Int × Int)) (fr n c x : Int) (b : Bool) (K : AExit → Tr AV → Mem → Prop) (S : Scr) : Prop := sxC prog (gl m) kx0 81 mo (cp [1,1,1,1,1,0,1,1] F45) (finK 2 K) S (bkT fr n c [(9, vi x), (67, .bool b)]) (bkS T p)
noncomputable def bkO (m : Int) (T : List AV) (p p' : List (Int × Int)) (fr n c x : Int) (K : AExit → Tr AV → Mem → Prop) (S : Scr) : Prop := sxC prog (gl m) (kAct T p p') 81 mo (cp [1,1,1,1,1,1,0] F45) (finK 2 K) S (bkT fr n c [(9, vi x)]) (bkS T p)
noncomputable def bkP (m : Int) (C : Int → Int → Int → Prop) (T : List AV) (p p' : List (Int × Int)) (fr n c x : Int) (K : AExit → Tr AV → Mem → Prop) (S : Scr) : Prop := sxC prog (gl m) (kPl 45 T p p' C) 81 mo (cp [1,1,1,1,1,1,1] F45) (finK 2 K) S (bkT fr n c [(9, vi x)]) (bkS T p)
set_option maxRecDepth 100000 in
theorem bkA_eq (m : Int) (T : List AV) (p : List (Int × Int)) (fr : Int) (n : Int) (c : Int) (K : AExit → Tr AV → Mem → Prop) : bkA m T p fr n c K (Scr.adj (Adj.move 0 1) (Scr.fin [0, 1, 2, 3, 10])) = (
    List.length (eA p) = List.length (eA p) ∧
  K AExit.normal
    (few
      [(0, AV.ra 0 0 2), (1, AV.int IntKind.i64 fr), (2, AV.int IntKind.i64 n), (3, AV.int IntKind.i64 c),
        (10, AV.bool (n == 1))])
    (mm
      [Slot.blk (Blk.mk [AV.da false T, AV.rs 2 0 (List.length p) (List.length (eA p)) none] 2 false false (some 113)),
        Slot.dead, Slot.blk (Blk.mk (eA p) 2 false false none)])) := by kernel_rfl
set_option maxRecDepth 100000 in
theorem bkB_eq (m : Int) (T : List AV) (p : List (Int × Int)) (p' : List (Int × Int)) (fr : Int) (n : Int) (c : Int) (b : Bool) (K : AExit → Tr AV → Mem → Prop) : bkB m T p p' fr n c b K (Scr.finR [] [(0, false), (1, false), (3, true)]) = (
    T = T ∧
  eA p = eA p ∧
    List.length p = List.length p ∧
      List.length (eA p) = List.length (eA p) ∧
        cAct p p' 1 5 0 ∧
          AV.m1L (eA p') = true ∧
            K AExit.ret (few [])
              (mm
                [Slot.blk
                    (Blk.mk [AV.da false T, AV.rs 2 0 (List.length p') (List.length (eA p')) none] 2 false false
                      (some 113)),
                  Slot.dead, Slot.blk (Blk.mk (eA p') 2 false false none)])) := by kernel_rfl
set_option maxRecDepth 100000 in
theorem bkC_eq (m : Int) (T : List AV) (p : List (Int × Int)) (fr : Int) (n : Int) (c : Int) (b : Bool) (K : AExit → Tr AV → Mem → Prop) : bkC m T p fr n c b K (Scr.fin [0, 1, 2, 3, 15]) = (
    K AExit.normal
  (few
    [(0, AV.ra 0 0 2), (1, AV.int IntKind.i64 fr), (2, AV.int IntKind.i64 n), (3, AV.int IntKind.i64 c),
      (15, AV.bool (c == 0))])
  (mm
    [Slot.blk (Blk.mk [AV.da false T, AV.rs 2 0 (List.length p) (List.length (eA p)) none] 2 false false (some 113)),
      Slot.dead, Slot.blk (Blk.mk (eA p) 2 false false none)])) := by kernel_rfl
set_option maxRecDepth 100000 in
theorem bkD_eq (m : Int) (T : List AV) (p : List (Int × Int)) (fr : Int) (n : Int) (c : Int) (b : Bool) (K : AExit → Tr AV → Mem → Prop) : bkD m T p fr n c b K (Scr.fin [0, 1, 8]) = (
    K AExit.normal
  (few [(0, AV.ra 0 0 2), (1, AV.int IntKind.i64 fr), (8, AV.int IntKind.i64 (IntKind.wrap IntKind.i64 (n - 1)))])
  (mm
    [Slot.blk (Blk.mk [AV.da false T, AV.rs 2 0 (List.length p) (List.length (eA p)) none] 2 false false (some 113)),
      Slot.dead, Slot.blk (Blk.mk (eA p) 2 false false none)])) := by kernel_rfl
set_option maxRecDepth 100000 in
theorem bkE_eq (m : Int) (T : List AV) (p : List (Int × Int)) (fr : Int) (k : Int) (K : AExit → Tr AV → Mem → Prop) : bkE m T p fr k K (Scr.sp (Scr.fin [0, 1, 8]) (Scr.fin [])) = (
    (decide (k ≥ 0) = true →
    K AExit.normal (few [(0, AV.ra 0 0 2), (1, AV.int IntKind.i64 fr), (8, AV.int IntKind.i64 k)])
      (mm
        [Slot.blk
            (Blk.mk [AV.da false T, AV.rs 2 0 (List.length p) (List.length (eA p)) none] 2 false false (some 113)),
          Slot.dead, Slot.blk (Blk.mk (eA p) 2 false false none)])) ∧
  (decide (k ≥ 0) = false →
    K (AExit.exit 1) (few [])
      (mm
        [Slot.blk
            (Blk.mk [AV.da false T, AV.rs 2 0 (List.length p) (List.length (eA p)) none] 2 false false (some 113)),
          Slot.dead, Slot.blk (Blk.mk (eA p) 2 false false none)]))) := by kernel_rfl
set_option maxRecDepth 100000 in
theorem bkF_eq (m : Int) (T : List AV) (p : List (Int × Int)) (p' : List (Int × Int)) (fr : Int) (k : Int) (K : AExit → Tr AV → Mem → Prop) : bkF m T p p' fr k K (Scr.finR [0, 1, 8] [(0, false), (1, false), (3, true)]) = (
    T = T ∧
  eA p = eA p ∧
    List.length p = List.length p ∧
      List.length (eA p) = List.length (eA p) ∧
        cAct p p' k 4 0 ∧
          AV.m1L (eA p') = true ∧
            K AExit.normal (few [(0, AV.ra 0 0 2), (1, AV.int IntKind.i64 fr), (8, AV.int IntKind.i64 k)])
              (mm
                [Slot.blk
                    (Blk.mk [AV.da false T, AV.rs 2 0 (List.length p') (List.length (eA p')) none] 2 false false
                      (some 113)),
                  Slot.dead, Slot.blk (Blk.mk (eA p') 2 false false none)])) := by kernel_rfl
set_option maxRecDepth 100000 in
theorem bkG_eq (m : Int) (T : List AV) (p : List (Int × Int)) (p' : List (Int × Int)) (fr : Int) (k : Int) (K : AExit → Tr AV → Mem → Prop) : bkG m T p p' fr k K (Scr.finR [0, 1, 8] [(0, false), (1, false), (3, true)]) = (
    T = T ∧
  eA p = eA p ∧
    List.length p = List.length p ∧
      List.length (eA p) = List.length (eA p) ∧
        cAct p p' 1 5 0 ∧
          AV.m1L (eA p') = true ∧
            K AExit.normal (few [(0, AV.ra 0 0 2), (1, AV.int IntKind.i64 fr), (8, AV.int IntKind.i64 k)])
              (mm
                [Slot.blk
                    (Blk.mk [AV.da false T, AV.rs 2 0 (List.length p') (List.length (eA p')) none] 2 false false
                      (some 113)),
                  Slot.dead, Slot.blk (Blk.mk (eA p') 2 false false none)])) := by kernel_rfl
set_option maxRecDepth 100000 in
theorem bkHc_eq (m : Int) (T : List AV) (p : List (Int × Int)) (fr : Int) (k : Int) (K : AExit → Tr AV → Mem → Prop) : bkHc m T p fr k K (Scr.fin [0, 1, 8, 30]) = (
    K AExit.normal
  (few [(0, AV.ra 0 0 2), (1, AV.int IntKind.i64 fr), (8, AV.int IntKind.i64 k), (30, AV.bool (decide (k > 0)))])
  (mm
    [Slot.blk (Blk.mk [AV.da false T, AV.rs 2 0 (List.length p) (List.length (eA p)) none] 2 false false (some 113)),
      Slot.dead, Slot.blk (Blk.mk (eA p) 2 false false none)])) := by kernel_rfl
set_option maxRecDepth 100000 in
theorem bkHs_eq (m : Int) (T : List AV) (p : List (Int × Int)) (fr : Int) (k : Int) (b : Bool) (K : AExit → Tr AV → Mem → Prop) : bkHs m T p fr k b K (Scr.fin [0, 1, 8]) = (
    K AExit.normal (few [(0, AV.ra 0 0 2), (1, AV.int IntKind.i64 fr), (8, AV.int IntKind.i64 k)])
  (mm
    [Slot.blk (Blk.mk [AV.da false T, AV.rs 2 0 (List.length p) (List.length (eA p)) none] 2 false false (some 113)),
      Slot.dead, Slot.blk (Blk.mk (eA p) 2 false false none)])) := by kernel_rfl
set_option maxRecDepth 100000 in
theorem bkH_eq (m : Int) (T : List AV) (p : List (Int × Int)) (p' : List (Int × Int)) (fr : Int) (k : Int) (b : Bool) (K : AExit → Tr AV → Mem → Prop) : bkH m T p p' fr k b K (Scr.finR [0, 1, 8] [(0, false), (1, false), (3, true)]) = (
    T = T ∧
  eA p = eA p ∧
    List.length p = List.length p ∧
      List.length (eA p) = List.length (eA p) ∧
        cAct p p' 1 2 fr ∧
          AV.m1L (eA p') = true ∧
            K AExit.normal (few [(0, AV.ra 0 0 2), (1, AV.int IntKind.i64 fr), (8, AV.int IntKind.i64 k)])
              (mm
                [Slot.blk
                    (Blk.mk [AV.da false T, AV.rs 2 0 (List.length p') (List.length (eA p')) none] 2 false false
                      (some 113)),
                  Slot.dead, Slot.blk (Blk.mk (eA p') 2 false false none)])) := by kernel_rfl
set_option maxRecDepth 100000 in
theorem bkI_eq (m : Int) (T : List AV) (p : List (Int × Int)) (fr : Int) (k : Int) (K : AExit → Tr AV → Mem → Prop) : bkI m T p fr k K (Scr.fin [0, 1, 8]) = (
    K AExit.normal
  (few [(0, AV.ra 0 0 2), (1, AV.int IntKind.i64 fr), (8, AV.int IntKind.i64 (IntKind.wrap IntKind.i64 (k - 1)))])
  (mm
    [Slot.blk (Blk.mk [AV.da false T, AV.rs 2 0 (List.length p) (List.length (eA p)) none] 2 false false (some 113)),
      Slot.dead, Slot.blk (Blk.mk (eA p) 2 false false none)])) := by kernel_rfl
set_option maxRecDepth 100000 in
theorem bkJ_eq (m : Int) (T : List AV) (p : List (Int × Int)) (fr : Int) (n : Int) (c : Int) (x : Int) (b : Bool) (K : AExit → Tr AV → Mem → Prop) : bkJ m T p fr n c x b K (Scr.op []
  (Scr.op [false]
    (Scr.op [false, false, false]
      (Scr.op [false, false, false] (Scr.ld [Ek.is (vi x)] (Scr.op [false] (Scr.fin [0, 1, 2, 3, 9]))))))) = (
    328 ≤ List.length T ∧
  Int.toNat n * 8 ≤ List.length (List.drop 328 T) ∧
    0 ≤ n ∧
      n + 1 ≤ 41 ∧
        Int.toNat c * 1 ≤ List.length (List.drop (Int.toNat n * 8) (List.drop 328 T)) ∧
          0 ≤ c ∧
            c + 1 ≤ 8 ∧
              1 ≤ List.length (List.drop (Int.toNat c * 1) (List.drop (Int.toNat n * 8) (List.drop 328 T))) ∧
                List.getD (List.drop (Int.toNat c * 1) (List.drop (Int.toNat n * 8) (List.drop 328 T))) 0 AV.junk =
                    vi x ∧
                  K AExit.normal
                    (few
                      [(0, AV.ra 0 0 2), (1, AV.int IntKind.i64 fr), (2, AV.int IntKind.i64 n),
                        (3, AV.int IntKind.i64 c), (9, AV.int IntKind.i64 x)])
                    (mm
                      [Slot.blk
                          (Blk.mk [AV.da false T, AV.rs 2 0 (List.length p) (List.length (eA p)) none] 2 false false
                            (some 113)),
                        Slot.dead, Slot.blk (Blk.mk (eA p) 2 false false none)])) := by kernel_rfl
set_option maxRecDepth 100000 in
theorem bkK_eq (m : Int) (T : List AV) (p : List (Int × Int)) (p' : List (Int × Int)) (fr : Int) (n : Int) (c : Int) (x : Int) (K : AExit → Tr AV → Mem → Prop) : bkK m T p p' fr n c x K (Scr.finR [0, 1, 2, 3, 9] [(0, false), (1, false), (3, true)]) = (
    T = T ∧
  eA p = eA p ∧
    List.length p = List.length p ∧
      List.length (eA p) = List.length (eA p) ∧
        cAct p p' x 4 0 ∧
          AV.m1L (eA p') = true ∧
            K AExit.normal
              (few
                [(0, AV.ra 0 0 2), (1, AV.int IntKind.i64 fr), (2, AV.int IntKind.i64 n), (3, AV.int IntKind.i64 c),
                  (9, AV.int IntKind.i64 x)])
              (mm
                [Slot.blk
                    (Blk.mk [AV.da false T, AV.rs 2 0 (List.length p') (List.length (eA p')) none] 2 false false
                      (some 113)),
                  Slot.dead, Slot.blk (Blk.mk (eA p') 2 false false none)])) := by kernel_rfl
set_option maxRecDepth 100000 in
theorem bkLc_eq (m : Int) (T : List AV) (p : List (Int × Int)) (fr : Int) (n : Int) (c : Int) (x : Int) (K : AExit → Tr AV → Mem → Prop) : bkLc m T p fr n c x K (Scr.fin [0, 1, 2, 3, 9, 51]) = (
    K AExit.normal
  (few
    [(0, AV.ra 0 0 2), (1, AV.int IntKind.i64 fr), (2, AV.int IntKind.i64 n), (3, AV.int IntKind.i64 c),
      (9, AV.int IntKind.i64 x), (51, AV.bool (decide (IntKind.wrap IntKind.i64 (n - x) > 1)))])
  (mm
    [Slot.blk (Blk.mk [AV.da false T, AV.rs 2 0 (List.length p) (List.length (eA p)) none] 2 false false (some 113)),
      Slot.dead, Slot.blk (Blk.mk (eA p) 2 false false none)])) := by kernel_rfl
set_option maxRecDepth 100000 in
theorem bkLs_eq (m : Int) (T : List AV) (p : List (Int × Int)) (fr : Int) (n : Int) (c : Int) (x : Int) (b : Bool) (K : AExit → Tr AV → Mem → Prop) : bkLs m T p fr n c x b K (Scr.fin [0, 1, 2, 3, 9]) = (
    K AExit.normal
  (few
    [(0, AV.ra 0 0 2), (1, AV.int IntKind.i64 fr), (2, AV.int IntKind.i64 n), (3, AV.int IntKind.i64 c),
      (9, AV.int IntKind.i64 x)])
  (mm
    [Slot.blk (Blk.mk [AV.da false T, AV.rs 2 0 (List.length p) (List.length (eA p)) none] 2 false false (some 113)),
      Slot.dead, Slot.blk (Blk.mk (eA p) 2 false false none)])) := by kernel_rfl
set_option maxRecDepth 100000 in
theorem bkL_eq (m : Int) (T : List AV) (p : List (Int × Int)) (p' : List (Int × Int)) (fr : Int) (n : Int) (c : Int) (x : Int) (b : Bool) (K : AExit → Tr AV → Mem → Prop) : bkL m T p p' fr n c x b K (Scr.finR [0, 1, 2, 3, 9] [(0, false), (1, false), (3, true)]) = (
    T = T ∧
  eA p = eA p ∧
    List.length p = List.length p ∧
      List.length (eA p) = List.length (eA p) ∧
        cAct p p' 1 1 0 ∧
          AV.m1L (eA p') = true ∧
            K AExit.normal
              (few
                [(0, AV.ra 0 0 2), (1, AV.int IntKind.i64 fr), (2, AV.int IntKind.i64 n), (3, AV.int IntKind.i64 c),
                  (9, AV.int IntKind.i64 x)])
              (mm
                [Slot.blk
                    (Blk.mk [AV.da false T, AV.rs 2 0 (List.length p') (List.length (eA p')) none] 2 false false
                      (some 113)),
                  Slot.dead, Slot.blk (Blk.mk (eA p') 2 false false none)])) := by kernel_rfl
set_option maxRecDepth 100000 in
theorem bkM_eq (m : Int) (C : Int → Int → Int → Prop) (T : List AV) (p : List (Int × Int)) (p' : List (Int × Int)) (fr : Int) (n : Int) (c : Int) (x : Int) (K : AExit → Tr AV → Mem → Prop) : bkM m C T p p' fr n c x K (Scr.finR [0, 1, 2, 3, 9] [(0, false), (1, false), (3, true)]) = (
    T = T ∧
  eA p = eA p ∧
    List.length p = List.length p ∧
      List.length (eA p) = List.length (eA p) ∧
        C (IntKind.wrap IntKind.i64 (fr + x)) (IntKind.wrap IntKind.i64 (n - x)) (IntKind.wrap IntKind.i64 (c - 1)) ∧
          AV.m1L (eA p') = true ∧
            K AExit.normal
              (few
                [(0, AV.ra 0 0 2), (1, AV.int IntKind.i64 fr), (2, AV.int IntKind.i64 n), (3, AV.int IntKind.i64 c),
                  (9, AV.int IntKind.i64 x)])
              (mm
                [Slot.blk
                    (Blk.mk [AV.da false T, AV.rs 2 0 (List.length p') (List.length (eA p')) none] 2 false false
                      (some 113)),
                  Slot.dead, Slot.blk (Blk.mk (eA p') 2 false false none)])) := by kernel_rfl
set_option maxRecDepth 100000 in
theorem bkNc_eq (m : Int) (T : List AV) (p : List (Int × Int)) (fr : Int) (n : Int) (c : Int) (x : Int) (K : AExit → Tr AV → Mem → Prop) : bkNc m T p fr n c x K (Scr.fin [0, 1, 2, 3, 9, 67]) = (
    K AExit.normal
  (few
    [(0, AV.ra 0 0 2), (1, AV.int IntKind.i64 fr), (2, AV.int IntKind.i64 n), (3, AV.int IntKind.i64 c),
      (9, AV.int IntKind.i64 x), (67, AV.bool (decide (IntKind.wrap IntKind.i64 (n - x) > 1)))])
  (mm
    [Slot.blk (Blk.mk [AV.da false T, AV.rs 2 0 (List.length p) (List.length (eA p)) none] 2 false false (some 113)),
      Slot.dead, Slot.blk (Blk.mk (eA p) 2 false false none)])) := by kernel_rfl
set_option maxRecDepth 100000 in
theorem bkNs_eq (m : Int) (T : List AV) (p : List (Int × Int)) (fr : Int) (n : Int) (c : Int) (x : Int) (b : Bool) (K : AExit → Tr AV → Mem → Prop) : bkNs m T p fr n c x b K (Scr.fin [0, 1, 2, 3, 9]) = (
    K AExit.normal
  (few
    [(0, AV.ra 0 0 2), (1, AV.int IntKind.i64 fr), (2, AV.int IntKind.i64 n), (3, AV.int IntKind.i64 c),
      (9, AV.int IntKind.i64 x)])
  (mm
    [Slot.blk (Blk.mk [AV.da false T, AV.rs 2 0 (List.length p) (List.length (eA p)) none] 2 false false (some 113)),
      Slot.dead, Slot.blk (Blk.mk (eA p) 2 false false none)])) := by kernel_rfl
set_option maxRecDepth 100000 in
theorem bkN_eq (m : Int) (T : List AV) (p : List (Int × Int)) (p' : List (Int × Int)) (fr : Int) (n : Int) (c : Int) (x : Int) (b : Bool) (K : AExit → Tr AV → Mem → Prop) : bkN m T p p' fr n c x b K (Scr.finR [0, 1, 2, 3, 9] [(0, false), (1, false), (3, true)]) = (
    T = T ∧
  eA p = eA p ∧
    List.length p = List.length p ∧
      List.length (eA p) = List.length (eA p) ∧
        cAct p p' 1 3 (IntKind.wrap IntKind.i64 (fr + x)) ∧
          AV.m1L (eA p') = true ∧
            K AExit.normal
              (few
                [(0, AV.ra 0 0 2), (1, AV.int IntKind.i64 fr), (2, AV.int IntKind.i64 n), (3, AV.int IntKind.i64 c),
                  (9, AV.int IntKind.i64 x)])
              (mm
                [Slot.blk
                    (Blk.mk [AV.da false T, AV.rs 2 0 (List.length p') (List.length (eA p')) none] 2 false false
                      (some 113)),
                  Slot.dead, Slot.blk (Blk.mk (eA p') 2 false false none)])) := by kernel_rfl
set_option maxRecDepth 100000 in
theorem bkO_eq (m : Int) (T : List AV) (p : List (Int × Int)) (p' : List (Int × Int)) (fr : Int) (n : Int) (c : Int) (x : Int) (K : AExit → Tr AV → Mem → Prop) : bkO m T p p' fr n c x K (Scr.finR [0, 1, 2, 3, 9] [(0, false), (1, false), (3, true)]) = (
    T = T ∧
  eA p = eA p ∧
    List.length p = List.length p ∧
      List.length (eA p) = List.length (eA p) ∧
        cAct p p' 1 2 fr ∧
          AV.m1L (eA p') = true ∧
            K AExit.normal
              (few
                [(0, AV.ra 0 0 2), (1, AV.int IntKind.i64 fr), (2, AV.int IntKind.i64 n), (3, AV.int IntKind.i64 c),
                  (9, AV.int IntKind.i64 x)])
              (mm
                [Slot.blk
                    (Blk.mk [AV.da false T, AV.rs 2 0 (List.length p') (List.length (eA p')) none] 2 false false
                      (some 113)),
                  Slot.dead, Slot.blk (Blk.mk (eA p') 2 false false none)])) := by kernel_rfl
set_option maxRecDepth 100000 in
theorem bkP_eq (m : Int) (C : Int → Int → Int → Prop) (T : List AV) (p : List (Int × Int)) (p' : List (Int × Int)) (fr : Int) (n : Int) (c : Int) (x : Int) (K : AExit → Tr AV → Mem → Prop) : bkP m C T p p' fr n c x K (Scr.finR [] [(0, false), (1, false), (3, true)]) = (
    T = T ∧
  eA p = eA p ∧
    List.length p = List.length p ∧
      List.length (eA p) = List.length (eA p) ∧
        C fr x c ∧
          AV.m1L (eA p') = true ∧
            K AExit.normal (few [])
              (mm
                [Slot.blk
                    (Blk.mk [AV.da false T, AV.rs 2 0 (List.length p') (List.length (eA p')) none] 2 false false
                      (some 113)),
                  Slot.dead, Slot.blk (Blk.mk (eA p') 2 false false none)])) := by kernel_rfl
end Go.Proofs.YtpiincgiakkljaaGreatDoor
/-
  (*planner).back: its contract.
-/
namespace Go.Proofs.YtpiincgiakkljaaGreatDoor
open Go

def baseL (fr : Int) : Nat → List (Int × Int)
  | 0 => []
  | k + 1 => List.replicate k (4, 0) ++ ([(5, 0)] ++ ((if k > 0 then [(2, fr)] else []) ++ baseL fr k))

def firstV (n c : Nat) : Nat := (ftab41.getD (328 + n * 8 + c) 0).toNat

def backL : Nat → Int → Nat → Nat → List (Int × Int)
  | 0, _, _, _ => []
  | f + 1, fr, n, c => if n = 1 then [(5, 0)] else if c = 0 then baseL fr n else
    List.replicate (firstV n c) (4, 0) ++ ((if n - firstV n c > 1 then [(1, 0)] else []) ++ (backL f (fr + firstV n c) (n - firstV n c) (c - 1) ++
      ((if n - firstV n c > 1 then [(3, fr + firstV n c)] else []) ++ ([(2, fr)] ++ backL f fr (firstV n c) c))))

theorem first_all : ((List.range 41).all fun n => (List.range 8).all fun c => decide (n < 2) || (decide (c < 1) || (decide (1 ≤ ftab41.getD (328 + n * 8 + c) 0) && decide (ftab41.getD (328 + n * 8 + c) 0 < Int.ofNat n)))) = true := by kernel_rfl

theorem first_ok {n c : Nat} (h1 : 2 ≤ n) (h2 : n ≤ 40) (h3 : 1 ≤ c) (h4 : c ≤ 7) : 1 ≤ firstV n c ∧ firstV n c < n ∧ ftab41.getD (328 + n * 8 + c) 0 = (firstV n c : Int) := by
  have h := List.all_eq_true.1 (List.all_eq_true.1 first_all n (List.mem_range.2 (by omega))) c (List.mem_range.2 (by omega))
  have q1 : decide (n < 2) = false := decide_eq_false (by omega)
  have q2 : decide (c < 1) = false := decide_eq_false (by omega)
  simp only [q1, q2, Bool.false_or, Bool.and_eq_true, decide_eq_true_eq] at h
  unfold firstV
  have : Int.ofNat n = (n : Int) := rfl
  omega

theorem tabF_len : tabF.length = 656 := by rw [tabF, List.length_map, ftab_len]

set_option maxRecDepth 100000 in
theorem F45_split : F45 = .seq (.block 0 (.seq (cp [0,0,0] F45) (.cond (.tmp 10) (cp [0,0,1,0] F45) (.seq (cp [0,0,1,1,0] F45) (.cond (.tmp 15) (.seq (.seq (cp [0,0,1,1,1,0,0,0] F45)
    (.block 1 (.loop (.seq (cp [0,0,1,1,1,0,0,1,0,0,0] F45) (.seq (.block 2 (.seq (cp [0,0,1,1,1,0,0,1,0,0,1,0,0,0] F45) (.seq (cp [0,0,1,1,1,0,0,1,0,0,1,0,0,1,0] F45) (.seq (cp [0,0,1,1,1,0,0,1,0,0,1,0,0,1,1,0] F45)
      (.cond (.tmp 30) (cp [0,0,1,1,1,0,0,1,0,0,1,0,0,1,1,1,0] F45) (cp [0,0,1,1,1,0,0,1,0,0,1,0,0,1,1,1,1] F45)))))) (cp [0,0,1,1,1,0,0,1,0,0,1,1] F45)))))) .ret) .skip)))))
    (.seq (cp [1,0] F45) (.seq (cp [1,1,0] F45) (.seq (.seq (cp [1,1,1,0,0] F45) (.cond (.tmp 51) (cp [1,1,1,0,1,0] F45) (cp [1,1,1,0,1,1] F45))) (.seq (cp [1,1,1,1,0] F45)
      (.seq (.seq (cp [1,1,1,1,1,0,0] F45) (.cond (.tmp 67) (cp [1,1,1,1,1,0,1,0] F45) (cp [1,1,1,1,1,0,1,1] F45))) (.seq (cp [1,1,1,1,1,1,0] F45) (cp [1,1,1,1,1,1,1] F45))))))) := by kernel_rfl

theorem cAct_one (p : List (Int × Int)) (y z : Int) (h : p.length + 1 ≤ 1000000) : cAct p (p ++ [(y, z)]) 1 y z := ⟨by omega, h, rfl⟩
theorem cAct_many (p : List (Int × Int)) (x : Nat) (y z : Int) (h : p.length + x ≤ 1000000) : cAct p (p ++ List.replicate x (y, z)) x y z := ⟨by omega, h, rfl⟩

theorem condT {GL : Globs} {st : St} {t : Tr AV} {mem : Mem} {d : Nat} {b : Bool} (hs : st.is t mem) (h : t.tf d = .bool b) : evalA GL st.t (.tmp d) = .bool b := by
  show st.t d = _
  rw [hs.1]
  exact h

set_option maxRecDepth 100000 in
set_option maxHeartbeats 1000000 in
theorem back_has (m : Int) : ∀ (f : Nat) (n c : Nat) (fr : Int) (p : List (Int × Int)), 1 ≤ n → n ≤ f → n ≤ 40 → c ≤ 7 → 0 ≤ fr → fr + n ≤ 1000 → p.length + (backL f fr n c).length ≤ 1000000 → PlHas m 45 tabF p (p ++ backL f fr n c) fr n c
  | 0, n, c, fr, p, h1, h2, _, _, _, _, _ => by omega
  | f + 1, n, c, fr, p, h1, h2, h3, h4, h5, h6, h7 => by
    generalize hL : backL (f + 1) fr n c = L at *
    rw [backL] at hL
    refine has_sx Tryz.func45 (code := F45) (by kernel_rfl) (of_decide_eq_true (by kernel_rfl)) fun cx st0 hel hs => ?_
    have hel2 : ∀ i t L, cx.φ0 i t = some L → i < 2 := fun i t L e => by simpa using hel i t L e
    have fin : ∀ (e : AExit) (t : Tr AV) (q : List (Int × Int)), (e = .ret ∨ e = .normal) → q = p ++ L → Lf (FinH prog Tryz.f45 [plB tabF 1 p, acB p] (.tup []) [plB tabF 2 (p ++ L), .dead, acB (p ++ L)]) e t (bkS tabF q) := fun e t q he hq => by
      subst hq
      exact finH_none (by kernel_rfl) (by simp) e he
    generalize FinH prog Tryz.f45 [plB tabF 1 p, acB p] (.tup []) [plB tabF 2 (p ++ L), .dead, acB (p ++ L)] = Q at *
    rw [F45_split]
    refine awp_seq (awp_block (awp_seq (awp_sx kx0_ok hel2 ((bkA_eq m tabF p fr n c _).mpr ⟨rfl, fun st1 s1 => ?_⟩) hs)))
    refine awp_cond (b := ((n : Int) == 1)) (condT s1 (by kernel_rfl)) (fun hb => ?_) (fun hb => ?_)
    · have hn1 : n = 1 := by have := (beq_iff_eq).1 hb; omega
      rw [if_pos hn1] at hL
      subst hL
      simp only [List.length_cons, List.length_nil] at h7
      refine awp_sx (kAct_ok m tabF p (p ++ [(5, 0)])) hel2 ((bkB_eq m tabF p (p ++ [(5, 0)]) fr n c _ _).mpr ⟨rfl, rfl, rfl, rfl, cAct_one _ _ _ (by omega), m1L_eA _, ?_⟩) s1
      exact fin .ret _ _ (.inl rfl) rfl
    have hn1 : n ≠ 1 := fun e => by subst e; exact absurd hb (by decide)
    rw [if_neg hn1] at hL
    refine awp_seq (awp_sx kx0_ok hel2 ((bkC_eq m tabF p fr n c _ _).mpr fun st2 s2 => ?_) s1)
    refine awp_cond (b := ((c : Int) == 0)) (condT s2 (by kernel_rfl)) (fun hc => ?_) (fun hc => ?_)
    · have hc0 : c = 0 := by have := (beq_iff_eq).1 hc; omega
      rw [if_pos hc0] at hL
      subst hL
      have w1 : IntKind.wrap IntKind.i64 ((n : Int) - 1) = (n : Int) - 1 := wrap_ok (by omega) (by omega)
      refine awp_seq (awp_seq (awp_sx kx0_ok hel2 ((bkD_eq m tabF p fr n c _ _).mpr ?_) s2))
      rw [w1]
      intro st3 s3
      refine awp_block (awp_loop_sx (α := Nat × List (Int × Int)) (fun a => a.1 ≤ n ∧ a.2 ++ baseL fr a.1 = p ++ baseL fr n) (fun a => few [(0, .ra 0 0 2), (1, vi fr), (8, vi ((a.1 : Int) - 1))]) (fun a => bkS tabF a.2) (fun a => a.1) (fun a st hI hst => ?_) (a := (n, p)) ⟨Nat.le_refl _, rfl⟩ s3)
      obtain ⟨k, q⟩ := a
      obtain ⟨k1, k2⟩ := hI
      simp only at k1 k2 hst
      refine awp_seq (awp_sx kx0_ok hel2 ((bkE_eq m tabF q fr ((k : Int) - 1) _).mpr ⟨fun hk st4 s4 => ?_, fun hk st4 s4 => ?_⟩) hst)
      · obtain ⟨j, rfl⟩ : ∃ j, k = j + 1 := ⟨k - 1, by have := of_decide_eq_true hk; omega⟩
        have e0 : (((j + 1 : Nat) : Int) - 1) = (j : Int) := by omega
        rw [e0] at s4
        rw [baseL] at k2
        have hl := congrArg List.length k2
        simp only [List.length_append, List.length_replicate, List.length_cons, List.length_nil] at hl
        obtain ⟨q1, hq1⟩ : ∃ q1, q1 = q ++ List.replicate j ((4 : Int), (0 : Int)) := ⟨_, rfl⟩
        obtain ⟨q2, hq2⟩ : ∃ q2, q2 = q1 ++ [((5 : Int), (0 : Int))] := ⟨_, rfl⟩
        have hl1 : q1.length = q.length + j := by rw [hq1]; simp
        have hl2 : q2.length = q.length + j + 1 := by rw [hq2]; simp [hl1]
        refine awp_seq (awp_block (awp_seq (awp_sx (kAct_ok m tabF q q1) hel2 ((bkF_eq m tabF q q1 fr j _).mpr ⟨rfl, rfl, rfl, rfl, by rw [hq1]; exact cAct_many _ _ _ _ (by omega), m1L_eA _, fun st5 s5 => ?_⟩) s4)))
        refine awp_seq (awp_sx (kAct_ok m tabF q1 q2) hel2 ((bkG_eq m tabF q1 q2 fr j _).mpr ⟨rfl, rfl, rfl, rfl, by rw [hq2]; exact cAct_one _ _ _ (by omega), m1L_eA _, fun st6 s6 => ?_⟩) s5)
        refine awp_seq (awp_sx kx0_ok hel2 ((bkHc_eq m tabF q2 fr j _).mpr fun st7 s7 => ?_) s6)
        have w2 : IntKind.wrap IntKind.i64 ((j : Int) - 1) = (j : Int) - 1 := by
          by_cases hj : j = 0
          · subst hj; decide
          · exact wrap_ok (by omega) (by omega)
        have goOn : ∀ q3, q3 = q2 ++ (if j > 0 then [(2, fr)] else []) → Lf (AExit.andThen (fun s' => ∃ a' : Nat × List (Int × Int), (a'.1 ≤ n ∧ a'.2 ++ baseL fr a'.1 = p ++ baseL fr n) ∧ a'.1 < j + 1 ∧ s'.is (few [(0, .ra 0 0 2), (1, vi fr), (8, vi ((a'.1 : Int) - 1))]) (bkS tabF a'.2)) Q) .normal (few [(0, .ra 0 0 2), (1, vi fr), (8, vi ((j : Int) - 1))]) (bkS tabF q3) := fun q3 hq3 st8 s8 =>
          ⟨(j, q3), ⟨by simp only; omega, by rw [hq3, hq2, hq1]; simp only [List.append_assoc]; exact k2⟩, by simp only; omega, s8⟩
        refine awp_cond (b := decide ((j : Int) > 0)) (condT s7 (by kernel_rfl)) (fun hj => ?_) (fun hj => ?_)
        · have hj' : j > 0 := by have := of_decide_eq_true hj; omega
          refine awp_sx (kAct_ok m tabF q2 (q2 ++ [(2, fr)])) hel2 ((bkH_eq m tabF q2 (q2 ++ [(2, fr)]) fr j _ _).mpr ⟨rfl, rfl, rfl, rfl, cAct_one _ _ _ (by rw [if_pos hj'] at hl; simp at hl; omega), m1L_eA _, fun st8 s8 => ?_⟩) s7
          refine awp_sx kx0_ok hel2 ((bkI_eq m tabF (q2 ++ [(2, fr)]) fr j _).mpr ?_) s8
          rw [w2]
          exact goOn _ (by rw [if_pos hj'])
        · have hj' : ¬ j > 0 := by have := of_decide_eq_false hj; omega
          refine awp_sx kx0_ok hel2 ((bkHs_eq m tabF q2 fr j _ _).mpr fun st8 s8 => ?_) s7
          refine awp_sx kx0_ok hel2 ((bkI_eq m tabF q2 fr j _).mpr ?_) s8
          rw [w2]
          exact goOn _ (by rw [if_neg hj', List.append_nil])
      · obtain rfl : k = 0 := by have := of_decide_eq_false hk; omega
        rw [baseL, List.append_nil] at k2
        exact awp_ret (fin .ret _ q (.inl rfl) k2 st4 s4)
    have hc0 : c ≠ 0 := fun e => by subst e; exact absurd hc (by decide)
    rw [if_neg hc0] at hL
    obtain ⟨f1, f2, f3⟩ := first_ok (n := n) (c := c) (by omega) h3 (by omega) h4
    generalize hx : firstV n c = x at *
    rw [← hL] at h7
    simp only [List.length_append, List.length_replicate, List.length_cons, List.length_nil] at h7
    refine awp_skip ?_
    have w1 : IntKind.wrap IntKind.i64 (fr + (x : Int)) = fr + x := wrap_ok (by omega) (by omega)
    have w2 : IntKind.wrap IntKind.i64 ((n : Int) - x) = ((n - x : Nat) : Int) := by rw [wrap_ok (by omega) (by omega)]; omega
    have w3 : IntKind.wrap IntKind.i64 ((c : Int) - 1) = ((c - 1 : Nat) : Int) := by rw [wrap_ok (by omega) (by omega)]; omega
    refine awp_seq (awp_sx kx0_ok hel2 ((bkJ_eq m tabF p fr n c x _ _).mpr ?_) s2)
    simp only [Int.toNat_natCast, Nat.mul_one, List.length_drop, tabF_len]
    refine ⟨by omega, by omega, by omega, by omega, by omega, by omega, by omega, by omega, ?_, fun st3 s3 => ?_⟩
    · rw [List.getD_eq_getElem?_getD, List.getElem?_drop, List.getElem?_drop, List.getElem?_drop, Nat.add_zero, ← List.getD_eq_getElem?_getD, tabF, getD_vi (by rw [ftab_len]; omega), ← Nat.add_assoc, f3]
    obtain ⟨p1, hp1⟩ : ∃ p1, p1 = p ++ List.replicate x ((4 : Int), (0 : Int)) := ⟨_, rfl⟩
    have hl1 : p1.length = p.length + x := by rw [hp1]; simp
    refine awp_seq (awp_sx (kAct_ok m tabF p p1) hel2 ((bkK_eq m tabF p p1 fr n c x _).mpr ⟨rfl, rfl, rfl, rfl, by rw [hp1]; exact cAct_many _ _ _ _ (by omega), m1L_eA _, fun st4 s4 => ?_⟩) s3)
    obtain ⟨p2, hp2⟩ : ∃ p2, p2 = p1 ++ (if n - x > 1 then [((1 : Int), (0 : Int))] else []) := ⟨_, rfl⟩
    obtain ⟨p3, hp3⟩ : ∃ p3, p3 = p2 ++ backL f (fr + x) (n - x) (c - 1) := ⟨_, rfl⟩
    obtain ⟨p4, hp4⟩ : ∃ p4, p4 = p3 ++ (if n - x > 1 then [((3 : Int), fr + (x : Int))] else []) := ⟨_, rfl⟩
    obtain ⟨p5, hp5⟩ : ∃ p5, p5 = p4 ++ [((2 : Int), fr)] := ⟨_, rfl⟩
    obtain ⟨p6, hp6⟩ : ∃ p6, p6 = p5 ++ backL f fr x c := ⟨_, rfl⟩
    have hl2 := congrArg List.length hp2
    have hl3 := congrArg List.length hp3
    have hl4 := congrArg List.length hp4
    have hl5 := congrArg List.length hp5
    simp only [List.length_append, List.length_cons, List.length_nil] at hl2 hl3 hl4 hl5
    have hfin : p6 = p ++ L := by
      rw [← hL]
      show p6 = p ++ (List.replicate x (4, 0) ++ ((if n - x > 1 then [(1, 0)] else []) ++ (backL f (fr + x) (n - x) (c - 1) ++ ((if n - x > 1 then [(3, fr + (x : Int))] else []) ++ ([(2, fr)] ++ backL f fr x c)))))
      rw [hp6, hp5, hp4, hp3, hp2, hp1]
      simp only [List.append_assoc]
    have stepM : ∀ st5 : St, st5.is (bkT fr n c [(9, vi x)]) (bkS tabF p2) → AWP prog (gl m) 81 cx (.seq (cp [1,1,1,1,0] F45) (.seq (.seq (cp [1,1,1,1,1,0,0] F45) (.cond (.tmp 67) (cp [1,1,1,1,1,0,1,0] F45) (cp [1,1,1,1,1,0,1,1] F45))) (.seq (cp [1,1,1,1,1,1,0] F45) (cp [1,1,1,1,1,1,1] F45)))) st5 Q := by
      intro st5 s5
      have hk1 : KxOk prog (gl m) (kPl 45 tabF p2 p3 (fun a b d => a = fr + (x : Int) ∧ b = ((n - x : Nat) : Int) ∧ d = ((c - 1 : Nat) : Int))) := kPl_ok m fun a b d ⟨e1, e2, e3⟩ => by
        subst e1 e2 e3
        rw [hp3]
        exact back_has m f (n - x) (c - 1) (fr + x) p2 (by omega) (by omega) (by omega) (by omega) (by omega) (by omega) (by omega)
      refine awp_seq (awp_sx hk1 hel2 ((bkM_eq m _ tabF p2 p3 fr n c x _).mpr ⟨rfl, rfl, rfl, rfl, ⟨w1, w2, w3⟩, m1L_eA _, fun st6 s6 => ?_⟩) s5)
      have stepO : ∀ st7 : St, st7.is (bkT fr n c [(9, vi x)]) (bkS tabF p4) → AWP prog (gl m) 81 cx (.seq (cp [1,1,1,1,1,1,0] F45) (cp [1,1,1,1,1,1,1] F45)) st7 Q := by
        intro st7 s7
        have hk2 : KxOk prog (gl m) (kPl 45 tabF p5 p6 (fun a b d => a = fr ∧ b = (x : Int) ∧ d = (c : Int))) := kPl_ok m fun a b d ⟨e1, e2, e3⟩ => by
          subst e1 e2 e3
          rw [hp6]
          exact back_has m f x c _ p5 (by omega) (by omega) (by omega) (by omega) (by omega) (by omega) (by omega)
        refine awp_seq (awp_sx (kAct_ok m tabF p4 p5) hel2 ((bkO_eq m tabF p4 p5 fr n c x _).mpr ⟨rfl, rfl, rfl, rfl, by rw [hp5]; exact cAct_one _ _ _ (by omega), m1L_eA _, fun st8 s8 => ?_⟩) s7)
        refine awp_sx hk2 hel2 ((bkP_eq m _ tabF p5 p6 fr n c x _).mpr ⟨rfl, rfl, rfl, rfl, ⟨rfl, rfl, rfl⟩, m1L_eA _, ?_⟩) s8
        exact fin .normal _ p6 (.inr rfl) hfin
      refine awp_seq (awp_seq (awp_sx kx0_ok hel2 ((bkNc_eq m tabF p3 fr n c x _).mpr ?_) s6))
      rw [w2]
      intro st7 s7
      refine awp_cond (b := decide (((n - x : Nat) : Int) > 1)) (condT s7 (by kernel_rfl)) (fun hj => ?_) (fun hj => ?_)
      · have hj' : n - x > 1 := by have := of_decide_eq_true hj; omega
        rw [if_pos hj'] at hp4
        refine awp_sx (kAct_ok m tabF p3 p4) hel2 ((bkN_eq m tabF p3 p4 fr n c x _ _).mpr ⟨rfl, rfl, rfl, rfl, by rw [w1, hp4]; exact cAct_one _ _ _ (by have e := congrArg List.length hp4; rw [List.length_append] at e; simp only [List.length_cons, List.length_nil] at e; omega), m1L_eA _, ?_⟩) s7
        exact stepO
      · have hj' : ¬ n - x > 1 := by have := of_decide_eq_false hj; omega
        rw [if_neg hj', List.append_nil] at hp4
        refine awp_sx kx0_ok hel2 ((bkNs_eq m tabF p3 fr n c x _ _).mpr ?_) s7
        rw [← hp4]
        exact stepO
    refine awp_seq (awp_seq (awp_sx kx0_ok hel2 ((bkLc_eq m tabF p1 fr n c x _).mpr ?_) s4))
    rw [w2]
    intro st5 s5
    refine awp_cond (b := decide (((n - x : Nat) : Int) > 1)) (condT s5 (by kernel_rfl)) (fun hj => ?_) (fun hj => ?_)
    · have hj' : n - x > 1 := by have := of_decide_eq_true hj; omega
      rw [if_pos hj'] at hp2
      refine awp_sx (kAct_ok m tabF p1 p2) hel2 ((bkL_eq m tabF p1 p2 fr n c x _ _).mpr ⟨rfl, rfl, rfl, rfl, by rw [hp2]; exact cAct_one _ _ _ (by omega), m1L_eA _, ?_⟩) s5
      exact stepM
    · have hj' : ¬ n - x > 1 := by have := of_decide_eq_false hj; omega
      rw [if_neg hj', List.append_nil] at hp2
      refine awp_sx kx0_ok hel2 ((bkLs_eq m tabF p1 fr n c x _ _).mpr ?_) s5
      rw [← hp2]
      exact stepM
end Go.Proofs.YtpiincgiakkljaaGreatDoor
