/-
  fluxionref18.Check as the code says it.
-/
import Derived.Test.YtpiincgiakkljaaGreatDoorS3
set_option linter.unusedSimpArgs false
set_option linter.unusedVariables false
namespace Go.Proofs.YtpiincgiakkljaaGreatDoor
open Go

noncomputable def boolB (b : List Bool) : Slot := .blk ⟨b.map AV.bool, 1, false, false, none⟩
noncomputable def toldZ : Slot := .blk ⟨[vi 0, vi 0, vi 0, .nils], 4, false, false, some 39⟩
noncomputable def toldB (steps : Int) (o : List Int) : Slot := .blk ⟨[vi steps, vi 0, vi 0, .rs 1 0 o.length o.length none], 4, false, false, some 39⟩
noncomputable abbrev F16 : Code := bodyF Tryz.f16
noncomputable def rcA (m n s : Int) (hd : SH) (p : List (Int × Int)) (K : AExit → Tr AV → Mem → Prop) (S : Scr) : Prop := sxC prog (gl m) kx0 161 mo (cp [0] F16) (finK 0 K) S (argsTr [dA hd p, vi n, vi s] 0 .e) (mm [])
noncomputable def rcT (n s : Int) (hd : SH) (p : List (Int × Int)) : Tr AV := few [(0, dA hd p), (1, vi n), (2, vi s), (6, .ra 0 0 4)]
noncomputable def rcB (m n s : Int) (hd : SH) (p : List (Int × Int)) (K : AExit → Tr AV → Mem → Prop) (S : Scr) : Prop := sxC prog (gl m) kx0 161 mo (cp [1,0] F16) (finK 0 K) S (rcT n s hd p) (mm [toldZ])
noncomputable def rcC (m n s : Int) (hd : SH) (p : List (Int × Int)) (K : AExit → Tr AV → Mem → Prop) (S : Scr) : Prop := sxC prog (gl m) kx0 161 mo (cp [1,1,0] F16) (finK 0 K) S (rcT n s hd p) (mm [toldZ])
noncomputable def rcD (m n s : Int) (hd : SH) (p : List (Int × Int)) (o : List Int) (K : AExit → Tr AV → Mem → Prop) (S : Scr) : Prop := sxC prog (gl m) kx0 161 mo (cp [1,1,1,0] F16) (finK 0 K) S (few [(0, dA hd p), (1, vi n), (2, vi s), (6, .ra 0 0 4), (7, .ra 2 0 4)]) (mm [toldZ, listB o, toldB 0 o])
noncomputable def rcE (m n s : Int) (hd : SH) (p : List (Int × Int)) (o : List Int) (b : List Bool) (K : AExit → Tr AV → Mem → Prop) (S : Scr) : Prop := sxC prog (gl m) kx0 161 mo (cp [1,1,1,1,0] F16) (finK 0 K) S (few [(0, dA hd p), (1, vi n), (2, vi s), (6, .ra 0 0 4), (7, .ra 2 0 4), (8, .rs 3 0 b.length b.length none)]) (mm [toldZ, listB o, toldB 0 o, boolB b])
noncomputable def rcF (m n s : Int) (hd : SH) (p : List (Int × Int)) (o : List Int) (b : List Bool) (K : AExit → Tr AV → Mem → Prop) (S : Scr) : Prop := sxC prog (gl m) kx0 161 mo (cp [1,1,1,1,1,0,0] F16) (finK 0 K) S (few [(0, dA hd p), (1, vi n), (2, vi s), (6, .ra 0 0 4), (7, .ra 2 0 4), (8, .rs 3 0 b.length b.length none), (9, vi 0), (10, vi 0), (11, vi n)]) (mm [toldZ, listB o, toldB 0 o, boolB b])
noncomputable def rcLT (n s many now due i : Int) (hd : SH) (p : List (Int × Int)) (b : List Bool) : Tr AV := few [(0, dA hd p), (1, vi n), (2, vi s), (6, .ra 0 0 4), (7, .ra 2 0 4), (8, .rs 3 0 b.length b.length none), (9, vi many), (10, vi now), (11, vi due), (12, vi i)]
noncomputable def rcLM (steps : Int) (o : List Int) (b : List Bool) : Mem := mm [toldZ, listB o, toldB steps o, boolB b]
noncomputable def rcS0 (m n s many now due i steps : Int) (hd : SH) (p : List (Int × Int)) (o : List Int) (b : List Bool) (K : AExit → Tr AV → Mem → Prop) (S : Scr) : Prop := sxC prog (gl m) kx0 161 mo (cp [1,1,1,1,1,0,1,0,0,0] F16) (finK 0 K) S (rcLT n s many now due i hd p b) (rcLM steps o b)
noncomputable def rcS1 (m n s many now due i steps kd at_ : Int) (hd : SH) (p : List (Int × Int)) (o : List Int) (b : List Bool) (K : AExit → Tr AV → Mem → Prop) (S : Scr) : Prop := sxC prog (gl m) kx0 161 mo (cp [1,1,1,1,1,0,1,0,0,1,0,0,0] F16) (finK 0 K) S (rcLT n s many now due i hd p b) (rcLM steps o b)
noncomputable def rcMT (n s many now due i : Int) (hd : SH) (p : List (Int × Int)) (b : List Bool) (l : List (Nat × AV)) : Tr AV := few ([(0, dA hd p), (1, vi n), (2, vi s), (6, .ra 0 0 4), (7, .ra 2 0 4), (8, .rs 3 0 b.length b.length none), (9, vi many), (10, vi now), (11, vi due), (12, vi i), (13, .ra 4 0 2)] ++ l)
noncomputable def rcMM (steps kd at_ : Int) (o : List Int) (b : List Bool) : Mem := mm [toldZ, listB o, toldB steps o, boolB b, .blk ⟨[vi kd, vi at_], 2, false, false, some 73⟩]
noncomputable def rcS2 (m n s many now due i steps kd at_ : Int) (hd : SH) (p : List (Int × Int)) (o : List Int) (b : List Bool) (K : AExit → Tr AV → Mem → Prop) (S : Scr) : Prop := sxC prog (gl m) kx0 161 mo (cp [1,1,1,1,1,0,1,0,0,1,0,0,1,0] F16) (finK 0 K) S (rcMT n s many now due i hd p b []) (rcMM steps kd at_ o b)
noncomputable def rcS3 (m n s many now due i steps kd at_ : Int) (x : Bool) (hd : SH) (p : List (Int × Int)) (o : List Int) (b : List Bool) (K : AExit → Tr AV → Mem → Prop) (S : Scr) : Prop := sxC prog (gl m) kx0 161 mo (cp [1,1,1,1,1,0,1,0,0,1,0,0,1,1,0] F16) (finK 0 K) S (rcMT n s many now due i hd p b [(14, .bool x)]) (rcMM steps kd at_ o b)
noncomputable def rcS4 (m n s many now due i steps kd at_ : Int) (x : Bool) (hd : SH) (p : List (Int × Int)) (o : List Int) (b : List Bool) (K : AExit → Tr AV → Mem → Prop) (S : Scr) : Prop := sxC prog (gl m) kx0 161 mo (cp [1,1,1,1,1,0,1,0,0,1,0,0,1,1,1,0] F16) (finK 0 K) S (rcMT n s many now due i hd p b [(15, .bool x)]) (rcMM steps kd at_ o b)
noncomputable def rcNT (n s many now due i : Int) (hd : SH) (p : List (Int × Int)) (b : List Bool) (y : Bool) : Tr AV := few [(0, dA hd p), (1, vi n), (2, vi s), (6, .ra 0 0 4), (7, .ra 2 0 4), (8, .rs 3 0 b.length b.length none), (9, vi many), (10, vi now), (11, vi due), (12, vi i), (15, .bool y)]
noncomputable def rcS5 (m n s many now due i steps kd at_ : Int) (x : Bool) (hd : SH) (p : List (Int × Int)) (o : List Int) (b : List Bool) (K : AExit → Tr AV → Mem → Prop) (S : Scr) : Prop := sxC prog (gl m) kx0 161 mo (cp [1,1,1,1,1,0,1,0,0,1,0,0,1,1,1,1] F16) (finK 0 K) S (rcNT n s many now due i hd p b x) (rcMM steps kd at_ o b)
noncomputable def rcS6 (m n s many now due i steps : Int) (hd : SH) (p : List (Int × Int)) (o : List Int) (b : List Bool) (K : AExit → Tr AV → Mem → Prop) (S : Scr) : Prop := sxC prog (gl m) kx0 161 mo (cp [1,1,1,1,1,0,1,0,0,1,1] F16) (finK 0 K) S (rcLT n s many now due i hd p b) (rcLM steps o b)
noncomputable def rcG (m n s many now due i steps : Int) (hd : SH) (p : List (Int × Int)) (o : List Int) (b : List Bool) (K : AExit → Tr AV → Mem → Prop) (S : Scr) : Prop := sxC prog (gl m) kx0 161 mo (cp [1,1,1,1,1,1] F16) (finK 0 K) S (rcLT n s many now due i hd p b) (rcLM steps o b)
set_option maxRecDepth 100000 in
theorem rcA_eq (m : Int) (n : Int) (s : Int) (hd : SH) (p : List (Int × Int)) (K : AExit → Tr AV → Mem → Prop) : rcA m n s hd p K (Scr.fin [0, 1, 2, 6]) = (
    K AExit.normal
  (few [(0, AV.ds hd (eA p) (List.length p)), (1, AV.int IntKind.i64 n), (2, AV.int IntKind.i64 s), (6, AV.ra 0 0 4)])
  (mm
    [Slot.blk
        (Blk.mk [AV.int IntKind.i64 0, AV.int IntKind.i64 0, AV.int IntKind.i64 0, AV.nils] 4 false false (some 39))])) := by kernel_rfl
set_option maxRecDepth 100000 in
theorem rcB_eq (m : Int) (n : Int) (s : Int) (hd : SH) (p : List (Int × Int)) (K : AExit → Tr AV → Mem → Prop) : rcB m n s hd p K (Scr.sp (Scr.fin [6]) (Scr.fin [0, 1, 2, 6])) = (
    (decide ((↑(List.length p) : Int) > 4000) = true →
    K AExit.ret (few [(6, AV.ra 0 0 4)])
      (mm
        [Slot.blk
            (Blk.mk [AV.int IntKind.i64 0, AV.int IntKind.i64 0, AV.int IntKind.i64 3, AV.nils] 4 false false
              (some 39))])) ∧
  (decide ((↑(List.length p) : Int) > 4000) = false →
    K AExit.normal
      (few
        [(0, AV.ds hd (eA p) (List.length p)), (1, AV.int IntKind.i64 n), (2, AV.int IntKind.i64 s), (6, AV.ra 0 0 4)])
      (mm
        [Slot.blk
            (Blk.mk [AV.int IntKind.i64 0, AV.int IntKind.i64 0, AV.int IntKind.i64 0, AV.nils] 4 false false
              (some 39))]))) := by kernel_rfl
set_option maxRecDepth 100000 in
theorem rcC_eq (m : Int) (n : Int) (s : Int) (hd : SH) (p : List (Int × Int)) (K : AExit → Tr AV → Mem → Prop) : rcC m n s hd p K (Scr.op [false, false, false, false] (Scr.fin [0, 1, 2, 6, 7])) = (
    0 ≤ n ∧
  n ≤ n ∧
    n * 8 ≤ 281474976710656 ∧
      n ≤ 281474976710656 ∧
        K AExit.normal
          (few
            [(0, AV.ds hd (eA p) (List.length p)), (1, AV.int IntKind.i64 n), (2, AV.int IntKind.i64 s),
              (6, AV.ra 0 0 4), (7, AV.ra 2 0 4)])
          (mm
            [Slot.blk
                (Blk.mk [AV.int IntKind.i64 0, AV.int IntKind.i64 0, AV.int IntKind.i64 0, AV.nils] 4 false false
                  (some 39)),
              Slot.blk
                (Blk.mk
                  (tile (List.map constCell (Array.toList (Value.cells (Value.int IntKind.i64 0)))) (Int.toNat n * 1)
                    AV.junk)
                  1 false false none),
              Slot.blk
                (Blk.mk
                  [AV.int IntKind.i64 0, AV.int IntKind.i64 0, AV.int IntKind.i64 0,
                    AV.rs 1 0 (Int.toNat n) (Int.toNat n * 1) none]
                  4 false false (some 39))])) := by kernel_rfl
set_option maxRecDepth 100000 in
theorem rcD_eq (m : Int) (n : Int) (s : Int) (hd : SH) (p : List (Int × Int)) (o : List Int) (K : AExit → Tr AV → Mem → Prop) : rcD m n s hd p o K (Scr.op [false, false, false, false] (Scr.fin [0, 1, 2, 6, 7, 8])) = (
    0 ≤ IntKind.wrap IntKind.i64 (n + 1) ∧
  IntKind.wrap IntKind.i64 (n + 1) ≤ IntKind.wrap IntKind.i64 (n + 1) ∧
    IntKind.wrap IntKind.i64 (n + 1) * 1 ≤ 281474976710656 ∧
      IntKind.wrap IntKind.i64 (n + 1) ≤ 281474976710656 ∧
        K AExit.normal
          (few
            [(0, AV.ds hd (eA p) (List.length p)), (1, AV.int IntKind.i64 n), (2, AV.int IntKind.i64 s),
              (6, AV.ra 0 0 4), (7, AV.ra 2 0 4),
              (8,
                AV.rs 3 0 (Int.toNat (IntKind.wrap IntKind.i64 (n + 1)))
                  (Int.toNat (IntKind.wrap IntKind.i64 (n + 1)) * 1) none)])
          (mm
            [Slot.blk
                (Blk.mk [AV.int IntKind.i64 0, AV.int IntKind.i64 0, AV.int IntKind.i64 0, AV.nils] 4 false false
                  (some 39)),
              Slot.blk (Blk.mk (List.map vi o) 1 false false none),
              Slot.blk
                (Blk.mk
                  [AV.int IntKind.i64 0, AV.int IntKind.i64 0, AV.int IntKind.i64 0,
                    AV.rs 1 0 (List.length o) (List.length o) none]
                  4 false false (some 39)),
              Slot.blk
                (Blk.mk
                  (tile (List.map constCell (Array.toList (Value.cells (Value.bool false))))
                    (Int.toNat (IntKind.wrap IntKind.i64 (n + 1)) * 1) AV.junk)
                  1 false false none)])) := by kernel_rfl
set_option maxRecDepth 100000 in
theorem rcE_eq (m : Int) (n : Int) (s : Int) (hd : SH) (p : List (Int × Int)) (o : List Int) (b : List Bool) (K : AExit → Tr AV → Mem → Prop) : rcE m n s hd p o b K (Scr.fin [0, 1, 2, 6, 7, 8, 9, 10, 11]) = (
    K AExit.normal
  (few
    [(0, AV.ds hd (eA p) (List.length p)), (1, AV.int IntKind.i64 n), (2, AV.int IntKind.i64 s), (6, AV.ra 0 0 4),
      (7, AV.ra 2 0 4), (8, AV.rs 3 0 (List.length b) (List.length b) none), (9, AV.int IntKind.i64 0),
      (10, AV.int IntKind.i64 0), (11, AV.int IntKind.i64 n)])
  (mm
    [Slot.blk
        (Blk.mk [AV.int IntKind.i64 0, AV.int IntKind.i64 0, AV.int IntKind.i64 0, AV.nils] 4 false false (some 39)),
      Slot.blk (Blk.mk (List.map vi o) 1 false false none),
      Slot.blk
        (Blk.mk
          [AV.int IntKind.i64 0, AV.int IntKind.i64 0, AV.int IntKind.i64 0,
            AV.rs 1 0 (List.length o) (List.length o) none]
          4 false false (some 39)),
      Slot.blk (Blk.mk (List.map AV.bool b) 1 false false none)])) := by kernel_rfl
set_option maxRecDepth 100000 in
theorem rcF_eq (m : Int) (n : Int) (s : Int) (hd : SH) (p : List (Int × Int)) (o : List Int) (b : List Bool) (K : AExit → Tr AV → Mem → Prop) : rcF m n s hd p o b K (Scr.fin [0, 1, 2, 6, 7, 8, 9, 10, 11, 12]) = (
    K AExit.normal
  (few
    [(0, AV.ds hd (eA p) (List.length p)), (1, AV.int IntKind.i64 n), (2, AV.int IntKind.i64 s), (6, AV.ra 0 0 4),
      (7, AV.ra 2 0 4), (8, AV.rs 3 0 (List.length b) (List.length b) none), (9, AV.int IntKind.i64 0),
      (10, AV.int IntKind.i64 0), (11, AV.int IntKind.i64 n), (12, AV.int IntKind.i64 0)])
  (mm
    [Slot.blk
        (Blk.mk [AV.int IntKind.i64 0, AV.int IntKind.i64 0, AV.int IntKind.i64 0, AV.nils] 4 false false (some 39)),
      Slot.blk (Blk.mk (List.map vi o) 1 false false none),
      Slot.blk
        (Blk.mk
          [AV.int IntKind.i64 0, AV.int IntKind.i64 0, AV.int IntKind.i64 0,
            AV.rs 1 0 (List.length o) (List.length o) none]
          4 false false (some 39)),
      Slot.blk (Blk.mk (List.map AV.bool b) 1 false false none)])) := by kernel_rfl
set_option maxRecDepth 100000 in
theorem rcS0_eq (m : Int) (n : Int) (s : Int) (many : Int) (now : Int) (due : Int) (i : Int) (steps : Int) (hd : SH) (p : List (Int × Int)) (o : List Int) (b : List Bool) (K : AExit → Tr AV → Mem → Prop) : rcS0 m n s many now due i steps hd p o b K (Scr.sp (Scr.fin [0, 1, 2, 6, 7, 8, 9, 10, 11, 12]) (Scr.fin [0, 1, 2, 6, 7, 8, 9, 10, 11, 12])) = (
    (decide (i < (↑(List.length p) : Int)) = true →
    K AExit.normal
      (few
        [(0, AV.ds hd (eA p) (List.length p)), (1, AV.int IntKind.i64 n), (2, AV.int IntKind.i64 s), (6, AV.ra 0 0 4),
          (7, AV.ra 2 0 4), (8, AV.rs 3 0 (List.length b) (List.length b) none), (9, AV.int IntKind.i64 many),
          (10, AV.int IntKind.i64 now), (11, AV.int IntKind.i64 due), (12, AV.int IntKind.i64 i)])
      (mm
        [Slot.blk
            (Blk.mk [AV.int IntKind.i64 0, AV.int IntKind.i64 0, AV.int IntKind.i64 0, AV.nils] 4 false false
              (some 39)),
          Slot.blk (Blk.mk (List.map vi o) 1 false false none),
          Slot.blk
            (Blk.mk
              [AV.int IntKind.i64 steps, AV.int IntKind.i64 0, AV.int IntKind.i64 0,
                AV.rs 1 0 (List.length o) (List.length o) none]
              4 false false (some 39)),
          Slot.blk (Blk.mk (List.map AV.bool b) 1 false false none)])) ∧
  (decide (i < (↑(List.length p) : Int)) = false →
    K (AExit.exit 0)
      (few
        [(0, AV.ds hd (eA p) (List.length p)), (1, AV.int IntKind.i64 n), (2, AV.int IntKind.i64 s), (6, AV.ra 0 0 4),
          (7, AV.ra 2 0 4), (8, AV.rs 3 0 (List.length b) (List.length b) none), (9, AV.int IntKind.i64 many),
          (10, AV.int IntKind.i64 now), (11, AV.int IntKind.i64 due), (12, AV.int IntKind.i64 i)])
      (mm
        [Slot.blk
            (Blk.mk [AV.int IntKind.i64 0, AV.int IntKind.i64 0, AV.int IntKind.i64 0, AV.nils] 4 false false
              (some 39)),
          Slot.blk (Blk.mk (List.map vi o) 1 false false none),
          Slot.blk
            (Blk.mk
              [AV.int IntKind.i64 steps, AV.int IntKind.i64 0, AV.int IntKind.i64 0,
                AV.rs 1 0 (List.length o) (List.length o) none]
              4 false false (some 39)),
          Slot.blk (Blk.mk (List.map AV.bool b) 1 false false none)]))) := by kernel_rfl
set_option maxRecDepth 100000 in
theorem rcS1_eq (m : Int) (n : Int) (s : Int) (many : Int) (now : Int) (due : Int) (i : Int) (steps : Int) (kd : Int) (at_ : Int) (hd : SH) (p : List (Int × Int)) (o : List Int) (b : List Bool) (K : AExit → Tr AV → Mem → Prop) : rcS1 m n s many now due i steps kd at_ hd p o b K (Scr.op [false, false, false]
  (Scr.ld [Ek.is (vi kd), Ek.is (vi at_)] (Scr.op [false] (Scr.fin [0, 1, 2, 6, 7, 8, 9, 10, 11, 12, 13])))) = (
    Int.toNat i * 2 ≤ List.length (eA p) ∧
  0 ≤ i ∧
    i + 1 ≤ (↑(List.length p) : Int) ∧
      2 ≤ List.length (List.drop (Int.toNat i * 2) (eA p)) ∧
        List.getD (List.drop (Int.toNat i * 2) (eA p)) 0 AV.junk = vi kd ∧
          List.getD (List.drop (Int.toNat i * 2) (eA p)) 1 AV.junk = vi at_ ∧
            K AExit.normal
              (few
                [(0, AV.ds hd (eA p) (List.length p)), (1, AV.int IntKind.i64 n), (2, AV.int IntKind.i64 s),
                  (6, AV.ra 0 0 4), (7, AV.ra 2 0 4), (8, AV.rs 3 0 (List.length b) (List.length b) none),
                  (9, AV.int IntKind.i64 many), (10, AV.int IntKind.i64 now), (11, AV.int IntKind.i64 due),
                  (12, AV.int IntKind.i64 i), (13, AV.ra 4 0 2)])
              (mm
                [Slot.blk
                    (Blk.mk [AV.int IntKind.i64 0, AV.int IntKind.i64 0, AV.int IntKind.i64 0, AV.nils] 4 false false
                      (some 39)),
                  Slot.blk (Blk.mk (List.map vi o) 1 false false none),
                  Slot.blk
                    (Blk.mk
                      [AV.int IntKind.i64 steps, AV.int IntKind.i64 0, AV.int IntKind.i64 0,
                        AV.rs 1 0 (List.length o) (List.length o) none]
                      4 false false (some 39)),
                  Slot.blk (Blk.mk (List.map AV.bool b) 1 false false none),
                  Slot.blk (Blk.mk [AV.int IntKind.i64 kd, AV.int IntKind.i64 at_] 2 false false (some 73))])) := by kernel_rfl
set_option maxRecDepth 100000 in
theorem rcS2_eq (m : Int) (n : Int) (s : Int) (many : Int) (now : Int) (due : Int) (i : Int) (steps : Int) (kd : Int) (at_ : Int) (hd : SH) (p : List (Int × Int)) (o : List Int) (b : List Bool) (K : AExit → Tr AV → Mem → Prop) : rcS2 m n s many now due i steps kd at_ hd p o b K (Scr.sp (Scr.tt (Scr.tt (Scr.fin [0, 1, 2, 6, 7, 8, 9, 10, 11, 12, 13, 14])))
  (Scr.ff (Scr.ff (Scr.fin [0, 1, 2, 6, 7, 8, 9, 10, 11, 12, 13, 14])))) = (
    ((kd == 2) = true →
    K AExit.normal
      (few
        [(0, AV.ds hd (eA p) (List.length p)), (1, AV.int IntKind.i64 n), (2, AV.int IntKind.i64 s), (6, AV.ra 0 0 4),
          (7, AV.ra 2 0 4), (8, AV.rs 3 0 (List.length b) (List.length b) none), (9, AV.int IntKind.i64 many),
          (10, AV.int IntKind.i64 now), (11, AV.int IntKind.i64 due), (12, AV.int IntKind.i64 i), (13, AV.ra 4 0 2),
          (14, AV.bool true)])
      (mm
        [Slot.blk
            (Blk.mk [AV.int IntKind.i64 0, AV.int IntKind.i64 0, AV.int IntKind.i64 0, AV.nils] 4 false false
              (some 39)),
          Slot.blk (Blk.mk (List.map vi o) 1 false false none),
          Slot.blk
            (Blk.mk
              [AV.int IntKind.i64 steps, AV.int IntKind.i64 0, AV.int IntKind.i64 0,
                AV.rs 1 0 (List.length o) (List.length o) none]
              4 false false (some 39)),
          Slot.blk (Blk.mk (List.map AV.bool b) 1 false false none),
          Slot.blk (Blk.mk [AV.int IntKind.i64 kd, AV.int IntKind.i64 at_] 2 false false (some 73))])) ∧
  ((kd == 2) = false →
    K AExit.normal
      (few
        [(0, AV.ds hd (eA p) (List.length p)), (1, AV.int IntKind.i64 n), (2, AV.int IntKind.i64 s), (6, AV.ra 0 0 4),
          (7, AV.ra 2 0 4), (8, AV.rs 3 0 (List.length b) (List.length b) none), (9, AV.int IntKind.i64 many),
          (10, AV.int IntKind.i64 now), (11, AV.int IntKind.i64 due), (12, AV.int IntKind.i64 i), (13, AV.ra 4 0 2),
          (14, AV.bool (kd == 3))])
      (mm
        [Slot.blk
            (Blk.mk [AV.int IntKind.i64 0, AV.int IntKind.i64 0, AV.int IntKind.i64 0, AV.nils] 4 false false
              (some 39)),
          Slot.blk (Blk.mk (List.map vi o) 1 false false none),
          Slot.blk
            (Blk.mk
              [AV.int IntKind.i64 steps, AV.int IntKind.i64 0, AV.int IntKind.i64 0,
                AV.rs 1 0 (List.length o) (List.length o) none]
              4 false false (some 39)),
          Slot.blk (Blk.mk (List.map AV.bool b) 1 false false none),
          Slot.blk (Blk.mk [AV.int IntKind.i64 kd, AV.int IntKind.i64 at_] 2 false false (some 73))]))) := by kernel_rfl
set_option maxRecDepth 100000 in
theorem rcS3_eq (m : Int) (n : Int) (s : Int) (many : Int) (now : Int) (due : Int) (i : Int) (steps : Int) (kd : Int) (at_ : Int) (x : Bool) (hd : SH) (p : List (Int × Int)) (o : List Int) (b : List Bool) (K : AExit → Tr AV → Mem → Prop) : rcS3 m n s many now due i steps kd at_ x hd p o b K (Scr.sp
  (Scr.tt
    (Scr.tt
      (Scr.sp
        (Scr.tt
          (Scr.tt
            (Scr.tt
              (Scr.sp
                (Scr.tt
                  (Scr.tt
                    (Scr.tt
                      (Scr.op [false, false]
                        (Scr.tt
                          (Scr.ld [Ek.is (AV.bool (List.getD b (Int.toNat at_) false))]
                            (Scr.op [false, false]
                              (Scr.sp (Scr.tt (Scr.tt (Scr.tt (Scr.fin [0, 1, 2, 6, 7, 8, 9, 10, 11, 12, 13, 15]))))
                                (Scr.ff
                                  (Scr.ff
                                    (Scr.sp
                                      (Scr.tt (Scr.tt (Scr.ff (Scr.fin [0, 1, 2, 6, 7, 8, 9, 10, 11, 12, 13, 15]))))
                                      (Scr.ff
                                        (Scr.ff
                                          (Scr.ff (Scr.fin [0, 1, 2, 6, 7, 8, 9, 10, 11, 12, 13, 15])))))))))))))))
                (Scr.ff
                  (Scr.ff
                    (Scr.ff
                      (Scr.ff
                        (Scr.ff
                          (Scr.ff
                            (Scr.ff
                              (Scr.sp (Scr.tt (Scr.tt (Scr.ff (Scr.fin [0, 1, 2, 6, 7, 8, 9, 10, 11, 12, 13, 15]))))
                                (Scr.ff
                                  (Scr.ff (Scr.ff (Scr.fin [0, 1, 2, 6, 7, 8, 9, 10, 11, 12, 13, 15]))))))))))))))))
        (Scr.ff
          (Scr.ff
            (Scr.ff
              (Scr.ff
                (Scr.ff
                  (Scr.ff
                    (Scr.ff
                      (Scr.ff
                        (Scr.ff
                          (Scr.ff
                            (Scr.ff
                              (Scr.sp (Scr.tt (Scr.tt (Scr.ff (Scr.fin [0, 1, 2, 6, 7, 8, 9, 10, 11, 12, 13, 15]))))
                                (Scr.ff
                                  (Scr.ff (Scr.ff (Scr.fin [0, 1, 2, 6, 7, 8, 9, 10, 11, 12, 13, 15])))))))))))))))))))
  (Scr.ff
    (Scr.ff
      (Scr.ff
        (Scr.ff
          (Scr.ff
            (Scr.ff
              (Scr.ff
                (Scr.ff
                  (Scr.ff
                    (Scr.ff
                      (Scr.ff
                        (Scr.ff
                          (Scr.ff
                            (Scr.ff
                              (Scr.sp (Scr.tt (Scr.tt (Scr.ff (Scr.fin [0, 1, 2, 6, 7, 8, 9, 10, 11, 12, 13, 15]))))
                                (Scr.ff
                                  (Scr.ff (Scr.ff (Scr.fin [0, 1, 2, 6, 7, 8, 9, 10, 11, 12, 13, 15])))))))))))))))))))) = (
    (x = true →
    (decide (at_ ≥ 0) = true →
        (decide (at_ ≤ n) = true →
            0 ≤ at_ ∧
              at_ + 1 ≤ (↑(List.length b) : Int) ∧
                List.length (List.map AV.bool b) = List.length b ∧
                  0 + Int.toNat at_ * 1 + 1 ≤ List.length (List.map AV.bool b) ∧
                    List.getD (List.map AV.bool b) (0 + Int.toNat at_ * 1) AV.junk =
                        AV.bool (List.getD b (Int.toNat at_) false) ∧
                      (List.getD b (Int.toNat at_) false = true →
                          K AExit.normal
                            (few
                              [(0, AV.ds hd (eA p) (List.length p)), (1, AV.int IntKind.i64 n),
                                (2, AV.int IntKind.i64 s), (6, AV.ra 0 0 4), (7, AV.ra 2 0 4),
                                (8, AV.rs 3 0 (List.length b) (List.length b) none), (9, AV.int IntKind.i64 many),
                                (10, AV.int IntKind.i64 now), (11, AV.int IntKind.i64 due), (12, AV.int IntKind.i64 i),
                                (13, AV.ra 4 0 2), (15, AV.bool true)])
                            (mm
                              [Slot.blk
                                  (Blk.mk [AV.int IntKind.i64 0, AV.int IntKind.i64 0, AV.int IntKind.i64 0, AV.nils] 4
                                    false false (some 39)),
                                Slot.blk (Blk.mk (List.map vi o) 1 false false none),
                                Slot.blk
                                  (Blk.mk
                                    [AV.int IntKind.i64 steps, AV.int IntKind.i64 0, AV.int IntKind.i64 0,
                                      AV.rs 1 0 (List.length o) (List.length o) none]
                                    4 false false (some 39)),
                                Slot.blk (Blk.mk (List.map AV.bool b) 1 false false none),
                                Slot.blk
                                  (Blk.mk [AV.int IntKind.i64 kd, AV.int IntKind.i64 at_] 2 false false (some 73))])) ∧
                        (List.getD b (Int.toNat at_) false = false →
                          ((!x) = true →
                              K AExit.normal
                                (few
                                  [(0, AV.ds hd (eA p) (List.length p)), (1, AV.int IntKind.i64 n),
                                    (2, AV.int IntKind.i64 s), (6, AV.ra 0 0 4), (7, AV.ra 2 0 4),
                                    (8, AV.rs 3 0 (List.length b) (List.length b) none), (9, AV.int IntKind.i64 many),
                                    (10, AV.int IntKind.i64 now), (11, AV.int IntKind.i64 due),
                                    (12, AV.int IntKind.i64 i), (13, AV.ra 4 0 2), (15, AV.bool (at_ == 0))])
                                (mm
                                  [Slot.blk
                                      (Blk.mk
                                        [AV.int IntKind.i64 0, AV.int IntKind.i64 0, AV.int IntKind.i64 0, AV.nils] 4
                                        false false (some 39)),
                                    Slot.blk (Blk.mk (List.map vi o) 1 false false none),
                                    Slot.blk
                                      (Blk.mk
                                        [AV.int IntKind.i64 steps, AV.int IntKind.i64 0, AV.int IntKind.i64 0,
                                          AV.rs 1 0 (List.length o) (List.length o) none]
                                        4 false false (some 39)),
                                    Slot.blk (Blk.mk (List.map AV.bool b) 1 false false none),
                                    Slot.blk
                                      (Blk.mk [AV.int IntKind.i64 kd, AV.int IntKind.i64 at_] 2 false false
                                        (some 73))])) ∧
                            ((!x) = false →
                              K AExit.normal
                                (few
                                  [(0, AV.ds hd (eA p) (List.length p)), (1, AV.int IntKind.i64 n),
                                    (2, AV.int IntKind.i64 s), (6, AV.ra 0 0 4), (7, AV.ra 2 0 4),
                                    (8, AV.rs 3 0 (List.length b) (List.length b) none), (9, AV.int IntKind.i64 many),
                                    (10, AV.int IntKind.i64 now), (11, AV.int IntKind.i64 due),
                                    (12, AV.int IntKind.i64 i), (13, AV.ra 4 0 2), (15, AV.bool false)])
                                (mm
                                  [Slot.blk
                                      (Blk.mk
                                        [AV.int IntKind.i64 0, AV.int IntKind.i64 0, AV.int IntKind.i64 0, AV.nils] 4
                                        false false (some 39)),
                                    Slot.blk (Blk.mk (List.map vi o) 1 false false none),
                                    Slot.blk
                                      (Blk.mk
                                        [AV.int IntKind.i64 steps, AV.int IntKind.i64 0, AV.int IntKind.i64 0,
                                          AV.rs 1 0 (List.length o) (List.length o) none]
                                        4 false false (some 39)),
                                    Slot.blk (Blk.mk (List.map AV.bool b) 1 false false none),
                                    Slot.blk
                                      (Blk.mk [AV.int IntKind.i64 kd, AV.int IntKind.i64 at_] 2 false false
                                        (some 73))])))) ∧
          (decide (at_ ≤ n) = false →
            ((!x) = true →
                K AExit.normal
                  (few
                    [(0, AV.ds hd (eA p) (List.length p)), (1, AV.int IntKind.i64 n), (2, AV.int IntKind.i64 s),
                      (6, AV.ra 0 0 4), (7, AV.ra 2 0 4), (8, AV.rs 3 0 (List.length b) (List.length b) none),
                      (9, AV.int IntKind.i64 many), (10, AV.int IntKind.i64 now), (11, AV.int IntKind.i64 due),
                      (12, AV.int IntKind.i64 i), (13, AV.ra 4 0 2), (15, AV.bool (at_ == 0))])
                  (mm
                    [Slot.blk
                        (Blk.mk [AV.int IntKind.i64 0, AV.int IntKind.i64 0, AV.int IntKind.i64 0, AV.nils] 4 false
                          false (some 39)),
                      Slot.blk (Blk.mk (List.map vi o) 1 false false none),
                      Slot.blk
                        (Blk.mk
                          [AV.int IntKind.i64 steps, AV.int IntKind.i64 0, AV.int IntKind.i64 0,
                            AV.rs 1 0 (List.length o) (List.length o) none]
                          4 false false (some 39)),
                      Slot.blk (Blk.mk (List.map AV.bool b) 1 false false none),
                      Slot.blk (Blk.mk [AV.int IntKind.i64 kd, AV.int IntKind.i64 at_] 2 false false (some 73))])) ∧
              ((!x) = false →
                K AExit.normal
                  (few
                    [(0, AV.ds hd (eA p) (List.length p)), (1, AV.int IntKind.i64 n), (2, AV.int IntKind.i64 s),
                      (6, AV.ra 0 0 4), (7, AV.ra 2 0 4), (8, AV.rs 3 0 (List.length b) (List.length b) none),
                      (9, AV.int IntKind.i64 many), (10, AV.int IntKind.i64 now), (11, AV.int IntKind.i64 due),
                      (12, AV.int IntKind.i64 i), (13, AV.ra 4 0 2), (15, AV.bool false)])
                  (mm
                    [Slot.blk
                        (Blk.mk [AV.int IntKind.i64 0, AV.int IntKind.i64 0, AV.int IntKind.i64 0, AV.nils] 4 false
                          false (some 39)),
                      Slot.blk (Blk.mk (List.map vi o) 1 false false none),
                      Slot.blk
                        (Blk.mk
                          [AV.int IntKind.i64 steps, AV.int IntKind.i64 0, AV.int IntKind.i64 0,
                            AV.rs 1 0 (List.length o) (List.length o) none]
                          4 false false (some 39)),
                      Slot.blk (Blk.mk (List.map AV.bool b) 1 false false none),
                      Slot.blk (Blk.mk [AV.int IntKind.i64 kd, AV.int IntKind.i64 at_] 2 false false (some 73))])))) ∧
      (decide (at_ ≥ 0) = false →
        ((!x) = true →
            K AExit.normal
              (few
                [(0, AV.ds hd (eA p) (List.length p)), (1, AV.int IntKind.i64 n), (2, AV.int IntKind.i64 s),
                  (6, AV.ra 0 0 4), (7, AV.ra 2 0 4), (8, AV.rs 3 0 (List.length b) (List.length b) none),
                  (9, AV.int IntKind.i64 many), (10, AV.int IntKind.i64 now), (11, AV.int IntKind.i64 due),
                  (12, AV.int IntKind.i64 i), (13, AV.ra 4 0 2), (15, AV.bool (at_ == 0))])
              (mm
                [Slot.blk
                    (Blk.mk [AV.int IntKind.i64 0, AV.int IntKind.i64 0, AV.int IntKind.i64 0, AV.nils] 4 false false
                      (some 39)),
                  Slot.blk (Blk.mk (List.map vi o) 1 false false none),
                  Slot.blk
                    (Blk.mk
                      [AV.int IntKind.i64 steps, AV.int IntKind.i64 0, AV.int IntKind.i64 0,
                        AV.rs 1 0 (List.length o) (List.length o) none]
                      4 false false (some 39)),
                  Slot.blk (Blk.mk (List.map AV.bool b) 1 false false none),
                  Slot.blk (Blk.mk [AV.int IntKind.i64 kd, AV.int IntKind.i64 at_] 2 false false (some 73))])) ∧
          ((!x) = false →
            K AExit.normal
              (few
                [(0, AV.ds hd (eA p) (List.length p)), (1, AV.int IntKind.i64 n), (2, AV.int IntKind.i64 s),
                  (6, AV.ra 0 0 4), (7, AV.ra 2 0 4), (8, AV.rs 3 0 (List.length b) (List.length b) none),
                  (9, AV.int IntKind.i64 many), (10, AV.int IntKind.i64 now), (11, AV.int IntKind.i64 due),
                  (12, AV.int IntKind.i64 i), (13, AV.ra 4 0 2), (15, AV.bool false)])
              (mm
                [Slot.blk
                    (Blk.mk [AV.int IntKind.i64 0, AV.int IntKind.i64 0, AV.int IntKind.i64 0, AV.nils] 4 false false
                      (some 39)),
                  Slot.blk (Blk.mk (List.map vi o) 1 false false none),
                  Slot.blk
                    (Blk.mk
                      [AV.int IntKind.i64 steps, AV.int IntKind.i64 0, AV.int IntKind.i64 0,
                        AV.rs 1 0 (List.length o) (List.length o) none]
                      4 false false (some 39)),
                  Slot.blk (Blk.mk (List.map AV.bool b) 1 false false none),
                  Slot.blk (Blk.mk [AV.int IntKind.i64 kd, AV.int IntKind.i64 at_] 2 false false (some 73))])))) ∧
  (x = false →
    ((!x) = true →
        K AExit.normal
          (few
            [(0, AV.ds hd (eA p) (List.length p)), (1, AV.int IntKind.i64 n), (2, AV.int IntKind.i64 s),
              (6, AV.ra 0 0 4), (7, AV.ra 2 0 4), (8, AV.rs 3 0 (List.length b) (List.length b) none),
              (9, AV.int IntKind.i64 many), (10, AV.int IntKind.i64 now), (11, AV.int IntKind.i64 due),
              (12, AV.int IntKind.i64 i), (13, AV.ra 4 0 2), (15, AV.bool (at_ == 0))])
          (mm
            [Slot.blk
                (Blk.mk [AV.int IntKind.i64 0, AV.int IntKind.i64 0, AV.int IntKind.i64 0, AV.nils] 4 false false
                  (some 39)),
              Slot.blk (Blk.mk (List.map vi o) 1 false false none),
              Slot.blk
                (Blk.mk
                  [AV.int IntKind.i64 steps, AV.int IntKind.i64 0, AV.int IntKind.i64 0,
                    AV.rs 1 0 (List.length o) (List.length o) none]
                  4 false false (some 39)),
              Slot.blk (Blk.mk (List.map AV.bool b) 1 false false none),
              Slot.blk (Blk.mk [AV.int IntKind.i64 kd, AV.int IntKind.i64 at_] 2 false false (some 73))])) ∧
      ((!x) = false →
        K AExit.normal
          (few
            [(0, AV.ds hd (eA p) (List.length p)), (1, AV.int IntKind.i64 n), (2, AV.int IntKind.i64 s),
              (6, AV.ra 0 0 4), (7, AV.ra 2 0 4), (8, AV.rs 3 0 (List.length b) (List.length b) none),
              (9, AV.int IntKind.i64 many), (10, AV.int IntKind.i64 now), (11, AV.int IntKind.i64 due),
              (12, AV.int IntKind.i64 i), (13, AV.ra 4 0 2), (15, AV.bool false)])
          (mm
            [Slot.blk
                (Blk.mk [AV.int IntKind.i64 0, AV.int IntKind.i64 0, AV.int IntKind.i64 0, AV.nils] 4 false false
                  (some 39)),
              Slot.blk (Blk.mk (List.map vi o) 1 false false none),
              Slot.blk
                (Blk.mk
                  [AV.int IntKind.i64 steps, AV.int IntKind.i64 0, AV.int IntKind.i64 0,
                    AV.rs 1 0 (List.length o) (List.length o) none]
                  4 false false (some 39)),
              Slot.blk (Blk.mk (List.map AV.bool b) 1 false false none),
              Slot.blk (Blk.mk [AV.int IntKind.i64 kd, AV.int IntKind.i64 at_] 2 false false (some 73))])))) := by kernel_rfl
set_option maxRecDepth 100000 in
theorem rcS4_eq (m : Int) (n : Int) (s : Int) (many : Int) (now : Int) (due : Int) (i : Int) (steps : Int) (kd : Int) (at_ : Int) (x : Bool) (hd : SH) (p : List (Int × Int)) (o : List Int) (b : List Bool) (K : AExit → Tr AV → Mem → Prop) : rcS4 m n s many now due i steps kd at_ x hd p o b K (Scr.sp
  (Scr.sp
    (Scr.tt
      (Scr.tt
        (Scr.op [false, false]
          (Scr.tt
            (Scr.ld [Ek.bool]
              (Scr.op [false, false]
                (Scr.tt
                  (Scr.sp
                    (Scr.tt
                      (Scr.tt
                        (Scr.sp
                          (Scr.op [false, false]
                            (Scr.op [false, true, false] (Scr.fin [0, 1, 2, 6, 7, 8, 9, 10, 11, 12, 15])))
                          (Scr.fin [0, 1, 2, 6, 7, 8, 9, 10, 11, 12, 15]))))
                    (Scr.ff (Scr.ff (Scr.ff (Scr.fin [0, 1, 2, 6, 7, 8, 9, 10, 11, 12, 15]))))))))))))
    (Scr.ff
      (Scr.ff (Scr.ff (Scr.ff (Scr.ff (Scr.ff (Scr.ff (Scr.ff (Scr.fin [0, 1, 2, 6, 7, 8, 9, 10, 11, 12, 15]))))))))))
  (Scr.sp (Scr.sp (Scr.fin [0, 1, 2, 6, 7, 8, 9, 10, 11, 12, 15]) (Scr.fin [0, 1, 2, 6, 7, 8, 9, 10, 11, 12, 15]))
    (Scr.sp
      (Scr.sp
        (Scr.op []
          (Scr.op [false, false] (Scr.op [false, true, false] (Scr.fin [0, 1, 2, 6, 7, 8, 9, 10, 11, 12, 15]))))
        (Scr.fin [0, 1, 2, 6, 7, 8, 9, 10, 11, 12, 15]))
      (Scr.sp
        (Scr.sp
          (Scr.tt
            (Scr.tt
              (Scr.sp
                (Scr.op []
                  (Scr.op []
                    (Scr.op [false, false]
                      (Scr.ld [Ek.int IntKind.i64]
                        (Scr.op [false, false]
                          (Scr.op [false, false]
                            (Scr.op [false, true, false] (Scr.fin [0, 1, 2, 6, 7, 8, 9, 10, 11, 12, 15]))))))))
                (Scr.fin [0, 1, 2, 6, 7, 8, 9, 10, 11, 12, 15]))))
          (Scr.ff (Scr.ff (Scr.ff (Scr.fin [0, 1, 2, 6, 7, 8, 9, 10, 11, 12, 15])))))
        (Scr.sp
          (Scr.sp
            (Scr.tt
              (Scr.sp
                (Scr.tt
                  (Scr.tt
                    (Scr.tt
                      (Scr.sp (Scr.fin [0, 1, 2, 6, 7, 8, 9, 10, 11, 12, 15])
                        (Scr.fin [0, 1, 2, 6, 7, 8, 9, 10, 11, 12, 15])))))
                (Scr.ff (Scr.ff (Scr.ff (Scr.ff (Scr.fin [0, 1, 2, 6, 7, 8, 9, 10, 11, 12, 15])))))))
            (Scr.ff (Scr.ff (Scr.ff (Scr.ff (Scr.ff (Scr.ff (Scr.fin [0, 1, 2, 6, 7, 8, 9, 10, 11, 12, 15]))))))))
          (Scr.fin [0, 1, 2, 6, 7, 8, 9, 10, 11, 12, 15])))))) = (
    ((kd == 1) = true →
    (x = true →
        0 ≤ now ∧
          now + 1 ≤ (↑(List.length b) : Int) ∧
            List.length (List.map AV.bool b) = List.length b ∧
              0 + Int.toNat now * 1 + 1 ≤ List.length (List.map AV.bool b) ∧
                List.getD (List.map AV.bool b) (0 + Int.toNat now * 1) AV.junk =
                    AV.bool (getB (List.getD (List.map AV.bool b) (0 + Int.toNat now * 1) AV.junk)) ∧
                  ((!getB (List.getD (List.map AV.bool b) (0 + Int.toNat now * 1) AV.junk)) = true →
                      (decide (many < s) = true →
                          0 ≤ now ∧
                            now + 1 ≤ (↑(List.length b) : Int) ∧
                              List.length (List.map AV.bool b) = List.length b ∧
                                0 + Int.toNat now * 1 + 1 ≤ List.length b ∧
                                  K AExit.normal
                                    (few
                                      [(0, AV.ds hd (eA p) (List.length p)), (1, AV.int IntKind.i64 n),
                                        (2, AV.int IntKind.i64 s), (6, AV.ra 0 0 4), (7, AV.ra 2 0 4),
                                        (8, AV.rs 3 0 (List.length b) (List.length b) none),
                                        (9, AV.int IntKind.i64 (IntKind.wrap IntKind.i64 (many + 1))),
                                        (10, AV.int IntKind.i64 now), (11, AV.int IntKind.i64 due),
                                        (12, AV.int IntKind.i64 i), (15, AV.bool (decide (many < s)))])
                                    (mm
                                      [Slot.blk
                                          (Blk.mk
                                            [AV.int IntKind.i64 0, AV.int IntKind.i64 0, AV.int IntKind.i64 0, AV.nils]
                                            4 false false (some 39)),
                                        Slot.blk (Blk.mk (List.map vi o) 1 false false none),
                                        Slot.blk
                                          (Blk.mk
                                            [AV.int IntKind.i64 steps, AV.int IntKind.i64 0, AV.int IntKind.i64 0,
                                              AV.rs 1 0 (List.length o) (List.length o) none]
                                            4 false false (some 39)),
                                        Slot.blk
                                          (Blk.mk (splice (List.map AV.bool b) (0 + Int.toNat now * 1) [AV.bool true]) 1
                                            false false none),
                                        Slot.blk
                                          (Blk.mk [AV.int IntKind.i64 kd, AV.int IntKind.i64 at_] 2 false false
                                            (some 73))])) ∧
                        (decide (many < s) = false →
                          K AExit.normal
                            (few
                              [(0, AV.ds hd (eA p) (List.length p)), (1, AV.int IntKind.i64 n),
                                (2, AV.int IntKind.i64 s), (6, AV.ra 0 0 4), (7, AV.ra 2 0 4),
                                (8, AV.rs 3 0 (List.length b) (List.length b) none), (9, AV.int IntKind.i64 many),
                                (10, AV.int IntKind.i64 now), (11, AV.int IntKind.i64 due), (12, AV.int IntKind.i64 i),
                                (15, AV.bool (decide (many < s)))])
                            (mm
                              [Slot.blk
                                  (Blk.mk [AV.int IntKind.i64 0, AV.int IntKind.i64 0, AV.int IntKind.i64 0, AV.nils] 4
                                    false false (some 39)),
                                Slot.blk (Blk.mk (List.map vi o) 1 false false none),
                                Slot.blk
                                  (Blk.mk
                                    [AV.int IntKind.i64 steps, AV.int IntKind.i64 0, AV.int IntKind.i64 0,
                                      AV.rs 1 0 (List.length o) (List.length o) none]
                                    4 false false (some 39)),
                                Slot.blk (Blk.mk (List.map AV.bool b) 1 false false none),
                                Slot.blk
                                  (Blk.mk [AV.int IntKind.i64 kd, AV.int IntKind.i64 at_] 2 false false (some 73))]))) ∧
                    ((!getB (List.getD (List.map AV.bool b) (0 + Int.toNat now * 1) AV.junk)) = false →
                      K AExit.normal
                        (few
                          [(0, AV.ds hd (eA p) (List.length p)), (1, AV.int IntKind.i64 n), (2, AV.int IntKind.i64 s),
                            (6, AV.ra 0 0 4), (7, AV.ra 2 0 4), (8, AV.rs 3 0 (List.length b) (List.length b) none),
                            (9, AV.int IntKind.i64 many), (10, AV.int IntKind.i64 now), (11, AV.int IntKind.i64 due),
                            (12, AV.int IntKind.i64 i), (15, AV.bool false)])
                        (mm
                          [Slot.blk
                              (Blk.mk [AV.int IntKind.i64 0, AV.int IntKind.i64 0, AV.int IntKind.i64 0, AV.nils] 4
                                false false (some 39)),
                            Slot.blk (Blk.mk (List.map vi o) 1 false false none),
                            Slot.blk
                              (Blk.mk
                                [AV.int IntKind.i64 steps, AV.int IntKind.i64 0, AV.int IntKind.i64 0,
                                  AV.rs 1 0 (List.length o) (List.length o) none]
                                4 false false (some 39)),
                            Slot.blk (Blk.mk (List.map AV.bool b) 1 false false none),
                            Slot.blk
                              (Blk.mk [AV.int IntKind.i64 kd, AV.int IntKind.i64 at_] 2 false false (some 73))]))) ∧
      (x = false →
        K AExit.normal
          (few
            [(0, AV.ds hd (eA p) (List.length p)), (1, AV.int IntKind.i64 n), (2, AV.int IntKind.i64 s),
              (6, AV.ra 0 0 4), (7, AV.ra 2 0 4), (8, AV.rs 3 0 (List.length b) (List.length b) none),
              (9, AV.int IntKind.i64 many), (10, AV.int IntKind.i64 now), (11, AV.int IntKind.i64 due),
              (12, AV.int IntKind.i64 i), (15, AV.bool false)])
          (mm
            [Slot.blk
                (Blk.mk [AV.int IntKind.i64 0, AV.int IntKind.i64 0, AV.int IntKind.i64 0, AV.nils] 4 false false
                  (some 39)),
              Slot.blk (Blk.mk (List.map vi o) 1 false false none),
              Slot.blk
                (Blk.mk
                  [AV.int IntKind.i64 steps, AV.int IntKind.i64 0, AV.int IntKind.i64 0,
                    AV.rs 1 0 (List.length o) (List.length o) none]
                  4 false false (some 39)),
              Slot.blk (Blk.mk (List.map AV.bool b) 1 false false none),
              Slot.blk (Blk.mk [AV.int IntKind.i64 kd, AV.int IntKind.i64 at_] 2 false false (some 73))]))) ∧
  ((kd == 1) = false →
    ((kd == 2) = true →
        (x = true →
            K AExit.normal
              (few
                [(0, AV.ds hd (eA p) (List.length p)), (1, AV.int IntKind.i64 n), (2, AV.int IntKind.i64 s),
                  (6, AV.ra 0 0 4), (7, AV.ra 2 0 4), (8, AV.rs 3 0 (List.length b) (List.length b) none),
                  (9, AV.int IntKind.i64 many), (10, AV.int IntKind.i64 at_), (11, AV.int IntKind.i64 due),
                  (12, AV.int IntKind.i64 i), (15, AV.bool x)])
              (mm
                [Slot.blk
                    (Blk.mk [AV.int IntKind.i64 0, AV.int IntKind.i64 0, AV.int IntKind.i64 0, AV.nils] 4 false false
                      (some 39)),
                  Slot.blk (Blk.mk (List.map vi o) 1 false false none),
                  Slot.blk
                    (Blk.mk
                      [AV.int IntKind.i64 steps, AV.int IntKind.i64 0, AV.int IntKind.i64 0,
                        AV.rs 1 0 (List.length o) (List.length o) none]
                      4 false false (some 39)),
                  Slot.blk (Blk.mk (List.map AV.bool b) 1 false false none),
                  Slot.blk (Blk.mk [AV.int IntKind.i64 kd, AV.int IntKind.i64 at_] 2 false false (some 73))])) ∧
          (x = false →
            K AExit.normal
              (few
                [(0, AV.ds hd (eA p) (List.length p)), (1, AV.int IntKind.i64 n), (2, AV.int IntKind.i64 s),
                  (6, AV.ra 0 0 4), (7, AV.ra 2 0 4), (8, AV.rs 3 0 (List.length b) (List.length b) none),
                  (9, AV.int IntKind.i64 many), (10, AV.int IntKind.i64 now), (11, AV.int IntKind.i64 due),
                  (12, AV.int IntKind.i64 i), (15, AV.bool x)])
              (mm
                [Slot.blk
                    (Blk.mk [AV.int IntKind.i64 0, AV.int IntKind.i64 0, AV.int IntKind.i64 0, AV.nils] 4 false false
                      (some 39)),
                  Slot.blk (Blk.mk (List.map vi o) 1 false false none),
                  Slot.blk
                    (Blk.mk
                      [AV.int IntKind.i64 steps, AV.int IntKind.i64 0, AV.int IntKind.i64 0,
                        AV.rs 1 0 (List.length o) (List.length o) none]
                      4 false false (some 39)),
                  Slot.blk (Blk.mk (List.map AV.bool b) 1 false false none),
                  Slot.blk (Blk.mk [AV.int IntKind.i64 kd, AV.int IntKind.i64 at_] 2 false false (some 73))]))) ∧
      ((kd == 2) = false →
        ((kd == 3) = true →
            (x = true →
                0 ≤ at_ ∧
                  at_ + 1 ≤ (↑(List.length b) : Int) ∧
                    List.length (List.map AV.bool b) = List.length b ∧
                      0 + Int.toNat at_ * 1 + 1 ≤ List.length b ∧
                        K AExit.normal
                          (few
                            [(0, AV.ds hd (eA p) (List.length p)), (1, AV.int IntKind.i64 n), (2, AV.int IntKind.i64 s),
                              (6, AV.ra 0 0 4), (7, AV.ra 2 0 4), (8, AV.rs 3 0 (List.length b) (List.length b) none),
                              (9, AV.int IntKind.i64 (IntKind.wrap IntKind.i64 (many - 1))),
                              (10, AV.int IntKind.i64 now), (11, AV.int IntKind.i64 due), (12, AV.int IntKind.i64 i),
                              (15, AV.bool x)])
                          (mm
                            [Slot.blk
                                (Blk.mk [AV.int IntKind.i64 0, AV.int IntKind.i64 0, AV.int IntKind.i64 0, AV.nils] 4
                                  false false (some 39)),
                              Slot.blk (Blk.mk (List.map vi o) 1 false false none),
                              Slot.blk
                                (Blk.mk
                                  [AV.int IntKind.i64 steps, AV.int IntKind.i64 0, AV.int IntKind.i64 0,
                                    AV.rs 1 0 (List.length o) (List.length o) none]
                                  4 false false (some 39)),
                              Slot.blk
                                (Blk.mk (splice (List.map AV.bool b) (0 + Int.toNat at_ * 1) [AV.bool false]) 1 false
                                  false none),
                              Slot.blk
                                (Blk.mk [AV.int IntKind.i64 kd, AV.int IntKind.i64 at_] 2 false false (some 73))])) ∧
              (x = false →
                K AExit.normal
                  (few
                    [(0, AV.ds hd (eA p) (List.length p)), (1, AV.int IntKind.i64 n), (2, AV.int IntKind.i64 s),
                      (6, AV.ra 0 0 4), (7, AV.ra 2 0 4), (8, AV.rs 3 0 (List.length b) (List.length b) none),
                      (9, AV.int IntKind.i64 many), (10, AV.int IntKind.i64 now), (11, AV.int IntKind.i64 due),
                      (12, AV.int IntKind.i64 i), (15, AV.bool x)])
                  (mm
                    [Slot.blk
                        (Blk.mk [AV.int IntKind.i64 0, AV.int IntKind.i64 0, AV.int IntKind.i64 0, AV.nils] 4 false
                          false (some 39)),
                      Slot.blk (Blk.mk (List.map vi o) 1 false false none),
                      Slot.blk
                        (Blk.mk
                          [AV.int IntKind.i64 steps, AV.int IntKind.i64 0, AV.int IntKind.i64 0,
                            AV.rs 1 0 (List.length o) (List.length o) none]
                          4 false false (some 39)),
                      Slot.blk (Blk.mk (List.map AV.bool b) 1 false false none),
                      Slot.blk (Blk.mk [AV.int IntKind.i64 kd, AV.int IntKind.i64 at_] 2 false false (some 73))]))) ∧
          ((kd == 3) = false →
            ((kd == 4) = true →
                (x = true →
                    (decide (now < n) = true →
                        0 ≤ now ∧
                          now + 1 ≤ (↑(List.length o) : Int) ∧
                            List.length (List.map vi o) = List.length o ∧
                              0 + Int.toNat now * 1 + 1 ≤ List.length (List.map vi o) ∧
                                List.getD (List.map vi o) (0 + Int.toNat now * 1) AV.junk =
                                    AV.int IntKind.i64
                                      (getI (List.getD (List.map vi o) (0 + Int.toNat now * 1) AV.junk)) ∧
                                  0 ≤ now ∧
                                    now + 1 ≤ (↑(List.length o) : Int) ∧
                                      List.length (List.map vi o) = List.length o ∧
                                        0 + Int.toNat now * 1 + 1 ≤ List.length o ∧
                                          K AExit.normal
                                            (few
                                              [(0, AV.ds hd (eA p) (List.length p)), (1, AV.int IntKind.i64 n),
                                                (2, AV.int IntKind.i64 s), (6, AV.ra 0 0 4), (7, AV.ra 2 0 4),
                                                (8, AV.rs 3 0 (List.length b) (List.length b) none),
                                                (9, AV.int IntKind.i64 many),
                                                (10, AV.int IntKind.i64 (IntKind.wrap IntKind.i64 (now + 1))),
                                                (11, AV.int IntKind.i64 due), (12, AV.int IntKind.i64 i),
                                                (15, AV.bool (decide (now < n)))])
                                            (mm
                                              [Slot.blk
                                                  (Blk.mk
                                                    [AV.int IntKind.i64 0, AV.int IntKind.i64 0, AV.int IntKind.i64 0,
                                                      AV.nils]
                                                    4 false false (some 39)),
                                                Slot.blk
                                                  (Blk.mk
                                                    (splice (List.map vi o) (0 + Int.toNat now * 1)
                                                      [AV.int IntKind.i64
                                                          (IntKind.wrap IntKind.i64
                                                            (getI
                                                                (List.getD (List.map vi o) (0 + Int.toNat now * 1)
                                                                  AV.junk) +
                                                              1))])
                                                    1 false false none),
                                                Slot.blk
                                                  (Blk.mk
                                                    [AV.int IntKind.i64 (IntKind.wrap IntKind.i64 (steps + 1)),
                                                      AV.int IntKind.i64 0, AV.int IntKind.i64 0,
                                                      AV.rs 1 0 (List.length o) (List.length o) none]
                                                    4 false false (some 39)),
                                                Slot.blk (Blk.mk (List.map AV.bool b) 1 false false none),
                                                Slot.blk
                                                  (Blk.mk [AV.int IntKind.i64 kd, AV.int IntKind.i64 at_] 2 false false
                                                    (some 73))])) ∧
                      (decide (now < n) = false →
                        K AExit.normal
                          (few
                            [(0, AV.ds hd (eA p) (List.length p)), (1, AV.int IntKind.i64 n), (2, AV.int IntKind.i64 s),
                              (6, AV.ra 0 0 4), (7, AV.ra 2 0 4), (8, AV.rs 3 0 (List.length b) (List.length b) none),
                              (9, AV.int IntKind.i64 many), (10, AV.int IntKind.i64 now), (11, AV.int IntKind.i64 due),
                              (12, AV.int IntKind.i64 i), (15, AV.bool (decide (now < n)))])
                          (mm
                            [Slot.blk
                                (Blk.mk [AV.int IntKind.i64 0, AV.int IntKind.i64 0, AV.int IntKind.i64 0, AV.nils] 4
                                  false false (some 39)),
                              Slot.blk (Blk.mk (List.map vi o) 1 false false none),
                              Slot.blk
                                (Blk.mk
                                  [AV.int IntKind.i64 steps, AV.int IntKind.i64 0, AV.int IntKind.i64 0,
                                    AV.rs 1 0 (List.length o) (List.length o) none]
                                  4 false false (some 39)),
                              Slot.blk (Blk.mk (List.map AV.bool b) 1 false false none),
                              Slot.blk
                                (Blk.mk [AV.int IntKind.i64 kd, AV.int IntKind.i64 at_] 2 false false (some 73))]))) ∧
                  (x = false →
                    K AExit.normal
                      (few
                        [(0, AV.ds hd (eA p) (List.length p)), (1, AV.int IntKind.i64 n), (2, AV.int IntKind.i64 s),
                          (6, AV.ra 0 0 4), (7, AV.ra 2 0 4), (8, AV.rs 3 0 (List.length b) (List.length b) none),
                          (9, AV.int IntKind.i64 many), (10, AV.int IntKind.i64 now), (11, AV.int IntKind.i64 due),
                          (12, AV.int IntKind.i64 i), (15, AV.bool false)])
                      (mm
                        [Slot.blk
                            (Blk.mk [AV.int IntKind.i64 0, AV.int IntKind.i64 0, AV.int IntKind.i64 0, AV.nils] 4 false
                              false (some 39)),
                          Slot.blk (Blk.mk (List.map vi o) 1 false false none),
                          Slot.blk
                            (Blk.mk
                              [AV.int IntKind.i64 steps, AV.int IntKind.i64 0, AV.int IntKind.i64 0,
                                AV.rs 1 0 (List.length o) (List.length o) none]
                              4 false false (some 39)),
                          Slot.blk (Blk.mk (List.map AV.bool b) 1 false false none),
                          Slot.blk
                            (Blk.mk [AV.int IntKind.i64 kd, AV.int IntKind.i64 at_] 2 false false (some 73))]))) ∧
              ((kd == 4) = false →
                ((kd == 5) = true →
                    (x = true →
                        (decide (due > 0) = true →
                            ((now == IntKind.wrap IntKind.i64 (due - 1)) = true →
                                K AExit.normal
                                  (few
                                    [(0, AV.ds hd (eA p) (List.length p)), (1, AV.int IntKind.i64 n),
                                      (2, AV.int IntKind.i64 s), (6, AV.ra 0 0 4), (7, AV.ra 2 0 4),
                                      (8, AV.rs 3 0 (List.length b) (List.length b) none), (9, AV.int IntKind.i64 many),
                                      (10, AV.int IntKind.i64 now),
                                      (11, AV.int IntKind.i64 (IntKind.wrap IntKind.i64 (due - 1))),
                                      (12, AV.int IntKind.i64 i),
                                      (15, AV.bool (now == IntKind.wrap IntKind.i64 (due - 1)))])
                                  (mm
                                    [Slot.blk
                                        (Blk.mk
                                          [AV.int IntKind.i64 0, AV.int IntKind.i64 0, AV.int IntKind.i64 0, AV.nils] 4
                                          false false (some 39)),
                                      Slot.blk (Blk.mk (List.map vi o) 1 false false none),
                                      Slot.blk
                                        (Blk.mk
                                          [AV.int IntKind.i64 steps, AV.int IntKind.i64 0, AV.int IntKind.i64 0,
                                            AV.rs 1 0 (List.length o) (List.length o) none]
                                          4 false false (some 39)),
                                      Slot.blk (Blk.mk (List.map AV.bool b) 1 false false none),
                                      Slot.blk
                                        (Blk.mk [AV.int IntKind.i64 kd, AV.int IntKind.i64 at_] 2 false false
                                          (some 73))])) ∧
                              ((now == IntKind.wrap IntKind.i64 (due - 1)) = false →
                                K AExit.normal
                                  (few
                                    [(0, AV.ds hd (eA p) (List.length p)), (1, AV.int IntKind.i64 n),
                                      (2, AV.int IntKind.i64 s), (6, AV.ra 0 0 4), (7, AV.ra 2 0 4),
                                      (8, AV.rs 3 0 (List.length b) (List.length b) none), (9, AV.int IntKind.i64 many),
                                      (10, AV.int IntKind.i64 now), (11, AV.int IntKind.i64 due),
                                      (12, AV.int IntKind.i64 i),
                                      (15, AV.bool (now == IntKind.wrap IntKind.i64 (due - 1)))])
                                  (mm
                                    [Slot.blk
                                        (Blk.mk
                                          [AV.int IntKind.i64 0, AV.int IntKind.i64 0, AV.int IntKind.i64 0, AV.nils] 4
                                          false false (some 39)),
                                      Slot.blk (Blk.mk (List.map vi o) 1 false false none),
                                      Slot.blk
                                        (Blk.mk
                                          [AV.int IntKind.i64 steps, AV.int IntKind.i64 0, AV.int IntKind.i64 0,
                                            AV.rs 1 0 (List.length o) (List.length o) none]
                                          4 false false (some 39)),
                                      Slot.blk (Blk.mk (List.map AV.bool b) 1 false false none),
                                      Slot.blk
                                        (Blk.mk [AV.int IntKind.i64 kd, AV.int IntKind.i64 at_] 2 false false
                                          (some 73))]))) ∧
                          (decide (due > 0) = false →
                            K AExit.normal
                              (few
                                [(0, AV.ds hd (eA p) (List.length p)), (1, AV.int IntKind.i64 n),
                                  (2, AV.int IntKind.i64 s), (6, AV.ra 0 0 4), (7, AV.ra 2 0 4),
                                  (8, AV.rs 3 0 (List.length b) (List.length b) none), (9, AV.int IntKind.i64 many),
                                  (10, AV.int IntKind.i64 now), (11, AV.int IntKind.i64 due),
                                  (12, AV.int IntKind.i64 i), (15, AV.bool false)])
                              (mm
                                [Slot.blk
                                    (Blk.mk [AV.int IntKind.i64 0, AV.int IntKind.i64 0, AV.int IntKind.i64 0, AV.nils]
                                      4 false false (some 39)),
                                  Slot.blk (Blk.mk (List.map vi o) 1 false false none),
                                  Slot.blk
                                    (Blk.mk
                                      [AV.int IntKind.i64 steps, AV.int IntKind.i64 0, AV.int IntKind.i64 0,
                                        AV.rs 1 0 (List.length o) (List.length o) none]
                                      4 false false (some 39)),
                                  Slot.blk (Blk.mk (List.map AV.bool b) 1 false false none),
                                  Slot.blk
                                    (Blk.mk [AV.int IntKind.i64 kd, AV.int IntKind.i64 at_] 2 false false
                                      (some 73))]))) ∧
                      (x = false →
                        K AExit.normal
                          (few
                            [(0, AV.ds hd (eA p) (List.length p)), (1, AV.int IntKind.i64 n), (2, AV.int IntKind.i64 s),
                              (6, AV.ra 0 0 4), (7, AV.ra 2 0 4), (8, AV.rs 3 0 (List.length b) (List.length b) none),
                              (9, AV.int IntKind.i64 many), (10, AV.int IntKind.i64 now), (11, AV.int IntKind.i64 due),
                              (12, AV.int IntKind.i64 i), (15, AV.bool false)])
                          (mm
                            [Slot.blk
                                (Blk.mk [AV.int IntKind.i64 0, AV.int IntKind.i64 0, AV.int IntKind.i64 0, AV.nils] 4
                                  false false (some 39)),
                              Slot.blk (Blk.mk (List.map vi o) 1 false false none),
                              Slot.blk
                                (Blk.mk
                                  [AV.int IntKind.i64 steps, AV.int IntKind.i64 0, AV.int IntKind.i64 0,
                                    AV.rs 1 0 (List.length o) (List.length o) none]
                                  4 false false (some 39)),
                              Slot.blk (Blk.mk (List.map AV.bool b) 1 false false none),
                              Slot.blk
                                (Blk.mk [AV.int IntKind.i64 kd, AV.int IntKind.i64 at_] 2 false false (some 73))]))) ∧
                  ((kd == 5) = false →
                    K AExit.normal
                      (few
                        [(0, AV.ds hd (eA p) (List.length p)), (1, AV.int IntKind.i64 n), (2, AV.int IntKind.i64 s),
                          (6, AV.ra 0 0 4), (7, AV.ra 2 0 4), (8, AV.rs 3 0 (List.length b) (List.length b) none),
                          (9, AV.int IntKind.i64 many), (10, AV.int IntKind.i64 now), (11, AV.int IntKind.i64 due),
                          (12, AV.int IntKind.i64 i), (15, AV.bool false)])
                      (mm
                        [Slot.blk
                            (Blk.mk [AV.int IntKind.i64 0, AV.int IntKind.i64 0, AV.int IntKind.i64 0, AV.nils] 4 false
                              false (some 39)),
                          Slot.blk (Blk.mk (List.map vi o) 1 false false none),
                          Slot.blk
                            (Blk.mk
                              [AV.int IntKind.i64 steps, AV.int IntKind.i64 0, AV.int IntKind.i64 0,
                                AV.rs 1 0 (List.length o) (List.length o) none]
                              4 false false (some 39)),
                          Slot.blk (Blk.mk (List.map AV.bool b) 1 false false none),
                          Slot.blk
                            (Blk.mk [AV.int IntKind.i64 kd, AV.int IntKind.i64 at_] 2 false false (some 73))]))))))) := by kernel_rfl
set_option maxRecDepth 100000 in
theorem rcS5_eq (m : Int) (n : Int) (s : Int) (many : Int) (now : Int) (due : Int) (i : Int) (steps : Int) (kd : Int) (at_ : Int) (x : Bool) (hd : SH) (p : List (Int × Int)) (o : List Int) (b : List Bool) (K : AExit → Tr AV → Mem → Prop) : rcS5 m n s many now due i steps kd at_ x hd p o b K (Scr.sp (Scr.fin [6]) (Scr.finR [0, 1, 2, 6, 7, 8, 9, 10, 11, 12] [(0, false), (1, true), (2, false), (3, true)])) = (
    ((!x) = true →
    K AExit.ret (few [(6, AV.ra 0 0 4)])
      (mm
        [Slot.blk
            (Blk.mk [AV.int IntKind.i64 0, AV.int IntKind.i64 i, AV.int IntKind.i64 10, AV.nils] 4 false false
              (some 39)),
          Slot.blk (Blk.mk (List.map vi o) 1 false false none),
          Slot.blk
            (Blk.mk
              [AV.int IntKind.i64 steps, AV.int IntKind.i64 0, AV.int IntKind.i64 0,
                AV.rs 1 0 (List.length o) (List.length o) none]
              4 false false (some 39)),
          Slot.blk (Blk.mk (List.map AV.bool b) 1 false false none),
          Slot.blk (Blk.mk [AV.int IntKind.i64 kd, AV.int IntKind.i64 at_] 2 false false (some 73))])) ∧
  ((!x) = false →
    AV.m1L (List.map vi o) = true ∧
      AV.m1L (List.map AV.bool b) = true ∧
        K AExit.normal
          (few
            [(0, AV.ds hd (eA p) (List.length p)), (1, AV.int IntKind.i64 n), (2, AV.int IntKind.i64 s),
              (6, AV.ra 0 0 4), (7, AV.ra 2 0 4), (8, AV.rs 3 0 (List.length b) (List.length b) none),
              (9, AV.int IntKind.i64 many), (10, AV.int IntKind.i64 now), (11, AV.int IntKind.i64 due),
              (12, AV.int IntKind.i64 i)])
          (mm
            [Slot.blk
                (Blk.mk [AV.int IntKind.i64 0, AV.int IntKind.i64 0, AV.int IntKind.i64 0, AV.nils] 4 false false
                  (some 39)),
              Slot.blk (Blk.mk (List.map vi o) 1 false false none),
              Slot.blk
                (Blk.mk
                  [AV.int IntKind.i64 steps, AV.int IntKind.i64 0, AV.int IntKind.i64 0,
                    AV.rs 1 0 (List.length o) (List.length o) none]
                  4 false false (some 39)),
              Slot.blk (Blk.mk (List.map AV.bool b) 1 false false none)]))) := by kernel_rfl
set_option maxRecDepth 100000 in
theorem rcS6_eq (m : Int) (n : Int) (s : Int) (many : Int) (now : Int) (due : Int) (i : Int) (steps : Int) (hd : SH) (p : List (Int × Int)) (o : List Int) (b : List Bool) (K : AExit → Tr AV → Mem → Prop) : rcS6 m n s many now due i steps hd p o b K (Scr.fin [0, 1, 2, 6, 7, 8, 9, 10, 11, 12]) = (
    K AExit.normal
  (few
    [(0, AV.ds hd (eA p) (List.length p)), (1, AV.int IntKind.i64 n), (2, AV.int IntKind.i64 s), (6, AV.ra 0 0 4),
      (7, AV.ra 2 0 4), (8, AV.rs 3 0 (List.length b) (List.length b) none), (9, AV.int IntKind.i64 many),
      (10, AV.int IntKind.i64 now), (11, AV.int IntKind.i64 due),
      (12, AV.int IntKind.i64 (IntKind.wrap IntKind.i64 (i + 1)))])
  (mm
    [Slot.blk
        (Blk.mk [AV.int IntKind.i64 0, AV.int IntKind.i64 0, AV.int IntKind.i64 0, AV.nils] 4 false false (some 39)),
      Slot.blk (Blk.mk (List.map vi o) 1 false false none),
      Slot.blk
        (Blk.mk
          [AV.int IntKind.i64 steps, AV.int IntKind.i64 0, AV.int IntKind.i64 0,
            AV.rs 1 0 (List.length o) (List.length o) none]
          4 false false (some 39)),
      Slot.blk (Blk.mk (List.map AV.bool b) 1 false false none)])) := by kernel_rfl
set_option maxRecDepth 100000 in
theorem rcG_eq (m : Int) (n : Int) (s : Int) (many : Int) (now : Int) (due : Int) (i : Int) (steps : Int) (hd : SH) (p : List (Int × Int)) (o : List Int) (b : List Bool) (K : AExit → Tr AV → Mem → Prop) : rcG m n s many now due i steps hd p o b K (Scr.sp (Scr.fin [6]) (Scr.fin [6])) = (
    (decide (due > 0) = true →
    K AExit.ret (few [(6, AV.ra 0 0 4)])
      (mm
        [Slot.blk
            (Blk.mk [AV.int IntKind.i64 0, AV.int IntKind.i64 (↑(List.length p) : Int), AV.int IntKind.i64 10, AV.nils]
              4 false false (some 39)),
          Slot.blk (Blk.mk (List.map vi o) 1 false false none),
          Slot.blk
            (Blk.mk
              [AV.int IntKind.i64 steps, AV.int IntKind.i64 0, AV.int IntKind.i64 0,
                AV.rs 1 0 (List.length o) (List.length o) none]
              4 false false (some 39)),
          Slot.blk (Blk.mk (List.map AV.bool b) 1 false false none)])) ∧
  (decide (due > 0) = false →
    K AExit.ret (few [(6, AV.ra 0 0 4)])
      (mm
        [Slot.blk
            (Blk.mk
              [AV.int IntKind.i64 steps, AV.int IntKind.i64 0, AV.int IntKind.i64 0,
                AV.rs 1 0 (List.length o) (List.length o) none]
              4 false false (some 39)),
          Slot.blk (Blk.mk (List.map vi o) 1 false false none),
          Slot.blk
            (Blk.mk
              [AV.int IntKind.i64 steps, AV.int IntKind.i64 0, AV.int IntKind.i64 0,
                AV.rs 1 0 (List.length o) (List.length o) none]
              4 false false (some 39)),
          Slot.blk (Blk.mk (List.map AV.bool b) 1 false false none)]))) := by kernel_rfl
end Go.Proofs.YtpiincgiakkljaaGreatDoor
