/-
  How many ways there are to choose: the rows, one after the other.
-/
import Derived.Test.YtpiincgiakkljaaGreatDoorAl
set_option linter.unusedSimpArgs false
set_option linter.unusedVariables false
namespace Go.Proofs.YtpiincgiakkljaaGreatDoor
open Go

noncomputable def cnd1 : Code → Code | .cond _ a _ => a | _ => .skip
noncomputable def chC : Code := bodyOf Tryz.f8
noncomputable abbrev chN : Nat := Tryz.f8.ntmps
noncomputable def chX : Code := sq2 (sq2 (sq2 chC))
noncomputable def chL : Code := inn (inn (sq2 (sq1 chX)))
noncomputable def chZ : Code := sq2 chX
noncomputable def vN (n : Nat) : AV := vi (Int.ofNat n)

noncomputable def chR0 (m : Int) (a b : Nat) : Res := rg (sq1 chC) chN m (argsTr [vN a, vN b] 0 .e) m0
noncomputable def chR1 (m : Int) (a b : Nat) : Res := rg (sq1 (sq1 (sq2 chC))) chN m (tOf (chR0 m a b)) (mOf (chR0 m a b))
noncomputable def chR3 (m : Int) (a b : Nat) : Res := rg (sq1 (sq2 (sq2 chC))) chN m (tOf (chR1 m a b)) (mOf (chR1 m a b))
noncomputable def chR4 (m : Int) (a b : Nat) : Res := rg (sq1 (sq1 chX)) chN m (tOf (chR3 m a b)) (mOf (chR3 m a b))
/-- A round's test, and the round. -/
noncomputable def chT (m : Int) (r : Res) : Res := rg (sq1 (sq1 chL)) chN m (tOf r) (mOf r)
noncomputable def chU (m : Int) (r : Res) : Res := rg (sq2 chL) chN m (Tr.set (path 19) (tOf (chT m r)) (.bool true)) (mOf (chT m r))
noncomputable def chS (m : Int) (a b : Nat) (i : Nat) : Res := Nat.rec (motive := fun _ => Res) (chR4 m a b) (fun _ r => chU m r) i

def chRow : Nat → List Int
  | 0 => [1]
  | n + 1 => 1 :: (List.zipWith (· + ·) (chRow n) ((chRow n).drop 1) ++ [1])

/-- The row so far. -/
noncomputable def chH (i : Nat) (r : Res) : Bool := match (tOf r).tf 5 with
  | .rs id off len tot _ => Nat.beq off 0 && (Nat.beq len (i + 1) && (match (mOf r).h.hf id with
    | .blk k => Nat.beq k.cells.length tot && AV.eqBL (k.cells.take (i + 1)) ((chRow i).map vi)
    | _ => false))
  | _ => false
noncomputable def chB (m : Int) (a b i : Nat) : Bool := isNorm (chS m a b i) && (isNorm (chT m (chS m a b i)) && (AV.eqB ((tOf (chS m a b i)).tf 6) (vN i) && bi (Nat.beq i 0) true (chH i (chT m (chS m a b i)))))

set_option maxRecDepth 1000000
theorem chcode : chC = .seq (sq1 chC) (.seq (.seq (sq1 (sq1 (sq2 chC))) (sq2 (sq1 (sq2 chC)))) (.seq (sq1 (sq2 (sq2 chC))) (.seq (.seq (sq1 (sq1 chX)) (.block 0 (.loop chL))) chZ))) := by kernel_rfl
theorem chloop : chL = .seq (.seq (sq1 (sq1 chL)) (.cond (.tmp 19) .skip (.exit 0))) (sq2 chL) := by kernel_rfl
theorem chbody : Tryz.f8.body = some chC := by kernel_rfl
theorem chres : Tryz.f8.results.toList = [.tmp 4] := by kernel_rfl
theorem chn0 (m : Int) (a b : Nat) : isNorm (chR0 m a b) = true := by kernel_rfl
theorem chn1 (m : Int) (a b : Nat) : isNorm (chR1 m a b) = true := by kernel_rfl
theorem chn3 (m : Int) (a b : Nat) : isNorm (chR3 m a b) = true := by kernel_rfl
theorem chn4 (m : Int) (a b : Nat) : isNorm (chR4 m a b) = true := by kernel_rfl
def nats : Nat → List Nat
  | 0 => []
  | n + 1 => nats n ++ [n]
theorem mem_nats : ∀ {n x : Nat}, x < n → x ∈ nats n
  | 0, x, h => by omega
  | n + 1, x, h => by
    rw [nats, List.mem_append]
    by_cases hx : x < n
    · exact .inl (mem_nats hx)
    · right
      rw [List.mem_singleton]
      omega
theorem chb_all (m : Int) (a b : Nat) : (nats 41).all (chB m a b) = true := by kernel_rfl
theorem cht15 (m : Int) (a b : Nat) : (tOf (chR1 m a b)).tf 15 = .bool (bi (Nat.ble b a) false true) := by kernel_rfl
theorem chcond : sq2 (sq1 (sq2 chC)) = .cond (.tmp 15) (cnd1 (sq2 (sq1 (sq2 chC)))) .skip := by kernel_rfl
theorem chtail : chZ = .seq (sq1 chZ) .ret := by kernel_rfl
theorem cht1 (m : Int) (a b : Nat) : (nats 41).map (fun i => (tOf (chT m (chS m a b i))).tf 1) = (nats 41).map (fun _ => vN b) := by kernel_rfl
theorem cht19 (m : Int) (a b : Nat) : (nats 41).map (fun i => (tOf (chT m (chS m a b i))).tf 19) = (nats 41).map (fun i => .bool (bi (Nat.ble a i) false true)) := by kernel_rfl
end Go.Proofs.YtpiincgiakkljaaGreatDoor
