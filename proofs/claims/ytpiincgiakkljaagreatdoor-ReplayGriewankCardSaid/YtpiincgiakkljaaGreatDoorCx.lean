/-
  How many ways there are to choose: the function's contract.
-/
import Derived.Test.YtpiincgiakkljaaGreatDoorCh
set_option linter.unusedSimpArgs false
set_option linter.unusedVariables false
namespace Go.Proofs.YtpiincgiakkljaaGreatDoor
open Go

section
variable {P : Program} {h : Heap}
theorem load_cell {t : TypeId} {n i off tot : Nat} {k : Blk} {v : AV} (h1 : aggT P t = some false) (h2 : sizeT P t = some n) (hk : h i = .blk k) (ht : k.cells.length = tot) (hv : k.cells[off]? = some v) : loadA P h t (.ra i off tot) = some { val := v, fp := [i] } := by
  have hlt : off < k.cells.length := by
    rcases Nat.lt_or_ge off k.cells.length with h | h
    · exact h
    · simp [List.getElem?_eq_none h] at hv
  have hd : k.cells.drop off = v :: k.cells.drop (off + 1) := by
    rw [List.getElem?_eq_getElem hlt] at hv
    rw [List.drop_eq_getElem_cons hlt, Option.some.inj hv]
  simp only [loadA, h1, h2, behind, hk, ht, if_true, hd]
  simp [packA]
end

noncomputable def zOps : Array Oper := match sq1 chZ with | .region _ ops _ => ops | _ => #[]
noncomputable def zId : Nat := match sq1 chZ with | .region i _ _ => i | _ => 0
noncomputable def zE (id len tot : Nat) (cap : Option Nat) (b : Nat) (v : AV) : Nat → Eff
  | 0 => { val := .rs id 0 len tot cap }
  | 1 => { val := vN b }
  | 2 => { val := .ra id (0 + b * 1) tot, obl := [(0, Int.ofNat b), (Int.ofNat b + 1, Int.ofNat len)] }
  | 3 => { val := v, fp := [id] }
  | _ => { val := v }

theorem zcode : sq1 chZ = .region zId zOps false := by kernel_rfl
theorem zsize : zOps.size = 5 := by kernel_rfl

theorem ch_end {m : Int} {c : Ctx} {s : St} {id len tot b : Nat} {cap : Option Nat} {k : Blk} {v : AV} (h5 : s.t 5 = .rs id 0 len tot cap) (h1 : s.t 1 = vN b) (hb : b < len) (hk : s.h id = .blk k) (ht : k.cells.length = tot)
    (hv : k.cells[b]? = some v) {Q : Post} (hQ : ∀ s', s'.t 4 = v → s'.h = s.h → Q .normal s') : AWP prog (gl m) chN c (sq1 chZ) s Q := by
  rw [zcode]
  refine awp_region_text (es := zE id len tot cap b v) (fun i o ho => ?_) (hQ _ (by kernel_rfl) (by kernel_rfl))
  have hi : i < 5 := by
    rw [← zsize]
    rcases Nat.lt_or_ge i zOps.size with h | h
    · exact h
    · rw [Array.getElem?_eq_none h] at ho; cases ho
  rcases i with _ | _ | _ | _ | _ | i
  · obtain rfl : o = zOps[0]'(by rw [zsize]; omega) := by rw [Array.getElem?_eq_getElem (by rw [zsize]; omega)] at ho; exact (Option.some.inj ho).symm
    refine lstep_prim (nid := 0) (ch := 0) (by kernel_rfl) (by kernel_rfl) ?_ (fun p hp => by cases hp)
    show _ = some ({ val := .rs id 0 len tot cap } : Eff)
    rw [← h5]
    kernel_rfl
  · obtain rfl : o = zOps[1]'(by rw [zsize]; omega) := by rw [Array.getElem?_eq_getElem (by rw [zsize]; omega)] at ho; exact (Option.some.inj ho).symm
    refine lstep_prim (nid := 0) (ch := 0) (by kernel_rfl) (by kernel_rfl) ?_ (fun p hp => by cases hp)
    show _ = some ({ val := vN b } : Eff)
    rw [← h1]
    kernel_rfl
  · obtain rfl : o = zOps[2]'(by rw [zsize]; omega) := by rw [Array.getElem?_eq_getElem (by rw [zsize]; omega)] at ho; exact (Option.some.inj ho).symm
    refine lstep_prim (nid := 0) (ch := 0) (by kernel_rfl) (by kernel_rfl) (by kernel_rfl) (fun p hp => ?_)
    have hp' : p = (0, Int.ofNat b) ∨ p = (Int.ofNat b + 1, Int.ofNat len) := by simpa [zE] using hp
    rcases hp' with rfl | rfl
    · exact Int.natCast_nonneg b
    · show (b : Int) + 1 ≤ (len : Int)
      omega
  · obtain rfl : o = zOps[3]'(by rw [zsize]; omega) := by rw [Array.getElem?_eq_getElem (by rw [zsize]; omega)] at ho; exact (Option.some.inj ho).symm
    refine lstep_prim (nid := 0) (ch := 0) (by kernel_rfl) (by kernel_rfl) ?_ (fun p hp => by cases hp)
    show _ = some ({ val := v, fp := [id] } : Eff)
    rw [← load_cell (P := prog) (h := s.h) (t := 3) (n := 1) (off := 0 + b * 1) (tot := tot) (by kernel_rfl) (by kernel_rfl) hk ht (by rw [Nat.zero_add, Nat.mul_one]; exact hv)]
    kernel_rfl
  · obtain rfl : o = zOps[4]'(by rw [zsize]; omega) := by rw [Array.getElem?_eq_getElem (by rw [zsize]; omega)] at ho; exact (Option.some.inj ho).symm
    exact lstep_prim (nid := 0) (ch := 0) (by kernel_rfl) (by kernel_rfl) (by kernel_rfl) (fun p hp => by cases hp)
  · omega

theorem ups_of {m : Mem} (ok : MemOk m) : ∃ ups, putAll (fun _ => .free) ups = m.h.hf := by
  refine ⟨slotsOf m.h.hf (List.range m.next), ?_⟩
  funext i
  have := slotsOf_put (f := m.h.hf) (l := List.range m.next) (h := fun _ => .free) (fun _ _ _ => rfl) i
  by_cases hi : i ∈ List.range m.next
  · exact this.1 hi
  · rw [this.2 hi]
    exact (ok.top i (by simpa using hi)).symm

theorem nats_map {α : Type} {n i : Nat} {f g : Nat → α} (h : (nats n).map f = (nats n).map g) (hi : i < n) : f i = g i := List.map_inj_left.1 h i (mem_nats hi)

noncomputable def chooseT (a b : Nat) : Int := (chRow a).getD b 0

theorem chRow_len (n : Nat) : (chRow n).length = n + 1 := by
  induction n with
  | zero => rfl
  | succ n ih =>
    show (1 :: (List.zipWith (· + ·) (chRow n) ((chRow n).drop 1) ++ [1])).length = _
    rw [List.length_cons, List.length_append, List.length_zipWith, List.length_drop, ih]
    simp

theorem args_tr (l : List AV) : (fun k => l.getD k .junk) = (argsTr l 0 .e).tf := by
  funext k
  rw [argsTr_tf]
  by_cases h : 0 ≤ k ∧ k < 0 + l.length
  · rw [if_pos h]
    rfl
  · rw [if_neg h]
    have e : (Tr.e : Tr AV).tf k = .junk := by
      show Option.rec AV.junk (fun a => a) ((Tr.e : Tr AV).get (path k)) = AV.junk
      rw [Tr.get_e]
    rw [e, List.getD_eq_getElem?_getD, List.getElem?_eq_none (by omega)]
    rfl

theorem chS_succ (m : Int) (a b i : Nat) : chS m a b (i + 1) = chU m (chS m a b i) := rfl
theorem chU_eq (m : Int) (r : Res) : runC prog (gl m) kn3 100000 (codeC prog (gl m) (prog.follows .mixedOrders) chN (sq2 chL)) (Tr.set (path 19) (tOf (chT m r)) (.bool true)) (mOf (chT m r)) = chU m r := rfl

theorem ch_loop (m : Int) (a b : Nat) (ha1 : 1 ≤ a) (ha : a ≤ 40) {c : Ctx} {Q : Post}
    (hQ : ∀ s : St, s.t = (tOf (chT m (chS m a b a))).tf → s.h = (mOf (chT m (chS m a b a))).h.hf → MemOk (mOf (chT m (chS m a b a))) → Q (.exit 0) s) :
    ∀ (d i : Nat), i + d = a → ∀ s : St, s.t = (tOf (chS m a b i)).tf → s.h = (mOf (chS m a b i)).h.hf → MemOk (mOf (chS m a b i)) → LoopOk prog (gl m) chN c chL Q (d + 1) s := by
  intro d
  induction d with
  | zero =>
    intro i hi s hs hh ok
    have hia : i = a := by omega
    subst hia
    have hb := List.all_eq_true.1 (chb_all m i b) i (mem_nats (by omega))
    unfold chB at hb
    simp only [Bool.and_eq_true] at hb
    show AWP prog (gl m) chN c chL s _
    rw [chloop]
    refine awp_seq (awp_seq (awp_norm (kn3_ok m) (r := chT m (chS m i b i)) ok (rg_eq _ _ m _ _) hb.2.1 hs hh fun ok1 s1 t1 h1 => ?_))
    refine awp_cond (b := false) ?_ (fun h => by cases h) fun _ => awp_exit ?_
    · show s1.t 19 = _
      rw [t1, nats_map (cht19 m i b) (by omega : i < 41)]
      have : Nat.ble i i = true := Nat.ble_eq_true_of_le (Nat.le_refl _)
      rw [this]
      rfl
    · exact hQ s1 t1 h1 ok1
  | succ d ih =>
    intro i hi s hs hh ok
    have hb := List.all_eq_true.1 (chb_all m a b) i (mem_nats (by omega))
    have hb' := List.all_eq_true.1 (chb_all m a b) (i + 1) (mem_nats (by omega))
    unfold chB at hb hb'
    simp only [Bool.and_eq_true] at hb hb'
    have e19 : (tOf (chT m (chS m a b i))).tf 19 = .bool true := by
      rw [nats_map (cht19 m a b) (by omega : i < 41)]
      have : Nat.ble a i = false := by
        cases h : Nat.ble a i with
        | false => rfl
        | true => have := Nat.le_of_ble_eq_true h; omega
      rw [this]
      rfl
    show AWP prog (gl m) chN c chL s _
    rw [chloop]
    refine awp_seq (awp_seq (awp_norm (kn3_ok m) (r := chT m (chS m a b i)) ok (rg_eq _ _ m _ _) hb.2.1 hs hh fun ok1 s1 t1 h1 => ?_))
    refine awp_cond (b := true) ?_ (fun _ => awp_skip ?_) fun h => by cases h
    · show s1.t 19 = _
      rw [t1, e19]
    · refine awp_norm (kn3_ok m) (r := chS m a b (i + 1)) (t := Tr.set (path 19) (tOf (chT m (chS m a b i))) (.bool true)) ok1 ((chU_eq m _).trans (chS_succ m a b i).symm) hb'.1 ?_ h1 fun ok2 s2 t2 h2 => ?_
      · rw [tf_set, t1]
        funext k
        unfold upd
        split
        · rename_i e; rw [e, e19]
        · rfl
      · exact ih (i + 1) (by omega) s2 t2 h2 ok2

theorem choose_hasL (m : Int) (a b : Nat) (ha1 : 1 ≤ a) (ha : a ≤ 40) (hba : b ≤ a) : HasL prog (gl m) 8 [vN a, vN b] (vi (chooseT a b)) := by
  have hb := List.all_eq_true.1 (chb_all m a b) a (mem_nats (by omega))
  unfold chB at hb
  simp only [Bool.and_eq_true] at hb
  have hH := hb.2.2.2
  rw [bi_eq, if_neg (by intro h; have := Nat.eq_of_beq_eq_true h; omega)] at hH
  unfold chH at hH
  have e1 := nats_map (cht1 m a b) (by omega : a < 41)
  generalize hr : chT m (chS m a b a) = r at hH e1
  split at hH
  · rename_i id off len tot cap e5
    simp only [Bool.and_eq_true] at hH
    obtain ⟨g1, g2, g3⟩ := hH
    have g1 := Nat.eq_of_beq_eq_true g1
    have g2 := Nat.eq_of_beq_eq_true g2
    subst g1 g2
    split at g3
    · rename_i k hk
      rw [Bool.and_eq_true] at g3
      have g4 := Nat.eq_of_beq_eq_true g3.1
      have g5 := AV.eqBL_sound g3.2
      have hv : k.cells[b]? = some (vi (chooseT a b)) := by
        have h1 : (k.cells.take (a + 1))[b]? = k.cells[b]? := by rw [List.getElem?_take]; simp; omega
        have h2 : b < (chRow a).length := by rw [chRow_len]; omega
        rw [← h1, g5, List.getElem?_map, List.getElem?_eq_getElem h2]
        simp [chooseT, List.getD_eq_getElem?_getD, List.getElem?_eq_getElem h2]
      refine hasL_of_has (u := []) (a := vi (chooseT a b)) (ups := slotsOf (mOf r).h.hf (List.range (mOf r).next)) (has_of_awp (next := 0) Tryz.func8 chbody (of_decide_eq_true (by kernel_rfl)) fun c => ?_) rfl
      rw [chcode]
      refine awp_seq (awp_norm (kn3_ok m) (r := chR0 m a b) m0_ok (rg_eq _ _ m _ _) (chn0 m a b) (args_tr _) m0_hf.symm fun ok1 s1 t1 h1 => ?_)
      refine awp_seq (awp_seq (awp_norm (kn3_ok m) (r := chR1 m a b) ok1 (rg_eq _ _ m _ _) (chn1 m a b) t1 h1 fun ok2 s2 t2 h2 => ?_))
      rw [chcond]
      refine awp_cond (b := false) ?_ (fun h => by cases h) fun _ => awp_skip ?_
      · show s2.t 15 = _
        rw [t2, cht15, show Nat.ble b a = true from Nat.ble_eq_true_of_le hba]
        rfl
      refine awp_seq (awp_norm (kn3_ok m) (r := chR3 m a b) ok2 (rg_eq _ _ m _ _) (chn3 m a b) t2 h2 fun ok3 s3 t3 h3 => ?_)
      refine awp_seq (awp_seq (awp_norm (kn3_ok m) (r := chR4 m a b) ok3 (rg_eq _ _ m _ _) (chn4 m a b) t3 h3 fun ok4 s4 t4 h4 => ?_))
      refine awp_block (LoopOk.awp (j := a + 1) (ch_loop m a b ha1 ha ?_ a 0 (by omega) s4 t4 h4 ok4))
      intro s ts hs oks
      rw [hr] at ts hs oks
      show AWP prog (gl m) chN c chZ s _
      rw [chtail]
      refine awp_seq (ch_end (v := vi (chooseT a b)) (ts ▸ e5) (ts ▸ e1) (by omega : b < a + 1) (hs ▸ hk) g4 hv fun s' hv' hh' => awp_ret ?_)
      refine ⟨[vi (chooseT a b)], vi (chooseT a b), [], ?_, .inr ⟨rfl, rfl⟩, rfl, .inl ?_⟩
      · rw [chres, ← hv']
        rfl
      · show s'.h = _
        rw [hh', hs]
        funext i
        have := slotsOf_put (f := (mOf r).h.hf) (l := List.range (mOf r).next) (h := fun _ => .free) (fun _ _ _ => rfl) i
        by_cases hi : i ∈ List.range (mOf r).next
        · exact (this.1 hi).symm
        · rw [this.2 hi]
          exact oks.top i (by simpa using hi)
    · cases g3
  · cases hH
end Go.Proofs.YtpiincgiakkljaaGreatDoor
