/- What functions of the program come to, each with its proof. No condition but what each theorem states. -/
import Derived.Test.YthnmeogafklhnaaX0
import Derived.Test.YthnmeogafklhnaaX11
import Derived.Test.YthnmeogafklhnaaX50
namespace Go.Proofs.Ythnmeogafklhnaa.X
open Go.RowKit Go.Proofs.YthnmeogafklhnaaW.PrintWords Go.Proofs.YthnmeogafklhnaaW.PrintLast Go.Proofs.YthnmeogafklhnaaW.PrintMore Go.Proofs.Ythnmeogafklhnaa.Hyb
attribute [local go_sem] max2_int min2_int max_two min_two max_three min_three max_four min_four
set_option linter.unusedVariables false
set_option linter.unusedSimpArgs false

/-! ### impl_RasRead: function 33 -/
def impl_pixRead.f (l0 : List Int) : Option (Int × Int × Int × Int) := if 0 < (l0.length : Int) then (if 1 < (l0.length : Int) then (if 2 < (l0.length : Int) then (if 3 < (l0.length : Int) then (some (wrap64 (rd l0 0), wrap64 (rd l0 1), wrap64 (rd l0 2), wrap64 (rd l0 3))) else (none)) else (none)) else (none)) else (none)
def impl_pixRead.T1 : Bool × List (List Nat × List Nat) := (true, [([], []), ([0], [0]), ([1], [1]), ([2], [2]), ([], []), ([4], [4]), ([5], [5]), ([6], [6]), ([], []), ([8], [8]), ([9], [9]), ([10], [10]), ([], []), ([12], [12]), ([13], [13]), ([14], [14]), ([3, 7, 11, 15], [3, 7, 11, 15]), ([16, 0, 1, 2, 3, 4, 5, 6, 7, 8, 9, 10, 11, 12, 13, 14, 15, 16], [16])])
def impl_pixRead.B1 : List Nat := [0, 1, 3, 7, 0, 16, 48, 112, 0, 256, 768, 1792, 0, 4096, 12288, 28672, 65535, 131071]
theorem impl_pixRead.tab1 : rtab .any (opsOf Try.f59 1) = impl_pixRead.T1 := by kernel_rfl
theorem impl_pixRead.bits1 : waitsOk impl_pixRead.T1.2 impl_pixRead.B1 = true := by kernel_rfl
set_option maxHeartbeats 8000000 in
set_option maxRecDepth 100000 in
theorem impl_pixRead.calls (A0 : Option Addr) (c0 : Nat) (l0 : List Int) (r1 : Int) (r2 : Int) (r3 : Int) (r4 : Int) (w : World) (hr0 : Kd.C (Kd.int .u8) w A0 l0.length l0) (aZ : l0.length ≤ c0) (h : impl_pixRead.f l0 = some (r1, r2, r3, r4)) :
  Calls Try.prog 59 #[.slice A0 l0.length c0] w fun e w' => e = .returned (.agg #[.int .i64 r1, .int .i64 r2, .int .i64 r3, .int .i64 r4]) ∧ Below w.heap.size w w' := by
 have hu38 := Try.underlying38
 have aT := Aside0.mk hr0
 have bI := Aside0.mk aZ
 clear hr0 aZ
 have HB := Aside0.mk (Below.refl w.heap.size w)
 have H : (if 0 < (l0.length : Int) then (if 1 < (l0.length : Int) then (if 2 < (l0.length : Int) then (if 3 < (l0.length : Int) then (some (wrap64 (rd l0 0), wrap64 (rd l0 1), wrap64 (rd l0 2), wrap64 (rd l0 3))) else (none)) else (none)) else (none)) else (none)) = some (r1, r2, r3, r4) := h
 clear h
 by_cases c2 : 0 < (l0.length : Int)
 ·rw [if_pos c2] at H
  have bA : decide (0 < (l0.length : Int)) = true := decide_eq_true c2
  have bB : decide (0 < l0.length) = true := decide_eq_true (by omega)
  clear c2
  by_cases c3 : 1 < (l0.length : Int)
  ·rw [if_pos c3] at H
   have bC : decide (1 < (l0.length : Int)) = true := decide_eq_true c3
   have bD : decide (1 < l0.length) = true := decide_eq_true (by omega)
   clear c3
   by_cases c4 : 2 < (l0.length : Int)
   ·rw [if_pos c4] at H
    have bE : decide (2 < (l0.length : Int)) = true := decide_eq_true c4
    have bF : decide (2 < l0.length) = true := decide_eq_true (by omega)
    clear c4
    by_cases c5 : 3 < (l0.length : Int)
    ·rw [if_pos c5] at H
     have bG : decide (3 < (l0.length : Int)) = true := decide_eq_true c5
     have bH : decide (3 < l0.length) = true := decide_eq_true (by omega)
     clear c5
     simp only [Option.some.injEq, Prod.mk.injEq] at H
     obtain ⟨rfl, rfl, rfl, rfl⟩ := H
     go_enter Try.func59, Try.ntmps59
     try go_wp2_with (first | ((with_reducible refine gate_dst (N := 2) rfl ?_); refine box_event rfl (N := 2) rfl (cs := #[.int .i64 0, .int .i64 0, .int .i64 0, .int .i64 0]) (t := 38) oS ?_; intro aB hg w6 hbox hb; have n_ := o2_ (below_step (oB HB) hb) (o2_ (hbox) (o2_ ((oG hg (below_size (oB HB)) : w.heap.size ≤ aB)) (o1_ ((oG hg (below_size (oB HB)) : w.heap.size ≤ aB))))); clear HB; obtain ⟨HB, aC, aA, aY⟩ := n_; clear hb hbox hg))
     have n_ := o2_ (blk_drew aC.out) (o1_ (below_drew1 HB.out))
     clear aC HB
     obtain ⟨aC, HB⟩ := n_
     have aI : 0 ≤ (0 : Int) := (by omega)
     have aM : 0 < (l0.length : Int) := of_decide_eq_true oM
     obtain ⟨aH, aU, aD⟩ := Kd.at_int aT.out 0 aI aM
     have hw102_0 := aD
     (try rw [show ((0 : Int)).toNat = 0 from rfl] at hw102_0)
     (try rw [show 0 * 1 = 0 from rfl] at hw102_0)
     (try rw [Addr.add_zero'] at hw102_0)
     cases aU
     have qi102 : (0 < l0.length) = True := eq_true (by omega)
     (try rw [show ((0 : Int)).toNat = 0 from rfl] at aD)
     (try rw [Addr.add_zero'] at aD)
     replace aD := (HB.out.cell (World.block_lt_of_cell? w _ aD)).trans aD
     replace aI := eq_true aI
     replace aM := eq_true aM
     have aJ : 0 ≤ (1 : Int) := (by omega)
     have aN : 1 < (l0.length : Int) := of_decide_eq_true oM
     obtain ⟨aQ, aV, aE⟩ := Kd.at_int aT.out 1 aJ aN
     have hw103_0 := aE
     (try rw [show ((1 : Int)).toNat = 1 from rfl] at hw103_0)
     (try rw [show 1 * 1 = 1 from rfl] at hw103_0)
     (try simp only [Nat.reduceMul, Nat.reduceEqDiff, Go.Addr.add, ↓reduceIte] at hw103_0)
     obtain rfl : aH = aQ := (by injection aV)
     (try simp only [show (1 : Int).toNat = 1 from rfl, Nat.reduceMul, Nat.reduceEqDiff, Go.Addr.add, ↓reduceIte] at aE)
     have qi103 : (1 < l0.length) = True := eq_true (by omega)
     (try rw [show ((1 : Int)).toNat = 1 from rfl] at aE)
     replace aE := (HB.out.cell (World.block_lt_of_cell? w _ aE)).trans aE
     replace aJ := eq_true aJ
     replace aN := eq_true aN
     have aK : 0 ≤ (2 : Int) := (by omega)
     have aO : 2 < (l0.length : Int) := of_decide_eq_true oM
     obtain ⟨aR, aW, aF⟩ := Kd.at_int aT.out 2 aK aO
     have hw104_0 := aF
     (try rw [show ((2 : Int)).toNat = 2 from rfl] at hw104_0)
     (try rw [show 2 * 1 = 2 from rfl] at hw104_0)
     (try simp only [Nat.reduceMul, Nat.reduceEqDiff, Go.Addr.add, ↓reduceIte] at hw104_0)
     obtain rfl : aH = aR := (by injection aW)
     (try simp only [show (2 : Int).toNat = 2 from rfl, Nat.reduceMul, Nat.reduceEqDiff, Go.Addr.add, ↓reduceIte] at aF)
     have qi104 : (2 < l0.length) = True := eq_true (by omega)
     (try rw [show ((2 : Int)).toNat = 2 from rfl] at aF)
     replace aF := (HB.out.cell (World.block_lt_of_cell? w _ aF)).trans aF
     replace aK := eq_true aK
     replace aO := eq_true aO
     have aL : 0 ≤ (3 : Int) := (by omega)
     have aP : 3 < (l0.length : Int) := of_decide_eq_true oM
     obtain ⟨aS, aX, aG⟩ := Kd.at_int aT.out 3 aL aP
     have hw105_0 := aG
     (try rw [show ((3 : Int)).toNat = 3 from rfl] at hw105_0)
     (try rw [show 3 * 1 = 3 from rfl] at hw105_0)
     (try simp only [Nat.reduceMul, Nat.reduceEqDiff, Go.Addr.add, ↓reduceIte] at hw105_0)
     obtain rfl : aH = aS := (by injection aX)
     (try simp only [show (3 : Int).toNat = 3 from rfl, Nat.reduceMul, Nat.reduceEqDiff, Go.Addr.add, ↓reduceIte] at aG)
     have qi105 : (3 < l0.length) = True := eq_true (by omega)
     (try rw [show ((3 : Int)).toNat = 3 from rfl] at aG)
     replace aG := (HB.out.cell (World.block_lt_of_cell? w _ aG)).trans aG
     replace aL := eq_true aL
     replace aP := eq_true aP
     refine start_ (n := 18) (S := fun w' => w'.cell? aH = some (.int .u8 (rd l0 0)) ∧ w'.cell? ⟨aH.block, aH.off + 1, none⟩ = some (.int .u8 (rd l0 1)) ∧ w'.cell? ⟨aH.block, aH.off + 2, none⟩ = some (.int .u8 (rd l0 2)) ∧ w'.cell? ⟨aH.block, aH.off + 3, none⟩ = some (.int .u8 (rd l0 3))) (ds := []) #[false, false, false, false, false, false, false, false, false, false, false, false, false, false, false, false, false, false] oK rfl rfl ⟨((HB.out.cell (World.block_lt_of_cell? w _ hw102_0)).trans hw102_0), ((HB.out.cell (World.block_lt_of_cell? w _ hw103_0)).trans hw103_0), ((HB.out.cell (World.block_lt_of_cell? w _ hw104_0)).trans hw104_0), ((HB.out.cell (World.block_lt_of_cell? w _ hw105_0)).trans hw105_0)⟩ (fun hHeld => ?_); refine with_tabW impl_pixRead.tab1 impl_pixRead.bits1 (fun HT_ HW_ => ?_)
     generalize w6.drew = w7 at aC HB aD aE aF aG hHeld ⊢
     refine pure_ (i := 0) (N := some 3) (v := ?_) (a' := ?_) #[true, false, false, false, false, false, false, false, false, false, false, false, false, false, false, false, false, false] rfl rfl (any_of HT_.out oK) (fun _ _ _ h => h) (Or.inl ⟨by rfl, ?_⟩) ?_ ?_
     rotate_left
     ·intro w'
      go_simp
      with_reducible rfl
     rotate_left
     ·exact oT
     refine pure_ (i := 1) (N := some 4) (v := ?_) (a' := ?_) #[true, true, false, false, false, false, false, false, false, false, false, false, false, false, false, false, false, false] rfl rfl (any_of HT_.out oK) (fun _ _ _ h => h) (Or.inl ⟨by rfl, ?_⟩) ?_ ?_
     rotate_left
     ·intro w'
      go_simp
      with_reducible rfl
     rotate_left
     ·exact oT
     refine pure_ (i := 4) (N := some 7) (v := ?_) (a' := ?_) #[true, true, false, false, true, false, false, false, false, false, false, false, false, false, false, false, false, false] rfl rfl (any_of HT_.out oK) (fun _ _ _ h => h) (Or.inl ⟨by rfl, ?_⟩) ?_ ?_
     rotate_left
     ·intro w'
      go_simp
      with_reducible rfl
     rotate_left
     ·exact oT
     refine pure_ (i := 5) (N := some 8) (v := ?_) (a' := ?_) #[true, true, false, false, true, true, false, false, false, false, false, false, false, false, false, false, false, false] rfl rfl (any_of HT_.out oK) (fun _ _ _ h => h) (Or.inl ⟨by rfl, ?_⟩) ?_ ?_
     rotate_left
     ·intro w'
      go_simp
      with_reducible rfl
     rotate_left
     ·exact oT
     refine pure_ (i := 8) (N := some 11) (v := ?_) (a' := ?_) #[true, true, false, false, true, true, false, false, true, false, false, false, false, false, false, false, false, false] rfl rfl (any_of HT_.out oK) (fun _ _ _ h => h) (Or.inl ⟨by rfl, ?_⟩) ?_ ?_
     rotate_left
     ·intro w'
      go_simp
      with_reducible rfl
     rotate_left
     ·exact oT
     refine pure_ (i := 9) (N := some 12) (v := ?_) (a' := ?_) #[true, true, false, false, true, true, false, false, true, true, false, false, false, false, false, false, false, false] rfl rfl (any_of HT_.out oK) (fun _ _ _ h => h) (Or.inl ⟨by rfl, ?_⟩) ?_ ?_
     rotate_left
     ·intro w'
      go_simp
      with_reducible rfl
     rotate_left
     ·exact oT
     refine pure_ (i := 12) (N := some 15) (v := ?_) (a' := ?_) #[true, true, false, false, true, true, false, false, true, true, false, false, true, false, false, false, false, false] rfl rfl (any_of HT_.out oK) (fun _ _ _ h => h) (Or.inl ⟨by rfl, ?_⟩) ?_ ?_
     rotate_left
     ·intro w'
      go_simp
      with_reducible rfl
     rotate_left
     ·exact oT
     refine pure_ (i := 13) (N := some 16) (v := ?_) (a' := ?_) #[true, true, false, false, true, true, false, false, true, true, false, false, true, true, false, false, false, false] rfl rfl (any_of HT_.out oK) (fun _ _ _ h => h) (Or.inl ⟨by rfl, ?_⟩) ?_ ?_
     rotate_left
     ·intro w'
      go_simp
      with_reducible rfl
     rotate_left
     ·exact oT
     refine take_ (i := 2) (N := some 5) (v := ?_) (a' := ?_) #[true, true, true, false, true, true, false, false, true, true, false, false, true, true, false, false, false, false] rfl rfl (take_ofW HT_.out HW_.out oK) (fun _ _ _ h => h) (Or.inl ⟨by rfl, ?_⟩) hHeld ?_ ?_
     rotate_left
     ·rintro w' ⟨s0, s1, s2, s3⟩
      go_simp
      with_reducible rfl
     rotate_left
     ·exact oT
     refine pure_ (i := 3) (N := some 6) (v := ?_) (a' := ?_) #[true, true, true, true, true, true, false, false, true, true, false, false, true, true, false, false, false, false] rfl rfl (any_of HT_.out oK) (fun _ _ _ h => h) (Or.inl ⟨by rfl, ?_⟩) ?_ ?_
     rotate_left
     ·intro w'
      go_simp
      with_reducible rfl
     rotate_left
     ·exact oT
     refine take_ (i := 6) (N := some 9) (v := ?_) (a' := ?_) #[true, true, true, true, true, true, true, false, true, true, false, false, true, true, false, false, false, false] rfl rfl (take_ofW HT_.out HW_.out oK) (fun _ _ _ h => h) (Or.inl ⟨by rfl, ?_⟩) hHeld ?_ ?_
     rotate_left
     ·rintro w' ⟨s0, s1, s2, s3⟩
      go_simp
      with_reducible rfl
     rotate_left
     ·exact oT
     refine pure_ (i := 7) (N := some 10) (v := ?_) (a' := ?_) #[true, true, true, true, true, true, true, true, true, true, false, false, true, true, false, false, false, false] rfl rfl (any_of HT_.out oK) (fun _ _ _ h => h) (Or.inl ⟨by rfl, ?_⟩) ?_ ?_
     rotate_left
     ·intro w'
      go_simp
      with_reducible rfl
     rotate_left
     ·exact oT
     refine take_ (i := 10) (N := some 13) (v := ?_) (a' := ?_) #[true, true, true, true, true, true, true, true, true, true, true, false, true, true, false, false, false, false] rfl rfl (take_ofW HT_.out HW_.out oK) (fun _ _ _ h => h) (Or.inl ⟨by rfl, ?_⟩) hHeld ?_ ?_
     rotate_left
     ·rintro w' ⟨s0, s1, s2, s3⟩
      go_simp
      with_reducible rfl
     rotate_left
     ·exact oT
     refine pure_ (i := 11) (N := some 14) (v := ?_) (a' := ?_) #[true, true, true, true, true, true, true, true, true, true, true, true, true, true, false, false, false, false] rfl rfl (any_of HT_.out oK) (fun _ _ _ h => h) (Or.inl ⟨by rfl, ?_⟩) ?_ ?_
     rotate_left
     ·intro w'
      go_simp
      with_reducible rfl
     rotate_left
     ·exact oT
     refine take_ (i := 14) (N := some 17) (v := ?_) (a' := ?_) #[true, true, true, true, true, true, true, true, true, true, true, true, true, true, true, false, false, false] rfl rfl (take_ofW HT_.out HW_.out oK) (fun _ _ _ h => h) (Or.inl ⟨by rfl, ?_⟩) hHeld ?_ ?_
     rotate_left
     ·rintro w' ⟨s0, s1, s2, s3⟩
      go_simp
      with_reducible rfl
     rotate_left
     ·exact oT
     refine pure_ (i := 15) (N := some 18) (v := ?_) (a' := ?_) #[true, true, true, true, true, true, true, true, true, true, true, true, true, true, true, true, false, false] rfl rfl (any_of HT_.out oK) (fun _ _ _ h => h) (Or.inl ⟨by rfl, ?_⟩) ?_ ?_
     rotate_left
     ·intro w'
      go_simp
      with_reducible rfl
     rotate_left
     ·exact oT
     refine pure_ (i := 16) (N := some 19) (v := ?_) (a' := ?_) #[true, true, true, true, true, true, true, true, true, true, true, true, true, true, true, true, true, false] rfl rfl (any_of HT_.out oK) (fun _ _ _ h => h) (Or.inl ⟨by rfl, ?_⟩) ?_ ?_
     rotate_left
     ·intro w'
      go_simp
      with_reducible rfl
     rotate_left
     ·exact oT
     refine one_ (i := 17) (N := none) #[true, true, true, true, true, true, true, true, true, true, true, true, true, true, true, true, true, true] rfl rfl (one_of HT_.out oK) oD (fun K hK => ?_)
     have hs8 : w7.cell? ⟨aB, 0, none⟩ = some (.int .i64 0) := (blk_cell aC.out 0).trans rfl
     have hfs8 := blk_frozen aC.out 0
     have hs9 : w7.cell? ⟨aB, 1, none⟩ = some (.int .i64 0) := (blk_cell aC.out 1).trans rfl
     have hfs9 := blk_frozen aC.out 1
     have hs10 : w7.cell? ⟨aB, 2, none⟩ = some (.int .i64 0) := (blk_cell aC.out 2).trans rfl
     have hfs10 := blk_frozen aC.out 2
     have hs11 : w7.cell? ⟨aB, 3, none⟩ = some (.int .i64 0) := (blk_cell aC.out 3).trans rfl
     have hfs11 := blk_frozen aC.out 3
     refine skip_ (w1 := ?_) (by rfl) rfl ?_ ?_
     rotate_left
     ·go_simp
      rfl
     refine hK.out _ _ ⟨((cell_far (p := ⟨aB, _, none⟩) (by first | exact Nat.ne_of_lt (oW hw102_0 aA) | (rw [add_block]; exact Nat.ne_of_lt (oW hw102_0 aA)) | (show (Addr.add _ _).block ≠ _; rw [add_block]; exact Nat.ne_of_lt (oW hw102_0 aA)) | (dsimp only; exact Nat.ne_of_lt (oW hw102_0 aA))) _).trans (((cell_far (p := ⟨aB, _, none⟩) (by first | exact Nat.ne_of_lt (oW hw102_0 aA) | (rw [add_block]; exact Nat.ne_of_lt (oW hw102_0 aA)) | (show (Addr.add _ _).block ≠ _; rw [add_block]; exact Nat.ne_of_lt (oW hw102_0 aA)) | (dsimp only; exact Nat.ne_of_lt (oW hw102_0 aA))) _).trans (((cell_far (p := ⟨aB, _, none⟩) (by first | exact Nat.ne_of_lt (oW hw102_0 aA) | (rw [add_block]; exact Nat.ne_of_lt (oW hw102_0 aA)) | (show (Addr.add _ _).block ≠ _; rw [add_block]; exact Nat.ne_of_lt (oW hw102_0 aA)) | (dsimp only; exact Nat.ne_of_lt (oW hw102_0 aA))) _).trans (((cell_far (p := ⟨aB, _, none⟩) (by first | exact Nat.ne_of_lt (oW hw102_0 aA) | (rw [add_block]; exact Nat.ne_of_lt (oW hw102_0 aA)) | (show (Addr.add _ _).block ≠ _; rw [add_block]; exact Nat.ne_of_lt (oW hw102_0 aA)) | (dsimp only; exact Nat.ne_of_lt (oW hw102_0 aA))) _).trans (hHeld.1)))))))), ((cell_far (p := ⟨aB, _, none⟩) (by first | exact Nat.ne_of_lt (oW hw103_0 aA) | (rw [add_block]; exact Nat.ne_of_lt (oW hw103_0 aA)) | (show (Addr.add _ _).block ≠ _; rw [add_block]; exact Nat.ne_of_lt (oW hw103_0 aA)) | (dsimp only; exact Nat.ne_of_lt (oW hw103_0 aA))) _).trans (((cell_far (p := ⟨aB, _, none⟩) (by first | exact Nat.ne_of_lt (oW hw103_0 aA) | (rw [add_block]; exact Nat.ne_of_lt (oW hw103_0 aA)) | (show (Addr.add _ _).block ≠ _; rw [add_block]; exact Nat.ne_of_lt (oW hw103_0 aA)) | (dsimp only; exact Nat.ne_of_lt (oW hw103_0 aA))) _).trans (((cell_far (p := ⟨aB, _, none⟩) (by first | exact Nat.ne_of_lt (oW hw103_0 aA) | (rw [add_block]; exact Nat.ne_of_lt (oW hw103_0 aA)) | (show (Addr.add _ _).block ≠ _; rw [add_block]; exact Nat.ne_of_lt (oW hw103_0 aA)) | (dsimp only; exact Nat.ne_of_lt (oW hw103_0 aA))) _).trans (((cell_far (p := ⟨aB, _, none⟩) (by first | exact Nat.ne_of_lt (oW hw103_0 aA) | (rw [add_block]; exact Nat.ne_of_lt (oW hw103_0 aA)) | (show (Addr.add _ _).block ≠ _; rw [add_block]; exact Nat.ne_of_lt (oW hw103_0 aA)) | (dsimp only; exact Nat.ne_of_lt (oW hw103_0 aA))) _).trans (hHeld.2.1)))))))), ((cell_far (p := ⟨aB, _, none⟩) (by first | exact Nat.ne_of_lt (oW hw104_0 aA) | (rw [add_block]; exact Nat.ne_of_lt (oW hw104_0 aA)) | (show (Addr.add _ _).block ≠ _; rw [add_block]; exact Nat.ne_of_lt (oW hw104_0 aA)) | (dsimp only; exact Nat.ne_of_lt (oW hw104_0 aA))) _).trans (((cell_far (p := ⟨aB, _, none⟩) (by first | exact Nat.ne_of_lt (oW hw104_0 aA) | (rw [add_block]; exact Nat.ne_of_lt (oW hw104_0 aA)) | (show (Addr.add _ _).block ≠ _; rw [add_block]; exact Nat.ne_of_lt (oW hw104_0 aA)) | (dsimp only; exact Nat.ne_of_lt (oW hw104_0 aA))) _).trans (((cell_far (p := ⟨aB, _, none⟩) (by first | exact Nat.ne_of_lt (oW hw104_0 aA) | (rw [add_block]; exact Nat.ne_of_lt (oW hw104_0 aA)) | (show (Addr.add _ _).block ≠ _; rw [add_block]; exact Nat.ne_of_lt (oW hw104_0 aA)) | (dsimp only; exact Nat.ne_of_lt (oW hw104_0 aA))) _).trans (((cell_far (p := ⟨aB, _, none⟩) (by first | exact Nat.ne_of_lt (oW hw104_0 aA) | (rw [add_block]; exact Nat.ne_of_lt (oW hw104_0 aA)) | (show (Addr.add _ _).block ≠ _; rw [add_block]; exact Nat.ne_of_lt (oW hw104_0 aA)) | (dsimp only; exact Nat.ne_of_lt (oW hw104_0 aA))) _).trans (hHeld.2.2.1)))))))), ((cell_far (p := ⟨aB, _, none⟩) (by first | exact Nat.ne_of_lt (oW hw105_0 aA) | (rw [add_block]; exact Nat.ne_of_lt (oW hw105_0 aA)) | (show (Addr.add _ _).block ≠ _; rw [add_block]; exact Nat.ne_of_lt (oW hw105_0 aA)) | (dsimp only; exact Nat.ne_of_lt (oW hw105_0 aA))) _).trans (((cell_far (p := ⟨aB, _, none⟩) (by first | exact Nat.ne_of_lt (oW hw105_0 aA) | (rw [add_block]; exact Nat.ne_of_lt (oW hw105_0 aA)) | (show (Addr.add _ _).block ≠ _; rw [add_block]; exact Nat.ne_of_lt (oW hw105_0 aA)) | (dsimp only; exact Nat.ne_of_lt (oW hw105_0 aA))) _).trans (((cell_far (p := ⟨aB, _, none⟩) (by first | exact Nat.ne_of_lt (oW hw105_0 aA) | (rw [add_block]; exact Nat.ne_of_lt (oW hw105_0 aA)) | (show (Addr.add _ _).block ≠ _; rw [add_block]; exact Nat.ne_of_lt (oW hw105_0 aA)) | (dsimp only; exact Nat.ne_of_lt (oW hw105_0 aA))) _).trans (((cell_far (p := ⟨aB, _, none⟩) (by first | exact Nat.ne_of_lt (oW hw105_0 aA) | (rw [add_block]; exact Nat.ne_of_lt (oW hw105_0 aA)) | (show (Addr.add _ _).block ≠ _; rw [add_block]; exact Nat.ne_of_lt (oW hw105_0 aA)) | (dsimp only; exact Nat.ne_of_lt (oW hw105_0 aA))) _).trans (hHeld.2.2.2))))))))⟩ (fun hHeld => ?_)
     clear hK K
     refine done_ (done_of HT_.out oK) ?_
     try go_wp2
     refine bodyPost_ret (results_cell_row rfl _ _ aB 38 #[.int .i64 (wrap64 (rd l0 0)), .int .i64 (wrap64 (rd l0 1)), .int .i64 (wrap64 (rd l0 2)), .int .i64 (wrap64 (rd l0 3))] (0, 0) _ rfl (blk_put (blk_put (blk_put (blk_put aC.out 0 _ rfl) 1 _ rfl) 2 _ rfl) 3 _ rfl) Try.underlying38 rfl oK) rfl ?_
     exact ⟨by first | rfl | (simp [errW_none, errW_some] <;> rfl) | (simp [*, errW_none, errW_some] <;> rfl), oB HB⟩
    ·rw [if_neg c5] at H
     exact absurd H (by simp)
   ·rw [if_neg c4] at H
    exact absurd H (by simp)
  ·rw [if_neg c3] at H
   exact absurd H (by simp)
 ·rw [if_neg c2] at H
  exact absurd H (by simp)

theorem rq_row_info : ∃ i, Try.prog.info? 38 = some i ∧ i.size = 4 := by
  obtain ⟨i, hi, h⟩ := Option.map_eq_some_iff.1 info38
  simp only [Prod.mk.injEq] at h
  exact ⟨i, hi, h.2.1⟩
set_option maxHeartbeats 8000000 in
set_option maxRecDepth 100000 in
theorem rq_row_calls (A : Option Addr) (n c : Nat) (y W : Int) (w : World) (lo hi : Int) (hlo : y * W = lo) (hhi : (y + 1) * W = hi) (y0 : 0 ≤ y) (y1 : y ≤ 100) (l0 : 0 ≤ lo) (l1 : lo < hi) (l2 : hi ≤ n) (hb : hi ≤ 1000000) (hc : n ≤ c) :
    Calls Try.prog 64 #[.slice A n c, .int .i64 y, .int .i64 W] w fun e w' => e = .returned (.slice (A.map (·.add (lo.toNat * 4))) (hi.toNat - lo.toNat) (c - lo.toNat)) ∧ w = w' := by
  obtain ⟨i, hi', hsz⟩ := rq_row_info
  have hcut := cut_mid (P := Try.prog) 68 38 .i64 .i64 Try.underlying68 hi' 4 hsz A n c lo hi l0 (by omega) l2 hc
  rw [if_neg (show ¬ c = lo.toNat by omega)] at hcut
  clear hi' hsz
  have hw1 : IntKind.i64.wrap (y * W) = lo := by rw [hlo, i64_w]; unfold wrap64; omega
  have hw2 : IntKind.i64.wrap ((y + 1) * W) = hi := by rw [hhi, i64_w]; unfold wrap64; omega
  clear hlo hhi
  go_enter Try.func64, Try.ntmps64
  go_wp2
  go_ret
  exact ⟨rfl, rfl⟩
/-- The colours of a picture, the first n rq_laid. -/
def rq_laid (wn hn : Nat) (c : Int → Int → S38) (n : Nat) : List S38 := (List.range (wn * hn)).map fun j => if j < n then c ((j % wn : Nat) : Int) ((j / wn : Nat) : Int) else z38
/-- A picture by columns and rows. -/
def rq_grid (wn hn : Nat) (c : Int → Int → S38) : List S38 := (List.range (wn * hn)).map fun j => c ((j % wn : Nat) : Int) ((j / wn : Nat) : Int)
theorem rq_laid_len (wn hn : Nat) (c : Int → Int → S38) (n : Nat) : (rq_laid wn hn c n).length = wn * hn := by simp [rq_laid]
theorem rq_laid_zero (wn hn : Nat) (c : Int → Int → S38) : rq_laid wn hn c 0 = List.replicate (wn * hn) z38 := by
  apply List.ext_getElem (by simp [rq_laid])
  intro i h1 h2
  simp [rq_laid]
theorem rq_laid_full (wn hn : Nat) (c : Int → Int → S38) : rq_laid wn hn c (wn * hn) = rq_grid wn hn c := by
  apply List.ext_getElem (by simp [rq_laid, rq_grid])
  intro i h1 h2
  simp [rq_laid] at h1
  simp [rq_laid, rq_grid, h1]
theorem rq_laid_set (wn hn : Nat) (c : Int → Int → S38) (n x y : Nat) (hx : x < wn) (hn' : n = y * wn + x) : (rq_laid wn hn c n).set n (c (x : Int) (y : Int)) = rq_laid wn hn c (n + 1) := by
  have h1 : n % wn = x := by rw [hn', Nat.add_comm, Nat.add_mul_mod_self_right, Nat.mod_eq_of_lt hx]
  have h2 : n / wn = y := by rw [hn', Nat.add_comm, Nat.add_mul_div_right _ _ (by omega), Nat.div_eq_of_lt hx, Nat.zero_add]
  apply List.ext_getElem (by simp [rq_laid])
  intro i h3 h4
  rw [List.getElem_set]
  by_cases e : n = i
  · subst e
    rw [if_pos rfl]
    simp only [rq_laid, List.getElem_map, List.getElem_range]
    rw [if_pos (by omega), h1, h2]
  · rw [if_neg e]
    simp only [rq_laid, List.getElem_map, List.getElem_range]
    by_cases e2 : i < n
    · rw [if_pos e2, if_pos (by omega)]
    · rw [if_neg e2, if_neg (by omega)]
/-- A colour is stored whole into a row of the call's own. -/
theorem rq_store38 {ops : Array Oper} {rest : List Oper} {o : Oper} {a : Act} {Q : Exit → Act → World → Prop} {w0 W : World} {base g n cap o' : Nat} {ok : Nat → Prop} (p x : Operand) (hN : o.dst = none) (hgd : o.guard = none) (ho : o.op = .store 38 p x) (i : Nat) (xs : List S38) (v : S38)
    (haddr : a.eval p = .pointer (some ⟨g, o', none⟩)) (hoff : o' = i * 4) (hx : a.eval x = .agg #[.int .i64 v.f0, .int .i64 v.f1, .int .i64 v.f2, .int .i64 v.f3])
    (HO : Kd.R k38 38 W base ok (.slice (some ⟨g, 0, none⟩) n cap) xs) (hi : i < n) (HB : Below base w0 W)
    (h : ∀ w1, Kd.R k38 38 w1 base ok (.slice (some ⟨g, 0, none⟩) n cap) (xs.set i v) → Below base w0 w1 → W.grownBy w1 (some g) → wpList Try.prog ops Q rest a w1) : wpList Try.prog ops Q (o :: rest) a W := by
  obtain ⟨cb, hcbl, hcbM, hcbc, hcbf⟩ := Kd.R_elem HO z38 (i : Int) (by omega) (by omega)
  have hd : cb.drop (0 + 4) = [] := List.drop_of_length_le (by rw [hcbl]; exact Nat.le_refl 4)
  refine Kd.R_store (P := Try.prog) k38 base hN hgd 38 p x ho 38 (i : Int) 0 xs v _ [.int .i64 v.f0, .int .i64 v.f1, .int .i64 v.f2, .int .i64 v.f3] cb ok (fun _ => False) haddr (by rw [hoff, Int.toNat_natCast]; rfl) hx (by simp [Value.cells]) oK ?_ HO (by omega) (by omega) hcbl hcbc (Nat.le_refl 4) ?_ (fun _ hk => hk.elim) HB ?_
  · intro q hq
    simp only [List.mem_cons, List.not_mem_nil, or_false] at hq
    rcases hq with rfl | rfl | rfl | rfl <;> rfl
  · show k38.M W base _ v (cb.take 0 ++ _ ++ cb.drop (0 + 4))
    rw [hd, List.take_zero, List.nil_append, List.append_nil]
    exact k38_mkM _ _ _ v
  · rw [Int.toNat_natCast]
    exact h
/-- A function that a value names. -/
def rq_Named (kk : Nat) : Prop := ∃ fn, Try.prog.funcs[kk]? = some fn ∧ (fn.name == "runtime.NumGoroutine") = false ∧ fn.body.isSome = true
theorem rq_Named.enters {kk : Nat} (h : rq_Named kk) (args : Array Value) (w : World) : (callFunc kk args).run Try.prog w = .ok (.enter kk args) w := by
  obtain ⟨fn, h1, h2, h3⟩ := h
  exact enters_ h1 h2 h3 args w
/-- What a colour's function tells at every place, in every later world. -/
def rq_Colours (kk : Nat) (cap : Array Value) (W H : Nat) (c : Int → Int → S38) (w : World) : Prop :=
  ∀ (w' : World) (x y : Nat), Below w.heap.size w w' → x < W → y < H → Calls Try.prog kk (#[.int .i64 (x : Int), .int .i64 (y : Int)] ++ cap) w' fun e w'' => e = .returned (.agg #[.int .i64 (c x y).f0, .int .i64 (c x y).f1, .int .i64 (c x y).f2, .int .i64 (c x y).f3]) ∧ Below w'.heap.size w' w''
set_option maxHeartbeats 1000000 in
set_option maxRecDepth 100000 in
theorem rq_newRaster_calls (wn hn kk : Nat) (cap : Array Value) (c : Int → Int → S38) (w : World) (hw1 : 1 ≤ wn) (hw6 : wn ≤ 6) (hh1 : 1 ≤ hn) (hh6 : hn ≤ 6) (hk : rq_Named kk) (hc : rq_Colours kk cap wn hn c w) :
    Calls Try.prog 57 #[.int .i64 (wn : Int), .int .i64 (hn : Int), .func (.func kk) #[] cap] w fun e w' => ∃ v, e = .returned (.agg #[.int .i64 (wn : Int), .int .i64 (hn : Int), v]) ∧ Kd.R k38 38 w' w.heap.size (fun _ => True) v (rq_grid wn hn c) ∧ Below w.heap.size w w' := by
  have hent := hk.enters
  have HCL := Aside0.mk hc
  clear hc
  have hu25 := Try.underlying25
  have hu38 := Try.underlying38
  have hmb : wn * hn ≤ 36 := Nat.mul_le_mul hw6 hh6
  have hm1 : 1 ≤ wn * hn := Nat.mul_le_mul hw1 hh1
  have hwr : IntKind.i64.wrap ((wn : Int) * (hn : Int)) = ((wn * hn : Nat) : Int) := by rw [i64_w, ← Int.natCast_mul]; unfold wrap64; omega
  obtain ⟨m, hm⟩ : ∃ m, wn * hn = m := ⟨_, rfl⟩
  rw [hm] at hwr hmb hm1
  have HM := Aside0.mk hm
  clear hm
  go_enter Try.func57, Try.ntmps57
  go_wp2_with (first | ((with_reducible refine gate_dst (N := 6) rfl ?_); refine box_event rfl (N := 6) rfl (cs := #[.int .i64 0, .int .i64 0, .slice none 0 0]) (t := 25) oS ?_; intro g1 hg1 W1 hk1 hB1; have HK1 := Aside0.mk hk1; have bJ := Aside0.mk hB1; have HGE : Aside0 (w.heap.size ≤ g1) := ⟨(by omega)⟩; clear hk1 hB1 hg1) | ((with_reducible refine gate_dst (N := 14) rfl ?_); (refine Kd.R_make k38 w.heap.size 38 rfl (N := 14) rfl 68 (.tmp 13) (.tmp 13) rfl (m : Int) rfl rfl Try.underlying68 (.agg #[(.int .i64 0), (.int .i64 0), (.int .i64 0), (.int .i64 0)]) 32 info38 rfl oD (by omega) z38 (ok := fun k => k ≠ g1) (okp := fun _ => False) (k38_mkM _ _ _ z38) (fun _ hk => hk.elim) (Ne.symm (Nat.ne_of_lt (blk_lt HK1.out))) (Int.natCast_nonneg _) (by rw [Int.toNat_natCast]; omega) bJ.out bJ.out.size ?_); intro v1 w1 hr hb hg hblk; rw [Int.toNat_natCast, ← HM.out, ← rq_laid_zero wn hn c] at hr; have hl0 := rq_laid_len wn hn c 0; obtain ⟨gp, cp, hv, hgp0, hgp1, hgp2⟩ := Kd.R_form hr (by rw [hl0, HM.out]; exact hm1); rw [hl0, HM.out] at hv; subst hv; have bV := Aside0.mk hr; have bK := Aside0.mk hb; have HK2 := Aside0.mk (blk_grown HK1.out hg (by simp)); have HGP : Aside0 (gp ≠ g1 ∧ w.heap.size ≤ gp) := ⟨hr.1 gp rfl, hgp0⟩; have hcp : m ≤ cp := (by have := Kd.R_reads' hr; omega); clear hr hb hg hblk hl0 hgp0 hgp1 hgp2))
  go_loopw [16] (fun i wr => ∃ y : Nat, y ≤ hn ∧ i = .int .i64 (y : Int) ∧ Aside0 (wr.heap[g1]? = some (.cells #[.int .i64 0, .int .i64 0, .slice none 0 0] 25 (0, 0))) ∧ Aside0 (Kd.R k38 38 wr w.heap.size (fun k => k ≠ g1) (.slice (some ⟨gp, 0, none⟩) m cp) (rq_laid wn hn c (y * wn))) ∧ Aside0 (Below w.heap.size w wr)) (fun i _ => hn - (intOf i).toNat)
  case atStart => exact ⟨0, Nat.zero_le _, rfl, HK2, by rw [Nat.zero_mul]; exact bV, bK⟩
  case round =>
    obtain ⟨y, hy, rfl, HK3, bQ, bL⟩ := hrel
    by_cases hlt : y < hn
    · have hq : y * wn + wn ≤ m := by rw [← HM.out, ← Nat.succ_mul, Nat.mul_comm wn]; exact Nat.mul_le_mul_right _ hlt
      have hyw : (y : Int) * (wn : Int) = ((y * wn : Nat) : Int) := by rw [Int.natCast_mul]
      have hyw2 : ((y : Int) + 1) * (wn : Int) = ((y * wn + wn : Nat) : Int) := by rw [Int.add_mul, hyw]; omega
      have HY1 := Aside0.mk hyw
      have HY2 := Aside0.mk hyw2
      clear hyw hyw2
      obtain ⟨o, ho⟩ : ∃ o, y * wn = o := ⟨_, rfl⟩
      rw [ho] at hq
      have HO := Aside0.mk ho
      clear ho
      go_wp2_with (fail)
      refine (rq_row_calls (some ⟨gp, 0, none⟩) m cp y wn _ (o : Int) ((o + wn : Nat) : Int) (by rw [HY1.out, HO.out]) (by rw [HY2.out, HO.out]) (by omega) (by omega) (by omega) (by omega) (by omega) (by omega) hcp).mono ?_
      rintro e w2 ⟨rfl, rfl⟩
      rw [show ((o + wn : Nat) : Int).toNat - (o : Int).toNat = wn by omega]
      go_wp2_with (fail)
      obtain ⟨wo, rfl⟩ : ∃ wo : World, wo = wr := ⟨_, rfl⟩
      go_loopw [25] (fun i wi => ∃ x : Nat, x ≤ wn ∧ i = .int .i64 (x : Int) ∧ Aside0 (wi.heap[g1]? = some (.cells #[.int .i64 0, .int .i64 0, .slice none 0 0] 25 (0, 0))) ∧ Aside0 (Kd.R k38 38 wi w.heap.size (fun k => k ≠ g1) (.slice (some ⟨gp, 0, none⟩) m cp) (rq_laid wn hn c (o + x))) ∧ Aside0 (Below w.heap.size w wi)) (fun i _ => wn - (intOf i).toNat)
      case atStart => exact ⟨0, Nat.zero_le _, rfl, HK3, by rw [Nat.add_zero, ← HO.out]; exact bQ, bL⟩
      case round =>
       obtain ⟨x, hx, rfl, HK4, bR, bN⟩ := hrel
       rename World => wi
       by_cases hxl : x < wn
       ·go_wp2_with (fail)
        refine (HCL.out wi x y bN.out hxl hlt).mono ?_
        rintro e w5 ⟨rfl, hb5⟩
        have HK5 := Aside0.mk (blk_below HK4.out hb5)
        have bW := Aside0.mk (Kd.R_below bR.out hb5)
        have bM := Aside0.mk (below_then bN.out bN.out.size hb5)
        clear hb5
        go_wp2_with ((with_reducible refine gate_ (.store 38 (.tmp 34) (.tmp 33)) rfl ?_); refine rq_store38 (.tmp 34) (.tmp 33) rfl rfl rfl (o + x) _ (c x y) rfl (by omega) rfl bW.out (by omega) bM.out ?_; intro w6 hr6 hb6 hg6; rw [rq_laid_set wn hn c (o + x) x y hxl (by rw [HO.out])] at hr6; have bO := Aside0.mk hr6; have bP := Aside0.mk hb6; have HK6 := Aside0.mk (blk_grown HK5.out hg6 (by have := HGP.out.1; simpa using Ne.symm this)); clear hr6 hb6 hg6)
        go_roundw
        case rel => exact ⟨x + 1, by omega, by go_num, HK6, bO, bP⟩
        case measure => simp [intOf]; omega
       ·obtain rfl : x = wn := by omega
        go_wp2_with (fail)
        go_roundw
        case rel => exact ⟨y + 1, by omega, by go_num, HK4, by rw [Nat.succ_mul, HO.out]; exact bR, bN⟩
        case measure => simp [intOf]; omega
    · obtain rfl : y = hn := by omega
      have bY := blk_cell HK3.out 0
      have bZ := blk_cell HK3.out 1
      have cA := blk_cell HK3.out 2
      simp only [List.getElem?_toArray, List.getElem?_cons_zero, List.getElem?_cons_succ] at bY bZ cA
      have hf0 := blk_frozen HK3.out 0
      have hf1 := blk_frozen HK3.out 1
      have hf2 := blk_frozen HK3.out 2
      go_wp2_with (fail)
      refine bodyPost_ret (results_cell_row rfl _ _ g1 25 #[.int .i64 (wn : Int), .int .i64 (y : Int), .slice (some ⟨gp, 0, none⟩) m cp] (0, 0) _ rfl (blk_put (blk_put (blk_put HK3.out 0 _ rfl) 1 _ rfl) 2 _ rfl) Try.underlying25 rfl oK) rfl ?_
      refine ⟨_, rfl, ?_, below_set (below_set (below_set bL.out HGE.out) HGE.out) HGE.out⟩
      rw [← rq_laid_full, Nat.mul_comm wn]
      exact Kd.R_mono (Kd.R_far (p := ⟨g1, 2, none⟩) (Kd.R_far (p := ⟨g1, 1, none⟩) (Kd.R_far (p := ⟨g1, 0, none⟩) bQ.out (fun _ hk => hk) _) (fun _ hk => hk) _) (fun _ hk => hk) _) (fun _ _ => trivial)
set_option maxHeartbeats 1000000 in
set_option maxRecDepth 100000 in
theorem rq_at_world {P : Program} {f : Nat} {args : Array Value} {W : World} {Q : Ending → World → Prop} (h : ∀ V, V = W → Calls P f args V Q) : Calls P f args W Q := h W rfl
theorem rq_R_beyond {w w1 w2 : World} {v : Value} {xs : List S38} {g : Nat} (h : Kd.R k38 38 w2 w1.heap.size (fun _ => True) v xs) (hg : g < w1.heap.size) (hb : w.heap.size ≤ w1.heap.size) : Kd.R k38 38 w2 w.heap.size (fun k => True ∧ k ≠ g) v xs :=
  Kd.R_lower (Kd.R_mono (Kd.R_bound h) (fun k hk => ⟨trivial, by have := hk.2.1; omega⟩)) hb
theorem rq_named {kk : Nat} {fn : Func} (h1 : Try.prog.funcs[kk]? = some fn) (h2 : (fn.name == "runtime.NumGoroutine") = false) (h3 : fn.body.isSome = true) : rq_Named kk := ⟨fn, h1, h2, h3⟩
/-- The colour that stands at a place of a picture's bytes. -/
def rq_readS (W : Nat) (l : List Int) (x y : Int) : S38 :=
  let d := l.drop (2 + 4 * (y * (W : Int) + x)).toNat
  ⟨wrap64 (rd d 0), wrap64 (rd d 1), wrap64 (rd d 2), wrap64 (rd d 3)⟩
set_option maxHeartbeats 1000000 in
set_option maxRecDepth 100000 in
theorem rq_read_colour (W H : Nat) (l : List Int) (gl gw : Nat) (A : Option Addr) (c : Nat) (w : World) (hW : W ≤ 6) (hH : H ≤ 6) (hlen : l.length = 2 + 4 * (W * H)) (hc : l.length ≤ c) (hC : Kd.C (Kd.int .u8) w A l.length l)
    (hkl : w.heap[gl]? = some (.cells #[.slice A l.length c] 22 (0, 0))) (hkw : w.heap[gw]? = some (.cells #[.int .i64 (W : Int)] 3 (0, 0))) : rq_Colours 58 #[.pointer (some ⟨gl, 0, none⟩), .pointer (some ⟨gw, 0, none⟩)] W H (rq_readS W l) w := by
  intro w' x y hb hx hy
  have HKl := Aside0.mk (blk_below hkl hb)
  have HKw := Aside0.mk (blk_below hkw hb)
  have HC := Aside0.mk (Kd.C_below hC hb)
  clear hkl hkw hC
  have hu38 := Try.underlying38
  obtain ⟨m, hm, hm1, hm2⟩ : ∃ m : Nat, y * W + x = m ∧ m < W * H ∧ m ≤ 100 := ⟨_, rfl, by have := Nat.mul_le_mul_right W (show y + 1 ≤ H from hy); rw [Nat.succ_mul, Nat.mul_comm H] at this; omega, by have h1 : y * W ≤ 6 * 6 := Nat.mul_le_mul (by omega) hW; omega⟩
  have hmi : (y : Int) * (W : Int) + (x : Int) = (m : Int) := by rw [← Int.natCast_mul]; omega
  have hy2 : 0 ≤ (y : Int) * (W : Int) ∧ (y : Int) * (W : Int) ≤ 100 := by rw [← Int.natCast_mul]; omega
  have e1 : IntKind.i64.wrap ((y : Int) * (W : Int)) = (y : Int) * (W : Int) := by rw [i64_w]; generalize (y : Int) * (W : Int) = q at *; unfold wrap64; omega
  have e2 : IntKind.i64.wrap ((y : Int) * (W : Int) + (x : Int)) = (m : Int) := by rw [hmi, i64_w]; unfold wrap64; omega
  have e3 : IntKind.i64.wrap (4 * (m : Int)) = 4 * (m : Int) := by rw [i64_w]; unfold wrap64; omega
  have e4 : IntKind.i64.wrap (2 + 4 * (m : Int)) = 2 + 4 * (m : Int) := by rw [i64_w]; unfold wrap64; omega
  have hd : (2 + 4 * ((y : Int) * (W : Int) + (x : Int))).toNat = 2 + 4 * m := by rw [hmi]; omega
  have hdl : (l.drop (2 + 4 * m)).length = l.length - (2 + 4 * m) := List.length_drop
  obtain ⟨i, hi', hsz⟩ : ∃ i, Try.prog.info? 5 = some i ∧ i.size = 1 := by
    obtain ⟨i, hi, h⟩ := Option.map_eq_some_iff.1 info5
    simp only [Prod.mk.injEq] at h
    exact ⟨i, hi, h.2.1⟩
  have hcut := cut_from (P := Try.prog) 22 5 .i64 Try.underlying22 hi' 1 hsz A l.length c (2 + 4 * (m : Int)) (by omega) (by omega)
  rw [show (2 + 4 * (m : Int)).toNat = 2 + 4 * m by omega, if_neg (show ¬ c = 2 + 4 * m by omega), ← hdl] at hcut
  have hcd := Kd.C_drop (k := Kd.int .u8) (m := 2 + 4 * m) (c := c) HC.out (by omega) hc
  rw [if_neg (show ¬ c = 2 + 4 * m by omega), show (Kd.int .u8).sz = 1 from rfl] at hcd
  have HCD := Aside0.mk hcd
  clear hi' hsz hcd
  have hp : impl_pixRead.f (l.drop (2 + 4 * m)) = some ((rq_readS W l x y).f0, (rq_readS W l x y).f1, (rq_readS W l x y).f2, (rq_readS W l x y).f3) := by
    unfold impl_pixRead.f rq_readS
    dsimp only
    rw [hd, if_pos (by omega), if_pos (by omega), if_pos (by omega), if_pos (by omega)]
  have HP := Aside0.mk hp
  have hcc : (l.drop (2 + 4 * m)).length ≤ c - (2 + 4 * m) := by omega
  clear hp hm hd hmi hy2
  go_enter Try.func58, Try.ntmps58
  go_wp2_with ((with_reducible refine gate_dst (N := 6) rfl ?_); refine box_event rfl (N := 6) rfl (cs := #[.int .i64 0, .int .i64 0, .int .i64 0, .int .i64 0]) (t := 38) oS ?_; intro g1 hg_ W1 hk_ hb_; have HK1 := Aside0.mk hk_; have bJ := Aside0.mk (below_then (Below.refl w'.heap.size w') (Below.refl w'.heap.size w').size hb_); have HG1 : Aside0 (w'.heap.size ≤ g1) := ⟨(by rw [hg_]; exact Nat.le_refl _)⟩; replace HKl := Aside0.mk (blk_below HKl.out hb_); replace HKw := Aside0.mk (blk_below HKw.out hb_); replace HCD := Aside0.mk (Kd.C_below HCD.out hb_); clear hk_ hb_ hg_; have zl := blk_cell HKl.out 0; have zw := blk_cell HKw.out 0; simp only [List.getElem?_toArray, List.getElem?_cons_zero] at zl zw)
  have hq := impl_pixRead.calls _ _ (l.drop (2 + 4 * m)) _ _ _ _ W1 HCD.out hcc HP.out
  simp only [List.length_drop, Nat.mul_one, hlen] at hq
  refine hq.mono ?_
  clear hq
  rintro e w2 ⟨rfl, hb2⟩
  have bK := Aside0.mk (below_then bJ.out bJ.out.size hb2)
  have HK2 := Aside0.mk (blk_below HK1.out hb2)
  clear hb2 zl zw
  have y0 := blk_cell HK2.out 0
  have y1 := blk_cell HK2.out 1
  have y2 := blk_cell HK2.out 2
  have y3 := blk_cell HK2.out 3
  simp only [List.getElem?_toArray, List.getElem?_cons_zero, List.getElem?_cons_succ] at y0 y1 y2 y3
  have yf0 := blk_frozen HK2.out 0
  have yf1 := blk_frozen HK2.out 1
  have yf2 := blk_frozen HK2.out 2
  have yf3 := blk_frozen HK2.out 3
  go_wp2_with (fail)
  refine bodyPost_ret (results_cell_row rfl _ _ g1 38 #[.int .i64 (rq_readS W l x y).f0, .int .i64 (rq_readS W l x y).f1, .int .i64 (rq_readS W l x y).f2, .int .i64 (rq_readS W l x y).f3] (0, 0) _ rfl (blk_put (blk_put (blk_put (blk_put HK2.out 0 _ rfl) 1 _ rfl) 2 _ rfl) 3 _ rfl) Try.underlying38 rfl oK) rfl ?_
  exact ⟨rfl, below_set (below_set (below_set (below_set bK.out HG1.out) HG1.out) HG1.out) HG1.out⟩

set_option maxHeartbeats 1000000 in
set_option maxRecDepth 100000 in
theorem rq_read_short (l : List Int) (A : Option Addr) (c : Nat) (w : World) (h : l.length < 2) :
    Calls Try.prog 33 #[.slice A l.length c] w fun e w' => ∃ v, e = .returned (.tuple #[.agg #[.int .i64 0, .int .i64 0, v], .bool false]) ∧ Kd.R k38 38 w' w.heap.size (fun _ => True) v [] ∧ Below w.heap.size w w' := by
  have hu25 := Try.underlying25
  have d1 : decide ((l.length : Int) < 2) = true := decide_eq_true (by omega)
  have d2 : decide (l.length < 2) = true := decide_eq_true h
  go_enter Try.func33, Try.ntmps33
  go_wp2_with (first | ((with_reducible refine gate_dst (N := 1) rfl ?_); refine box_event rfl (N := 1) rfl (cs := #[.slice A l.length c]) (t := 22) oS ?_; intro g1 hg_ W1 hk_ hb_; have HK1 := Aside0.mk hk_; have bJ := Aside0.mk (below_then (Below.refl w.heap.size w) (Below.refl w.heap.size w).size hb_); have HG1 : Aside0 (w.heap.size ≤ g1) := ⟨(by rw [hg_]; exact Nat.le_refl _)⟩; clear hk_ hb_ hg_) | ((with_reducible refine gate_dst (N := 2) rfl ?_); refine box_event rfl (N := 2) rfl (cs := #[.int .i64 0, .int .i64 0, .slice none 0 0]) (t := 25) oS ?_; intro g2 hg_ W2 hk_ hb_; have HK2 := Aside0.mk hk_; have bK := Aside0.mk (below_then bJ.out bJ.out.size hb_); have HG2 : Aside0 (w.heap.size ≤ g2) := ⟨(by rw [hg_]; exact bJ.out.size)⟩; replace HK1 := Aside0.mk (blk_below HK1.out hb_); clear hk_ hb_ hg_; have zl := blk_cell HK1.out 0; have y0 := blk_cell HK2.out 0; have y1 := blk_cell HK2.out 1; have y2 := blk_cell HK2.out 2; simp only [List.getElem?_toArray, List.getElem?_cons_zero, List.getElem?_cons_succ] at zl y0 y1 y2; have yf0 := blk_frozen HK2.out 0; have yf1 := blk_frozen HK2.out 1; have yf2 := blk_frozen HK2.out 2))
  refine bodyPost_ret (results_ct rfl _ _ g2 25 #[.int .i64 0, .int .i64 0, .slice none 0 0] (0, 0) _ rfl (blk_put (blk_put (blk_put HK2.out 0 _ rfl) 1 _ rfl) 2 _ rfl) Try.underlying25 rfl oK) rfl ?_
  exact ⟨_, rfl, Kd.R_nil _ _ _ _ _, below_set (below_set (below_set bK.out HG2.out) HG2.out) HG2.out⟩

theorem rq_size_ok (a : Int) : impl_sizeOk.f a = some (decide (1 ≤ a ∧ a ≤ 6)) := by
  unfold impl_sizeOk.f
  by_cases h : a ≥ 1
  · rw [if_pos h]; congr 1; simp only [decide_eq_decide]; omega
  · rw [if_neg h]; congr 1; symm; simp only [decide_eq_false_iff_not]; omega
set_option maxHeartbeats 4000000 in
set_option maxRecDepth 100000 in
theorem rq_read_long (l : List Int) (A : Option Addr) (c : Nat) (w : World) (h : 2 ≤ l.length) (hc : l.length ≤ c) (hC : Kd.C (Kd.int .u8) w A l.length l) (r : Int × Int × List S38 × Bool)
    (hr : r = if (1 ≤ wrap64 (rd l 0) ∧ wrap64 (rd l 0) ≤ 6) ∧ (1 ≤ wrap64 (rd l 1) ∧ wrap64 (rd l 1) ≤ 6) ∧ (l.length : Int) = 2 + 4 * (wrap64 (rd l 0) * wrap64 (rd l 1)) then (wrap64 (rd l 0), wrap64 (rd l 1), rq_grid (wrap64 (rd l 0)).toNat (wrap64 (rd l 1)).toNat (rq_readS (wrap64 (rd l 0)).toNat l), true) else (0, 0, [], false)) :
    Calls Try.prog 33 #[.slice A l.length c] w fun e w' => ∃ v, e = .returned (.tuple #[.agg #[.int .i64 r.1, .int .i64 r.2.1, v], .bool r.2.2.2]) ∧ Kd.R k38 38 w' w.heap.size (fun _ => True) v r.2.2.1 ∧ Below w.heap.size w w' := by
  have hu25 := Try.underlying25
  obtain ⟨ad, ea, h0⟩ := Kd.at_int hC 0 (by omega) (by omega)
  obtain ⟨ad', ea', h1⟩ := Kd.at_int hC 1 (by omega) (by omega)
  subst ea
  obtain rfl := Option.some.inj ea'
  rw [show ((0 : Int)).toNat = 0 from rfl, Addr.add_zero'] at h0
  rw [show ((1 : Int)).toNat = 1 from rfl] at h1
  have i0 : 0 < l.length := by omega
  have i1 : 1 < l.length := by omega
  have HC := Aside0.mk hC
  have HR := Aside0.mk hr
  clear hC hr ea'
  have d1 : decide ((l.length : Int) < 2) = false := decide_eq_false (by omega)
  have d2 : decide (l.length < 2) = false := decide_eq_false (by omega)
  go_enter Try.func33, Try.ntmps33
  go_wp2_with (first | ((with_reducible refine gate_dst (N := 1) rfl ?_); refine box_event rfl (N := 1) rfl (cs := #[.slice (some ad) l.length c]) (t := 22) oS ?_; intro g1 hg_ W1 hk_ hb_; have HK1 := Aside0.mk hk_; have bJ := Aside0.mk (below_then (Below.refl w.heap.size w) (Below.refl w.heap.size w).size hb_); have HG1 : Aside0 (w.heap.size ≤ g1) := ⟨(by rw [hg_]; exact Nat.le_refl _)⟩; clear hk_ hb_ hg_) | ((with_reducible refine gate_dst (N := 2) rfl ?_); refine box_event rfl (N := 2) rfl (cs := #[.int .i64 0, .int .i64 0, .slice none 0 0]) (t := 25) oS ?_; intro g2 hg_ W2 hk_ hb_; have HK2 := Aside0.mk hk_; have bK := Aside0.mk (below_then bJ.out bJ.out.size hb_); have HG2 : Aside0 (w.heap.size ≤ g2) := ⟨(by rw [hg_]; exact bJ.out.size)⟩; replace HK1 := Aside0.mk (blk_below HK1.out hb_); clear hk_ hb_ hg_; have zl := blk_cell HK1.out 0; simp only [List.getElem?_toArray, List.getElem?_cons_zero] at zl; replace h0 := (bK.out.cell (World.block_lt_of_cell? w _ h0)).trans h0; replace h1 := (bK.out.cell (World.block_lt_of_cell? w _ h1)).trans h1))
  have lt1 := blk_lt HK1.out
  have lt2 := blk_lt HK2.out
  have lt3 := World.block_lt_of_cell? _ _ h0
  have lt4 := World.block_lt_of_cell? _ _ h1
  rw [add_block] at lt4
  simp only [Nat.reduceMul, Nat.reduceEqDiff, Go.Addr.add, ↓reduceIte] at h1
  have q0 : (0 < l.length) = True := eq_true i0
  have q1 : (1 < l.length) = True := eq_true i1
  have p0 : ((0 : Int) < (l.length : Int)) = True := eq_true (by omega)
  have p1 : ((1 : Int) < (l.length : Int)) = True := eq_true (by omega)
  clear i0 i1
  go_region
  clear lt3 lt4 q0 q1 p0 p1 h0 h1 zl
  have HK1' := Aside0.mk (blk_drew (blk_alloc HK1.out (.cells #[.int .i64 (wrap64 (rd l 0))] 3 (0, 0))))
  have HK2' := Aside0.mk (blk_drew (blk_alloc HK2.out (.cells #[.int .i64 (wrap64 (rd l 0))] 3 (0, 0))))
  have HK4' := Aside0.mk (blk_drew (blk_new W2 (.cells #[.int .i64 (wrap64 (rd l 0))] 3 (0, 0))))
  have HB3' := Aside0.mk (below_drew1 (below_alloc bK.out (.cells #[.int .i64 (wrap64 (rd l 0))] 3 (0, 0))))
  have HC3' := Aside0.mk (Kd.C_below HC.out HB3'.out)
  have HS := Aside0.mk (bK.out.size)
  clear HK1 HK2 bK HC bJ
  obtain ⟨a, ha⟩ : ∃ a, wrap64 (rd l 0) = a := ⟨_, rfl⟩
  obtain ⟨b, hb⟩ : ∃ b, wrap64 (rd l 1) = b := ⟨_, rfl⟩
  rw [ha] at HK1' HK2' HK4' HB3' HC3' HR
  rw [hb] at HR
  simp only [ha, hb]
  clear ha hb
  generalize W2.heap.size = g4 at *
  generalize (W2.alloc (.cells #[.int .i64 a] 3 (0, 0))).drew = W3 at *
  obtain ⟨HK1⟩ : Nonempty (Aside0 (W3.heap[g1]? = some (.cells #[.slice (some ad) l.length c] 22 (0, 0)))) := ⟨HK1'⟩
  obtain ⟨HK2⟩ : Nonempty (Aside0 (W3.heap[g2]? = some (.cells #[.int .i64 0, .int .i64 0, .slice none 0 0] 25 (0, 0)))) := ⟨HK2'⟩
  obtain ⟨HK4⟩ : Nonempty (Aside0 (W3.heap[g4]? = some (.cells #[.int .i64 a] 3 (0, 0)))) := ⟨HK4'⟩
  obtain ⟨bL⟩ : Nonempty (Aside0 (Below w.heap.size w W3)) := ⟨HB3'⟩
  obtain ⟨bT⟩ : Nonempty (Aside0 (Kd.C (Kd.int .u8) W3 (some ad) l.length l)) := ⟨HC3'⟩
  clear HK1' HK2' HK4' HB3' HC3' HS
  have z1 := blk_cell HK1.out 0
  have z4 := blk_cell HK4.out 0
  have y0 := blk_cell HK2.out 0
  have y1 := blk_cell HK2.out 1
  have y2 := blk_cell HK2.out 2
  simp only [List.getElem?_toArray, List.getElem?_cons_zero, List.getElem?_cons_succ] at z1 z4 y0 y1 y2
  have yf0 := blk_frozen HK2.out 0
  have yf1 := blk_frozen HK2.out 1
  have yf2 := blk_frozen HK2.out 2
  have sa := rq_size_ok a
  have sb := rq_size_ok b
  by_cases ha : 1 ≤ a ∧ a ≤ 6
  · rw [decide_eq_true ha] at sa
    by_cases hb : 1 ≤ b ∧ b ≤ 6
    · rw [decide_eq_true hb] at sb
      obtain ⟨W, rfl⟩ := Int.eq_ofNat_of_zero_le (show 0 ≤ a by omega)
      obtain ⟨H, rfl⟩ := Int.eq_ofNat_of_zero_le (show 0 ≤ b by omega)
      have hm : W * H ≤ 6 * 6 := Nat.mul_le_mul (by omega) (by omega)
      have hm2 : 4 * (W : Int) * (H : Int) = ((4 * (W * H) : Nat) : Int) := by rw [Int.mul_assoc, ← Int.natCast_mul]; omega
      have e1 : IntKind.i64.wrap (4 * (W : Int)) = 4 * (W : Int) := by rw [i64_w]; unfold wrap64; omega
      have e2 : IntKind.i64.wrap (4 * (W : Int) * (H : Int)) = 4 * (W : Int) * (H : Int) := by rw [hm2, i64_w]; unfold wrap64; omega
      have e3 : IntKind.i64.wrap (2 + 4 * (W : Int) * (H : Int)) = 2 + 4 * (W : Int) * (H : Int) := by rw [hm2, i64_w]; unfold wrap64; omega
      by_cases hl : l.length = 2 + 4 * (W * H)
      ·have c1 : ((l.length : Int) == 2 + 4 * (W : Int) * (H : Int)) = true := beq_iff_eq.mpr (by rw [hm2]; omega)
       have c2 : ((l.length : Int) != 2 + 4 * (W : Int) * (H : Int)) = false := bne_eq_false_iff_eq.mpr (by rw [hm2]; omega)
       have hr := HR.out
       rw [if_pos ⟨ha, hb, by rw [← Int.natCast_mul]; omega⟩, Int.toNat_natCast, Int.toNat_natCast] at hr
       subst hr
       have HL := Aside0.mk hl
       clear hl hm hm2
       go_wp2_with (first | (go_at_call 50; (with_reducible refine (impl_sizeOk.calls _ true _ sa).mono ?_); rintro e w' ⟨rfl, ⟨nd, rfl⟩⟩) | (go_at_call 50; (with_reducible refine (impl_sizeOk.calls _ true _ sb).mono ?_); rintro e w' ⟨rfl, ⟨nd2, rfl⟩⟩))
       refine rq_at_world (fun W5 hW5 => ?_)
       have HK1' : Aside0 (W5.heap[g1]? = some (.cells #[.slice (some ad) l.length c] 22 (0, 0))) := by rw [hW5]; exact ⟨oP HK1⟩
       have HK2' : Aside0 (W5.heap[g2]? = some (.cells #[.int .i64 0, .int .i64 0, .slice none 0 0] 25 (0, 0))) := by rw [hW5]; exact ⟨oP HK2⟩
       have HK4' : Aside0 (W5.heap[g4]? = some (.cells #[.int .i64 (W : Int)] 3 (0, 0))) := by rw [hW5]; exact ⟨oP HK4⟩
       have bM : Aside0 (Below w.heap.size w W5) := by rw [hW5]; exact ⟨oB bL⟩
       have bU : Aside0 (Kd.C (Kd.int .u8) W5 (some ad) l.length l) := by rw [hW5]; exact ⟨oC bT⟩
       clear hW5 z1 z4 y0 y1 y2 yf0 yf1 yf2
       refine (rq_newRaster_calls W H 58 #[.pointer (some ⟨g1, 0, none⟩), .pointer (some ⟨g4, 0, none⟩)] (rq_readS W l) W5 (by omega) (by omega) (by omega) (by omega) (rq_named Try.func58 oK rfl) (rq_read_colour W H l g1 g4 (some ad) c W5 (by omega) (by omega) HL.out hc bU.out HK1'.out HK4'.out)).mono ?_
       rintro e w6 ⟨v, rfl, hr6, hb6⟩
       have bP := Aside0.mk (below_then bM.out bM.out.size hb6)
       have HK26 := Aside0.mk (blk_below HK2'.out hb6)
       have bO := Aside0.mk (rq_R_beyond (w := w) hr6 (blk_lt HK2'.out) bM.out.size)
       clear hr6 hb6
       obtain ⟨A6, c6, rfl⟩ := Kd.R_slice bO.out
       have y0 := blk_cell HK26.out 0
       have y1 := blk_cell HK26.out 1
       have y2 := blk_cell HK26.out 2
       simp only [List.getElem?_toArray, List.getElem?_cons_zero, List.getElem?_cons_succ] at y0 y1 y2
       have yf0 := blk_frozen HK26.out 0
       have yf1 := blk_frozen HK26.out 1
       have yf2 := blk_frozen HK26.out 2
       go_wp2_with (fail)
       refine bodyPost_ret (results_ct rfl _ _ g2 25 #[.int .i64 (W : Int), .int .i64 (H : Int), .slice A6 (rq_grid W H _).length c6] (0, 0) _ rfl (blk_put (blk_put (blk_put HK26.out 0 _ rfl) 1 _ rfl) 2 _ rfl) Try.underlying25 rfl oK) rfl ?_
       refine ⟨_, rfl, ?_, below_set (below_set (below_set bP.out HG2.out) HG2.out) HG2.out⟩
       exact Kd.R_mono (Kd.R_far (p := ⟨g2, 2, none⟩) (Kd.R_far (p := ⟨g2, 1, none⟩) (Kd.R_far (p := ⟨g2, 0, none⟩) bO.out (fun k hk => hk.2) _) (fun k hk => hk.2) _) (fun k hk => hk.2) _) (fun _ _ => trivial)
      ·have c1 : ((l.length : Int) == 2 + 4 * (W : Int) * (H : Int)) = false := beq_eq_false_iff_ne.mpr (by rw [hm2]; omega)
       have c2 : ((l.length : Int) != 2 + 4 * (W : Int) * (H : Int)) = true := bne_iff_ne.mpr (by rw [hm2]; omega)
       have hr := HR.out
       rw [if_neg (fun h => hl (by have := h.2.2; rw [← Int.natCast_mul] at this; omega))] at hr
       subst hr
       clear hl hm hm2
       go_wp2_with (first | (go_at_call 50; (with_reducible refine (impl_sizeOk.calls _ true _ sa).mono ?_); rintro e w' ⟨rfl, ⟨nd, rfl⟩⟩) | (go_at_call 50; (with_reducible refine (impl_sizeOk.calls _ true _ sb).mono ?_); rintro e w' ⟨rfl, ⟨nd2, rfl⟩⟩))
       refine bodyPost_ret (results_ct rfl _ _ g2 25 #[.int .i64 0, .int .i64 0, .slice none 0 0] (0, 0) _ rfl (blk_put (blk_put (blk_put (oP HK2) 0 _ rfl) 1 _ rfl) 2 _ rfl) Try.underlying25 rfl oK) rfl ?_
       exact ⟨_, rfl, Kd.R_nil _ _ _ _ _, oB bL⟩
    · rw [decide_eq_false hb] at sb
      have hr := HR.out
      rw [if_neg (fun h => hb h.2.1)] at hr
      subst hr
      go_wp2_with (first | (go_at_call 50; (with_reducible refine (impl_sizeOk.calls a true _ sa).mono ?_); rintro e w' ⟨rfl, ⟨nd, rfl⟩⟩) | (go_at_call 50; (with_reducible refine (impl_sizeOk.calls b false _ sb).mono ?_); rintro e w' ⟨rfl, ⟨nd2, rfl⟩⟩))
      refine bodyPost_ret (results_ct rfl _ _ g2 25 #[.int .i64 0, .int .i64 0, .slice none 0 0] (0, 0) _ rfl (blk_put (blk_put (blk_put (oP HK2) 0 _ rfl) 1 _ rfl) 2 _ rfl) Try.underlying25 rfl oK) rfl ?_
      exact ⟨_, rfl, Kd.R_nil _ _ _ _ _, oB bL⟩
  · rw [decide_eq_false ha] at sa
    have hr := HR.out
    rw [if_neg (fun h => ha h.1)] at hr
    subst hr
    go_wp2_with (first | (go_at_call 50; (with_reducible refine (impl_sizeOk.calls a false _ sa).mono ?_); rintro e w' ⟨rfl, ⟨nd, rfl⟩⟩))
    refine bodyPost_ret (results_ct rfl _ _ g2 25 #[.int .i64 0, .int .i64 0, .slice none 0 0] (0, 0) _ rfl (blk_put (blk_put (blk_put (oP HK2) 0 _ rfl) 1 _ rfl) 2 _ rfl) Try.underlying25 rfl oK) rfl ?_
    exact ⟨_, rfl, Kd.R_nil _ _ _ _ _, oB bL⟩
def impl_RasRead.f (l0 : List Int) : Option (Int × Int × List S38 × Bool) :=
  if l0.length < 2 then some (0, 0, [], false) else
  if (1 ≤ wrap64 (rd l0 0) ∧ wrap64 (rd l0 0) ≤ 6) ∧ (1 ≤ wrap64 (rd l0 1) ∧ wrap64 (rd l0 1) ≤ 6) ∧ (l0.length : Int) = 2 + 4 * (wrap64 (rd l0 0) * wrap64 (rd l0 1)) then some (wrap64 (rd l0 0), wrap64 (rd l0 1), rq_grid (wrap64 (rd l0 0)).toNat (wrap64 (rd l0 1)).toNat (rq_readS (wrap64 (rd l0 0)).toNat l0), true) else some (0, 0, [], false)
theorem impl_RasRead.calls (A0 : Option Addr) (c0 : Nat) (l0 : List Int) (r1 : Int) (r2 : Int) (r3 : List (S38)) (r4 : Bool) (w : World) (hr0 : Kd.C (Kd.int .u8) w A0 l0.length l0) (bX : l0.length ≤ c0) (h : impl_RasRead.f l0 = some (r1, r2, r3, r4)) :
    Calls Try.prog 33 #[.slice A0 l0.length c0] w fun e w' => ∃ bS : Value, e = .returned (.tuple #[.agg #[.int .i64 r1, .int .i64 r2, bS], .bool r4]) ∧ Kd.R k38 38 w' w.heap.size (fun _ => True) bS r3 ∧ Below w.heap.size w w' := by
  unfold impl_RasRead.f at h
  by_cases h2 : l0.length < 2
  · rw [if_pos h2] at h
    simp only [Option.some.injEq, Prod.mk.injEq] at h
    obtain ⟨rfl, rfl, rfl, rfl⟩ := h
    exact rq_read_short l0 A0 c0 w h2
  · rw [if_neg h2] at h
    refine rq_read_long l0 A0 c0 w (by omega) bX hr0 (r1, r2, r3, r4) ?_
    split at h
    · rename_i hh
      rw [if_pos hh]
      exact (Option.some.inj h).symm
    · rename_i hh
      rw [if_neg hh]
      exact (Option.some.inj h).symm

end Go.Proofs.Ythnmeogafklhnaa.X
