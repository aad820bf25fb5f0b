/- What functions of the program come to, each with its proof. No condition but what each theorem states. -/
import Derived.Test.YtfnkaccncmjnaaaX0
import Derived.Test.YtfnkaccncmjnaaaX2
namespace Go.Proofs.Ytfnkaccncmjnaaa.X
open Go.RowKit Go.Proofs.YtfnkaccncmjnaaaW.PrintWords Go.Proofs.YtfnkaccncmjnaaaW.PrintLast Go.Proofs.YtfnkaccncmjnaaaW.PrintMore Go.Proofs.Ytfnkaccncmjnaaa.Hyb
attribute [local go_sem] max2_int min2_int max_two min_two max_three min_three max_four min_four
set_option linter.unusedVariables false
set_option linter.unusedSimpArgs false

/-! ### spec_BitGet: function 47 -/
mutual
def spec_BitGet.j0 : Nat → List Int → Int → Int → Bool → Option (Int × Bool)
 | 0, _, _, _, _ => none
 | k + 1, x0, x1, x2, x25 => if x25 = true then (some (0, false)) else (spec_BitGet.l0 k x0 x1 x2 0 0)
def spec_BitGet.l0 : Nat → List Int → Int → Int → Int → Int → Option (Int × Bool)
 | 0, _, _, _, _, _ => none
 | k + 1, x0, x1, x2, x8, x9 => if x9 < x2 then (if 0 ≤ (wrap64 (Int.tdiv (wrap64 (x1 + x9)) 8)) then (if (wrap64 (Int.tdiv (wrap64 (x1 + x9)) 8)) < (x0.length : Int) then (if 0 ≤ (Int.tmod (wrap64 (x1 + x9)) 8) then (if 0 ≤ x9 then (spec_BitGet.l0 k x0 x1 x2 (wrap64 (x8 + (shl .i64 (Int.tmod (shr .i64 (wrap64 (rd x0 (wrap64 (Int.tdiv (wrap64 (x1 + x9)) 8)))) (Int.tmod (wrap64 (x1 + x9)) 8)) 2) x9))) (wrap64 (x9 + 1))) else (none)) else (none)) else (none)) else (none)) else (some (x8, true))
end
def spec_BitGet.f (k : Nat) (l0 : List Int) (a1 : Int) (a2 : Int) : Option (Int × Bool) := if a1 < 0 then (spec_BitGet.j0 k l0 a1 a2 true) else ((spec_l1In.f a2 1 12).bind fun aE => (if aE = true then (spec_BitGet.j0 k l0 a1 a2 (decide (a1 > (wrap64 ((wrap64 (8 * (l0.length : Int))) - a2))))) else (spec_BitGet.j0 k l0 a1 a2 true)))
theorem spec_BitGet.mono_l : ∀ k, (∀ y0 y1 y2 y3, LeO (spec_BitGet.j0 k y0 y1 y2 y3) (spec_BitGet.j0 (k + 1) y0 y1 y2 y3)) ∧ (∀ y0 y1 y2 y3 y4, LeO (spec_BitGet.l0 k y0 y1 y2 y3 y4) (spec_BitGet.l0 (k + 1) y0 y1 y2 y3 y4))
 | 0 => ⟨(fun _ _ _ _ r h => nomatch (show none = some r from h)), (fun _ _ _ _ _ r h => nomatch (show none = some r from h))⟩
 | k + 1 => by
  obtain ⟨ih0, ih1⟩ := spec_BitGet.mono_l k
  refine ⟨?_, ?_⟩
  ·intro y0 y1 y2 y3
   unfold spec_BitGet.j0
   repeat' first
   | (with_reducible exact ih0 _ _ _ _)
   | (with_reducible exact ih1 _ _ _ _ _)
   | (with_reducible exact LeO.refl _)
   | (with_reducible exact LeO.none _)
   | (with_reducible refine LeO.ite ?_ ?_)
   | (with_reducible refine LeO.bind ?_ (fun _ => ?_))
   | exact ih0 _ _ _ _
   | exact ih1 _ _ _ _ _
   | exact LeO.none _
   | refine LeO.ite ?_ ?_
   | refine LeO.bind ?_ (fun _ => ?_)
  ·intro y0 y1 y2 y3 y4
   unfold spec_BitGet.l0
   repeat' first
   | (with_reducible exact ih0 _ _ _ _)
   | (with_reducible exact ih1 _ _ _ _ _)
   | (with_reducible exact LeO.refl _)
   | (with_reducible exact LeO.none _)
   | (with_reducible refine LeO.ite ?_ ?_)
   | (with_reducible refine LeO.bind ?_ (fun _ => ?_))
   | exact ih0 _ _ _ _
   | exact ih1 _ _ _ _ _
   | exact LeO.none _
   | refine LeO.ite ?_ ?_
   | refine LeO.bind ?_ (fun _ => ?_)
theorem spec_BitGet.mono : ∀ a0 a1 a2 k, LeO (spec_BitGet.f k a0 a1 a2) (spec_BitGet.f (k + 1) a0 a1 a2) := by
 intro a0 a1 a2 k
 obtain ⟨ih0, ih1⟩ := spec_BitGet.mono_l k
 unfold spec_BitGet.f
 repeat' first
   | (with_reducible exact ih0 _ _ _ _)
   | (with_reducible exact ih1 _ _ _ _ _)
   | (with_reducible exact LeO.refl _)
   | (with_reducible exact LeO.none _)
   | (with_reducible refine LeO.ite ?_ ?_)
   | (with_reducible refine LeO.bind ?_ (fun _ => ?_))
   | exact ih0 _ _ _ _
   | exact ih1 _ _ _ _ _
   | exact LeO.none _
   | refine LeO.ite ?_ ?_
   | refine LeO.bind ?_ (fun _ => ?_)
set_option maxHeartbeats 8000000 in
set_option maxRecDepth 100000 in
theorem spec_BitGet.calls (k : Nat) (A0 : Option Addr) (c0 : Nat) (l0 : List Int) (a1 : Int) (a2 : Int) (r1 : Int) (r2 : Bool) (w : World) (hr0 : Kd.C (Kd.int .u8) w A0 l0.length l0) (bF : l0.length ≤ c0) (h : spec_BitGet.f k l0 a1 a2 = some (r1, r2)) :
  Calls Try.prog 47 #[.slice A0 l0.length c0, .int .i64 a1, .int .i64 a2] w fun e w' => e = .returned (.tuple #[.int .i64 r1, .bool r2]) ∧ Drawn0 w w' := by
 have bG := Aside0.mk hr0
 have bI := Aside0.mk bF
 clear hr0 bF
 have H : (if a1 < 0 then (spec_BitGet.j0 k l0 a1 a2 true) else ((spec_l1In.f a2 1 12).bind fun aE => (if aE = true then (spec_BitGet.j0 k l0 a1 a2 (decide (a1 > (wrap64 ((wrap64 (8 * (l0.length : Int))) - a2))))) else (spec_BitGet.j0 k l0 a1 a2 true)))) = some (r1, r2) := h
 clear h
 have aO := Aside0.mk H
 clear H
 go_enter Try.func47, Try.ntmps47
 go_upto_region 1 with (fail)
 go_cut [25] (fun bH wc => ∃ (kq : Nat) (aD : Bool), bH = .bool aD ∧ Aside0 (spec_BitGet.j0 kq l0 a1 a2 aD = some (r1, r2)) ∧ Aside0 (kq ≤ k) ∧ Drawn0 w wc)
 case first =>
  have H := aO.out
  clear aO
  by_cases c5 : a1 < 0
  ·rw [if_pos c5] at H
   have aC : decide (a1 < 0) = true := decide_eq_true c5
   clear c5
   (first | rw [aC] | (simp only [i64_w, i32_w]; rw [aC]) | skip)
   have H' := Aside0.mk H
   clear H
   go_wp2
   go_meet
   case rel => exact ⟨_, (true), oU, H', ⟨(by first | omega | exact Nat.le_refl _)⟩, by repeat (first | exact Drawn0.refl _ | apply Drawn0.step)⟩
  ·rw [if_neg c5] at H
   have aC : decide (a1 < 0) = false := decide_eq_false c5
   clear c5
   (first | rw [aC] | (simp only [i64_w, i32_w]; rw [aC]) | skip)
   replace H := Option.bind_eq_some_iff.mp H
   obtain ⟨aE, aW, H⟩ := H
   (try dsimp only at H)
   have A6 := Aside0.mk aW
   clear aW
   by_cases c7 : aE = true
   ·subst c7
    rw [if_pos rfl] at H
    have H' := Aside0.mk H
    clear H
    go_wp2_with (first | (go_at_call 43; (with_reducible refine (spec_l1In.calls a2 1 12 true _ A6.out).mono ?_); rintro e w' ⟨rfl, ⟨nd, rfl⟩⟩))
    go_meet
    case rel => exact ⟨_, (decide (a1 > (wrap64 ((wrap64 (8 * (l0.length : Int))) - a2)))), oU, H', ⟨(by first | omega | exact Nat.le_refl _)⟩, by repeat (first | exact Drawn0.refl _ | apply Drawn0.step)⟩
   ·replace c7 := Bool.eq_false_iff.mpr c7
    subst c7
    rw [if_neg (show ¬ (false = true) by decide)] at H
    have H' := Aside0.mk H
    clear H
    go_wp2_with (first | (go_at_call 43; (with_reducible refine (spec_l1In.calls a2 1 12 false _ A6.out).mono ?_); rintro e w' ⟨rfl, ⟨nd, rfl⟩⟩))
    go_meet
    case rel => exact ⟨_, (true), oU, H', ⟨(by first | omega | exact Nat.le_refl _)⟩, by repeat (first | exact Drawn0.refl _ | apply Drawn0.step)⟩
 case rest =>
  clear aO
  try clear p2
  try clear c4
  try clear c5
  try clear aC
  try clear p6
  try clear c7
  obtain ⟨kq, aD, rfl, HA, aX, ⟨mc3, rfl⟩⟩ := hcut
  cases kq with
  | zero => exact nomatch (show none = some _ from HA.out)
  | succ kj3 =>
   have H := HA.out
   clear HA
   simp only [spec_BitGet.j0] at H
   by_cases c8 : aD = true
   ·subst c8
    rw [if_pos rfl] at H
    simp only [Option.some.injEq, Prod.mk.injEq] at H
    obtain ⟨rfl, rfl⟩ := H
    go_wp2
    go_ret2
    exact ⟨by first | rfl | (simp; done) | (simp [*]; done), by repeat (first | exact Drawn0.refl _ | apply Drawn0.step)⟩
   ·replace c8 := Bool.eq_false_iff.mpr c8
    subst c8
    rw [if_neg (show ¬ (false = true) by decide)] at H
    have H' := Aside0.mk H
    clear H
    go_wp2
    go_loopg [8, 9] kj3 (fun kq v8 v9 w' => ∃ (aB : Int) (aA : Int), v8 = .int .i64 aB ∧ v9 = .int .i64 aA ∧ Aside0 (spec_BitGet.l0 kq l0 a1 a2 aB aA = some (r1, r2)) ∧ Aside0 (kq ≤ kj3) ∧ Drawn0 w w')
    case atStart => exact ⟨(0), (0), oU, oU, H', ⟨Nat.le_refl _⟩, by repeat (first | exact Drawn0.refl _ | apply Drawn0.step)⟩
    case round =>
     clear H'
     try clear p2
     try clear c3
     try clear c4
     try clear c5
     try clear aC
     try clear p6
     try clear c7
     try clear c8
     try clear p2
     try clear p6
     obtain ⟨aB, aA, rfl, rfl, HA, HK2, ⟨m2, rfl⟩⟩ := hrel
     cases gk with
     | zero => exact nomatch (show none = some _ from HA.out)
     | succ k2 =>
      have H := HA.out
      clear HA
      simp only [spec_BitGet.l0] at H
      by_cases c9 : aA < a2
      ·rw [if_pos c9] at H
       have aP : decide (aA < a2) = true := decide_eq_true c9
       clear c9
       obtain ⟨ji10, hji10⟩ : ∃ j_ : Int, (wrap64 (Int.tdiv (wrap64 (a1 + aA)) 8)) = j_ := ⟨_, rfl⟩
       replace H : (if 0 ≤ (ji10) then (if (ji10) < (l0.length : Int) then (if 0 ≤ (Int.tmod (wrap64 (a1 + aA)) 8) then (if 0 ≤ aA then (spec_BitGet.l0 k2 l0 a1 a2 (wrap64 (aB + (shl .i64 (Int.tmod (shr .i64 (wrap64 (rd l0 (ji10))) (Int.tmod (wrap64 (a1 + aA)) 8)) 2) aA))) (wrap64 (aA + 1))) else (none)) else (none)) else (none)) else (none)) = some (r1, r2) := by first | (rw [hji10] at H; exact H) | (simp only [hji10] at H ⊢; exact H)
       have aR : (IntKind.i64.wrap (Int.tdiv (wrap64 (a1 + aA)) 8)) = ji10 := (i64_w _).trans hji10
       by_cases aL : 0 ≤ (ji10)
       ·rw [if_pos aL] at H
        have aZ : decide (0 ≤ (ji10)) = true := decide_eq_true aL
        clear aL
        by_cases aM : (ji10) < (l0.length : Int)
        ·rw [if_pos aM] at H
         have bA : decide ((ji10) < (l0.length : Int)) = true := decide_eq_true aM
         clear aM
         obtain ⟨ji13, hji13⟩ : ∃ j_ : Int, (Int.tmod (wrap64 (a1 + aA)) 8) = j_ := ⟨_, rfl⟩
         replace H : (if 0 ≤ (ji13) then (if 0 ≤ aA then (spec_BitGet.l0 k2 l0 a1 a2 (wrap64 (aB + (shl .i64 (Int.tmod (shr .i64 (wrap64 (rd l0 (ji10))) (ji13)) 2) aA))) (wrap64 (aA + 1))) else (none)) else (none)) = some (r1, r2) := by first | (rw [hji13] at H; exact H) | (simp only [hji13] at H ⊢; exact H)
         by_cases aJ : 0 ≤ (ji13)
         ·rw [if_pos aJ] at H
          have bB := eq_true aJ
          have bC : decide (0 ≤ (ji13)) = true := decide_eq_true aJ
          clear aJ
          obtain ⟨ji15, hji15⟩ : ∃ j_ : Int, (shr .i64 (wrap64 (rd l0 (ji10))) (ji13)) = j_ := ⟨_, rfl⟩
          replace H : (if 0 ≤ aA then (spec_BitGet.l0 k2 l0 a1 a2 (wrap64 (aB + (shl .i64 (Int.tmod (ji15) 2) aA))) (wrap64 (aA + 1))) else (none)) = some (r1, r2) := by first | (rw [hji15] at H; exact H) | (simp only [hji15] at H ⊢; exact H)
          have aS : ((wrap64 (rd l0 (ji10))) / 2 ^ min (ji13).toNat 64) = ji15 := hji15
          have aT : (ji13) ≤ 64 → ((wrap64 (rd l0 (ji10))) / 2 ^ (ji13).toNat) = ji15 := shr_small hji15
          by_cases aK : 0 ≤ aA
          ·rw [if_pos aK] at H
           have bD := eq_true aK
           have bE : decide (0 ≤ aA) = true := decide_eq_true aK
           clear aK
           obtain ⟨ji17, hji17⟩ : ∃ j_ : Int, (shl .i64 (Int.tmod (ji15) 2) aA) = j_ := ⟨_, rfl⟩
           replace H : (spec_BitGet.l0 k2 l0 a1 a2 (wrap64 (aB + (ji17))) (wrap64 (aA + 1))) = some (r1, r2) := by first | (rw [hji17] at H; exact H) | (simp only [hji17] at H ⊢; exact H)
           have aF : (IntKind.i64.wrap ((Int.tmod (ji15) 2) * 2 ^ min aA.toNat 64)) = ji17 := hji17
           have aG : aA ≤ 64 → (IntKind.i64.wrap ((Int.tmod (ji15) 2) * 2 ^ aA.toNat)) = ji17 := shl_small hji17
           have aV : (wrap64 ((Int.tmod (ji15) 2) * 2 ^ min aA.toNat 64)) = ji17 := (i64_w _).symm.trans aF
           have aU : aA ≤ 64 → (wrap64 ((Int.tmod (ji15) 2) * 2 ^ aA.toNat)) = ji17 := fun h_ => (i64_w _).symm.trans (aG h_)
           have H' := Aside0.mk H
           clear H
           have aH : 0 ≤ ((ji10) : Int) := of_decide_eq_true oM
           have aI : (ji10) < (l0.length : Int) := of_decide_eq_true oM
           obtain ⟨aY, aQ, aN⟩ := Kd.at_int bG.out (ji10) aH aI
           cases aQ
           replace aH := eq_true aH
           replace aI := eq_true aI
           go_wp2
           go_roundg k2
           case measure => have := aX.out; have := HK2.out; omega
           case rel => exact ⟨(wrap64 (aB + (ji17))), (wrap64 (aA + 1)), (by first | rfl | (simp; done) | (simp only [← hji17] <;> (first | rfl | simp)) | (simp [*]; done)), oU, H', ⟨(by have := aX.out; have := HK2.out; omega)⟩, by repeat (first | exact Drawn0.refl _ | apply Drawn0.step)⟩
          ·rw [if_neg aK] at H
           exact absurd H (by simp)
         ·rw [if_neg aJ] at H
          exact absurd H (by simp)
        ·rw [if_neg aM] at H
         exact absurd H (by simp)
       ·rw [if_neg aL] at H
        exact absurd H (by simp)
      ·rw [if_neg c9] at H
       have aP : decide (aA < a2) = false := decide_eq_false c9
       clear c9
       simp only [Option.some.injEq, Prod.mk.injEq] at H
       obtain ⟨rfl, rfl⟩ := H
       go_wp2
       go_ret2
       exact ⟨by first | rfl | (simp; done) | (simp [*]; done), by repeat (first | exact Drawn0.refl _ | apply Drawn0.step)⟩

end Go.Proofs.Ytfnkaccncmjnaaa.X
