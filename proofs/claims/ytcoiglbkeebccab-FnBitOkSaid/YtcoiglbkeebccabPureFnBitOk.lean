/- The program's BitOk is the reference's and fits its own law, whatever is drawn: the pure statement of the law FnBitOk. No condition. -/
import Derived.Test.YtcoiglbkeebccabPlNum
import Derived.Test.YtcoiglbkeebccabPlEaOk
import Derived.Test.YtcoiglbkeebccabX0
import Derived.Test.YtcoiglbkeebccabX5
namespace Go.Proofs.Ytcoiglbkeebccab.Pure
open Go Go.RowKit Go.Proofs.Ytcoiglbkeebccab.X Go.Proofs.Ytcoiglbkeebccab.Pl Go.Proofs.YtcoiglbkeebccabW.PrintWords Go.Proofs.YtcoiglbkeebccabW.PrintLast Go.Proofs.YtcoiglbkeebccabW.PrintMore
theorem drawBitOk_ok (l : List Int) (hb : Bytes l) : ∃ v b, (∀ k, 1 ≤ k → spec_DrawBitOk.f k l = some (v, b)) := by
  obtain ⟨s, ho, hs, hl, _⟩ := open_ok l hb
  obtain ⟨v, b, q, hv, _⟩ := num_ok s hs hl 0 2 (by omega) (by omega) (by omega)
  refine ⟨v, b, fun k hk => ?_⟩
  unfold spec_DrawBitOk.f
  rw [ho]
  simp only [Option.bind_some]
  rw [hv k hk]
  rfl
theorem beq_dec {p q : Prop} [Decidable p] [Decidable q] (h : p ↔ q) : (decide p == decide q) = true := by
  by_cases hq : q <;> simp [h, hq]
theorem FnBitOk : laws_FnBitOk.Pure := by
  intro l _ hl hb
  obtain ⟨v, b, hd⟩ := drawBitOk_ok l (bytes_wf hb)
  refine ⟨1, ?_⟩
  unfold laws_FnBitOk.f
  by_cases h : (l.length : Int) > 1048576
  · rw [if_pos h]
  rw [if_neg h, hd 1 (by omega)]
  simp only [Option.bind_some, implBitOk_ok, specBitOk_ok, eaOk_ok]
  rw [if_neg (by simp)]
  by_cases hp : BitP v b
  · obtain ⟨h1, h2, h3, h4⟩ := id hp
    have hpow := pow_le (show 0 ≤ b by omega) h2
    have hp2 : (2 : Int) ^ (b + 1).toNat = 2 * 2 ^ b.toNat := by rw [show (b + 1).toNat = b.toNat + 1 by omega, Int.pow_succ]; omega
    rw [if_pos (decide_eq_true hp), w64 (x := b + 1) (by omega) (by omega), w64 (x := 2 * v) (by omega) (by omega), w64 (x := 2 * v + 1) (by omega) (by omega)]
    have e1 : BitP v (b + 1) ↔ b < 12 := ⟨fun h => by have := h.2.1; omega, fun h => ⟨by omega, by omega, h3, by rw [hp2]; omega⟩⟩
    have e2 : BitP (2 * v + 1) (b + 1) ↔ b < 12 := ⟨fun h => by have := h.2.1; omega, fun h => ⟨by omega, by omega, by omega, by rw [hp2]; omega⟩⟩
    rw [if_pos (beq_dec e1), beq_dec e2]
  · rw [if_neg (by simpa using hp)]
end Go.Proofs.Ytcoiglbkeebccab.Pure
