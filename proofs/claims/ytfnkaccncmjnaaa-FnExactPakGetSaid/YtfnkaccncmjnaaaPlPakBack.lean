/- What was packed is unpacked; without its last byte it is not; with a nought more nothing is. The bytes are bytes. -/
import Derived.Test.YtfnkaccncmjnaaaPlPakRun
import Derived.Test.YtfnkaccncmjnaaaPlPakPut
import Derived.Test.YtfnkaccncmjnaaaX0
import Derived.Test.YtfnkaccncmjnaaaX49
namespace Go.Proofs.Ytfnkaccncmjnaaa.Pl
open Go Go.RowKit Go.Proofs.Ytfnkaccncmjnaaa.X Go.Proofs.YtfnkaccncmjnaaaW.PrintWords Go.Proofs.YtfnkaccncmjnaaaW.PrintLast Go.Proofs.YtfnkaccncmjnaaaW.PrintMore
/-- Codes that lie in bytes, and what ends them. -/
theorem run_codes (s : List Int) (X : List Int → List Int × Bool) : ∀ (cs : List Int) (d a : Nat) (o : List Int) (met : List (List Int)) (last : List Int), cs.length < d →
    (∀ (i : Nat) (h : i < cs.length), GetP s ((a + 9 * i : Nat) : Int) 9 ∧ bitSum s (a + 9 * i) 9 = cs[i] ∧ cs[i] ≠ 256) →
    (∀ (d : Nat) (o : List Int) (met : List (List Int)) (last : List Int), pkRun s (d + 1) (a + 9 * cs.length) o met last = X o) →
    pkRun s d a o met last = match pkDec cs o met last with
      | none => ([], false)
      | some o' => X o'
  | [], d, a, o, met, last, hd, _, hX => by
    obtain ⟨d, rfl⟩ : ∃ m, d = m + 1 := ⟨d - 1, by simp at hd; omega⟩
    exact hX d o met last
  | c :: cs, d, a, o, met, last, hd, hc, hX => by
    obtain ⟨d, rfl⟩ : ∃ m, d = m + 1 := ⟨d - 1, by simp at hd; omega⟩
    rw [List.length_cons] at hd
    obtain ⟨h1, h2, h3⟩ := hc 0 (by simp)
    simp only [Nat.mul_zero, Nat.add_zero, List.getElem_cons_zero] at h1 h2 h3
    have ih := fun o met last => run_codes s X cs d (a + 9) o met last (by omega) (fun i h => by
      have := hc (i + 1) (by simp; omega)
      rw [List.getElem_cons_succ, show a + 9 * (i + 1) = a + 9 + 9 * i by omega] at this
      exact this) (fun d o met last => by
      have := hX d o met last
      rw [List.length_cons, show a + 9 * (cs.length + 1) = a + 9 + 9 * cs.length by omega] at this
      exact this)
    unfold pkRun pkDec
    rw [if_pos h1, h2, if_neg h3]
    unfold pkNext
    cases hst : pkStep o met last c with
    | none => rfl
    | some b =>
      dsimp only [Option.bind_some]
      by_cases hl : o.length + b.length ≤ 200
      · rw [if_pos hl, if_pos hl]
        exact ih _ _ _
      · rw [if_neg hl, if_neg hl]
theorem tb_cw (cs : List Int) : tb (cw cs) = 9 * cs.length := by
  induction cs with
  | nil => rfl
  | cons c cs ih =>
    rw [show cw (c :: cs) = ⟨c, 9⟩ :: cw cs from rfl, List.length_cons]
    unfold tb
    rw [ih]
    show (9 : Int).toNat + 9 * cs.length = _
    rw [show (9 : Int).toNat = 9 from rfl]; omega
/-- What is packed is what was packed, bit by bit. -/
theorem put_facts (cs : List Int) (hc : ∀ c ∈ cs, 0 ≤ c ∧ c < 512) (hl : cs.length ≤ 200) : ∃ p, res (cw cs ++ [⟨256, 9⟩]) [] 0 = p ∧ Inv p (9 * (cs.length + 1)) ∧ (∀ (i : Nat) (h : i < cs.length), bitSum p (9 * i) 9 = cs[i]) ∧ bitSum p (9 * cs.length) 9 = 256 := by
  have htb : tb (cw cs ++ [(⟨256, 9⟩ : S36)]) = 9 * (cs.length + 1) := by
    rw [tb_append, tb_cw]
    show 9 * cs.length + ((9 : Int).toNat + 0) = _
    rw [show (9 : Int).toNat = 9 from rfl]; omega
  have hp : ∀ c : Int, 0 ≤ c ∧ c < 512 → BitP c 9 := fun c h => ⟨by decide, by decide, h.1, by show c < 2 ^ 9; rw [pow9]; exact h.2⟩
  have hok : PutOk (cw cs ++ [(⟨256, 9⟩ : S36)]) 0 := by
    refine ⟨fun x hx => ?_, by rw [htb]; omega⟩
    rcases List.mem_append.mp hx with hx | hx
    · obtain ⟨c, h1, rfl⟩ := List.mem_map.mp hx
      exact hp c (hc c h1)
    · rw [List.mem_singleton.mp hx]; exact hp 256 ⟨by decide, by decide⟩
  have hinv := inv_res _ hok
  rw [htb] at hinv
  refine ⟨_, rfl, ?_, fun i h => ?_, ?_⟩
  · unfold res; rw [if_pos hok]; exact hinv
  · unfold res; rw [if_pos hok]
    have hs := sum_putL (cw (cs.take i)) ⟨cs[i], 9⟩ (cw (cs.drop (i + 1)) ++ [⟨256, 9⟩]) inv_nil (hp _ (hc _ (List.getElem_mem h)))
    have e : cw (cs.take i) ++ (⟨cs[i], 9⟩ : S36) :: (cw (cs.drop (i + 1)) ++ [⟨256, 9⟩]) = cw cs ++ [⟨256, 9⟩] := by
      unfold cw
      conv => rhs; rw [← List.take_append_drop i cs, List.drop_eq_getElem_cons h]
      rw [List.map_append, List.map_cons, List.append_assoc, List.cons_append]
    rw [e, tb_cw, List.length_take, Nat.min_eq_left (Nat.le_of_lt h), Nat.zero_add] at hs
    exact hs
  · unfold res; rw [if_pos hok]
    have hs := sum_putL (cw cs) ⟨256, 9⟩ [] inv_nil (hp 256 ⟨by decide, by decide⟩)
    rw [tb_cw, Nat.zero_add] at hs
    exact hs
theorem codes_in (l : List Int) (hb : Bytes l) (hl : l.length ≤ 200) : ∀ c ∈ pkCodes l, 0 ≤ c ∧ c < 512 ∧ c ≠ 256 :=
  pkEnc_code l.length [] l (Nat.le_refl _) (fun x hx => by have := hb x hx; exact ⟨this.1, by have := this.2; omega⟩) (by simp; omega)
theorem codes_dec (l : List Int) (hb : Bytes l) (hl : l.length ≤ 200) : pkDec (pkCodes l) [] [] [] = some l :=
  pkDec_codes l (fun x hx => by have := hb x hx; exact ⟨this.1, by have := this.2; omega⟩) hl
/-- What was packed is unpacked. -/
theorem back_ok (l : List Int) (hb : Bytes l) (hl : l.length ≤ 200) : pkGetR (pkPutR l) = (l, true) := by
  have hc := codes_in l hb hl
  have hn := codes_len l
  obtain ⟨p, hp, hinv, hbits, hend⟩ := put_facts (pkCodes l) (fun c h => ⟨(hc c h).1, (hc c h).2.1⟩) (by omega)
  have hpr : pkPutR l = p := by unfold pkPutR; rw [if_neg (by omega), hp]
  have hlen := hinv.len
  rw [hpr]
  unfold pkGetR
  rw [run_codes p (fun o => (o, true)) (pkCodes l) 201 0 [] [] [] (by omega) (fun i h => ?_) (fun d o met last => ?_), codes_dec l hb hl]
  · rw [Nat.zero_add]
    exact ⟨⟨by omega, by decide, by decide, by omega⟩, hbits i h, (hc _ (List.getElem_mem h)).2.2⟩
  · rw [Nat.zero_add]
    unfold pkRun
    rw [if_pos ⟨by omega, by decide, by decide, by omega⟩, hend, if_pos rfl, if_pos]
    refine ⟨by omega, ?_⟩
    by_cases h8 : (9 * (pkCodes l).length + 9) % 8 = 0
    · exact .inl h8
    · right
      have h1 := hinv.low (by rw [show 9 * ((pkCodes l).length + 1) = 9 * (pkCodes l).length + 9 by omega]; exact h8)
      rw [show 9 * ((pkCodes l).length + 1) = 9 * (pkCodes l).length + 9 by omega] at h1
      exact Int.ediv_eq_zero_of_lt (getD_byte hinv.byt _).1 h1
theorem bitAt_take (s : List Int) (m j : Nat) (h : j < 8 * m) : bitAt (s.take m) j = bitAt s j := by
  unfold bitAt
  rw [List.getD_eq_getElem?_getD, List.getD_eq_getElem?_getD, List.getElem?_take, if_pos (by omega)]
/-- Without its last byte it is not. -/
theorem short_ok (l : List Int) (hb : Bytes l) (hl : l.length ≤ 200) : pkGetR ((pkPutR l).take ((pkPutR l).length - 1)) = ([], false) := by
  have hc := codes_in l hb hl
  have hn := codes_len l
  obtain ⟨p, hp, hinv, hbits, hend⟩ := put_facts (pkCodes l) (fun c h => ⟨(hc c h).1, (hc c h).2.1⟩) (by omega)
  have hpr : pkPutR l = p := by unfold pkPutR; rw [if_neg (by omega), hp]
  have hlen := hinv.len
  rw [hpr]
  have htl : (p.take (p.length - 1)).length = p.length - 1 := by rw [List.length_take]; omega
  unfold pkGetR
  rw [run_codes (p.take (p.length - 1)) (fun _ => ([], false)) (pkCodes l) 201 0 [] [] [] (by omega) (fun i h => ?_) (fun d o met last => ?_)]
  · cases pkDec (pkCodes l) [] [] [] <;> rfl
  · rw [Nat.zero_add]
    refine ⟨⟨by omega, by decide, by decide, by rw [htl]; omega⟩, ?_, (hc _ (List.getElem_mem h)).2.2⟩
    rw [bitSum_congr 9 (fun t ht => bitAt_take p _ _ (by omega)), hbits i h]
  · rw [Nat.zero_add]
    unfold pkRun
    rw [if_neg]
    intro h
    have := h.2.2.2
    rw [htl] at this
    omega
theorem getP_more {s : List Int} {a : Nat} (h : GetP s (a : Int) 9) : GetP (s ++ [0]) (a : Int) 9 := ⟨h.1, h.2.1, h.2.2.1, by have := h.2.2.2; rw [List.length_append, List.length_singleton]; omega⟩
theorem bitSum_more {s : List Int} {a : Nat} (h : GetP s (a : Int) 9) : bitSum (s ++ [0]) a 9 = bitSum s a 9 := by
  refine bitSum_congr 9 (fun t ht => ?_)
  have := h.2.2.2
  unfold bitAt
  rw [List.getD_eq_getElem?_getD, List.getD_eq_getElem?_getD, List.getElem?_append_left (by omega)]
/-- With a nought more nothing is unpacked. -/
theorem more_no (s b : List Int) : ∀ (d a : Nat) (o : List Int) (met : List (List Int)) (last : List Int), pkRun s d a o met last = (b, true) → pkRun (s ++ [0]) d a o met last = ([], false)
  | 0, a, o, met, last, h => rfl
  | d + 1, a, o, met, last, h => by
    unfold pkRun at h ⊢
    by_cases hg : GetP s (a : Int) 9
    · rw [if_pos hg] at h
      rw [if_pos (getP_more hg), bitSum_more hg]
      by_cases h6 : bitSum s a 9 = 256
      · rw [if_pos h6] at h ⊢
        by_cases he : EndP s (a + 9)
        · rw [if_neg]
          intro h2
          have e1 := he.1
          have e2 := h2.1
          rw [List.length_append, List.length_singleton] at e2
          omega
        · rw [if_neg he] at h
          injection h with _ h; cases h
      · rw [if_neg h6] at h ⊢
        unfold pkNext at h ⊢
        cases hst : pkStep o met last (bitSum s a 9) with
        | none => rfl
        | some c =>
          rw [hst] at h
          dsimp only at h ⊢
          by_cases hl : o.length + c.length ≤ 200
          · rw [if_pos hl] at h ⊢
            exact more_no s b d (a + 9) _ _ _ h
          · rw [if_neg hl]
    · rw [if_neg hg] at h
      injection h with _ h; cases h
/-- What is unpacked is bytes, and not too many; of what is not there is none. -/
theorem run_good (s : List Int) (hs : Bytes s) : ∀ (d a : Nat) (o : List Int) (met : List (List Int)) (last : List Int), Bytes o → (∀ t ∈ met, Bytes t) → Bytes last → o.length ≤ 200 →
    Bytes (pkRun s d a o met last).1 ∧ (pkRun s d a o met last).1.length ≤ 200 ∧ ((pkRun s d a o met last).2 = false → (pkRun s d a o met last).1 = [])
  | 0, a, o, met, last, _, _, _, _ => ⟨bytes_nil, Nat.zero_le _, fun _ => rfl⟩
  | d + 1, a, o, met, last, h1, h2, h3, h4 => by
    have hnil : Bytes (([], false) : List Int × Bool).1 ∧ (([], false) : List Int × Bool).1.length ≤ 200 ∧ ((([], false) : List Int × Bool).2 = false → (([], false) : List Int × Bool).1 = []) := ⟨bytes_nil, Nat.zero_le _, fun _ => rfl⟩
    unfold pkRun
    by_cases hg : GetP s (a : Int) 9
    · rw [if_pos hg]
      by_cases h6 : bitSum s a 9 = 256
      · rw [if_pos h6]
        by_cases he : EndP s (a + 9)
        · rw [if_pos he]
          exact ⟨h1, h4, fun h => by cases h⟩
        · rw [if_neg he]; exact hnil
      · rw [if_neg h6]
        unfold pkNext
        have hcb : ∀ b, pkStep o met last (bitSum s a 9) = some b → Bytes b := by
          intro b hb
          obtain ⟨c0, c1⟩ := code_in s a
          unfold pkStep at hb
          split at hb
          · injection hb with hb; subst hb
            intro x hx
            rw [List.mem_singleton.mp hx]
            exact ⟨c0, by omega⟩
          · split at hb
            · cases hb
            · split at hb
              · exact h2 _ (List.mem_of_getElem? hb)
              · split at hb
                · rename_i hq
                  injection hb with hb; subst hb
                  refine bytes_append h3 (fun x hx => ?_)
                  rw [List.mem_singleton.mp hx]
                  cases last with
                  | nil => exact absurd rfl hq.2
                  | cons y l => exact h3 y (by simp)
                · cases hb
        cases hst : pkStep o met last (bitSum s a 9) with
        | none => exact hnil
        | some b =>
          have hb := hcb b hst
          dsimp only
          by_cases hl : o.length + b.length ≤ 200
          · rw [if_pos hl]
            refine run_good s hs d (a + 9) _ _ _ (bytes_append h1 hb) (fun t ht => ?_) hb (by rw [List.length_append]; exact hl)
            unfold pkMore at ht
            split at ht
            · rcases List.mem_append.mp ht with ht | ht
              · exact h2 t ht
              · rw [List.mem_singleton.mp ht]
                refine bytes_append h3 (fun x hx => ?_)
                rw [List.mem_singleton.mp hx]
                cases b with
                | nil => exact ⟨by decide, by decide⟩
                | cons y l => exact hb y (by simp)
            · exact h2 t ht
          · rw [if_neg hl]; exact hnil
    · rw [if_neg hg]; exact hnil
theorem getR_good (s : List Int) (hs : Bytes s) : Bytes (pkGetR s).1 ∧ (pkGetR s).1.length ≤ 200 ∧ ((pkGetR s).2 = false → (pkGetR s).1 = []) := run_good s hs 201 0 [] [] [] bytes_nil (fun t h => by cases h) bytes_nil (by simp)
theorem put_len (l : List Int) (hb : Bytes l) (hl : l.length ≤ 200) : (pkPutR l).length = (9 * ((pkCodes l).length + 1) + 7) / 8 := by
  have hc := codes_in l hb hl
  have hn := codes_len l
  obtain ⟨p, hp, hinv, _, _⟩ := put_facts (pkCodes l) (fun c h => ⟨(hc c h).1, (hc c h).2.1⟩) (by omega)
  unfold pkPutR
  rw [if_neg (by omega), hp, hinv.len]
end Go.Proofs.Ytfnkaccncmjnaaa.Pl
