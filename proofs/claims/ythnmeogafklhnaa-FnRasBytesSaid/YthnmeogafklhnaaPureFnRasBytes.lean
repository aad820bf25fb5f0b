/- A picture's bytes are read as it: the pure statement of the law FnRasBytes. No condition. -/
import Derived.Test.YthnmeogafklhnaaPlDrawRead
import Derived.Test.YthnmeogafklhnaaPlEaOk
import Derived.Test.YthnmeogafklhnaaPlEaRas
import Derived.Test.YthnmeogafklhnaaX0
import Derived.Test.YthnmeogafklhnaaX76
import Derived.Test.YthnmeogafklhnaaX82
import Derived.Test.YthnmeogafklhnaaX83
import Derived.Test.YthnmeogafklhnaaX84
namespace Go.Proofs.Ythnmeogafklhnaa.Pure
open Go Go.RowKit Go.Proofs.Ythnmeogafklhnaa.X Go.Proofs.Ythnmeogafklhnaa.Pl Go.Proofs.YthnmeogafklhnaaW.PrintWords Go.Proofs.YthnmeogafklhnaaW.PrintLast Go.Proofs.YthnmeogafklhnaaW.PrintMore
theorem eaBytes_self (l : List Int) : laws_eaBytes.f l l = some true := by
  unfold laws_eaBytes.f
  rw [beq_self_eq_true]
theorem rasBytes_j2 (W H : Int) (r : List S38) (hr : r.length ≤ 36) (k : Nat) (hk : 200 ≤ k) : laws_FnRasBytes.j2 k (bytesR W H r) false W H r = some true := by
  obtain ⟨k, rfl⟩ : ∃ m, k = m + 1 := ⟨k - 1, by omega⟩
  have hbl := bytesR_len W H r
  simp only [laws_FnRasBytes.j2]
  rw [if_neg (by decide), specRasOk_ok W H r (by omega) k (by omega), Option.bind_some]
  by_cases h : RasP W H r
  · have he : bytesR W H r = rb_bs W H r r.length := by unfold bytesR; rw [if_pos h]
    rw [he] at hbl ⊢
    have hlen := rb_len W H r r.length (Nat.le_refl _)
    have h36 := h.len
    obtain ⟨hW, hH, hn, hg⟩ := id h
    have g0 : (rb_bs W H r r.length)[0]? = some W := (bs_two W H r r.length).1.trans (congrArg some (Int.emod_eq_of_lt (by omega) (by omega)))
    have g1 : (rb_bs W H r r.length)[1]? = some H := (bs_two W H r r.length).2.trans (congrArg some (Int.emod_eq_of_lt (by omega) (by omega)))
    have s1 : (readR ((rb_bs W H r r.length).take ((rb_bs W H r r.length).length - 1))).2.2.2 = false := by
      refine readR_no (a := W) (b := H) ?_ ?_ (by omega) (by omega) ?_
      · exact rd_some (i := 0) (by rw [List.getElem?_take, if_pos (by omega)]; exact g0)
      · exact rd_some (i := 1) (by rw [List.getElem?_take, if_pos (by omega)]; exact g1)
      · rw [List.length_take]; omega
    have s2 : (readR ([] ++ rb_bs W H r r.length ++ [0])).2.2.2 = false := by
      rw [List.nil_append]
      refine readR_no (a := W) (b := H) ?_ ?_ (by omega) (by omega) ?_
      · exact rd_some (i := 0) (by rw [List.getElem?_append_left (by omega)]; exact g0)
      · exact rd_some (i := 1) (by rw [List.getElem?_append_left (by omega)]; exact g1)
      · rw [List.length_append, List.length_singleton]; omega
    rw [if_pos (decide_eq_true h), implRasRead_ok, Option.bind_some, w64 (x := ((rb_bs W H r r.length).length : Int) - 1) (by omega) (by omega), if_pos (by omega), if_pos (by omega), implRasRead_ok, Option.bind_some, Option.bind_some, if_pos (by rw [List.length_nil]; omega), Option.bind_some, if_pos (by rw [List.nil_append]; omega), implRasRead_ok, Option.bind_some, show (((rb_bs W H r r.length).length : Int) - 1).toNat = (rb_bs W H r r.length).length - 1 by omega, s1, s2, readR_bs h, if_pos rfl, eaRas_self W H r (by omega) k (by omega), Option.bind_some, if_pos rfl, if_neg (by decide)]
    rfl
  · have he : bytesR W H r = [] := by unfold bytesR; rw [if_neg h]
    rw [if_neg (show ¬ decide (RasP W H r) = true from fun g => h (of_decide_eq_true g)), he, if_pos (by rfl), eaOk_ok, Option.bind_some]
theorem rasBytes_j1 (W H : Int) (r : List S38) (hr : r.length ≤ 36) (c : List Int) (hc : Bytes c) (k : Nat) (hk : 300 ≤ k) : laws_FnRasBytes.j1 k c (bytesR W H r) (readR c).2.2.2 false W H r (readR c).1 (readR c).2.1 (readR c).2.2.1 = some true := by
  obtain ⟨k, rfl⟩ : ∃ m, k = m + 1 := ⟨k - 1, by omega⟩
  have h36 := readR_len c
  have hj := rasBytes_j2 W H r hr k (by omega)
  simp only [laws_FnRasBytes.j1]
  rw [if_neg (by decide)]
  by_cases h : (readR c).2.2.2 = true
  · obtain ⟨h1, h2⟩ := readR_back hc h
    rw [if_pos h, implRasOk_ok _ _ _ (by omega) k (by omega), Option.bind_some, if_pos (decide_eq_true h1), implRasBytes_ok _ _ _ (by omega) k (by omega), Option.bind_some, h2, eaBytes_self, Option.bind_some]
    exact hj
  · rw [if_neg h]
    exact hj
theorem FnRasBytes : laws_FnRasBytes.Pure := by
  intro l m _ _ hb _ _ hb'
  obtain ⟨k, hk⟩ : ∃ k : Nat, 1000 ≤ k := ⟨1000, by omega⟩
  refine ⟨k + 1, ?_⟩
  obtain ⟨s, hs, hsb, hsl, _⟩ := open_ok l (bytes_wf hb)
  obtain ⟨W, H, r, q, he, hq0, hq1, hd, _⟩ := ras_ok s hsb hsl 0 5 (by omega) (by omega) (by omega)
  obtain ⟨c, hc, hcb⟩ := drawRasRead_ok m (bytes_wf hb')
  have h36 := hd.2.2.2.2
  have hc36 := readR_len c
  have hdraw : spec_DrawRasBytes.f k l = some (W, H, r) := by
    unfold spec_DrawRasBytes.f
    rw [hs, Option.bind_some, he k (by omega), Option.bind_some]
  have hj : ∀ b, laws_FnRasBytes.j0 (k + 1) l m b = some true := by
    intro b
    simp only [laws_FnRasBytes.j0]
    cases b with
    | true => rw [if_pos rfl]
    | false =>
      have hne : ((readR c).2.2.2 != (readR c).2.2.2) = false := bne_self_eq_false _
      rw [if_neg (by decide), hdraw, Option.bind_some, hc k (by omega), Option.bind_some, implRasBytes_ok W H r (by omega) k (by omega), Option.bind_some, implRasRead_ok, Option.bind_some, specRasRead_ok c hcb k (by omega), Option.bind_some, specRasBytes_ok W H r (by omega) k (by omega), Option.bind_some, eaBytes_self, Option.bind_some, if_pos rfl, eaRas_self _ _ _ (by omega) k (by omega), Option.bind_some, if_pos rfl, hne]
      exact rasBytes_j1 W H r h36 c hcb k (by omega)
  unfold laws_FnRasBytes.f
  split
  · exact hj true
  · exact hj _
end Go.Proofs.Ythnmeogafklhnaa.Pure
