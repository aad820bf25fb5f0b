/- Different bytes have different hex texts, and different strings. No condition but that they are bytes. -/
import Derived.Test.YtmkiajoanblkbaaPlHexText

namespace Go.Proofs.Ytmkiajoanblkbaa.Pl
open Go Go.RowKit Go.Proofs.Ytmkiajoanblkbaa.X Go.Proofs.YtmkiajoanblkbaaW.PrintWords Go.Proofs.YtmkiajoanblkbaaW.PrintLast Go.Proofs.YtmkiajoanblkbaaW.PrintMore
theorem str_inj {l m : List Int} (hl : Bytes l) (hm : Bytes m) (h : (strOfNums l).data.toList = (strOfNums m).data.toList) : l = m := by
  rw [strOfNums_data, strOfNums_data] at h
  induction l generalizing m with
  | nil => cases m with
    | nil => rfl
    | cons y m => simp at h
  | cons x l ih =>
    cases m with
    | nil => simp at h
    | cons y m =>
      simp only [List.map_cons, List.cons.injEq] at h
      obtain ⟨hx0, hx1⟩ := hl x (by simp)
      obtain ⟨hy0, hy1⟩ := hm y (by simp)
      have e : x = y := by
        have := congrArg UInt8.toNat h.1
        rw [UInt8.toNat_ofNat', UInt8.toNat_ofNat'] at this
        omega
      rw [e, ih (fun z hz => hl z (by simp [hz])) (fun z hz => hm z (by simp [hz])) h.2]
theorem str_bytes {l m : List Int} (hl : Bytes l) (hm : Bytes m) (h : strOfNums l = strOfNums m) : l = m := str_inj hl hm (by rw [h])
theorem hexS_inj {x y : Int} (hx0 : 0 ≤ x) (hx1 : x ≤ 15) (hy0 : 0 ≤ y) (hy1 : y ≤ 15) (h : hexS x = hexS y) : x = y := by
  unfold hexS at h
  split at h <;> split at h <;> omega
theorem hexS_byte {x : Int} (h0 : 0 ≤ x) (h1 : x ≤ 15) : Byte (hexS x) := by
  unfold hexS Byte
  split <;> omega
theorem hexL_bytes {l : List Int} (h : Bytes l) : Bytes (hexL l) := by
  intro z hz
  simp only [hexL, List.mem_flatMap] at hz
  obtain ⟨x, hx, hz⟩ := hz
  obtain ⟨h0, h1⟩ := h x hx
  simp only [List.mem_cons, List.not_mem_nil, or_false] at hz
  rcases hz with rfl | rfl
  · exact hexS_byte (by omega) (by omega)
  · exact hexS_byte (by omega) (by omega)
theorem hexL_inj {l m : List Int} (hl : Bytes l) (hm : Bytes m) (h : hexL l = hexL m) : l = m := by
  induction l generalizing m with
  | nil => cases m with
    | nil => rfl
    | cons y m => simp [hexL] at h
  | cons x l ih =>
    cases m with
    | nil => simp [hexL] at h
    | cons y m =>
      simp only [hexL, List.flatMap_cons, List.cons_append, List.nil_append, List.cons.injEq] at h
      obtain ⟨hx0, hx1⟩ := hl x (by simp)
      obtain ⟨hy0, hy1⟩ := hm y (by simp)
      have e1 := hexS_inj (by omega) (by omega) (by omega) (by omega) h.1
      have e2 := hexS_inj (by omega) (by omega) (by omega) (by omega) h.2.1
      rw [show x = y by omega, ih (fun z hz => hl z (by simp [hz])) (fun z hz => hm z (by simp [hz])) h.2.2]
end Go.Proofs.Ytmkiajoanblkbaa.Pl
