/- Mirroring and turning are put together as they should be: the pure statement of the law FnOpGroup. No condition. -/
import Derived.Test.YthnmeogafklhnaaPlPicOps
import Derived.Test.YthnmeogafklhnaaPlDrawOp
import Derived.Test.YthnmeogafklhnaaPlEaOk
import Derived.Test.YthnmeogafklhnaaX0
import Derived.Test.YthnmeogafklhnaaX55
namespace Go.Proofs.Ythnmeogafklhnaa.Pure
open Go Go.RowKit Go.Proofs.Ythnmeogafklhnaa.X Go.Proofs.Ythnmeogafklhnaa.Pl Go.Proofs.YthnmeogafklhnaaW.PrintWords Go.Proofs.YthnmeogafklhnaaW.PrintLast Go.Proofs.YthnmeogafklhnaaW.PrintMore
theorem FnOpGroup : laws_FnOpGroup.Pure := by
  intro l _ hl hb
  obtain ⟨W, H, r, K, A, B, C, D, hd, hD⟩ := drawOpDo_ok l (bytes_wf hb)
  obtain ⟨k, hk⟩ : ∃ k : Nat, 1000 ≤ k := ⟨1000, by omega⟩
  refine ⟨k, ?_⟩
  unfold laws_FnOpGroup.f
  by_cases h : (l.length : Int) > 1048576
  · rw [if_pos h]
  have hr36 := hD.2.2.2.2
  rw [if_neg h, hd k (by omega), Option.bind_some, specRasOk_ok W H r (by omega) k (by omega), Option.bind_some]
  by_cases hr : RasP W H r
  · rw [if_pos (decide_eq_true hr)]
    obtain ⟨a, g, rfl, rfl, rfl⟩ := of_ras hr
    obtain ⟨m, dm, wm, hm, cm⟩ := ex_of (does_mirror g)
    obtain ⟨t, dt, wt, ht, ct⟩ := ex_of (does_turn g)
    obtain ⟨o, dO, wo, ho, co⟩ := ex_of (does_over g)
    obtain ⟨mt, dmt, wmt, hmt, cmt⟩ := ex_of (does_turn dm.2.2)
    obtain ⟨tt, dtt, wtt, htt, ctt⟩ := ex_of (does_turn dt.2.2)
    obtain ⟨tm, dtm, wtm, htm, ctm⟩ := ex_of (does_mirror dt.2.2)
    obtain ⟨mtm, dmtm, wmtm, hmtm, cmtm⟩ := ex_of (does_mirror dmt.2.2)
    obtain ⟨ttt, dttt, wttt, httt, cttt⟩ := ex_of (does_turn dtt.2.2)
    obtain ⟨mtt, dmtt, wmtt, hmtt, cmtt⟩ := ex_of (does_turn dmt.2.2)
    obtain ⟨tmt, dtmt, wtmt, htmt, ctmt⟩ := ex_of (does_turn dtm.2.2)
    obtain ⟨tmtm, dtmtm, wtmtm, htmtm, ctmtm⟩ := ex_of (does_mirror dtmt.2.2)
    dsimp only at wm hm cm wt ht ct wo ho co wmt hmt cmt wtt htt ctt wtm htm ctm wmtm hmtm cmtm wttt httt cttt wmtt hmtt cmtt wtmt htmt ctmt wtmtm htmtm ctmtm
    rw [eaDo_ok g (.cons dm (.cons dmt (.one dmtm))) (by simp) k (by simp; omega), Option.bind_some, eaDo_ok g (.cons dt (.cons dtt (.one dttt))) (by simp) k (by simp; omega), Option.bind_some,
      eaRas_pic dmtm.2.2 (b := ttt) (by omega) (by omega) (fun x y hx hy => by rw [cmtm, cmt, cm, cttt, ctt, ct]; exact c_eq a.c (by omega) (by omega)) k (by omega), Option.bind_some, if_pos rfl,
      eaDo_ok g (.one dO) (by simp) k (by simp; omega), Option.bind_some, eaDo_ok g (.cons dm (.cons dmt (.one dmtt))) (by simp) k (by simp; omega), Option.bind_some,
      eaRas_pic dO.2.2 (b := mtt) (by omega) (by omega) (fun x y hx hy => by rw [co, cmtt, cmt, cm]; exact c_eq a.c (by omega) (by omega)) k (by omega), Option.bind_some, if_pos rfl,
      eaDo_ok g (.cons dt (.cons dtm (.cons dtmt (.one dtmtm)))) (by simp) k (by simp; omega), Option.bind_some,
      eaRas_pic dtmtm.2.2 (b := a) (by omega) (by omega) (fun x y hx hy => by rw [ctmtm, ctmt, ctm, ct]; exact c_eq a.c (by omega) (by omega)) k (by omega), Option.bind_some, if_pos rfl,
      eaDo_ok g (.cons dm (.one dmt)) (by simp) k (by simp; omega), Option.bind_some, rasOk_pic dmt.2.2 k (by omega), Option.bind_some]
  · rw [if_neg (show ¬ decide (RasP W H r) = true from fun h => hr (of_decide_eq_true h)), implRasOk_ok W H r (by omega) k (by omega), Option.bind_some, if_neg (show ¬ decide (RasP W H r) = true from fun h => hr (of_decide_eq_true h)), eaOk_ok, Option.bind_some]
end Go.Proofs.Ythnmeogafklhnaa.Pure
