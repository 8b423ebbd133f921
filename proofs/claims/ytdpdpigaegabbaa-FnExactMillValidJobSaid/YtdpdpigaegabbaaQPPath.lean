/- Names of files: program and reference agree on them. -/
import Derived.Test.YtdpdpigaegabbaaEvMore
import Derived.Test.YtdpdpigaegabbaaQf59
import Derived.Test.YtdpdpigaegabbaaQf64
namespace Go.Proofs.Ytdpdpigaegabbaa.Q
open Go.RowKit Go.Proofs.YtdpdpigaegabbaaW.PrintWords Go.Proofs.YtdpdpigaegabbaaW.PrintLast Go.Proofs.YtdpdpigaegabbaaW.PrintMore Go.Proofs.Ytdpdpigaegabbaa.EvMore
set_option linter.unusedVariables false
set_option linter.unusedSimpArgs false
theorem path_loops (s : ByteArray) (hs : s.size ≤ 140737488351232) : ∀ d i : Nat, i + d = s.size →
    ∃ b : Bool, Ev (fun k => spec_l15PrefixOk.l0 k s (i : Int)) b ∧ Ev (fun k => impl_listName.l0 k s (i : Int)) (b && decide ((s.size : Int) ≤ 60))
  | 0, i, h => by
    refine ⟨true, ev_step ?_, ev_step ?_⟩
    · exact ev_neg (by omega) (ev_now _)
    · exact ev_neg (by omega) (ev_eq (ev_now _) (by simp))
  | d + 1, i, h => by
    obtain ⟨b, h1, h2⟩ := path_loops s hs d (i + 1) (by omega)
    have e := succ64 (i := i) (n := s.size) (by omega) (by omega)
    by_cases c1 : bt s (i : Int) < 33
    · exact ⟨false, ev_step (ev_pos (by omega) (ev_pos (by omega) (ev_pos c1 (ev_now _)))), ev_step (ev_pos (by omega) (ev_pos (by omega) (ev_pos c1 (ev_now _))))⟩
    · by_cases c2 : bt s (i : Int) > 126
      · exact ⟨false, ev_step (ev_pos (by omega) (ev_pos (by omega) (ev_neg c1 (ev_pos c2 (ev_now _))))), ev_step (ev_pos (by omega) (ev_pos (by omega) (ev_neg c1 (ev_pos c2 (ev_now _)))))⟩
      · refine ⟨b, ev_step (ev_pos (by omega) (ev_pos (by omega) (ev_neg c1 (ev_neg c2 ?_)))), ev_step (ev_pos (by omega) (ev_pos (by omega) (ev_neg c1 (ev_neg c2 ?_))))⟩
        · simp only [e]; exact h1
        · simp only [e]; exact h2
/-- What is a file's name: program and reference agree. -/
theorem path_ev (s : ByteArray) (hs : s.size ≤ 140737488351232) : ∃ b : Bool, Ev (fun k => spec_l15PathOk.f k s) b ∧ Ev (fun k => impl_fileName.f k s) b := by
  obtain ⟨b, h1, h2⟩ := path_loops s hs s.size 0 (by omega)
  by_cases c : (s.size : Int) ≥ 1
  · refine ⟨b && decide ((s.size : Int) ≤ 60), ev_pos c (ev_bind (a := b && decide ((s.size : Int) ≤ 60)) ?_ (ev_now _)), ev_pos c (ev_bind h2 (ev_now _))⟩
    by_cases c2 : (s.size : Int) > 60
    · exact ev_pos c2 (ev_eq (ev_now _) (by simp; omega))
    · exact ev_neg c2 (ev_eq h1 (by simp; omega))
  · exact ⟨false, ev_neg c (ev_now _), ev_neg c (ev_now _)⟩
end Go.Proofs.Ytdpdpigaegabbaa.Q
