/- Names of files, files in order, files copied and compared: that program and reference agree on them, and that the laws' own copies are exact. The lists are shorter than 2^62. -/
import Derived.Test.YtdpdpigaegabbaaEvMore
import Derived.Test.YtdpdpigaegabbaaQf33
import Derived.Test.YtdpdpigaegabbaaQf35
import Derived.Test.YtdpdpigaegabbaaQf37
import Derived.Test.YtdpdpigaegabbaaQf34
import Derived.Test.YtdpdpigaegabbaaQf36
namespace Go.Proofs.Ytdpdpigaegabbaa.Q
open Go.RowKit Go.Proofs.YtdpdpigaegabbaaW.PrintWords Go.Proofs.YtdpdpigaegabbaaW.PrintLast Go.Proofs.YtdpdpigaegabbaaW.PrintMore Go.Proofs.Ytdpdpigaegabbaa.EvMore
set_option linter.unusedVariables false
set_option linter.unusedSimpArgs false
theorem path_loops (s : ByteArray) (hs : s.size ≤ 140737488351232) : ∀ d i : Nat, i + d = s.size →
    ∃ b : Bool, Ev (fun k => spec_l15PrefixOk.l0 k s (i : Int)) b ∧ Ev (fun k => impl_listName.l0 k s (i : Int)) (b && decide ((s.size : Int) ≤ 60))
  | 0, i, h => by
    refine ⟨true, ev_step ?_, ev_step ?_⟩
    · exact ev_neg (by omega) (ev_now _)
    · exact ev_neg (by omega) (ev_eq (ev_now _) (by simp))
  | d + 1, i, h => by
    obtain ⟨b, h1, h2⟩ := path_loops s hs d (i + 1) (by omega)
    have e := succ64 (i := i) (n := s.size) (by omega) (by omega)
    by_cases c1 : bt s (i : Int) < 33
    · exact ⟨false, ev_step (ev_pos (by omega) (ev_pos (by omega) (ev_pos c1 (ev_now _)))), ev_step (ev_pos (by omega) (ev_pos (by omega) (ev_pos c1 (ev_now _))))⟩
    · by_cases c2 : bt s (i : Int) > 126
      · exact ⟨false, ev_step (ev_pos (by omega) (ev_pos (by omega) (ev_neg c1 (ev_pos c2 (ev_now _))))), ev_step (ev_pos (by omega) (ev_pos (by omega) (ev_neg c1 (ev_pos c2 (ev_now _)))))⟩
      · refine ⟨b, ev_step (ev_pos (by omega) (ev_pos (by omega) (ev_neg c1 (ev_neg c2 ?_)))), ev_step (ev_pos (by omega) (ev_pos (by omega) (ev_neg c1 (ev_neg c2 ?_))))⟩
        · simp only [e]; exact h1
        · simp only [e]; exact h2
/-- What is a file's name: program and reference agree. -/
theorem path_ev (s : ByteArray) (hs : s.size ≤ 140737488351232) : ∃ b : Bool, Ev (fun k => spec_l15PathOk.f k s) b ∧ Ev (fun k => impl_fileName.f k s) b := by
  obtain ⟨b, h1, h2⟩ := path_loops s hs s.size 0 (by omega)
  by_cases c : (s.size : Int) ≥ 1
  · refine ⟨b && decide ((s.size : Int) ≤ 60), ev_pos c (ev_bind (a := b && decide ((s.size : Int) ≤ 60)) ?_ (ev_now _)), ev_pos c (ev_bind h2 (ev_now _))⟩
    by_cases c2 : (s.size : Int) > 60
    · exact ev_pos c2 (ev_eq (ev_now _) (by simp; omega))
    · exact ev_neg c2 (ev_eq h1 (by simp; omega))
  · exact ⟨false, ev_neg c (ev_now _), ev_neg c (ev_now _)⟩
theorem files_loops (l : List S102) (hl : l.length ≤ 4398046511104) (hs : ∀ x ∈ l, x.f0.size ≤ 140737488351232) (a1 : Int) : ∀ d i : Nat, i + d = l.length →
    ∃ b : Bool, Ev (fun k => spec_l18FilesOk.l0 k l (i : Int)) b ∧ Ev (fun k => impl_filesOK.l0 k l a1 l (l.length : Int) (i : Int)) (b && decide ((l.length : Int) ≤ a1))
  | 0, i, h => by
    refine ⟨true, ev_step ?_, ev_step ?_⟩
    · exact ev_neg (by omega) (ev_now _)
    · exact ev_neg (by omega) (ev_eq (ev_now _) (by simp))
  | d + 1, i, h => by
    obtain ⟨b, h1, h2⟩ := files_loops l hl hs a1 d (i + 1) (by omega)
    have e := succ64 (i := i) (n := l.length) (by omega) (by omega)
    have hm : rd_T102 l (i : Int) ∈ l := by unfold rd_T102; rw [Int.toNat_natCast, List.getD_eq_getElem?_getD, List.getElem?_eq_getElem (by omega)]; exact List.getElem_mem _
    obtain ⟨p, p1, p2⟩ := path_ev _ (hs _ hm)
    have lt : (i : Int) < (l.length : Int) := by omega
    have ge : (0 : Int) ≤ (i : Int) := by omega
    cases p with
    | false =>
      exact ⟨false, ev_step (ev_pos lt (ev_pos ge (ev_bind p1 (ev_neg (by simp) (ev_now _))))), ev_step (ev_pos lt (ev_pos ge (ev_pos lt (ev_bind p2 (ev_neg (by simp) (ev_now _))))))⟩
    | true =>
      by_cases c1 : ((rd_T102 l (i : Int)).f1.size : Int) > 3000
      · refine ⟨false, ev_step (ev_pos lt (ev_pos ge (ev_bind p1 (ev_pos rfl (ev_pos c1 (ev_now _)))))), ev_step (ev_pos lt (ev_pos ge (ev_pos lt (ev_bind p2 (ev_pos rfl (ev_val (a := false) ?_ (ev_neg (by simp) (ev_now _))))))))⟩
        simp [impl_short.f]; omega
      · have hsh : impl_short.f (rd_T102 l (i : Int)).f1 = some true := by simp [impl_short.f]; omega
        by_cases c2 : (i : Int) > 0
        · have ep := pred64 (i := i) (by omega) (by omega)
          by_cases c3 : Op.bytesLess (rd_T102 l (wrap64 ((i : Int) - 1))).f0.toList (rd_T102 l (i : Int)).f0.toList = true
          · refine ⟨b, ev_step (ev_pos lt (ev_pos ge (ev_bind p1 (ev_pos rfl (ev_neg c1 (ev_pos c2 (ev_pos (by rw [ep]; omega) (ev_pos (by rw [ep]; omega) (ev_pos c3 ?_))))))))), ev_step (ev_pos lt (ev_pos ge (ev_pos lt (ev_bind p2 (ev_pos rfl (ev_val hsh (ev_pos rfl (ev_pos c2 (ev_pos (by rw [ep]; omega) (ev_pos (by rw [ep]; omega) (ev_pos c3 ?_)))))))))))⟩
            · simp only [e]; exact h1
            · simp only [e]; exact h2
          · exact ⟨false, ev_step (ev_pos lt (ev_pos ge (ev_bind p1 (ev_pos rfl (ev_neg c1 (ev_pos c2 (ev_pos (by rw [ep]; omega) (ev_pos (by rw [ep]; omega) (ev_neg c3 (ev_now _)))))))))), ev_step (ev_pos lt (ev_pos ge (ev_pos lt (ev_bind p2 (ev_pos rfl (ev_val hsh (ev_pos rfl (ev_pos c2 (ev_pos (by rw [ep]; omega) (ev_pos (by rw [ep]; omega) (ev_neg c3 (ev_now _))))))))))))⟩
        · refine ⟨b, ev_step (ev_pos lt (ev_pos ge (ev_bind p1 (ev_pos rfl (ev_neg c1 (ev_neg c2 ?_)))))), ev_step (ev_pos lt (ev_pos ge (ev_pos lt (ev_bind p2 (ev_pos rfl (ev_val hsh (ev_pos rfl (ev_neg c2 ?_))))))))⟩
          · simp only [e]; exact h1
          · simp only [e]; exact h2
theorem files_ev (l : List S102) (hl : l.length ≤ 4398046511104) (hs : ∀ x ∈ l, x.f0.size ≤ 140737488351232) (a1 : Int) :
    ∃ b : Bool, Ev (fun k => spec_l18FilesOk.f k l a1) b ∧ Ev (fun k => impl_filesOK.f k l a1) b := by
  obtain ⟨b, h1, h2⟩ := files_loops l hl hs a1 l.length 0 (by omega)
  refine ⟨b && decide ((l.length : Int) ≤ a1), ?_, h2⟩
  by_cases c : (l.length : Int) > a1
  · exact ev_pos c (ev_eq (ev_now _) (by simp; omega))
  · exact ev_neg c (ev_eq h1 (by simp; omega))
theorem place_ev (l : List S102) (hl : l.length ≤ 4398046511104) (hs : ∀ x ∈ l, x.f0.size ≤ 140737488351232) :
    ∃ b : Bool, Ev (fun k => spec_MillValidPlace.f k l) b ∧ Ev (fun k => impl_MillValidPlace.f k l) b := by
  obtain ⟨b, h1, h2⟩ := files_ev l hl hs 40
  exact ⟨b, ev_bind h1 (ev_now _), ev_bind h2 (ev_now _)⟩
/-- The law's own measure ends. -/
theorem szFiles_loop (l : List S130) (hl : l.length ≤ 4398046511104) : ∀ d i : Nat, i + d = l.length → ∀ left : Int, ∃ v, Ev (fun k => laws_szMillFileS.l0 k l left (i : Int)) v
  | 0, i, h, left => ⟨left, ev_step (ev_neg (by omega) (ev_now _))⟩
  | d + 1, i, h, left => by
    have e := succ64 (i := i) (n := l.length) (by omega) (by omega)
    obtain ⟨a, ha⟩ : ∃ a, laws_szMillFile.f (rd_T130 l (i : Int)).f0 (rd_T130 l (i : Int)).f1 left = some a := by
      unfold laws_szMillFile.f; split
      · exact ⟨_, rfl⟩
      · split <;> exact ⟨_, rfl⟩
    by_cases c : a < 0
    · exact ⟨-1, ev_step (ev_pos (by omega) (ev_pos (by omega) (ev_val ha (ev_pos c (ev_now _)))))⟩
    · obtain ⟨v, hv⟩ := szFiles_loop l hl d (i + 1) (by omega) a
      refine ⟨v, ev_step (ev_pos (by omega) (ev_pos (by omega) (ev_val ha (ev_neg c ?_))))⟩
      simp only [e]; exact hv
theorem szFiles_ev (l : List S130) (hl : l.length ≤ 4398046511104) (left : Int) : ∃ v, Ev (fun k => laws_szMillFileS.f k l left) v := by
  by_cases c : wrap64 (left - (l.length : Int)) < 0
  · exact ⟨_, ev_pos c (ev_now _)⟩
  · obtain ⟨v, hv⟩ := szFiles_loop l hl l.length 0 (by omega) (wrap64 (left - (l.length : Int)))
    exact ⟨v, ev_neg c hv⟩
theorem szPlace_ev (l : List S130) (hl : l.length ≤ 4398046511104) (left : Int) : ∃ v, Ev (fun k => laws_szMillPlace.f k l left) v := by
  obtain ⟨v, hv⟩ := szFiles_ev l hl left
  by_cases c : v < 0
  · exact ⟨_, ev_bind hv (ev_pos c (ev_now _))⟩
  · exact ⟨_, ev_bind hv (ev_neg c (ev_now _))⟩
/-- The law's own copy. -/
def toFile (x : S130) : S102 := ⟨x.f0, x.f1⟩
theorem toFiles_loop (l : List S130) (hl : l.length ≤ 4398046511104) : ∀ d i : Nat, i + d = l.length →
    Ev (fun k => laws_toMillFileS.l0 k l ((l.take i).map toFile ++ List.replicate (l.length - i) z102) (i : Int)) (l.map toFile)
  | 0, i, h => by
    refine ev_step (ev_neg (by omega) (ev_eq (ev_now _) ?_))
    have : i = l.length := by omega
    subst this; simp
  | d + 1, i, h => by
    have e := succ64 (i := i) (n := l.length) (by omega) (by omega)
    have hi : i < l.length := by omega
    have hr : rd_T130 l (i : Int) = l[i] := by unfold rd_T130; rw [Int.toNat_natCast, List.getD_eq_getElem?_getD, List.getElem?_eq_getElem hi]; rfl
    refine ev_step (ev_pos (by omega) (ev_pos (by omega) (ev_val rfl (ev_pos (by simp; omega) ?_))))
    have ih := toFiles_loop l hl d (i + 1) (by omega)
    rw [← set_map toFile l _ i hi] at ih
    simp only [e, hr, Int.toNat_natCast]; exact ih
theorem toFiles_ev (l : List S130) (hl : l.length ≤ 4398046511104) : Ev (fun k => laws_toMillFileS.f k l) (l.map toFile) := by
  refine ev_pos (by omega) (ev_pos (by omega) ?_)
  have h := toFiles_loop l hl l.length 0 (by omega)
  simpa using h
theorem toPlace_ev (l : List S130) (hl : l.length ≤ 4398046511104) : Ev (fun k => laws_toMillPlace.f k l) (l.map toFile) := ev_bind (toFiles_ev l hl) (ev_now _)
/-- The law's own comparison of a list with itself. -/
theorem eqFiles_loop (l : List S102) (hl : l.length ≤ 4398046511104) : ∀ d i : Nat, i + d = l.length → Ev (fun k => laws_eqMillFileS.l0 k l l (i : Int)) true
  | 0, i, h => ev_step (ev_neg (by omega) (ev_now _))
  | d + 1, i, h => by
    have e := succ64 (i := i) (n := l.length) (by omega) (by omega)
    refine ev_step (ev_pos (by omega) (ev_pos (by omega) (ev_pos (by omega) (ev_val (a := true) (by simp [laws_eqMillFile.f]) (ev_pos rfl ?_)))))
    simp only [e]; exact eqFiles_loop l hl d (i + 1) (by omega)
theorem eqPlace_ev (l : List S102) (hl : l.length ≤ 4398046511104) : Ev (fun k => laws_eqMillPlace.f k l l) true :=
  ev_bind (ev_pos rfl (eqFiles_loop l hl l.length 0 (by omega))) (ev_pos rfl (ev_now _))
end Go.Proofs.Ytdpdpigaegabbaa.Q
