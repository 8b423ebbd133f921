/- What impl.MillValidJob returns: the sizes, the order and the names of the outs. No condition. -/
import Derived.Test.YtdpdpigaegabbaaQXAny
import Derived.Test.YtdpdpigaegabbaaQf64
import Derived.Test.YtdpdpigaegabbaaQf61
namespace Go.Proofs.Ytdpdpigaegabbaa.Q
open Go.RowKit Go.Proofs.YtdpdpigaegabbaaW.PrintWords Go.Proofs.YtdpdpigaegabbaaW.PrintLast Go.Proofs.YtdpdpigaegabbaaW.PrintMore
set_option linter.unusedVariables false
set_option linter.unusedSimpArgs false
def badName (k : Nat) (x : ByteArray) : Option Bool := (impl_fileName.f k x).bind fun t => some (!t)
theorem badName_mono (k : Nat) (x : ByteArray) : LeO (badName k x) (badName (k + 1) x) := LeO.bind (impl_fileName.mono x k) (fun _ => LeO.refl _)
def impl_MillValidJob.f (k : Nat) (a0_0 : ByteArray) (l0_1 : List ByteArray) : Option Bool :=
  if (a0_0.size : Int) ≤ 3000 then (if (l0_1.length : Int) ≤ 20 then ((impl_ascending.f k l0_1).bind fun t => if t = true then ((anyO (badName k) l0_1).bind fun u => some (!u)) else some false) else some false) else some false
theorem impl_MillValidJob.mono : ∀ a0_0 l0_1 k, LeO (impl_MillValidJob.f k a0_0 l0_1) (impl_MillValidJob.f (k + 1) a0_0 l0_1) := by
  intro a l k
  unfold impl_MillValidJob.f
  exact LeO.ite (LeO.ite (LeO.bind (impl_ascending.mono l k) (fun t => LeO.ite (LeO.bind (anyO_mono (badName_mono k) l) (fun _ => LeO.refl _)) (LeO.refl _))) (LeO.refl _)) (LeO.refl _)
set_option maxHeartbeats 2000000 in
theorem badName_calls (k : Nat) (x : ByteArray) (b : Bool) (W : World) (h : badName k x = some b) :
    Calls Try.prog 63 #[.string x] W fun e w' => e = .returned (.bool b) ∧ Below W.heap.size W w' := by
  unfold badName at h
  obtain ⟨t, ht, h⟩ := Option.bind_eq_some_iff.mp h
  obtain rfl := Option.some.inj h
  have HT := Aside0.mk ht
  clear ht h
  go_enter Try.func63, Try.ntmps63
  go_wp2_with (go_at_call 64; refine (impl_fileName.calls k x t _ HT.out).mono ?_; rintro e w' ⟨rfl, ⟨nd, rfl⟩⟩)
  go_ret
  exact ⟨rfl, pw_below_drewN (Below.refl _ _) _⟩
set_option maxHeartbeats 8000000 in
set_option maxRecDepth 100000 in
theorem impl_MillValidJob.calls (k : Nat) (a0_0 : ByteArray) (A0_1 : Option Addr) (c0_1 : Nat) (l0_1 : List ByteArray) (r : Bool) (w : World) (hr0_1 : Kd.C Kd.string w A0_1 l0_1.length l0_1) (hc0_1 : l0_1.length ≤ c0_1) (h : impl_MillValidJob.f k a0_0 l0_1 = some r) :
    Calls Try.prog 31 #[.agg #[.string a0_0, .slice A0_1 l0_1.length c0_1]] w fun e w' => e = .returned (.bool r) ∧ Below w.heap.size w w' := by
  have HR := Aside0.mk hr0_1
  have HC := Aside0.mk hc0_1
  have HB := Aside0.mk (Below.refl w.heap.size w)
  have eg : ∀ args w, (callFunc 63 args).run Try.prog w = .ok (.enter 63 args) w := enters_of Try.func63 (by kernel_rfl) rfl
  have HE := Aside0.mk eg
  clear hr0_1 hc0_1 eg
  unfold impl_MillValidJob.f at h
  by_cases c1 : (a0_0.size : Int) ≤ 3000
  · rw [if_pos c1] at h
    have d1 : decide ((a0_0.size : Int) ≤ 3000) = true := decide_eq_true c1
    by_cases c2 : (l0_1.length : Int) ≤ 20
    · rw [if_pos c2] at h
      have d2 : decide ((l0_1.length : Int) ≤ 20) = true := decide_eq_true c2
      obtain ⟨t, ht, h⟩ := Option.bind_eq_some_iff.mp h
      have HT := Aside0.mk ht
      clear ht
      cases t with
      | true =>
        rw [if_pos rfl] at h
        obtain ⟨u, hu, h⟩ := Option.bind_eq_some_iff.mp h
        obtain rfl := Option.some.inj h
        have HU := Aside0.mk hu
        clear hu h
        go_enter Try.func31, Try.ntmps31
        go_wp2_with (first | ((with_reducible refine gate_dst (N := 1) rfl ?_); refine box_event ?hg (N := 1) ?hd (cs := #[.string a0_0, .slice A0_1 l0_1.length c0_1]) (t := 48) ?hr ?_; (case hd => rfl); (case hg => rfl); (case hr => first | (go_simp; done) | (go_simp; rfl)); intro gb hg w3 hbox hb; have BK := Aside0.mk hbox; have HB := Aside0.mk hb; clear hb hbox hg; have hcz0 : w3.cell? ⟨gb, 0, none⟩ = some (.string a0_0) := (blk_cell BK.out 0).trans rfl; have hcz1 : w3.cell? ⟨gb, 1, none⟩ = some (.slice A0_1 l0_1.length c0_1) := (blk_cell BK.out 1).trans rfl) | (go_at_call 61; refine (impl_ascending.calls k A0_1 c0_1 l0_1 true _ (Kd.C_below HR.out HB.out) HC.out HT.out).mono ?_; rintro e w' ⟨rfl, ⟨nd, rfl⟩⟩) | (go_at_call 62; refine (ContainsFunc_string 63 #[] HE.out (badName k) A0_1 c0_1 l0_1 u _ (Kd.C_below HR.out (pw_below_drewN HB.out _)) HC.out (fun x b W hx _ => badName_calls k x b W hx) HU.out).mono ?_; rintro e w' ⟨rfl, hb⟩; have HB2 := Aside0.mk (below_step (pw_below_drewN HB.out _) hb); clear hb))
        go_ret
        exact ⟨rfl, HB2.out⟩
      | false =>
        obtain rfl : r = false := by simpa using h.symm
        clear h
        go_enter Try.func31, Try.ntmps31
        go_wp2_with (first | ((with_reducible refine gate_dst (N := 1) rfl ?_); refine box_event ?hg (N := 1) ?hd (cs := #[.string a0_0, .slice A0_1 l0_1.length c0_1]) (t := 48) ?hr ?_; (case hd => rfl); (case hg => rfl); (case hr => first | (go_simp; done) | (go_simp; rfl)); intro gb hg w3 hbox hb; have BK := Aside0.mk hbox; have HB := Aside0.mk hb; clear hb hbox hg; have hcz0 : w3.cell? ⟨gb, 0, none⟩ = some (.string a0_0) := (blk_cell BK.out 0).trans rfl; have hcz1 : w3.cell? ⟨gb, 1, none⟩ = some (.slice A0_1 l0_1.length c0_1) := (blk_cell BK.out 1).trans rfl) | (go_at_call 61; refine (impl_ascending.calls k A0_1 c0_1 l0_1 false _ (Kd.C_below HR.out HB.out) HC.out HT.out).mono ?_; rintro e w' ⟨rfl, ⟨nd, rfl⟩⟩))
        go_ret
        exact ⟨rfl, pw_below_drewN HB.out _⟩
    · rw [if_neg c2] at h
      have d2 : decide ((l0_1.length : Int) ≤ 20) = false := decide_eq_false c2
      obtain rfl := Option.some.inj h
      go_enter Try.func31, Try.ntmps31
      go_wp2_with (first | ((with_reducible refine gate_dst (N := 1) rfl ?_); refine box_event ?hg (N := 1) ?hd (cs := #[.string a0_0, .slice A0_1 l0_1.length c0_1]) (t := 48) ?hr ?_; (case hd => rfl); (case hg => rfl); (case hr => first | (go_simp; done) | (go_simp; rfl)); intro gb hg w3 hbox hb; have BK := Aside0.mk hbox; have HB := Aside0.mk hb; clear hb hbox hg; have hcz0 : w3.cell? ⟨gb, 0, none⟩ = some (.string a0_0) := (blk_cell BK.out 0).trans rfl; have hcz1 : w3.cell? ⟨gb, 1, none⟩ = some (.slice A0_1 l0_1.length c0_1) := (blk_cell BK.out 1).trans rfl))
      go_ret
      exact ⟨rfl, HB.out⟩
  · rw [if_neg c1] at h
    have d1 : decide ((a0_0.size : Int) ≤ 3000) = false := decide_eq_false c1
    obtain rfl := Option.some.inj h
    go_enter Try.func31, Try.ntmps31
    go_wp2_with (first | ((with_reducible refine gate_dst (N := 1) rfl ?_); refine box_event ?hg (N := 1) ?hd (cs := #[.string a0_0, .slice A0_1 l0_1.length c0_1]) (t := 48) ?hr ?_; (case hd => rfl); (case hg => rfl); (case hr => first | (go_simp; done) | (go_simp; rfl)); intro gb hg w3 hbox hb; have BK := Aside0.mk hbox; have HB := Aside0.mk hb; clear hb hbox hg; have hcz0 : w3.cell? ⟨gb, 0, none⟩ = some (.string a0_0) := (blk_cell BK.out 0).trans rfl; have hcz1 : w3.cell? ⟨gb, 1, none⟩ = some (.slice A0_1 l0_1.length c0_1) := (blk_cell BK.out 1).trans rfl))
    go_ret
    exact ⟨rfl, HB.out⟩
end Go.Proofs.Ytdpdpigaegabbaa.Q
