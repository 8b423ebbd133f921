/- What slices.IndexFunc and slices.ContainsFunc return at a list of texts and a function value whose answers are known: whether one of the texts is told true. No condition. -/
import Derived.Test.YtdpdpigaegabbaaQXConv
import Derived.Shelf.Abstract
namespace Go.Proofs.Ytdpdpigaegabbaa.Q
open Go.RowKit Go.Proofs.YtdpdpigaegabbaaW.PrintWords Go.Proofs.YtdpdpigaegabbaaW.PrintLast Go.Proofs.YtdpdpigaegabbaaW.PrintMore
set_option linter.unusedVariables false
set_option linter.unusedSimpArgs false
/-- Is one of them told true? The first that is ends the search. -/
def anyO {α : Type} (p : α → Option Bool) : List α → Option Bool
  | [] => some false
  | x :: r => (p x).bind fun t => if t = true then some true else anyO p r
theorem anyO_mono {α : Type} {p q : α → Option Bool} (h : ∀ x, LeO (p x) (q x)) : ∀ l : List α, LeO (anyO p l) (anyO q l)
  | [] => LeO.refl _
  | x :: r => by
    simp only [anyO]
    exact LeO.bind (h x) (fun t => LeO.ite (LeO.refl _) (anyO_mono h r))
def IdxPost (r : Bool) (w : World) (e : Ending) (w' : World) : Prop := ∃ n : Int, e = .returned (.int .i64 n) ∧ decide (0 ≤ n) = r ∧ Below w.heap.size w w'
set_option maxHeartbeats 2000000 in
theorem IndexFunc_string (G : Nat) (lb : Array Value) (eg : ∀ args w, (callFunc G args).run Try.prog w = .ok (.enter G args) w) (p : ByteArray → Option Bool) (A : Option Addr) (c : Nat) (l : List ByteArray) (r : Bool) (w : World) (hr : Kd.C Kd.string w A l.length l) (hc : l.length ≤ c)
    (hp : ∀ x b W, p x = some b → Below w.heap.size w W → Calls Try.prog G (#[.string x] ++ lb) W fun e w' => e = .returned (.bool b) ∧ Below W.heap.size W w') (h : anyO p l = some r) :
    Calls Try.prog 99 #[.slice A l.length c, .func (.func G) #[] lb] w (IdxPost r w) := by
  have HP := Aside0.mk hp
  have HR := Aside0.mk hr
  have HO := Aside0.mk h
  have hmax : Aside0 (l.length ≤ 9223372036854775807) := ⟨hr.2.1⟩
  have HB := Aside0.mk (Below.refl w.heap.size w)
  clear hp hr h
  go_enter Try.func99, Try.ntmps99
  go_wp2
  go_loopg [5, 8] l.length (fun gg _ s8 wr => ∃ kk : Nat, kk ≤ l.length ∧ l.length - kk ≤ gg ∧ s8 = .int .i64 kk ∧ Aside0 (Below w.heap.size w wr) ∧ Aside0 (anyO p (l.drop kk) = some r))
  case atStart => exact ⟨0, Nat.zero_le _, by omega, rfl, HB, ⟨by simpa using HO.out⟩⟩
  case round =>
    obtain ⟨kk, hkk, hg, rfl, BW, HA⟩ := hrel
    have hm := hmax.out
    by_cases hlt : kk < l.length
    · have hltz : (kk : Int) < (l.length : Int) := by omega
      obtain ⟨ad, e, hx⟩ := Kd.at_string (Kd.C_below HR.out BW.out) (kk : Int) (by omega) hltz
      subst e
      have hd : l.drop kk = rdOf ByteArray.empty l (kk : Int) :: l.drop (kk + 1) := by
        rw [List.drop_eq_getElem_cons hlt]
        congr 1
        unfold rdOf
        rw [Int.toNat_natCast, List.getD_eq_getElem?_getD, List.getElem?_eq_getElem hlt]; rfl
      have H := HA.out
      rw [hd] at H
      simp only [anyO] at H
      obtain ⟨t, ht, H⟩ := Option.bind_eq_some_iff.mp H
      generalize rdOf ByteArray.empty l (kk : Int) = y at hx ht hd
      have hcall := HP.out y t wr ht BW.out
      clear HA hd ht
      simp only [Int.toNat_natCast] at hx
      cases t with
      | true =>
        have hr : r = true := by simpa using H.symm
        have HRR := Aside0.mk hr
        clear H hr
        go_wp2_with (go_at_fn G; refine hcall.mono ?_; rintro e w' ⟨rfl, hb'⟩)
        go_ret
        exact ⟨(kk : Int), rfl, by rw [HRR.out]; simp, below_step BW.out hb'⟩
      | false =>
        have H2 := Aside0.mk H
        clear H
        go_wp2_with (go_at_fn G; refine hcall.mono ?_; rintro e w' ⟨rfl, hb'⟩)
        go_roundg (l.length - (kk + 1))
        case measure => omega
        case rel => exact ⟨kk + 1, by omega, by omega, by go_num, ⟨below_step BW.out hb'⟩, ⟨by simpa using H2.out⟩⟩
    · have hltz : ¬ (kk : Int) < (l.length : Int) := by omega
      have H := HA.out
      rw [List.drop_eq_nil_of_le (by omega)] at H
      have HRR : Aside0 (r = false) := ⟨by simpa [anyO] using H.symm⟩
      clear H HA
      go_wp2
      go_ret
      exact ⟨-1, rfl, by rw [HRR.out]; decide, BW.out⟩
set_option maxHeartbeats 2000000 in
theorem ContainsFunc_string (G : Nat) (lb : Array Value) (eg : ∀ args w, (callFunc G args).run Try.prog w = .ok (.enter G args) w) (p : ByteArray → Option Bool) (A : Option Addr) (c : Nat) (l : List ByteArray) (r : Bool) (w : World) (hr : Kd.C Kd.string w A l.length l) (hc : l.length ≤ c)
    (hp : ∀ x b W, p x = some b → Below w.heap.size w W → Calls Try.prog G (#[.string x] ++ lb) W fun e w' => e = .returned (.bool b) ∧ Below W.heap.size W w') (h : anyO p l = some r) :
    Calls Try.prog 62 #[.slice A l.length c, .func (.func G) #[] lb] w fun e w' => e = .returned (.bool r) ∧ Below w.heap.size w w' := by
  have HI := Aside0.mk (IndexFunc_string G lb eg p A c l r w hr hc hp h)
  clear hp hr h hc
  go_enter Try.func62, Try.ntmps62
  go_wp2_with (go_at_call 99; refine HI.out.mono ?_; rintro e w' ⟨n, rfl, hn, hb⟩)
  go_ret
  exact ⟨by first | rfl | rw [hn], hb⟩
end Go.Proofs.Ytdpdpigaegabbaa.Q
