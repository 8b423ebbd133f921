/- What the laws' own helpers do: measures end, copies are exact, a thing equals itself, what is marked is held. Lists are shorter than 2^42. -/
import Derived.Test.YtfjpkijfoiajaaaEvMore
import Derived.Test.YtfjpkijfoiajaaaQf11
import Derived.Test.YtfjpkijfoiajaaaQf15
import Derived.Test.YtfjpkijfoiajaaaQf16
import Derived.Test.YtfjpkijfoiajaaaQf17
import Derived.Test.YtfjpkijfoiajaaaQf19
import Derived.Test.YtfjpkijfoiajaaaQf4
import Derived.Test.YtfjpkijfoiajaaaQf6
import Derived.Test.YtfjpkijfoiajaaaQf8
import Derived.Test.YtfjpkijfoiajaaaQf9
namespace Go.Proofs.Ytfjpkijfoiajaaa.Q
open Go.RowKit Go.Proofs.YtfjpkijfoiajaaaW.PrintWords Go.Proofs.YtfjpkijfoiajaaaW.PrintLast Go.Proofs.YtfjpkijfoiajaaaW.PrintMore Go.Proofs.Ytfjpkijfoiajaaa.EvMore
set_option linter.unusedVariables false
set_option linter.unusedSimpArgs false
def Tot {α : Type} (g : Nat → Option α) : Prop := ∃ v, Ev g v
theorem tot_now {α : Type} (r : α) : Tot (fun _ => some r) := ⟨r, ev_now r⟩
theorem tot_pos {α : Type} {c : Prop} [Decidable c] {f g : Nat → Option α} (h : c) (k : Tot f) : Tot (fun n => if c then f n else g n) := k.imp fun _ h2 => ev_pos h h2
theorem tot_neg {α : Type} {c : Prop} [Decidable c] {f g : Nat → Option α} (h : ¬ c) (k : Tot g) : Tot (fun n => if c then f n else g n) := k.imp fun _ h2 => ev_neg h h2
theorem tot_ite {α : Type} {c : Prop} [Decidable c] {f g : Nat → Option α} (h : Tot f) (k : Tot g) : Tot (fun n => if c then f n else g n) := by
  by_cases h2 : c
  · exact tot_pos h2 h
  · exact tot_neg h2 k
theorem tot_bind {α β : Type} {g : Nat → Option α} {f : Nat → α → Option β} (h : Tot g) (k : ∀ a, Tot (fun n => f n a)) : Tot (fun n => (g n).bind (f n)) := by
  obtain ⟨a, ha⟩ := h
  obtain ⟨r, hr⟩ := k a
  exact ⟨r, ev_bind ha hr⟩
theorem tot_step {α : Type} {g : Nat → Option α} (k : Tot (fun n => g (n + 1))) : Tot g := k.imp fun _ h => ev_step h
theorem rdB_at (l : List ByteArray) (i : Nat) (h : i < l.length) : rdOf ByteArray.empty l (i : Int) = l[i] := by
  unfold rdOf; rw [Int.toNat_natCast, List.getD_eq_getElem?_getD, List.getElem?_eq_getElem h]; rfl
theorem sz_StringS_l0 (l : List ByteArray) (hl : l.length ≤ 8796093022208) : ∀ d i : Nat, i + d = l.length → ∀ left : Int, Tot (fun k => laws_szStringS.l0 k l left (i : Int))
  | 0, i, h, left => tot_step (tot_neg (by omega) (tot_now _))
  | d + 1, i, h, left => by
    have hn : l.length ≤ 8796093022208 := hl
    have e := succ64 (i := i) (n := l.length) (by omega) (by omega)
    exact tot_step (tot_pos (by omega) (tot_pos (by omega) (tot_ite (tot_now _) ((by simp only [e]; exact sz_StringS_l0 l hl d (i + 1) (by omega) _)))))
theorem sz_StringS (l : List ByteArray) (left : Int) (hl : l.length ≤ 8796093022208) : Tot (fun k => laws_szStringS.f k l left) := tot_ite (tot_now _) (sz_StringS_l0 l hl l.length 0 (by omega) _)
theorem to_StringS_l0 (l : List ByteArray) (hl : l.length ≤ 8796093022208) : ∀ d i : Nat, i + d = l.length →
    Ev (fun k => laws_toStringS.l0 k l ((l.take i).map id ++ List.replicate (l.length - i) (⟨#[]⟩ : ByteArray)) (i : Int)) (l.map id)
  | 0, i, h => by
    refine ev_step (ev_neg (by omega) (ev_eq (ev_now _) ?_))
    have : i = l.length := by omega
    subst this; simp
  | d + 1, i, h => by
    have hn : l.length ≤ 8796093022208 := hl
    have e := succ64 (i := i) (n := l.length) (by omega) (by omega)
    have hi : i < l.length := by omega
    have hr : rdOf ByteArray.empty l (i : Int) = l[i] := rdB_at l i hi
    refine ev_step (ev_pos (by omega) (ev_pos (by first | omega | (simp; omega)) (ev_pos (by first | omega | (simp; omega)) (?_))))
    have ih := to_StringS_l0 l hl d (i + 1) (by omega)
    rw [← set_map id l _ i hi] at ih
    simp only [e, hr, Int.toNat_natCast]; exact ih
theorem to_StringS (l : List ByteArray) (hl : l.length ≤ 8796093022208) : Ev (fun k => laws_toStringS.f k l) l := by
  have hn : l.length ≤ 8796093022208 := hl
  refine ev_pos (by omega) (ev_pos (by omega) ?_)
  have h := to_StringS_l0 l hl l.length 0 (by omega)
  simpa using h
theorem eq_StringS_l0 (l : List ByteArray) (hl : l.length ≤ 8796093022208) : ∀ d i : Nat, i + d = l.length → Ev (fun k => laws_eqStringS.l0 k l l (i : Int)) true
  | 0, i, h => ev_step (ev_neg (by omega) (ev_now _))
  | d + 1, i, h => by
    have hn : l.length ≤ 8796093022208 := hl
    have e := succ64 (i := i) (n := l.length) (by omega) (by omega)
    exact ev_step (ev_pos (by omega) (ev_pos (by first | rfl | omega) (ev_pos (by first | rfl | omega) (ev_pos (by first | rfl | omega) ((by simp only [e]; exact eq_StringS_l0 l hl d (i + 1) (by omega)))))))
theorem eq_StringS (l : List ByteArray) (hl : l.length ≤ 8796093022208) : Ev (fun k => laws_eqStringS.f k l l) true := ev_pos (by first | rfl | omega) (eq_StringS_l0 l hl l.length 0 (by omega))
theorem sz_ClayTarget (a0_0 : ByteArray) (a0_1 : ByteArray) (a0_2 : ByteArray) (l0_3 : List ByteArray) (l0_4 : List ByteArray) (a1 : Int) (hl0_3 : l0_3.length ≤ 8796093022208) (hl0_4 : l0_4.length ≤ 8796093022208) : Tot (fun k => laws_szClayTarget.f k a0_0 a0_1 a0_2 l0_3 l0_4 a1) := tot_ite (tot_now _) (tot_ite (tot_now _) (tot_ite (tot_now _) (tot_bind (sz_StringS _ _ hl0_3) (fun t102 => tot_ite (tot_now _) (tot_bind (sz_StringS _ _ hl0_4) (fun t103 => tot_ite (tot_now _) (tot_now _)))))))
theorem to_ClayTarget (a0_0 : ByteArray) (a0_1 : ByteArray) (a0_2 : ByteArray) (l0_3 : List ByteArray) (l0_4 : List ByteArray) (hl0_3 : l0_3.length ≤ 8796093022208) (hl0_4 : l0_4.length ≤ 8796093022208) : Ev (fun k => laws_toClayTarget.f k a0_0 a0_1 a0_2 l0_3 l0_4) (a0_0, a0_1, a0_2, l0_3, l0_4) := ev_bind (to_StringS _ hl0_3) (ev_bind (to_StringS _ hl0_4) (ev_now _))
theorem eq_ClayTarget (a0_0 : ByteArray) (a0_1 : ByteArray) (a0_2 : ByteArray) (l0_3 : List ByteArray) (l0_4 : List ByteArray) (hl0_3 : l0_3.length ≤ 8796093022208) (hl0_4 : l0_4.length ≤ 8796093022208) : Ev (fun k => laws_eqClayTarget.f k a0_0 a0_1 a0_2 l0_3 l0_4 a0_0 a0_1 a0_2 l0_3 l0_4) true := ev_pos (by first | rfl | omega) (ev_pos (by first | rfl | omega) (ev_pos (by first | rfl | omega) (ev_bind (eq_StringS _ hl0_3) (ev_pos (by first | rfl | omega) (ev_bind (eq_StringS _ hl0_4) (ev_pos (by first | rfl | omega) (ev_now _)))))))
theorem rdS32_at (l : List S32) (i : Nat) (h : i < l.length) : rd_T32 l (i : Int) = l[i] := by
  unfold rd_T32; rw [Int.toNat_natCast, List.getD_eq_getElem?_getD, List.getElem?_eq_getElem h]; rfl
def BS32 (x : S32) : Prop := (x.f3.length ≤ 8796093022208) ∧ (x.f4.length ≤ 8796093022208)
theorem sz_ClayTargetS_l0 (l : List S32) (hl : l.length ≤ 1466015503701 ∧ ∀ y ∈ l, BS32 y) : ∀ d i : Nat, i + d = l.length → ∀ left : Int, Tot (fun k => laws_szClayTargetS.l0 k l left (i : Int))
  | 0, i, h, left => tot_step (tot_neg (by omega) (tot_now _))
  | d + 1, i, h, left => by
    have hn : l.length ≤ 1466015503701 := hl.1
    have e := succ64 (i := i) (n := l.length) (by omega) (by omega)
    have hx := hl.2 _ (rdS32_at l i (by omega) ▸ List.getElem_mem (by omega))
    exact tot_step (tot_pos (by omega) (tot_pos (by omega) (tot_bind (sz_ClayTarget _ _ _ _ _ _ (hx.1) (hx.2)) (fun t102 => tot_ite (tot_now _) ((by simp only [e]; exact sz_ClayTargetS_l0 l hl d (i + 1) (by omega) _))))))
theorem sz_ClayTargetS (l : List S32) (left : Int) (hl : l.length ≤ 1466015503701 ∧ ∀ y ∈ l, BS32 y) : Tot (fun k => laws_szClayTargetS.f k l left) := tot_ite (tot_now _) (sz_ClayTargetS_l0 l hl l.length 0 (by omega) _)
def to_ClayTargetS_ (x : S32) : S34 := ⟨x.f0, x.f1, x.f2, x.f3, x.f4⟩
theorem to_ClayTargetS_l0 (l : List S32) (hl : l.length ≤ 1466015503701 ∧ ∀ y ∈ l, BS32 y) : ∀ d i : Nat, i + d = l.length →
    Ev (fun k => laws_toClayTargetS.l0 k l ((l.take i).map to_ClayTargetS_ ++ List.replicate (l.length - i) z34) (i : Int)) (l.map to_ClayTargetS_)
  | 0, i, h => by
    refine ev_step (ev_neg (by omega) (ev_eq (ev_now _) ?_))
    have : i = l.length := by omega
    subst this; simp
  | d + 1, i, h => by
    have hn : l.length ≤ 1466015503701 := hl.1
    have e := succ64 (i := i) (n := l.length) (by omega) (by omega)
    have hi : i < l.length := by omega
    have hr : rd_T32 l (i : Int) = l[i] := rdS32_at l i hi
    have hx := hl.2 _ (rdS32_at l i (by omega) ▸ List.getElem_mem (by omega))
    refine ev_step (ev_pos (by omega) (ev_pos (by first | omega | (simp; omega)) (ev_bind (to_ClayTarget _ _ _ _ _ (hx.1) (hx.2)) (ev_pos (by first | omega | (simp; omega)) (?_)))))
    have ih := to_ClayTargetS_l0 l hl d (i + 1) (by omega)
    rw [← set_map to_ClayTargetS_ l _ i hi] at ih
    simp only [e, hr, Int.toNat_natCast]; exact ih
theorem to_ClayTargetS (l : List S32) (hl : l.length ≤ 1466015503701 ∧ ∀ y ∈ l, BS32 y) : Ev (fun k => laws_toClayTargetS.f k l) (l.map to_ClayTargetS_) := by
  have hn : l.length ≤ 1466015503701 := hl.1
  refine ev_pos (by omega) (ev_pos (by omega) ?_)
  have h := to_ClayTargetS_l0 l hl l.length 0 (by omega)
  simpa using h
def BS34 (x : S34) : Prop := (x.f3.length ≤ 8796093022208) ∧ (x.f4.length ≤ 8796093022208)
theorem to_ClayTargetS_B (l : List S32) (hl : l.length ≤ 1466015503701 ∧ ∀ y ∈ l, BS32 y) : (l.map to_ClayTargetS_).length ≤ 1466015503701 ∧ ∀ y ∈ (l.map to_ClayTargetS_), BS34 y := by
  refine ⟨by simpa using hl.1, ?_⟩
  intro y hy
  obtain ⟨x, hx, rfl⟩ := List.mem_map.1 hy
  have h := hl.2 x hx
  simpa [BS32, BS34, to_ClayTargetS_] using h
theorem rdS34_at (l : List S34) (i : Nat) (h : i < l.length) : rd_T34 l (i : Int) = l[i] := by
  unfold rd_T34; rw [Int.toNat_natCast, List.getD_eq_getElem?_getD, List.getElem?_eq_getElem h]; rfl
theorem eq_ClayTargetS_l0 (l : List S34) (hl : l.length ≤ 1466015503701 ∧ ∀ y ∈ l, BS34 y) : ∀ d i : Nat, i + d = l.length → Ev (fun k => laws_eqClayTargetS.l0 k l l (i : Int)) true
  | 0, i, h => ev_step (ev_neg (by omega) (ev_now _))
  | d + 1, i, h => by
    have hn : l.length ≤ 1466015503701 := hl.1
    have e := succ64 (i := i) (n := l.length) (by omega) (by omega)
    have hx := hl.2 _ (rdS34_at l i (by omega) ▸ List.getElem_mem (by omega))
    exact ev_step (ev_pos (by omega) (ev_pos (by first | rfl | omega) (ev_pos (by first | rfl | omega) (ev_bind (eq_ClayTarget _ _ _ _ _ (hx.1) (hx.2)) (ev_pos (by first | rfl | omega) ((by simp only [e]; exact eq_ClayTargetS_l0 l hl d (i + 1) (by omega))))))))
theorem eq_ClayTargetS (l : List S34) (hl : l.length ≤ 1466015503701 ∧ ∀ y ∈ l, BS34 y) : Ev (fun k => laws_eqClayTargetS.f k l l) true := ev_pos (by first | rfl | omega) (eq_ClayTargetS_l0 l hl l.length 0 (by omega))
end Go.Proofs.Ytfjpkijfoiajaaa.Q
