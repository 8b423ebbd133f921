/- Several texts of this seat put together by merge.py, without what this claim does not use. -/
import Derived.Test.YtnffcpajfojajaaQmFnExactHouseClaysWWords
import Derived.Test.YtnffcpajfojajaaQmFnExactHouseClaysWLast
import Derived.Test.YtnffcpajfojajaaQmFnExactHouseClaysWMore
import Derived.WalkKit
import Derived.ProofKit
import Derived.OpenShut
import Derived.ShutString
import Derived.SizedLaws
import Derived.ChangeArms
import Derived.Test.YtnffcpajfojajaaQmFnExactHouseClays4
import Derived.Test.YtnffcpajfojajaaQmFnExactHouseClays1
import Derived.MapViews
import Derived.Maps.Views
import Derived.Sort.KeysCollected
import Derived.Test.YtnffcpajfojajaaQmFnExactHouseClaysQf14
import Derived.Test.YtnffcpajfojajaaQmFnExactHouseClays2
import Derived.Test.YtnffcpajfojajaaQmFnExactHouseClays5
import Derived.Test.YtnffcpajfojajaaQmFnExactHouseClays3
import Derived.Test.YtnffcpajfojajaaQmFnExactHouseClays6
section
namespace Go.Proofs.Ytnffcpajfojajaa.Opens
open Go.RowKit Go.ChangeShapes Go.WideShapes Go.Proofs.YtnffcpajfojajaaW.PrintWords
set_option linter.unusedVariables false
theorem mapM_get {α β : Type} {f : α → Option β} : ∀ {l : List α} {r : List β}, l.mapM f = some r → ∀ (i : Nat) (x : α), l[i]? = some x → f x = r[i]?
  | [], r, h, i, x, hx => by simp at hx
  | a :: l, r, h, i, x, hx => by
    rw [List.mapM_cons] at h
    cases ha : f a with
    | none => rw [ha] at h; simp at h
    | some b =>
      cases hl : l.mapM f with
      | none => rw [ha, hl] at h; simp at h
      | some rs =>
        rw [ha, hl] at h
        simp at h
        subst h
        cases i with
        | zero => simp at hx; subst hx; simpa using ha
        | succ i => simp at hx ⊢; exact mapM_get hl i x hx
theorem mapM_len {α β : Type} {f : α → Option β} : ∀ {l : List α} {r : List β}, l.mapM f = some r → r.length = l.length
  | [], r, h => by simp at h; subst h; rfl
  | a :: l, r, h => by
    rw [List.mapM_cons] at h
    cases ha : f a with
    | none => rw [ha] at h; simp at h
    | some b =>
      cases hl : l.mapM f with
      | none => rw [ha, hl] at h; simp at h
      | some rs =>
        rw [ha, hl] at h
        simp at h
        subst h
        simp [mapM_len hl]
theorem cells_get {w : World} {base : Nat} {a : Addr} {n : Nat} {cs : List Value} (h : w.cells? base a n = some cs) : cs.length = n ∧ ∀ (i : Nat) (u : Value), cs[i]? = some u → w.cell? (a.add i) = some u := by
  unfold World.cells? at h
  split at h
  · refine ⟨by rw [mapM_len h, List.length_range], fun i u hu => ?_⟩
    have hi : i < n := by
      have := mapM_len h
      rw [List.length_range] at this
      obtain ⟨hl, _⟩ := List.getElem?_eq_some_iff.1 hu
      omega
    exact (mapM_get h i i (by simp [hi])).trans hu
  · simp at h
theorem add_two (a : Addr) (m i : Nat) : (a.add m).add i = a.add (m + i) := by
  unfold Addr.add
  by_cases h : m = 0 <;> by_cases h2 : i = 0 <;> simp [h, h2, Nat.add_assoc]
def Opens (P : Program) (t : TypeId) {α : Type} (d : Kd α) (G : α → Prop) : Prop :=
  ∀ (H : Type) (enc : TypeId × Value → H) (W : World) (fuel : Nat) (cs : List Value) (D : DataW H) (ps : List MemPlace),
    DataW.trod enc P W 0 (fun _ => true) true fuel t cs = some (D, ps) → (∀ n ∈ D.weights P t, n ≤ reachBytes) → ∃ x : α, d.K W x cs ∧ G x
theorem of_string {P : Program} {t : TypeId} (hu : P.underlying t = some .string) : Opens P t Kd.string (fun s => s.size ≤ 140737488351232) := by
  intro H enc W fuel cs D ps h hw
  obtain ⟨s, rfl, hx, _⟩ := DataW.trod_string hu h
  obtain ⟨hx, _⟩ := Prod.mk.inj hx
  subst hx
  refine ⟨s, rfl, ?_⟩
  have z := hw s.data.toList.length (by simp [DataW.weights])
  rw [Array.length_toList] at z
  exact z
theorem of_iso {P : Program} {t : TypeId} {α β : Type} {d : Kd α} {G : α → Prop} (f : β → α) (g : α → β) (hfg : ∀ a, f (g a) = a) (h : Opens P t d G) : Opens P t (Kd.iso d f) (fun x => G (f x)) := by
  intro H enc W fuel cs D ps h1 hw
  obtain ⟨x, hk, hg⟩ := h H enc W fuel cs D ps h1 hw
  refine ⟨g x, ?_, ?_⟩
  · show d.K W (f (g x)) cs
    rw [hfg]; exact hk
  · show G (f (g x))
    rw [hfg]; exact hg
theorem weights_all {H : Type} {P : Program} {e : TypeId} : ∀ {l : List (DataW H)} {i : Nat} {x : DataW H}, l[i]? = some x → ∀ n ∈ x.weights P e, n ∈ DataW.weightsAll P e l
  | [], i, x, h, n, hn => by simp at h
  | a :: l, 0, x, h, n, hn => by
    simp at h; subst h
    simp only [DataW.weightsAll, List.mem_append]
    exact .inl hn
  | a :: l, i + 1, x, h, n, hn => by
    simp at h
    simp only [DataW.weightsAll, List.mem_append]
    exact .inr (weights_all h n hn)
theorem build {α : Type} (Q : Nat → α → Prop) : ∀ n : Nat, (∀ i, i < n → ∃ x, Q i x) → ∃ l : List α, l.length = n ∧ ∀ i x, l[i]? = some x → Q i x
  | 0, _ => ⟨[], rfl, fun i x h => by simp at h⟩
  | n + 1, h => by
    obtain ⟨l, hl, hq⟩ := build Q n (fun i hi => h i (by omega))
    obtain ⟨x, hx⟩ := h n (by omega)
    refine ⟨l ++ [x], by simp [hl], fun i y hy => ?_⟩
    rcases Nat.lt_or_ge i n with hi | hi
    · rw [List.getElem?_append_left (by omega)] at hy
      exact hq i y hy
    · obtain ⟨hlt, _⟩ := List.getElem?_eq_some_iff.1 hy
      have : i = n := by simp [hl] at hlt; omega
      subst this
      rw [List.getElem?_append_right (by omega), hl] at hy
      simp at hy
      subst hy
      exact hx
theorem of_slice {P : Program} {t e : TypeId} {α : Type} {d : Kd α} {G : α → Prop} {B : Nat} (hu : P.underlying t = some (.slice e)) (hc : P.cellsOf e = d.sz) (hB : P.bytesOf e = B) (h : Opens P e d G) :
    Opens P t (Kd.slice e d) (fun l => (l.length * B ≤ 140737488351232 ∧ l.length ≤ maxLen) ∧ ∀ x ∈ l, G x) := by
  intro H enc W fuel cs D ps h1 hw
  rcases DataW.trod_slice hu h1 with ⟨rfl, hx⟩ | ⟨a, len, cap, elems, rest, n, _, rfl, hx, _, hl, hm, hlen, hel, _, _⟩
  · exact ⟨[], ⟨none, 0, rfl, Nat.le_refl _, rfl, by simp, fun h => absurd h (Nat.lt_irrefl _)⟩, ⟨by simp, by simp⟩, fun x hx => by simp at hx⟩
  · obtain ⟨hx, _⟩ := Prod.mk.inj hx
    subst hx
    have hw2 : ∀ m ∈ DataW.weightsAll P e (elems.map (·.1)), m ≤ reachBytes := fun m hm => hw m (by simp [DataW.weights, hu, hm])
    have key : ∀ i, i < len → ∃ x, G x ∧ ∃ c, W.cells? 0 (a.add (i * P.cellsOf e)) (P.cellsOf e) = some c ∧ d.K W x c := by
      intro i hi
      have h2 := hel i hi
      obtain ⟨y, hy⟩ : ∃ y, elems[i]? = some y := ⟨_, List.getElem?_eq_getElem (by omega)⟩
      rw [hy] at h2
      obtain ⟨c, hc1, hc2⟩ := Option.bind_eq_some_iff.1 h2
      obtain ⟨x, hk, hg⟩ := h H enc W n c y.1 y.2 hc2 (fun m hm => hw2 m (weights_all (i := i) (x := y.1) (by simp [hy]) m hm))
      exact ⟨x, hg, c, hc1, hk⟩
    obtain ⟨l, hll, hq⟩ := build _ len key
    have hlen2 : len ≤ maxLen := Nat.le_trans hl hm
    have hsz : len * B ≤ 140737488351232 := by
      have z := hw ((elems.map (·.1)).length + (rest.map (·.1)).length |> (· * P.bytesOf e)) (by simp [DataW.weights, hu])
      simp only [List.length_map, hlen, hB] at z
      exact Nat.le_trans (Nat.mul_le_mul_right _ (Nat.le_add_right _ _)) z
    refine ⟨l, ⟨some a, cap, by rw [hll], by omega, rfl, ?_, fun _ => ⟨a, rfl, fun j p hp => ?_⟩⟩, ⟨by rw [hll]; exact hsz, by rw [hll]; exact hlen2⟩, fun x hx => ?_⟩
    · rw [hll]; exact hlen2
    · obtain ⟨_, c, hc1, hk⟩ := hq j p hp
      obtain ⟨hcl, hcc⟩ := cells_get hc1
      refine ⟨c, by rw [hcl, hc], hk, fun i u hu2 => ?_⟩
      have := hcc i u hu2
      rw [hc] at this
      rwa [add_two] at this
    · obtain ⟨i, hi⟩ := List.getElem?_of_mem hx
      exact (hq i x hi).1
def OpensF (P : Program) (fs : List Field) (off : Nat) {α : Type} (d : Kd α) (G : α → Prop) : Prop :=
  ∀ (H : Type) (enc : TypeId × Value → H) (W : World) (fuel : Nat) (cs : List Value) (xs : List (DataW H × List MemPlace)), cs.length = off + d.sz → xs.length = fs.length →
    (∀ (i : Nat) (f : Field), fs[i]? = some f → DataW.trod enc P W 0 (fun _ => true) true fuel f.type ((cs.drop f.offset).take (P.cellsOf f.type)) = xs[i]?) →
    (∀ n ∈ DataW.weightsEach P (fs.map (·.type)) (xs.map (·.1)), n ≤ reachBytes) → ∃ x : α, d.K W x (cs.drop off) ∧ G x
theorem fields_one {P : Program} {f : Field} {off : Nat} {α : Type} {d : Kd α} {G : α → Prop} (ho : f.offset = off) (hc : P.cellsOf f.type = d.sz) (h : Opens P f.type d G) : OpensF P [f] off d G := by
  intro H enc W fuel cs xs hl hx hf hw
  have h0 := hf 0 f rfl
  obtain ⟨y, rfl⟩ : ∃ y, xs = [y] := by
    cases xs with
    | nil => simp at hx
    | cons y ys => cases ys with
      | nil => exact ⟨y, rfl⟩
      | cons _ _ => simp at hx
  simp only [List.getElem?_cons_zero] at h0
  rw [ho, hc, List.take_of_length_le (by simp; omega)] at h0
  exact h H enc W fuel _ y.1 y.2 h0 (fun n hn => hw n (by simpa [DataW.weightsEach] using hn))
theorem fields_cons {P : Program} {f : Field} {fs : List Field} {off : Nat} {α β : Type} {d : Kd α} {d2 : Kd β} {G : α → Prop} {G2 : β → Prop} (ho : f.offset = off) (hc : P.cellsOf f.type = d.sz) (h : Opens P f.type d G) (h2 : OpensF P fs (off + d.sz) d2 G2) :
    OpensF P (f :: fs) off (Kd.pair d d2) (fun x => G x.1 ∧ G2 x.2) := by
  intro H enc W fuel cs xs hl hx hf hw
  have hl' : cs.length = off + (d.sz + d2.sz) := hl
  have h0 := hf 0 f rfl
  obtain ⟨y, ys, rfl⟩ : ∃ y ys, xs = y :: ys := by
    cases xs with
    | nil => simp at hx
    | cons y ys => exact ⟨y, ys, rfl⟩
  simp only [List.getElem?_cons_zero] at h0
  rw [ho, hc] at h0
  obtain ⟨a, ha, ga⟩ := h H enc W fuel _ y.1 y.2 h0 (fun n hn => hw n (by simp only [List.map_cons, DataW.weightsEach, List.mem_append]; exact .inl hn))
  obtain ⟨b, hb, gb⟩ := h2 H enc W fuel cs ys (by omega) (by simpa using hx) (fun i g hg => by simpa using hf (i + 1) g (by simpa using hg)) (fun n hn => hw n (by simp only [List.map_cons, DataW.weightsEach, List.mem_append]; exact .inr hn))
  refine ⟨(a, b), ⟨(cs.drop off).take d.sz, cs.drop (off + d.sz), ?_, ha, hb⟩, ga, gb⟩
  rw [← List.drop_drop, List.take_append_drop]
theorem of_struct {P : Program} {t : TypeId} {fs : Array Field} {α : Type} {d : Kd α} {G : α → Prop} (hu : P.underlying t = some (.struct fs)) (hc : P.cellsOf t = d.sz) (h : OpensF P fs.toList 0 d G) : Opens P t d G := by
  intro H enc W fuel cs D ps h1 hw
  obtain ⟨xs, n, _, hx, hl, hlen, hf⟩ := DataW.trod_struct hu h1
  obtain ⟨hx, _⟩ := Prod.mk.inj hx
  subst hx
  obtain ⟨x, hk, hg⟩ := h H enc W n cs xs (by omega) (by simpa using hlen) (fun i f hf2 => hf i f (by simpa using hf2)) (fun m hm => hw m (by simp only [DataW.weights, hu]; exact hm))
  exact ⟨x, by simpa using hk, hg⟩
theorem Opens.arg {P : Program} {t : TypeId} {α : Type} {d : Kd α} {G : α → Prop} (h : Opens P t d G) {H : Type} {enc : TypeId × Value → H} {W : World} {v : Value} {D : DataW H} {ps : List MemPlace} {ts : List TypeId} {ds : List (DataW H)} {j : Nat}
    (hsz : (DataW.weightsEach P ts ds).all (· ≤ reachBytes) = true) (ht : ts[j]? = some t) (hd : ds[j]? = some D) (hT : DataW.Trod enc P W 0 (fun _ => true) true t v D ps) : ∃ x : α, d.K W x v.cells.toList ∧ G x := by
  obtain ⟨fuel, hf⟩ := hT
  exact h H enc W fuel _ D ps hf (fun n hn => by simpa using List.all_eq_true.1 hsz _ (DataW.weights_mem_each ht hd n hn))
end Go.Proofs.Ytnffcpajfojajaa.Opens
end
section
namespace Go.Proofs.Ytnffcpajfojajaa.Q
open Go.RowKit Go.Proofs.YtnffcpajfojajaaW.PrintWords
set_option linter.unusedVariables false
set_option linter.unusedSimpArgs false
abbrev nameLt (a b : S52) : Prop := Op.bytesLess a.f0.toList b.f0.toList = true
def AscF (l : List S52) : Prop := l.Pairwise nameLt
def insF (x : S52) : List S52 → List S52
  | [] => [x]
  | y :: r => if y.f0.toList = x.f0.toList then x :: r else if Op.bytesLess x.f0.toList y.f0.toList = true then x :: y :: r else y :: insF x r
theorem less_tri (a b : List UInt8) (h : ¬ a = b) (k : ¬ Op.bytesLess b a = true) : Op.bytesLess a b = true := by
  have h1 := Mine.less_leq a b
  cases hb : Op.bytesLess b a with
  | true => exact absurd hb k
  | false =>
    rw [hb] at h1
    simp only [Bool.not_false, Bool.or_eq_true, beq_iff_eq] at h1
    exact h1.resolve_right h
theorem less_irr (a : List UInt8) : ¬ Op.bytesLess a a = true := by rw [Mine.less_irrefl]; simp
variable {H : Type}
def ent (x : S52) : Lit × DataW H := (.string x.f0.data.toList, .lit (.string x.f1.data.toList))
def mapOf (l : List S52) : DataW H := .map (l.map ent)
def layF (l : List S52) (fs : List S52) : List S52 := fs.foldl (fun acc x => insF x acc) l
end Go.Proofs.Ytnffcpajfojajaa.Q
end
section
namespace Go.Proofs.Ytnffcpajfojajaa.EvMore
open Go.RowKit Go.Proofs.YtnffcpajfojajaaW.PrintWords
theorem ev_pos {α : Type} {c : Prop} [Decidable c] {f g : Nat → Option α} {r : α} (h : c) (k : Ev f r) : Ev (fun n => if c then f n else g n) r := by
  simp only [if_pos h]; exact k
theorem ev_neg {α : Type} {c : Prop} [Decidable c] {f g : Nat → Option α} {r : α} (h : ¬ c) (k : Ev g r) : Ev (fun n => if c then f n else g n) r := by
  simp only [if_neg h]; exact k
theorem ev_val {α β : Type} {o : Option α} {a : α} {f : Nat → α → Option β} {r : β} (h : o = some a) (k : Ev (fun n => f n a) r) : Ev (fun n => o.bind (f n)) r := by
  subst h; simpa using k
theorem ev_bind {α β : Type} {g : Nat → Option α} {f : Nat → α → Option β} {a : α} {r : β} (h : Ev g a) (k : Ev (fun n => f n a) r) : Ev (fun n => (g n).bind (f n)) r := Ev.bind h k
theorem ev_now {α : Type} (r : α) : Ev (fun _ => some r) r := Ev.now r
theorem ev_eq {α : Type} {f : Nat → Option α} {r q : α} (h : Ev f r) (e : r = q) : Ev f q := e ▸ h
theorem ev_step {α : Type} {g : Nat → Option α} {r : α} (k : Ev (fun n => g (n + 1)) r) : Ev g r := Ev.step (f := fun n => g (n + 1)) (fun _ => rfl) k
theorem ev_uniq {α : Type} {g : Nat → Option α} {r q : α} (h : Ev g r) (h2 : Ev g q) : r = q := by
  obtain ⟨K, hK⟩ := h
  obtain ⟨L, hL⟩ := h2
  have a := hK (K + L) (by omega)
  have b := hL (K + L) (by omega)
  exact Option.some.inj (a.symm.trans b)
theorem succ64 {i n : Nat} (h : i < n) (hn : n ≤ 9223372036854775807) : wrap64 ((i : Int) + 1) = ((i + 1 : Nat) : Int) := by
  unfold wrap64; omega
theorem pred64 {i : Nat} (h : 0 < i) (hn : i ≤ 9223372036854775807) : wrap64 ((i : Int) - 1) = ((i - 1 : Nat) : Int) := by
  unfold wrap64; omega
theorem id64 {n : Int} (h : -9223372036854775808 ≤ n) (h2 : n ≤ 9223372036854775807) : wrap64 n = n := by
  unfold wrap64; omega
theorem set_map {α β : Type} (f : α → β) (l : List α) (z : β) (i : Nat) (h : i < l.length) :
    ((l.take i).map f ++ List.replicate (l.length - i) z).set i (f l[i]) = (l.take (i + 1)).map f ++ List.replicate (l.length - (i + 1)) z := by
  have e : l.length - i = (l.length - (i + 1)) + 1 := by omega
  rw [List.set_append_right _ _ (by simp; omega), e, List.replicate_succ]
  have hl : i - ((l.take i).map f).length = 0 := by simp; omega
  rw [hl, List.set_cons_zero, List.take_succ_eq_append_getElem h, List.map_append, List.append_assoc]
  rfl
end Go.Proofs.Ytnffcpajfojajaa.EvMore
end
section
namespace Go.Proofs.Ytnffcpajfojajaa.Q
open Go.RowKit Go.Proofs.YtnffcpajfojajaaW.PrintWords Go.Proofs.YtnffcpajfojajaaW.PrintLast Go.Proofs.YtnffcpajfojajaaW.PrintMore Go.Proofs.Ytnffcpajfojajaa.Short
attribute [local go_sem] max2_int min2_int max_two min_two max_three min_three max_four min_four   
set_option linter.unusedVariables false
set_option linter.unusedSimpArgs false
def laws_heldMillFileS.l0 : Nat → List (S52) → Int → Int → Option (Int)
  | 0, _, _, _ => none
  | k + 1, x0, x1, x5 => if x5 < (x0.length : Int) then (if 0 ≤ x5 then ((laws_markText.f k x1).bind fun t102 => (if ((rd_T52 x0 x5).f0).toList = t102.toList then ((laws_markText.f k (wrap64 (x1 + 1))).bind fun t104 => (if ((rd_T52 x0 x5).f1).toList = t104.toList then (laws_heldMillFileS.l0 k x0 (wrap64 ((wrap64 (x1 + 1)) + 1)) (wrap64 (x5 + 1))) else (some (-1)))) else (some (-1)))) else (none)) else (some x1)
def laws_heldMillFileS.f (k : Nat) (l0 : List (S52)) (a1 : Int) : Option (Int) := laws_heldMillFileS.l0 k l0 a1 0
def laws_heldMillFileS.T4 : Bool × List (List Nat × List Nat) := (true, [([], []), ([], []), ([0, 1], [0, 1]), ([2], [2]), ([3], [3]), ([], []), ([5], [5]), ([4, 6], [4, 6])])
def laws_heldMillFileS.B4 : List Nat := [0, 0, 3, 7, 15, 0, 32, 127]
def laws_heldMillFileS.T7 : Bool × List (List Nat × List Nat) := (true, [([], []), ([], []), ([0, 1], [0, 1]), ([2], [2]), ([3], [3]), ([], []), ([5], [5]), ([4, 6], [4, 6])])
def laws_heldMillFileS.B7 : List Nat := [0, 0, 3, 7, 15, 0, 32, 127]
end Go.Proofs.Ytnffcpajfojajaa.Q
end
section
namespace Go.Proofs.Ytnffcpajfojajaa.Q
open Go.RowKit Go.Proofs.YtnffcpajfojajaaW.PrintWords Go.Proofs.YtnffcpajfojajaaW.PrintLast Go.Proofs.YtnffcpajfojajaaW.PrintMore Go.Proofs.Ytnffcpajfojajaa.EvMore
set_option linter.unusedVariables false
set_option linter.unusedSimpArgs false
def Tot {α : Type} (g : Nat → Option α) : Prop := ∃ v, Ev g v
theorem tot_now {α : Type} (r : α) : Tot (fun _ => some r) := ⟨r, ev_now r⟩
theorem tot_pos {α : Type} {c : Prop} [Decidable c] {f g : Nat → Option α} (h : c) (k : Tot f) : Tot (fun n => if c then f n else g n) := k.imp fun _ h2 => ev_pos h h2
theorem tot_neg {α : Type} {c : Prop} [Decidable c] {f g : Nat → Option α} (h : ¬ c) (k : Tot g) : Tot (fun n => if c then f n else g n) := k.imp fun _ h2 => ev_neg h h2
theorem tot_ite {α : Type} {c : Prop} [Decidable c] {f g : Nat → Option α} (h : Tot f) (k : Tot g) : Tot (fun n => if c then f n else g n) := by
  by_cases h2 : c
  · exact tot_pos h2 h
  · exact tot_neg h2 k
theorem tot_bind {α β : Type} {g : Nat → Option α} {f : Nat → α → Option β} (h : Tot g) (k : ∀ a, Tot (fun n => f n a)) : Tot (fun n => (g n).bind (f n)) := by
  obtain ⟨a, ha⟩ := h
  obtain ⟨r, hr⟩ := k a
  exact ⟨r, ev_bind ha hr⟩
theorem tot_step {α : Type} {g : Nat → Option α} (k : Tot (fun n => g (n + 1))) : Tot g := k.imp fun _ h => ev_step h
theorem sz_MillFile (a0_0 : ByteArray) (a0_1 : ByteArray) (a1 : Int)  : Tot (fun k => laws_szMillFile.f a0_0 a0_1 a1) := tot_ite (tot_now _) (tot_ite (tot_now _) (tot_now _))
theorem to_MillFile (a0_0 : ByteArray) (a0_1 : ByteArray)  : Ev (fun k => laws_toMillFile.f a0_0 a0_1) (a0_0, a0_1) := ev_now _
theorem eq_MillFile (a0_0 : ByteArray) (a0_1 : ByteArray)  : Ev (fun k => laws_eqMillFile.f a0_0 a0_1 a0_0 a0_1) true := ev_pos (by first | rfl | omega) (ev_pos (by first | rfl | omega) (ev_now _))
theorem rdS49_at (l : List S49) (i : Nat) (h : i < l.length) : rd_T49 l (i : Int) = l[i] := by
  unfold rd_T49; rw [Int.toNat_natCast, List.getD_eq_getElem?_getD, List.getElem?_eq_getElem h]; rfl
theorem sz_MillFileS_l0 (l : List S49) (hl : l.length ≤ 4398046511104) : ∀ d i : Nat, i + d = l.length → ∀ left : Int, Tot (fun k => laws_szMillFileS.l0 k l left (i : Int))
  | 0, i, h, left => tot_step (tot_neg (by omega) (tot_now _))
  | d + 1, i, h, left => by
    have hn : l.length ≤ 4398046511104 := hl
    have e := succ64 (i := i) (n := l.length) (by omega) (by omega)
    exact tot_step (tot_pos (by omega) (tot_pos (by omega) (tot_bind (sz_MillFile _ _ _) (fun t102 => tot_ite (tot_now _) ((by simp only [e]; exact sz_MillFileS_l0 l hl d (i + 1) (by omega) _))))))
theorem sz_MillFileS (l : List S49) (left : Int) (hl : l.length ≤ 4398046511104) : Tot (fun k => laws_szMillFileS.f k l left) := tot_ite (tot_now _) (sz_MillFileS_l0 l hl l.length 0 (by omega) _)
def to_MillFileS_ (x : S49) : S52 := ⟨x.f0, x.f1⟩
theorem to_MillFileS_l0 (l : List S49) (hl : l.length ≤ 4398046511104) : ∀ d i : Nat, i + d = l.length →
    Ev (fun k => laws_toMillFileS.l0 k l ((l.take i).map to_MillFileS_ ++ List.replicate (l.length - i) z52) (i : Int)) (l.map to_MillFileS_)
  | 0, i, h => by
    refine ev_step (ev_neg (by omega) (ev_eq (ev_now _) ?_))
    have : i = l.length := by omega
    subst this; simp
  | d + 1, i, h => by
    have hn : l.length ≤ 4398046511104 := hl
    have e := succ64 (i := i) (n := l.length) (by omega) (by omega)
    have hi : i < l.length := by omega
    have hr : rd_T49 l (i : Int) = l[i] := rdS49_at l i hi
    refine ev_step (ev_pos (by omega) (ev_pos (by first | omega | (simp; omega)) (ev_bind (to_MillFile _ _) (ev_pos (by first | omega | (simp; omega)) (?_)))))
    have ih := to_MillFileS_l0 l hl d (i + 1) (by omega)
    rw [← set_map to_MillFileS_ l _ i hi] at ih
    simp only [e, hr, Int.toNat_natCast]; exact ih
theorem to_MillFileS (l : List S49) (hl : l.length ≤ 4398046511104) : Ev (fun k => laws_toMillFileS.f k l) (l.map to_MillFileS_) := by
  have hn : l.length ≤ 4398046511104 := hl
  refine ev_pos (by omega) (ev_pos (by omega) ?_)
  have h := to_MillFileS_l0 l hl l.length 0 (by omega)
  simpa using h
theorem rdS52_at (l : List S52) (i : Nat) (h : i < l.length) : rd_T52 l (i : Int) = l[i] := by
  unfold rd_T52; rw [Int.toNat_natCast, List.getD_eq_getElem?_getD, List.getElem?_eq_getElem h]; rfl
theorem eq_MillFileS_l0 (l : List S52) (hl : l.length ≤ 4398046511104) : ∀ d i : Nat, i + d = l.length → Ev (fun k => laws_eqMillFileS.l0 k l l (i : Int)) true
  | 0, i, h => ev_step (ev_neg (by omega) (ev_now _))
  | d + 1, i, h => by
    have hn : l.length ≤ 4398046511104 := hl
    have e := succ64 (i := i) (n := l.length) (by omega) (by omega)
    exact ev_step (ev_pos (by omega) (ev_pos (by first | rfl | omega) (ev_pos (by first | rfl | omega) (ev_bind (eq_MillFile _ _) (ev_pos (by first | rfl | omega) ((by simp only [e]; exact eq_MillFileS_l0 l hl d (i + 1) (by omega))))))))
theorem eq_MillFileS (l : List S52) (hl : l.length ≤ 4398046511104) : Ev (fun k => laws_eqMillFileS.f k l l) true := ev_pos (by first | rfl | omega) (eq_MillFileS_l0 l hl l.length 0 (by omega))
theorem sz_MillPlace (l0_0 : List (S49)) (a1 : Int) (hl0_0 : l0_0.length ≤ 4398046511104) : Tot (fun k => laws_szMillPlace.f k l0_0 a1) := tot_bind (sz_MillFileS _ _ hl0_0) (fun t102 => tot_ite (tot_now _) (tot_now _))
theorem to_MillPlace (l0_0 : List (S49)) (hl0_0 : l0_0.length ≤ 4398046511104) : Ev (fun k => laws_toMillPlace.f k l0_0) ((l0_0.map to_MillFileS_)) := ev_bind (to_MillFileS _ hl0_0) (ev_now _)
theorem eq_MillPlace (l0_0 : List (S52)) (hl0_0 : l0_0.length ≤ 4398046511104) : Ev (fun k => laws_eqMillPlace.f k l0_0 l0_0) true := ev_bind (eq_MillFileS _ hl0_0) (ev_pos (by first | rfl | omega) (ev_now _))
theorem eq_ClayFile (a0_0 : ByteArray) (a0_1 : ByteArray)  : Ev (fun k => laws_eqClayFile.f a0_0 a0_1 a0_0 a0_1) true := ev_pos (by first | rfl | omega) (ev_pos (by first | rfl | omega) (ev_now _))
theorem rdS65_at (l : List S65) (i : Nat) (h : i < l.length) : rd_T65 l (i : Int) = l[i] := by
  unfold rd_T65; rw [Int.toNat_natCast, List.getD_eq_getElem?_getD, List.getElem?_eq_getElem h]; rfl
theorem eq_ClayFileS_l0 (l : List S65) (hl : l.length ≤ 1099511627776) : ∀ d i : Nat, i + d = l.length → Ev (fun k => laws_eqClayFileS.l0 k l l (i : Int)) true
  | 0, i, h => ev_step (ev_neg (by omega) (ev_now _))
  | d + 1, i, h => by
    have hn : l.length ≤ 1099511627776 := hl
    have e := succ64 (i := i) (n := l.length) (by omega) (by omega)
    exact ev_step (ev_pos (by omega) (ev_pos (by first | rfl | omega) (ev_pos (by first | rfl | omega) (ev_bind (eq_ClayFile _ _) (ev_pos (by first | rfl | omega) ((by simp only [e]; exact eq_ClayFileS_l0 l hl d (i + 1) (by omega))))))))
theorem eq_ClayFileS (l : List S65) (hl : l.length ≤ 1099511627776) : Ev (fun k => laws_eqClayFileS.f k l l) true := ev_pos (by first | rfl | omega) (eq_ClayFileS_l0 l hl l.length 0 (by omega))
theorem eq_StringS_l0 (l : List ByteArray) (hl : l.length ≤ 8796093022208) : ∀ d i : Nat, i + d = l.length → Ev (fun k => laws_eqStringS.l0 k l l (i : Int)) true
  | 0, i, h => ev_step (ev_neg (by omega) (ev_now _))
  | d + 1, i, h => by
    have hn : l.length ≤ 8796093022208 := hl
    have e := succ64 (i := i) (n := l.length) (by omega) (by omega)
    exact ev_step (ev_pos (by omega) (ev_pos (by first | rfl | omega) (ev_pos (by first | rfl | omega) (ev_pos (by first | rfl | omega) ((by simp only [e]; exact eq_StringS_l0 l hl d (i + 1) (by omega)))))))
theorem eq_StringS (l : List ByteArray) (hl : l.length ≤ 8796093022208) : Ev (fun k => laws_eqStringS.f k l l) true := ev_pos (by first | rfl | omega) (eq_StringS_l0 l hl l.length 0 (by omega))
theorem eq_ClayWorld (l0_0 : List (S65)) (l0_1 : List ByteArray) (hl0_0 : l0_0.length ≤ 1099511627776) (hl0_1 : l0_1.length ≤ 8796093022208) : Ev (fun k => laws_eqClayWorld.f k l0_0 l0_1 l0_0 l0_1) true := ev_bind (eq_ClayFileS _ hl0_0) (ev_pos (by first | rfl | omega) (ev_bind (eq_StringS _ hl0_1) (ev_pos (by first | rfl | omega) (ev_now _))))
theorem markText_l0 : ∀ (d : Nat) (x : Int) (s : ByteArray), 0 ≤ x → x.toNat ≤ d → s.size + x.toNat ≤ 4611686018427387904 → ∃ t, Ev (fun k => laws_markText.l0 k x s) t
  | 0, x, s, h0, h1, h2 => by
    refine ⟨_, ev_step (ev_neg (by omega) (ev_pos (by omega) (ev_now _)))⟩
  | d + 1, x, s, h0, h1, h2 => by
    by_cases c : x > 0
    · have hw : wrap64 (Int.tdiv x 10) = x / 10 := by rw [Int.tdiv_eq_ediv_of_nonneg h0]; unfold wrap64; omega
      have hsz : ∀ z : Int, (strOfNums [z]).size = 1 := fun z => by simp [strOfNums, ByteArray.size]
      obtain ⟨t, ht⟩ := markText_l0 d (x / 10) (strOfNums [(wrap64 (48 + (Int.tmod x 10))) % 256] ++ s) (by omega) (by omega) (by rw [ByteArray.size_append, hsz]; omega)
      refine ⟨t, ev_step (ev_pos c (ev_val rfl (ev_pos (by rw [hsz]; omega) ?_)))⟩
      simp only [hw]; exact ht
    · exact ⟨_, ev_step (ev_neg c (ev_pos (by omega) (ev_now _)))⟩
theorem markText_some (k : Int) (h1 : 1 ≤ k) (h2 : k ≤ 1152921504606846976) : ∃ t, Ev (fun n => laws_markText.f n k) t := by
  obtain ⟨t, ht⟩ := markText_l0 k.toNat k ⟨#[]⟩ (by omega) (by omega) (by show 0 + k.toNat ≤ _; omega)
  exact ⟨t, ev_neg (by omega) ht⟩
open Classical in
noncomputable def mt (k : Int) : ByteArray := if h : ∃ t, Ev (fun n => laws_markText.f n k) t then Classical.choose h else ByteArray.empty
theorem mt_ev (k : Int) (h1 : 1 ≤ k) (h2 : k ≤ 1152921504606846976) : Ev (fun n => laws_markText.f n k) (mt k) := by
  have h := markText_some k h1 h2
  unfold mt; rw [dif_pos h]; exact Classical.choose_spec h
noncomputable def mk_MillFileS (k : Int) (x : S52) : S52 := ⟨mt (k + 0), mt (k + 1)⟩
noncomputable def mks_MillFileS (k : Int) : List S52 → List S52
  | [] => []
  | x :: r => mk_MillFileS k x :: mks_MillFileS (k + 2) r
theorem mark_MillFileS_l0 : ∀ (suf pre : List S52) (k : Int), (pre ++ suf).length ≤ 4398046511104 → 1 ≤ k → k + 2 * suf.length ≤ 1152921504606846976 →
    Ev (fun n => laws_markMillFileS.l0 n (pre ++ suf) k (pre.length : Int)) (k + 2 * suf.length, pre ++ mks_MillFileS k suf)
  | [], pre, k, hl, h1, h2 => ev_step (ev_neg (by simp) (ev_eq (ev_now _) (by simp [mks_MillFileS])))
  | x :: r, pre, k, hl, h1, h2 => by
    have hlen : (pre ++ x :: r).length = pre.length + (r.length + 1) := by simp
    rw [hlen] at hl
    have hc : ((x :: r).length : Int) = r.length + 1 := by simp
    rw [hc] at h2 ⊢
    have e := succ64 (i := pre.length) (n := pre.length + (r.length + 1)) (by omega) (by omega)
    have w : ∀ j : Int, 0 ≤ j → j ≤ 1000 → wrap64 (k + j) = k + j := fun j _ _ => id64 (by omega) (by omega)
    have a : ∀ j : Int, k + j + 1 = k + (j + 1) := fun j => by omega
    have n1 : wrap64 (k + 1) = k + 1 := w 1 (by omega) (by omega)
    have n2 : wrap64 (k + 1 + 1) = k + 2 := by rw [show k + 1 + 1 = k + 2 from by omega]; exact w 2 (by omega) (by omega)
    have hx : ∀ y : S52, rd_T52 (pre ++ y :: r) (pre.length : Int) = y := fun y => by unfold rd_T52; simp
    have hs : ∀ y z : S52, (pre ++ y :: r).set pre.length z = pre ++ z :: r := fun y z => by simp
    have ih := mark_MillFileS_l0 r (pre ++ [mk_MillFileS k x]) (k + 2) (by simp; omega) (by omega) (by omega)
    refine ev_step (ev_pos (by rw [hlen]; omega) (ev_bind (by simpa using mt_ev (k + 0) (by omega) (by omega)) (ev_pos (by first | omega | (simp; omega)) (ev_val rfl (ev_bind (by simp only [n1, n2]; exact mt_ev (k + 1) (by omega) (by omega)) (?_))))))
    simp only [Int.toNat_natCast, hs, hx, e, n1, n2]
    simp only [List.append_assoc, List.singleton_append, List.length_append, List.length_cons, List.length_nil, Nat.zero_add] at ih
    simp only [mk_MillFileS, Int.add_zero] at ih
    refine ev_eq ih ?_
    simp only [mks_MillFileS, mk_MillFileS, Int.add_zero, Prod.mk.injEq, and_true]
    omega
theorem mark_MillFileS (l : List S52) (k : Int) (hl : l.length ≤ 4398046511104) (h1 : 1 ≤ k) (h2 : k + 2 * l.length ≤ 1152921504606846976) : Ev (fun n => laws_markMillFileS.f n l k) (k + 2 * l.length, mks_MillFileS k l) := mark_MillFileS_l0 l [] k (by simpa using hl) h1 h2
noncomputable def mk_ClayFileS (k : Int) (x : S65) : S65 := ⟨mt (k + 0), mt (k + 1)⟩
noncomputable def mks_ClayFileS (k : Int) : List S65 → List S65
  | [] => []
  | x :: r => mk_ClayFileS k x :: mks_ClayFileS (k + 2) r
theorem mks_ClayFileS_len (k : Int) (l : List S65) : (mks_ClayFileS k l).length = l.length := by
  induction l generalizing k with
  | nil => rfl
  | cons x r ih => simp [mks_ClayFileS, ih]
theorem mark_ClayFileS_l0 : ∀ (suf pre : List S65) (k : Int), (pre ++ suf).length ≤ 1099511627776 → 1 ≤ k → k + 2 * suf.length ≤ 1152921504606846976 →
    Ev (fun n => laws_markClayFileS.l0 n (pre ++ suf) k (pre.length : Int)) (k + 2 * suf.length, pre ++ mks_ClayFileS k suf)
  | [], pre, k, hl, h1, h2 => ev_step (ev_neg (by simp) (ev_eq (ev_now _) (by simp [mks_ClayFileS])))
  | x :: r, pre, k, hl, h1, h2 => by
    have hlen : (pre ++ x :: r).length = pre.length + (r.length + 1) := by simp
    rw [hlen] at hl
    have hc : ((x :: r).length : Int) = r.length + 1 := by simp
    rw [hc] at h2 ⊢
    have e := succ64 (i := pre.length) (n := pre.length + (r.length + 1)) (by omega) (by omega)
    have w : ∀ j : Int, 0 ≤ j → j ≤ 1000 → wrap64 (k + j) = k + j := fun j _ _ => id64 (by omega) (by omega)
    have a : ∀ j : Int, k + j + 1 = k + (j + 1) := fun j => by omega
    have n1 : wrap64 (k + 1) = k + 1 := w 1 (by omega) (by omega)
    have n2 : wrap64 (k + 1 + 1) = k + 2 := by rw [show k + 1 + 1 = k + 2 from by omega]; exact w 2 (by omega) (by omega)
    have hx : ∀ y : S65, rd_T65 (pre ++ y :: r) (pre.length : Int) = y := fun y => by unfold rd_T65; simp
    have hs : ∀ y z : S65, (pre ++ y :: r).set pre.length z = pre ++ z :: r := fun y z => by simp
    have ih := mark_ClayFileS_l0 r (pre ++ [mk_ClayFileS k x]) (k + 2) (by simp; omega) (by omega) (by omega)
    refine ev_step (ev_pos (by rw [hlen]; omega) (ev_bind (by simpa using mt_ev (k + 0) (by omega) (by omega)) (ev_pos (by first | omega | (simp; omega)) (ev_val rfl (ev_bind (by simp only [n1, n2]; exact mt_ev (k + 1) (by omega) (by omega)) (?_))))))
    simp only [Int.toNat_natCast, hs, hx, e, n1, n2]
    simp only [List.append_assoc, List.singleton_append, List.length_append, List.length_cons, List.length_nil, Nat.zero_add] at ih
    simp only [mk_ClayFileS, Int.add_zero] at ih
    refine ev_eq ih ?_
    simp only [mks_ClayFileS, mk_ClayFileS, Int.add_zero, Prod.mk.injEq, and_true]
    omega
theorem mark_ClayFileS (l : List S65) (k : Int) (hl : l.length ≤ 1099511627776) (h1 : 1 ≤ k) (h2 : k + 2 * l.length ≤ 1152921504606846976) : Ev (fun n => laws_markClayFileS.f n l k) (k + 2 * l.length, mks_ClayFileS k l) := mark_ClayFileS_l0 l [] k (by simpa using hl) h1 h2
theorem held_ClayFileS_l0 : ∀ (suf pre : List S65) (k : Int), (pre ++ suf).length ≤ 1099511627776 → 1 ≤ k → k + 2 * suf.length ≤ 1152921504606846976 →
    Ev (fun n => laws_heldClayFileS.l0 n (pre ++ mks_ClayFileS k suf) k (pre.length : Int)) (k + 2 * suf.length)
  | [], pre, k, hl, h1, h2 => ev_step (ev_neg (by simp [mks_ClayFileS]) (ev_eq (ev_now _) (by simp)))
  | x :: r, pre, k, hl, h1, h2 => by
    have hlen : (pre ++ mk_ClayFileS k x :: mks_ClayFileS (k + 2) r).length = pre.length + (r.length + 1) := by simp [mks_ClayFileS_len]
    have hl2 : pre.length + (r.length + 1) ≤ 1099511627776 := by simpa using hl
    have hc : ((x :: r).length : Int) = r.length + 1 := by simp
    rw [hc] at h2 ⊢
    have e := succ64 (i := pre.length) (n := pre.length + (r.length + 1)) (by omega) (by omega)
    have w : ∀ j : Int, 0 ≤ j → j ≤ 1000 → wrap64 (k + j) = k + j := fun j _ _ => id64 (by omega) (by omega)
    have a : ∀ j : Int, k + j + 1 = k + (j + 1) := fun j => by omega
    have n1 : wrap64 (k + 1) = k + 1 := w 1 (by omega) (by omega)
    have n2 : wrap64 (k + 1 + 1) = k + 2 := by rw [show k + 1 + 1 = k + 2 from by omega]; exact w 2 (by omega) (by omega)
    have hx : ∀ (y : S65) (q : List S65), rd_T65 (pre ++ y :: q) (pre.length : Int) = y := fun y q => by unfold rd_T65; simp
    have ih := held_ClayFileS_l0 r (pre ++ [mk_ClayFileS k x]) (k + 2) (by simp; omega) (by omega) (by omega)
    simp only [mks_ClayFileS]
    refine ev_step (ev_pos (by rw [hlen]; omega) (ev_pos (by first | omega | (simp; omega)) (ev_bind (by simpa using mt_ev (k + 0) (by omega) (by omega)) (ev_pos (by simp only [hx, mk_ClayFileS, n1, n2, Int.add_zero]) (ev_bind (by simp only [n1, n2]; exact mt_ev (k + 1) (by omega) (by omega)) (ev_pos (by simp only [hx, mk_ClayFileS, n1, n2, Int.add_zero]) (?_)))))))
    simp only [e, n1, n2]
    simp only [List.append_assoc, List.singleton_append, List.length_append, List.length_cons, List.length_nil, Nat.zero_add] at ih
    exact ev_eq ih (by omega)
theorem held_ClayFileS (l : List S65) (k : Int) (hl : l.length ≤ 1099511627776) (h1 : 1 ≤ k) (h2 : k + 2 * l.length ≤ 1152921504606846976) : Ev (fun n => laws_heldClayFileS.f n (mks_ClayFileS k l) k) (k + 2 * l.length) := held_ClayFileS_l0 l [] k (by simpa using hl) h1 h2
noncomputable def mk_StringS (k : Int) (x : ByteArray) : ByteArray := mt (k + 0)
noncomputable def mks_StringS (k : Int) : List ByteArray → List ByteArray
  | [] => []
  | x :: r => mk_StringS k x :: mks_StringS (k + 1) r
theorem mks_StringS_len (k : Int) (l : List ByteArray) : (mks_StringS k l).length = l.length := by
  induction l generalizing k with
  | nil => rfl
  | cons x r ih => simp [mks_StringS, ih]
theorem mark_StringS_l0 : ∀ (suf pre : List ByteArray) (k : Int), (pre ++ suf).length ≤ 8796093022208 → 1 ≤ k → k + 1 * suf.length ≤ 1152921504606846976 →
    Ev (fun n => laws_markStringS.l0 n (pre ++ suf) k (pre.length : Int)) (k + 1 * suf.length, pre ++ mks_StringS k suf)
  | [], pre, k, hl, h1, h2 => ev_step (ev_neg (by simp) (ev_eq (ev_now _) (by simp [mks_StringS])))
  | x :: r, pre, k, hl, h1, h2 => by
    have hlen : (pre ++ x :: r).length = pre.length + (r.length + 1) := by simp
    rw [hlen] at hl
    have hc : ((x :: r).length : Int) = r.length + 1 := by simp
    rw [hc] at h2 ⊢
    have e := succ64 (i := pre.length) (n := pre.length + (r.length + 1)) (by omega) (by omega)
    have w : ∀ j : Int, 0 ≤ j → j ≤ 1000 → wrap64 (k + j) = k + j := fun j _ _ => id64 (by omega) (by omega)
    have a : ∀ j : Int, k + j + 1 = k + (j + 1) := fun j => by omega
    have n1 : wrap64 (k + 1) = k + 1 := w 1 (by omega) (by omega)
    have hx : ∀ y : ByteArray, rdOf ByteArray.empty (pre ++ y :: r) (pre.length : Int) = y := fun y => by unfold rdOf; simp
    have hs : ∀ y z : ByteArray, (pre ++ y :: r).set pre.length z = pre ++ z :: r := fun y z => by simp
    have ih := mark_StringS_l0 r (pre ++ [mk_StringS k x]) (k + 1) (by simp; omega) (by omega) (by omega)
    refine ev_step (ev_pos (by rw [hlen]; omega) (ev_bind (by simpa using mt_ev (k + 0) (by omega) (by omega)) (ev_pos (by first | omega | (simp; omega)) (?_))))
    simp only [Int.toNat_natCast, hs, hx, e, n1]
    simp only [List.append_assoc, List.singleton_append, List.length_append, List.length_cons, List.length_nil, Nat.zero_add] at ih
    simp only [mk_StringS, Int.add_zero] at ih
    refine ev_eq ih ?_
    simp only [mks_StringS, mk_StringS, Int.add_zero, Prod.mk.injEq, and_true]
    omega
theorem mark_StringS (l : List ByteArray) (k : Int) (hl : l.length ≤ 8796093022208) (h1 : 1 ≤ k) (h2 : k + 1 * l.length ≤ 1152921504606846976) : Ev (fun n => laws_markStringS.f n l k) (k + 1 * l.length, mks_StringS k l) := mark_StringS_l0 l [] k (by simpa using hl) h1 h2
theorem held_StringS_l0 : ∀ (suf pre : List ByteArray) (k : Int), (pre ++ suf).length ≤ 8796093022208 → 1 ≤ k → k + 1 * suf.length ≤ 1152921504606846976 →
    Ev (fun n => laws_heldStringS.l0 n (pre ++ mks_StringS k suf) k (pre.length : Int)) (k + 1 * suf.length)
  | [], pre, k, hl, h1, h2 => ev_step (ev_neg (by simp [mks_StringS]) (ev_eq (ev_now _) (by simp)))
  | x :: r, pre, k, hl, h1, h2 => by
    have hlen : (pre ++ mk_StringS k x :: mks_StringS (k + 1) r).length = pre.length + (r.length + 1) := by simp [mks_StringS_len]
    have hl2 : pre.length + (r.length + 1) ≤ 8796093022208 := by simpa using hl
    have hc : ((x :: r).length : Int) = r.length + 1 := by simp
    rw [hc] at h2 ⊢
    have e := succ64 (i := pre.length) (n := pre.length + (r.length + 1)) (by omega) (by omega)
    have w : ∀ j : Int, 0 ≤ j → j ≤ 1000 → wrap64 (k + j) = k + j := fun j _ _ => id64 (by omega) (by omega)
    have a : ∀ j : Int, k + j + 1 = k + (j + 1) := fun j => by omega
    have n1 : wrap64 (k + 1) = k + 1 := w 1 (by omega) (by omega)
    have hx : ∀ (y : ByteArray) (q : List ByteArray), rdOf ByteArray.empty (pre ++ y :: q) (pre.length : Int) = y := fun y q => by unfold rdOf; simp
    have ih := held_StringS_l0 r (pre ++ [mk_StringS k x]) (k + 1) (by simp; omega) (by omega) (by omega)
    simp only [mks_StringS]
    refine ev_step (ev_pos (by rw [hlen]; omega) (ev_pos (by first | omega | (simp; omega)) (ev_bind (by simpa using mt_ev (k + 0) (by omega) (by omega)) (ev_pos (by simp only [hx, mk_StringS, n1, Int.add_zero]) (?_)))))
    simp only [e, n1]
    simp only [List.append_assoc, List.singleton_append, List.length_append, List.length_cons, List.length_nil, Nat.zero_add] at ih
    exact ev_eq ih (by omega)
theorem held_StringS (l : List ByteArray) (k : Int) (hl : l.length ≤ 8796093022208) (h1 : 1 ≤ k) (h2 : k + 1 * l.length ≤ 1152921504606846976) : Ev (fun n => laws_heldStringS.f n (mks_StringS k l) k) (k + 1 * l.length) := held_StringS_l0 l [] k (by simpa using hl) h1 h2
end Go.Proofs.Ytnffcpajfojajaa.Q
end
section
namespace Go.Proofs.Ytnffcpajfojajaa.Q
open Go.RowKit Go.Proofs.YtnffcpajfojajaaW.PrintWords Go.Proofs.YtnffcpajfojajaaW.PrintLast Go.Proofs.YtnffcpajfojajaaW.PrintMore Go.Proofs.Ytnffcpajfojajaa.EvMore
set_option linter.unusedVariables false
set_option linter.unusedSimpArgs false
theorem path_loops (s : ByteArray) (hs : s.size ≤ 140737488351232) : ∀ d i : Nat, i + d = s.size →
    ∃ b : Bool, Ev (fun k => spec_l15PrefixOk.l0 k s (i : Int)) b ∧ Ev (fun k => impl_listName.l0 k s (i : Int)) (b && decide ((s.size : Int) ≤ 60))
  | 0, i, h => by
    refine ⟨true, ev_step ?_, ev_step ?_⟩
    · exact ev_neg (by omega) (ev_now _)
    · exact ev_neg (by omega) (ev_eq (ev_now _) (by simp))
  | d + 1, i, h => by
    obtain ⟨b, h1, h2⟩ := path_loops s hs d (i + 1) (by omega)
    have e := succ64 (i := i) (n := s.size) (by omega) (by omega)
    by_cases c1 : bt s (i : Int) < 33
    · exact ⟨false, ev_step (ev_pos (by omega) (ev_pos (by omega) (ev_pos c1 (ev_now _)))), ev_step (ev_pos (by omega) (ev_pos (by omega) (ev_pos c1 (ev_now _))))⟩
    · by_cases c2 : bt s (i : Int) > 126
      · exact ⟨false, ev_step (ev_pos (by omega) (ev_pos (by omega) (ev_neg c1 (ev_pos c2 (ev_now _))))), ev_step (ev_pos (by omega) (ev_pos (by omega) (ev_neg c1 (ev_pos c2 (ev_now _)))))⟩
      · refine ⟨b, ev_step (ev_pos (by omega) (ev_pos (by omega) (ev_neg c1 (ev_neg c2 ?_)))), ev_step (ev_pos (by omega) (ev_pos (by omega) (ev_neg c1 (ev_neg c2 ?_))))⟩
        · simp only [e]; exact h1
        · simp only [e]; exact h2
theorem path_ev (s : ByteArray) (hs : s.size ≤ 140737488351232) : ∃ b : Bool, Ev (fun k => spec_l15PathOk.f k s) b ∧ Ev (fun k => impl_fileName.f k s) b ∧ (b = true → s.size ≤ 60) := by
  obtain ⟨b, h1, h2⟩ := path_loops s hs s.size 0 (by omega)
  by_cases c : (s.size : Int) ≥ 1
  · refine ⟨b && decide ((s.size : Int) ≤ 60), ev_pos c (ev_bind (a := b && decide ((s.size : Int) ≤ 60)) ?_ (ev_now _)), ev_pos c (ev_bind h2 (ev_now _)), fun h => by simp at h; omega⟩
    by_cases c2 : (s.size : Int) > 60
    · exact ev_pos c2 (ev_eq (ev_now _) (by simp; omega))
    · exact ev_neg c2 (ev_eq h1 (by simp; omega))
  · exact ⟨false, ev_neg c (ev_now _), ev_neg c (ev_now _), by simp⟩
def shortF (x : S52) : Prop := x.f0.size ≤ 60 ∧ x.f1.size ≤ 3000
theorem files_loops (l : List S52) (hl : l.length ≤ 4398046511104) (hs : ∀ x ∈ l, x.f0.size ≤ 140737488351232) (a1 : Int) : ∀ d i : Nat, i + d = l.length →
    ∃ b : Bool, Ev (fun k => spec_l18FilesOk.l0 k l (i : Int)) b ∧ Ev (fun k => impl_filesOK.l0 k l a1 l (l.length : Int) (i : Int)) (b && decide ((l.length : Int) ≤ a1)) ∧ (b = true → ∀ j, i ≤ j → (hj : j < l.length) → shortF l[j] ∧ (∀ q, q + 1 = j → (hq : q < l.length) → nameLt l[q] l[j]))
  | 0, i, h => by
    refine ⟨true, ev_step ?_, ev_step ?_, fun _ j h1 h2 => by omega⟩
    · exact ev_neg (by omega) (ev_now _)
    · exact ev_neg (by omega) (ev_eq (ev_now _) (by simp))
  | d + 1, i, h => by
    obtain ⟨b, h1, h2, h3⟩ := files_loops l hl hs a1 d (i + 1) (by omega)
    have e := succ64 (i := i) (n := l.length) (by omega) (by omega)
    have hil : i < l.length := by omega
    have hm : rd_T52 l (i : Int) ∈ l := by unfold rd_T52; rw [Int.toNat_natCast, List.getD_eq_getElem?_getD, List.getElem?_eq_getElem (by omega)]; exact List.getElem_mem _
    have hat : rd_T52 l (i : Int) = l[i] := rdS52_at l i hil
    obtain ⟨p, p1, p2, p3⟩ := path_ev _ (hs _ hm)
    have lt : (i : Int) < (l.length : Int) := by omega
    have ge : (0 : Int) ≤ (i : Int) := by omega
    cases p with
    | false =>
      exact ⟨false, ev_step (ev_pos lt (ev_pos ge (ev_bind p1 (ev_neg (by simp) (ev_now _))))), ev_step (ev_pos lt (ev_pos ge (ev_pos lt (ev_bind p2 (ev_neg (by simp) (ev_now _)))))), by simp⟩
    | true =>
      by_cases c1 : ((rd_T52 l (i : Int)).f1.size : Int) > 3000
      · refine ⟨false, ev_step (ev_pos lt (ev_pos ge (ev_bind p1 (ev_pos rfl (ev_pos c1 (ev_now _)))))), ev_step (ev_pos lt (ev_pos ge (ev_pos lt (ev_bind p2 (ev_pos rfl (ev_val (a := false) ?_ (ev_neg (by simp) (ev_now _)))))))), by simp⟩
        simp [impl_short.f]; omega
      · have hsh : impl_short.f (rd_T52 l (i : Int)).f1 = some true := by simp [impl_short.f]; omega
        have hso : shortF l[i] := by rw [← hat]; exact ⟨p3 rfl, by omega⟩
        by_cases c2 : (i : Int) > 0
        · have ep := pred64 (i := i) (by omega) (by omega)
          have hpt : rd_T52 l (wrap64 ((i : Int) - 1)) = l[i - 1] := by rw [ep]; exact rdS52_at l (i - 1) (by omega)
          by_cases c3 : Op.bytesLess (rd_T52 l (wrap64 ((i : Int) - 1))).f0.toList (rd_T52 l (i : Int)).f0.toList = true
          · refine ⟨b, ev_step (ev_pos lt (ev_pos ge (ev_bind p1 (ev_pos rfl (ev_neg c1 (ev_pos c2 (ev_pos (by rw [ep]; omega) (ev_pos (by rw [ep]; omega) (ev_pos c3 ?_))))))))), ev_step (ev_pos lt (ev_pos ge (ev_pos lt (ev_bind p2 (ev_pos rfl (ev_val hsh (ev_pos rfl (ev_pos c2 (ev_pos (by rw [ep]; omega) (ev_pos (by rw [ep]; omega) (ev_pos c3 ?_))))))))))), fun hb j hj hjl => ?_⟩
            · simp only [e]; exact h1
            · simp only [e]; exact h2
            · rcases Nat.lt_or_ge i j with c | c
              · exact h3 hb j c hjl
              · obtain rfl : j = i := by omega
                refine ⟨hso, fun q hq hql => ?_⟩
                obtain rfl : q = j - 1 := by omega
                rw [hpt, hat] at c3
                exact c3
          · exact ⟨false, ev_step (ev_pos lt (ev_pos ge (ev_bind p1 (ev_pos rfl (ev_neg c1 (ev_pos c2 (ev_pos (by rw [ep]; omega) (ev_pos (by rw [ep]; omega) (ev_neg c3 (ev_now _)))))))))), ev_step (ev_pos lt (ev_pos ge (ev_pos lt (ev_bind p2 (ev_pos rfl (ev_val hsh (ev_pos rfl (ev_pos c2 (ev_pos (by rw [ep]; omega) (ev_pos (by rw [ep]; omega) (ev_neg c3 (ev_now _)))))))))))), by simp⟩
        · refine ⟨b, ev_step (ev_pos lt (ev_pos ge (ev_bind p1 (ev_pos rfl (ev_neg c1 (ev_neg c2 ?_)))))), ev_step (ev_pos lt (ev_pos ge (ev_pos lt (ev_bind p2 (ev_pos rfl (ev_val hsh (ev_pos rfl (ev_neg c2 ?_)))))))), fun hb j hj hjl => ?_⟩
          · simp only [e]; exact h1
          · simp only [e]; exact h2
          · rcases Nat.lt_or_ge i j with c | c
            · exact h3 hb j c hjl
            · obtain rfl : j = i := by omega
              exact ⟨hso, fun q hq hql => by omega⟩
theorem asc_of_steps (l : List S52) (h : ∀ j (hj : j < l.length) q, q + 1 = j → (hq : q < l.length) → nameLt l[q] l[j]) : AscF l := by
  have key : ∀ d i, (hd : i + d + 1 < l.length) → nameLt (l[i]'(by omega)) l[i + d + 1] := by
    intro d
    induction d with
    | zero => intro i hd; exact h (i + 0 + 1) hd i (by omega) (by omega)
    | succ d ih =>
      intro i hd
      have h1 := ih i (by omega)
      have h2 := h (i + (d + 1) + 1) hd (i + d + 1) (by omega) (by omega)
      exact Ord.less_trans _ _ _ h1 h2
  refine List.pairwise_iff_getElem.2 (fun i j hi hj hij => ?_)
  have := key (j - i - 1) i (by omega)
  have e : i + (j - i - 1) + 1 = j := by omega
  simp only [e] at this
  exact this
theorem place_ev (l : List S52) (hl : l.length ≤ 4398046511104) (hs : ∀ x ∈ l, x.f0.size ≤ 140737488351232) :
    ∃ b : Bool, Ev (fun k => spec_MillValidPlace.f k l) b ∧ Ev (fun k => impl_MillValidPlace.f k l) b ∧ (b = true → AscF l ∧ l.length ≤ 40 ∧ ∀ x ∈ l, shortF x) := by
  obtain ⟨b, h1, h2, h3⟩ := files_loops l hl hs 40 l.length 0 (by omega)
  refine ⟨b && decide ((l.length : Int) ≤ 40), ev_bind (a := b && decide ((l.length : Int) ≤ 40)) ?_ (ev_now _), ev_bind h2 (ev_now _), fun hb => ?_⟩
  · by_cases c : (l.length : Int) > 40
    · exact ev_pos c (ev_eq (ev_now _) (by simp; omega))
    · exact ev_neg c (ev_eq h1 (by simp; omega))
  · simp only [Bool.and_eq_true, decide_eq_true_eq] at hb
    refine ⟨asc_of_steps l (fun j hj q hq hql => (h3 hb.1 j (by omega) hj).2 q hq hql), by omega, fun x hx => ?_⟩
    obtain ⟨i, hi, rfl⟩ := List.getElem_of_mem hx
    exact (h3 hb.1 i (by omega) hi).1
end Go.Proofs.Ytnffcpajfojajaa.Q
end
section
namespace Go.Proofs.Ytnffcpajfojajaa.Q
open Go.RowKit Go.Proofs.YtnffcpajfojajaaW.PrintWords Go.Proofs.YtnffcpajfojajaaW.PrintLast Go.Proofs.YtnffcpajfojajaaW.PrintMore Go.Proofs.Ytnffcpajfojajaa.EvMore
set_option linter.unusedVariables false
set_option linter.unusedSimpArgs false
abbrev nameLtC (a b : S65) : Prop := Op.bytesLess a.f0.toList b.f0.toList = true
def AscC (l : List S65) : Prop := l.Pairwise nameLtC
def insC (x : S65) : List S65 → List S65
  | [] => [x]
  | y :: r => if y.f0.toList = x.f0.toList then x :: r else if Op.bytesLess x.f0.toList y.f0.toList = true then x :: y :: r else y :: insC x r
theorem insC_mem (x : S65) : ∀ (l : List S65) (z : S65), z ∈ insC x l → z = x ∨ z ∈ l
  | [], z, h => by simpa [insC] using h
  | y :: r, z, h => by
    simp only [insC] at h
    split at h
    · rcases List.mem_cons.1 h with h | h
      · exact .inl h
      · exact .inr (List.mem_cons_of_mem _ h)
    · split at h
      · rcases List.mem_cons.1 h with h | h
        · exact .inl h
        · exact .inr h
      · rcases List.mem_cons.1 h with h | h
        · exact .inr (h ▸ List.mem_cons_self)
        · rcases insC_mem x r z h with h | h
          · exact .inl h
          · exact .inr (List.mem_cons_of_mem _ h)
theorem insC_asc (x : S65) : ∀ l : List S65, AscC l → AscC (insC x l)
  | [], _ => by simp [insC, AscC]
  | y :: r, h => by
    obtain ⟨h1, h2⟩ := List.pairwise_cons.1 h
    simp only [insC]
    split
    · rename_i e
      refine List.pairwise_cons.2 ⟨fun z hz => ?_, h2⟩
      have := h1 z hz
      unfold nameLtC at this ⊢
      rw [← e]; exact this
    · rename_i e
      split
      · rename_i lt
        refine List.pairwise_cons.2 ⟨fun z hz => ?_, h⟩
        rcases List.mem_cons.1 hz with rfl | hz
        · exact lt
        · exact Ord.less_trans _ _ _ lt (h1 z hz)
      · rename_i lt
        refine List.pairwise_cons.2 ⟨fun z hz => ?_, insC_asc x r h2⟩
        rcases insC_mem x r z hz with rfl | hz
        · exact less_tri _ _ e lt
        · exact h1 z hz
theorem insC_len (x : S65) : ∀ l : List S65, l.length ≤ (insC x l).length ∧ (insC x l).length ≤ l.length + 1
  | [] => by simp [insC]
  | y :: r => by
    have := insC_len x r
    simp only [insC]
    split
    · simp
    · split <;> simp <;> omega
theorem put_doneC (acc : List S65) (n t : ByteArray) : ∀ suf pre out : List S65, acc = pre ++ suf → acc.length ≤ 100000 → out.length + suf.length ≤ 200000 → (∀ y ∈ suf, ¬ y.f0.toList = n.toList) → Ev (fun k => spec_l9Put.l0 k acc n t out true (pre.length : Int)) (out ++ suf)
  | [], pre, out, ha, hl, ho, h => by
    have : pre.length = acc.length := by rw [ha]; simp
    refine ev_step (ev_neg (by omega) (ev_pos rfl (ev_eq (ev_now _) (by simp))))
  | y :: r, pre, out, ha, hl, ho, h => by
    have hlen : acc.length = pre.length + (r.length + 1) := by rw [ha]; simp
    have e := succ64 (i := pre.length) (n := acc.length) (by omega) (by omega)
    have hr : rd_T65 acc (pre.length : Int) = y := by rw [rdS65_at acc pre.length (by omega)]; simp [ha]
    have ih := put_doneC acc n t r (pre ++ [y]) (out ++ [y]) (by rw [ha]; simp) hl (by simp at ho ⊢; omega) (fun z hz => h z (List.mem_cons_of_mem _ hz))
    simp only [List.length_append, List.length_cons, List.length_nil, List.append_assoc, List.cons_append, List.nil_append] at ih
    have hy := h y List.mem_cons_self
    simp only [List.length_cons] at ho
    refine ev_step ?_
    simp only [spec_l9Put.l0, if_true]
    refine ev_pos (by omega) (ev_step ?_)
    simp only [spec_l9Put.j1, Bool.false_eq_true, if_false]
    refine ev_pos (by omega) (ev_pos (by omega) (ev_neg (by rw [hr]; exact hy) (ev_pos (by omega) ?_)))
    simp only [e, hr]
    exact ih
theorem put_loopC (acc : List S65) (x : S65) : ∀ suf pre out : List S65, acc = pre ++ suf → acc.length ≤ 100000 → out.length + suf.length ≤ 100000 → AscC suf → Ev (fun k => spec_l9Put.l0 k acc x.f0 x.f1 out false (pre.length : Int)) (out ++ insC x suf)
  | [], pre, out, ha, hl, ho, h => by
    have : pre.length = acc.length := by rw [ha]; simp
    simp only [List.length_nil] at ho
    refine ev_step (ev_neg (by omega) (ev_neg (by simp) (ev_pos (by omega) (ev_eq (ev_now _) (by simp [insC])))))
  | y :: r, pre, out, ha, hl, ho, h => by
    have hlen : acc.length = pre.length + (r.length + 1) := by rw [ha]; simp
    have e := succ64 (i := pre.length) (n := acc.length) (by omega) (by omega)
    have hr : rd_T65 acc (pre.length : Int) = y := by rw [rdS65_at acc pre.length (by omega)]; simp [ha]
    obtain ⟨h1, h2⟩ := List.pairwise_cons.1 h
    simp only [List.length_cons] at ho
    refine ev_step (ev_pos (by omega) (ev_neg (by simp) (ev_pos (by omega) (ev_step ?_))))
    by_cases c : Op.bytesLess y.f0.toList x.f0.toList = true
    · have ne : ¬ y.f0.toList = x.f0.toList := fun q => by rw [q] at c; exact less_irr _ c
      have nl : ¬ Op.bytesLess x.f0.toList y.f0.toList = true := fun q => less_irr _ (Ord.less_trans _ _ _ c q)
      have ih := put_loopC acc x r (pre ++ [y]) (out ++ [y]) (by rw [ha]; simp) hl (by simp; omega) h2
      simp only [List.length_append, List.length_cons, List.length_nil, List.append_assoc, List.cons_append, List.nil_append] at ih
      refine ev_neg (by rw [hr, c]; simp) (ev_pos (by omega) (ev_pos (by omega) (ev_neg (by rw [hr]; exact ne) (ev_pos (by omega) ?_))))
      simp only [e, hr, insC, if_neg ne, if_neg nl]
      exact ih
    · refine ev_pos (by rw [hr]; simpa using c) (ev_pos (by omega) (ev_val rfl (ev_pos (by omega) (ev_pos (by omega) ?_))))
      by_cases q : y.f0.toList = x.f0.toList
      · have hgt : ∀ z ∈ r, ¬ z.f0.toList = x.f0.toList := fun z hz w => by
          have := h1 z hz
          unfold nameLtC at this
          rw [q, w] at this
          exact less_irr _ this
        have ih := put_doneC acc x.f0 x.f1 r (pre ++ [y]) (out ++ [x]) (by rw [ha]; simp) hl (by simp; omega) hgt
        simp only [List.length_append, List.length_cons, List.length_nil, List.append_assoc, List.cons_append, List.nil_append] at ih
        refine ev_pos (by rw [hr]; exact q) ?_
        simp only [e, insC, if_pos q]
        exact ih
      · have lt : Op.bytesLess x.f0.toList y.f0.toList = true := less_tri _ _ (fun w => q w.symm) c
        have hgt : ∀ z ∈ r, ¬ z.f0.toList = x.f0.toList := fun z hz w => by
          have h3 := Ord.less_trans _ _ _ lt (h1 z hz)
          rw [w] at h3
          exact less_irr _ h3
        have ih := put_doneC acc x.f0 x.f1 r (pre ++ [y]) (out ++ [x, y]) (by rw [ha]; simp) hl (by simp; omega) hgt
        simp only [List.length_append, List.length_cons, List.length_nil, List.append_assoc, List.cons_append, List.nil_append] at ih
        refine ev_neg (by rw [hr]; exact q) (ev_pos (by simp; omega) ?_)
        simp only [e, hr, insC, if_neg q, if_pos lt, List.append_assoc, List.cons_append, List.nil_append]
        exact ih
theorem put_evC (acc : List S65) (x : S65) (hl : acc.length ≤ 100000) (h : AscC acc) : Ev (fun k => spec_l9Put.f k acc x.f0 x.f1) (insC x acc) := put_loopC acc x acc [] [] rfl hl (by simpa using hl) h
def layC (l : List FC) (fs : List FC) : List FC := fs.foldl (fun acc x => insC x acc) l
theorem layC_asc : ∀ (fs l : List FC), AscC l → AscC (layC l fs)
  | [], _, h => h
  | x :: r, l, h => layC_asc r _ (insC_asc x l h)
theorem insC_perm (x : FC) : ∀ l : List FC, (∀ y ∈ l, ¬ y.f0.toList = x.f0.toList) → (insC x l).Perm (x :: l)
  | [], _ => by simp [insC]
  | y :: r, h => by
    simp only [insC]
    rw [if_neg (h y List.mem_cons_self)]
    split
    · exact List.Perm.refl _
    · exact ((insC_perm x r (fun z hz => h z (List.mem_cons_of_mem _ hz))).cons y).trans (List.Perm.swap x y r)
theorem layC_perm : ∀ (fs l : List FC), (∀ x ∈ fs, ∀ y ∈ l, ¬ y.f0.toList = x.f0.toList) → fs.Pairwise (fun x y => ¬ x.f0.toList = y.f0.toList) → (layC l fs).Perm (fs ++ l)
  | [], l, _, _ => List.Perm.refl _
  | x :: r, l, h, hp => by
    obtain ⟨h1, h2⟩ := List.pairwise_cons.1 hp
    have hx := insC_perm x l (fun y hy => h x List.mem_cons_self y hy)
    have ih := layC_perm r (insC x l) (fun z hz y hy => by
      rcases insC_mem x l y hy with rfl | hy
      · exact h1 z hz
      · exact h z (List.mem_cons_of_mem _ hz) y hy) h2
    show (layC (insC x l) r).Perm (x :: (r ++ l))
    exact ih.trans ((hx.append_left r).trans List.perm_middle)
theorem sort_lay (fs : List FC) (hd : fs.Pairwise (fun x y => ¬ x.f0.toList = y.f0.toList)) : sortC fs = layC [] fs := by
  obtain ⟨_, hp, hs⟩ := sortC_facts fs
  have hl : (layC [] fs).Perm fs := by simpa using layC_perm fs [] (fun _ _ y hy => by simp at hy) hd
  have ha := layC_asc fs [] List.Pairwise.nil
  have hd2 : (sortC fs).Pairwise (fun x y => ¬ x.f0.toList = y.f0.toList) := (hp.pairwise_iff (fun {x y} (h : ¬ x.f0.toList = y.f0.toList) e => h e.symm)).2 hd
  have hs2 : AscC (sortC fs) := (hs.and hd2).imp (fun {x y} h => less_eitherC _ _ h.2 h.1)
  refine List.Perm.eq_of_pairwise (le := nameLtC) (fun a b _ _ h1 h2 => absurd (Ord.less_trans _ _ _ h1 h2) (less_irr _)) hs2 ha (hp.trans hl.symm)
end Go.Proofs.Ytnffcpajfojajaa.Q
end
section
namespace Go.Proofs.Ytnffcpajfojajaa.Q
open Go.RowKit Go.Proofs.YtnffcpajfojajaaW.PrintWords Go.Proofs.YtnffcpajfojajaaW.PrintLast Go.Proofs.YtnffcpajfojajaaW.PrintMore Go.Proofs.Ytnffcpajfojajaa.EvMore
set_option linter.unusedVariables false
set_option linter.unusedSimpArgs false
theorem bt_range (s : ByteArray) (i : Int) : 0 ≤ bt s i ∧ bt s i < 256 := by
  unfold bt
  split
  · exact ⟨by omega, by have := UInt8.toNat_lt (s[i.toNat]'(by assumption)); omega⟩
  · omega
theorem indexByte_low (c : UInt8) : ∀ l : List UInt8, -1 ≤ Lib.indexByte l c
  | [] => by simp [Lib.indexByte]
  | a :: r => by
    have ih := indexByte_low c r
    simp only [Lib.indexByte]
    split
    · omega
    · split <;> omega
theorem indexByte_iff (c : UInt8) : ∀ l : List UInt8, 0 ≤ Lib.indexByte l c ↔ l.any (· == c) = true
  | [] => by simp [Lib.indexByte]
  | a :: r => by
    have ih := indexByte_iff c r
    have lo := indexByte_low c r
    simp only [Lib.indexByte, List.any_cons, Bool.or_eq_true, ← ih]
    by_cases h : (a == c) = true
    · simp [h]
    · simp only [h, if_false, false_or, Bool.false_eq_true]
      by_cases h2 : (Lib.indexByte r c == -1) = true
      · rw [if_pos h2]; have h3 := beq_iff_eq.1 h2; rw [h3]
      · rw [if_neg h2]; have : ¬ Lib.indexByte r c = -1 := fun e => h2 (beq_iff_eq.2 e); omega
theorem indexByte_mem (c : UInt8) (l : List UInt8) : decide (0 ≤ Lib.indexByte l c) = l.any (· == c) := by
  rw [Bool.eq_iff_iff, decide_eq_true_eq]; exact indexByte_iff c l
theorem mark_ev (c : Int) (h0 : 0 ≤ c) (h1 : c < 256) : strings_ContainsRune.f ⟨#[95, 45, 46, 47]⟩ (wrap32 c) = some (decide (c = 95 ∨ c = 45 ∨ c = 46 ∨ c = 47)) := by
  have hw : wrap32 c = c := by unfold wrap32; omega
  rw [hw]
  unfold strings_ContainsRune.f
  by_cases h : 0 ≤ c ∧ c < 128
  · rw [if_pos h]
    congr 1
    rw [indexByte_mem]
    obtain ⟨n, rfl⟩ := Int.eq_ofNat_of_zero_le h0
    have hn : n < 128 := by omega
    have key : ∀ k : Fin 128, ([95, 45, 46, 47] : List UInt8).any (· == (((k.1 : Nat) : Int).toNat.toUInt8)) = decide (((k.1 : Nat) : Int) = 95 ∨ ((k.1 : Nat) : Int) = 45 ∨ ((k.1 : Nat) : Int) = 46 ∨ ((k.1 : Nat) : Int) = 47) := by decide +kernel
    exact key ⟨n, hn⟩
  · rw [if_neg h, if_pos ⟨rfl, by omega, by omega⟩]
    congr 1
    simp; omega
theorem package_loop (s : ByteArray) (hs : s.size ≤ 140737488351232) : ∀ d i : Nat, i + d = s.size →
    ∃ b : Bool, Ev (fun k => spec_l2Package.l0 k s (i : Int)) b ∧ Ev (fun k => impl_clayPackage.l0 k s (i : Int)) (b && decide (1 ≤ (s.size : Int) ∧ (s.size : Int) ≤ 30))
  | 0, i, h => by
    refine ⟨true, ev_step (ev_neg (by omega) (ev_now _)), ev_step (ev_neg (by omega) ?_)⟩
    by_cases c : (s.size : Int) ≥ 1
    · exact ev_pos c (ev_eq (ev_now _) (by simp; omega))
    · exact ev_neg c (ev_eq (ev_now _) (by simp; omega))
  | d + 1, i, h => by
    obtain ⟨b, h1, h2⟩ := package_loop s hs d (i + 1) (by omega)
    have e := succ64 (i := i) (n := s.size) (by omega) (by omega)
    obtain ⟨g0, g1⟩ := bt_range s (i : Int)
    have lt : (i : Int) < (s.size : Int) := by omega
    have ge : (0 : Int) ≤ (i : Int) := by omega
    have lowT : bt s (i : Int) ≥ 97 → impl_isLow.f (bt s (i : Int)) = some (decide (bt s (i : Int) ≤ 122)) := fun c => by unfold impl_isLow.f; rw [if_pos c]
    have lowF : ¬ bt s (i : Int) ≥ 97 → impl_isLow.f (bt s (i : Int)) = some false := fun c => by unfold impl_isLow.f; rw [if_neg c]
    have dgI : impl_isDigit.f (bt s (i : Int)) = some (decide (48 ≤ bt s (i : Int) ∧ bt s (i : Int) ≤ 57)) := by
      unfold impl_isDigit.f; by_cases c : bt s (i : Int) ≥ 48
      · rw [if_pos c]; simp; omega
      · rw [if_neg c]; simp; omega
    have dgS : spec_l1Digit.f (bt s (i : Int)) = some (decide (48 ≤ bt s (i : Int) ∧ bt s (i : Int) ≤ 57)) := by
      unfold spec_l1Digit.f; by_cases c : bt s (i : Int) ≥ 48
      · rw [if_pos c]; simp; omega
      · rw [if_neg c]; simp; omega
    have mk := mark_ev (bt s (i : Int)) g0 g1
    have g1' : Ev (fun n => spec_l2Package.l0 n s (wrap64 ((i : Int) + 1))) b := by simp only [e]; exact h1
    have g2' : Ev (fun n => impl_clayPackage.l0 n s (wrap64 ((i : Int) + 1))) (b && decide (1 ≤ (s.size : Int) ∧ (s.size : Int) ≤ 30)) := by simp only [e]; exact h2
    have tailI : ∃ q : Bool, Ev (fun n => (impl_isDigit.f (bt s (i : Int))).bind fun t102 => if t102 = true then impl_clayPackage.l0 n s (wrap64 ((i : Int) + 1)) else (strings_ContainsRune.f ⟨#[95, 45, 46, 47]⟩ (wrap32 (bt s (i : Int)))).bind fun t103 => if t103 = true then impl_clayPackage.l0 n s (wrap64 ((i : Int) + 1)) else some false) (q && decide (1 ≤ (s.size : Int) ∧ (s.size : Int) ≤ 30)) ∧
        Ev (fun n => (spec_l1Digit.f (bt s (i : Int))).bind fun t102 => if t102 = true then spec_l2Package.l0 n s (wrap64 ((i : Int) + 1)) else if bt s (i : Int) = 95 then spec_l2Package.l0 n s (wrap64 ((i : Int) + 1)) else if bt s (i : Int) = 45 then spec_l2Package.l0 n s (wrap64 ((i : Int) + 1)) else if bt s (i : Int) = 46 then spec_l2Package.l0 n s (wrap64 ((i : Int) + 1)) else if bt s (i : Int) = 47 then spec_l2Package.l0 n s (wrap64 ((i : Int) + 1)) else some false) q := by
      by_cases dg : 48 ≤ bt s (i : Int) ∧ bt s (i : Int) ≤ 57
      · refine ⟨b, ev_val dgI (ev_pos (by simp [dg]) g2'), ev_val dgS (ev_pos (by simp [dg]) g1')⟩
      · by_cases c1 : bt s (i : Int) = 95
        · exact ⟨b, ev_val dgI (ev_neg (by simpa using dg) (ev_val mk (ev_pos (by simp [c1]) g2'))), ev_val dgS (ev_neg (by simpa using dg) (ev_pos c1 g1'))⟩
        · by_cases c2 : bt s (i : Int) = 45
          · exact ⟨b, ev_val dgI (ev_neg (by simpa using dg) (ev_val mk (ev_pos (by simp [c2]) g2'))), ev_val dgS (ev_neg (by simpa using dg) (ev_neg c1 (ev_pos c2 g1')))⟩
          · by_cases c3 : bt s (i : Int) = 46
            · exact ⟨b, ev_val dgI (ev_neg (by simpa using dg) (ev_val mk (ev_pos (by simp [c3]) g2'))), ev_val dgS (ev_neg (by simpa using dg) (ev_neg c1 (ev_neg c2 (ev_pos c3 g1'))))⟩
            · by_cases c4 : bt s (i : Int) = 47
              · exact ⟨b, ev_val dgI (ev_neg (by simpa using dg) (ev_val mk (ev_pos (by simp [c4]) g2'))), ev_val dgS (ev_neg (by simpa using dg) (ev_neg c1 (ev_neg c2 (ev_neg c3 (ev_pos c4 g1')))))⟩
              · exact ⟨false, ev_val dgI (ev_neg (by simpa using dg) (ev_val mk (ev_neg (by simp [c1, c2, c3, c4]) (ev_now _)))), ev_val dgS (ev_neg (by simpa using dg) (ev_neg c1 (ev_neg c2 (ev_neg c3 (ev_neg c4 (ev_now _))))))⟩
    obtain ⟨q, qI, qS⟩ := tailI
    by_cases lo : bt s (i : Int) ≥ 97
    · by_cases hi : bt s (i : Int) ≤ 122
      · exact ⟨b, ev_step (ev_pos lt (ev_pos ge (ev_pos lo (ev_pos hi g1')))), ev_step (ev_pos lt (ev_pos ge (ev_val (lowT lo) (ev_pos (by simpa using hi) g2'))))⟩
      · exact ⟨q, ev_step (ev_pos lt (ev_pos ge (ev_pos lo (ev_neg hi qS)))), ev_step (ev_pos lt (ev_pos ge (ev_val (lowT lo) (ev_neg (by simpa using hi) qI))))⟩
    · exact ⟨q, ev_step (ev_pos lt (ev_pos ge (ev_neg lo qS))), ev_step (ev_pos lt (ev_pos ge (ev_val (lowF lo) (ev_neg (by simp) qI))))⟩
theorem package_ev (s : ByteArray) (hs : s.size ≤ 140737488351232) : ∃ b : Bool, Ev (fun k => spec_l2Package.f k s) b ∧ Ev (fun k => impl_clayPackage.f k s) b := by
  obtain ⟨b, h1, h2⟩ := package_loop s hs s.size 0 (by omega)
  refine ⟨b && decide (1 ≤ (s.size : Int) ∧ (s.size : Int) ≤ 30), ?_, h2⟩
  have hin : spec_l1In.f (s.size : Int) 1 30 = some (decide (1 ≤ (s.size : Int) ∧ (s.size : Int) ≤ 30)) := by
    unfold spec_l1In.f; by_cases c : (s.size : Int) ≥ 1
    · rw [if_pos c]; simp; omega
    · rw [if_neg c]; simp; omega
  by_cases c : 1 ≤ (s.size : Int) ∧ (s.size : Int) ≤ 30
  · exact ev_val hin (ev_pos (by simpa using c) (ev_eq h1 (by simp [c])))
  · exact ev_val hin (ev_neg (by simpa using c) (ev_eq (ev_now _) (by rw [decide_eq_false c]; simp)))
end Go.Proofs.Ytnffcpajfojajaa.Q
end
section
namespace Go.Proofs.Ytnffcpajfojajaa.Q
open Go.RowKit Go.Proofs.YtnffcpajfojajaaW.PrintWords Go.Proofs.YtnffcpajfojajaaW.PrintLast Go.Proofs.YtnffcpajfojajaaW.PrintMore Go.Proofs.Ytnffcpajfojajaa.EvMore
set_option linter.unusedVariables false
set_option linter.unusedSimpArgs false
def clayS : List UInt8 := [46, 99, 108, 97, 121]
theorem clay_list : (⟨#[46, 99, 108, 97, 121]⟩ : ByteArray).toList = clayS := by rw [ByteArray.toList_eq]; rfl
theorem pack_empty (s : ByteArray) (hs : s.size = 0) {b : Bool} (h : Ev (fun k => impl_clayPackage.f k s) b) : b = false := by
  obtain ⟨c, _, h2⟩ := package_loop s (by omega) s.size 0 (by omega)
  have := ev_uniq h h2
  rw [this, hs]; simp
theorem split_list (s : ByteArray) (n : Nat) (h : n ≤ s.size) : s.toList = (s.extract 0 n).toList ++ (s.extract n s.size).toList := by
  rw [ByteArray.toList_eq, ByteArray.toList_eq, ByteArray.toList_eq]
  have hl : s.data.toList.length = s.size := by rw [Array.length_toList]; rfl
  simp only [ByteArray.data_extract, Array.toList_extract, List.extract_eq_take_drop, Nat.sub_zero, List.drop_zero]
  rw [List.take_of_length_le (l := List.drop n s.data.toList) (by rw [List.length_drop, hl]; exact Nat.le_refl _), List.take_append_drop]
theorem pack_of (s : ByteArray) (hs : s.size ≤ 140737488351232) :
    ∃ (n m : ByteArray) (b : Bool), Ev (fun k => spec_l20Package.f k s) (n, b) ∧ Ev (fun k => impl_packageOf.f k s) (m, b) ∧ (b = true → m = n ∧ s.toList = n.toList ++ clayS) := by
  have hz : (⟨#[46, 99, 108, 97, 121]⟩ : ByteArray).size = 5 := rfl
  have e : wrap64 ((s.size : Int) - 5) = (s.size : Int) - 5 := id64 (by omega) (by omega)
  by_cases c : s.size < 5
  · have hsuf : stringslite_HasSuffix.f s (⟨#[46, 99, 108, 97, 121]⟩ : ByteArray) = some false := by
      unfold stringslite_HasSuffix.f; rw [hz, if_neg (by omega)]
    have hcut : strings_CutSuffix.f s (⟨#[46, 99, 108, 97, 121]⟩ : ByteArray) = some (s, false) := by
      unfold strings_CutSuffix.f stringslite_CutSuffix.f; rw [hsuf]; rfl
    exact ⟨⟨#[]⟩, s, false, ev_pos (by rw [e]; omega) (ev_now _), ev_val hcut (ev_neg (by simp) (ev_now _)), by simp⟩
  · have en : ((s.size : Int) - 5).toNat = s.size - 5 := by omega
    have hsuf : stringslite_HasSuffix.f s (⟨#[46, 99, 108, 97, 121]⟩ : ByteArray) = some ((s.extract (s.size - 5) s.size).toList == clayS) := by
      unfold stringslite_HasSuffix.f
      rw [hz, if_pos (by omega), show ((5 : Nat) : Int) = 5 from rfl, e, if_pos (by omega), if_pos (by omega), en, clay_list]
    by_cases T : (s.extract (s.size - 5) s.size).toList = clayS
    · have hcut : strings_CutSuffix.f s (⟨#[46, 99, 108, 97, 121]⟩ : ByteArray) = some (s.extract 0 (s.size - 5), true) := by
        unfold strings_CutSuffix.f stringslite_CutSuffix.f
        rw [hsuf, T, hz, show ((5 : Nat) : Int) = 5 from rfl, e]
        simp only [beq_self_eq_true, Option.bind_some, if_true]
        rw [if_pos (by omega), if_pos (by omega), en]
        rfl
      have hq : (s.extract 0 (s.size - 5)).size = s.size - 5 := by simp
      obtain ⟨b, b1, b2⟩ := package_ev (s.extract 0 (s.size - 5)) (by omega)
      by_cases c5 : s.size = 5
      · have hb := pack_empty _ (by omega) b2
        subst hb
        exact ⟨⟨#[]⟩, _, false, ev_pos (by rw [e]; omega) (ev_now _), ev_val hcut (ev_pos rfl (ev_bind b2 (ev_now _))), by simp⟩
      · refine ⟨s.extract 0 (s.size - 5), _, b, ev_neg (by rw [e]; omega) (ev_pos (by rw [e]; omega) (ev_pos (by rw [e]; omega) (ev_pos (by rw [e, en]; exact T) ?_))), ev_val hcut (ev_pos rfl (ev_bind b2 (ev_now _))), fun _ => ⟨rfl, ?_⟩⟩
        · rw [e, en]
          exact ev_bind b1 (ev_now _)
        · rw [← T]
          exact split_list s _ (by omega)
    · have hcut : strings_CutSuffix.f s (⟨#[46, 99, 108, 97, 121]⟩ : ByteArray) = some (s, false) := by
        unfold strings_CutSuffix.f stringslite_CutSuffix.f
        rw [hsuf, show ((s.extract (s.size - 5) s.size).toList == clayS) = false from by simpa using T]
        rfl
      refine ⟨⟨#[]⟩, s, false, ?_, ev_val hcut (ev_neg (by simp) (ev_now _)), by simp⟩
      by_cases c5 : s.size = 5
      · exact ev_pos (by rw [e]; omega) (ev_now _)
      · exact ev_neg (by rw [e]; omega) (ev_pos (by rw [e]; omega) (ev_pos (by rw [e]; omega) (ev_neg (by rw [e, en]; exact T) (ev_now _))))
theorem layC_len : ∀ (fs l : List FC), (layC l fs).length ≤ l.length + fs.length
  | [], _ => by simp [layC]
  | x :: r, l => by
    have h1 := layC_len r (insC x l)
    have h2 := insC_len x l
    simp only [layC, List.foldl_cons, List.length_cons] at h1 ⊢
    omega
theorem layC_snoc (l fs : List FC) (x : FC) : layC l (fs ++ [x]) = insC x (layC l fs) := by simp [layC, List.foldl_append]
def house (n : Nat) (fs : List FC) (ns : List ByteArray) : List FC × List ByteArray := if (n : Int) > 20 then ([], []) else (fs, ns)
theorem house_loop (l : List S52) (hl : l.length ≤ 1000) (hs : ∀ x ∈ l, x.f0.size ≤ 140737488351232) : ∀ (suf pre : List S52) (fs : List FC) (ns : List ByteArray), l = pre ++ suf → fs.length + suf.length ≤ 10000 → ns.length + suf.length ≤ 10000 →
    ∃ gs : List FC, List.Sublist (gs.map fun c => c.f0.toList ++ clayS) (suf.map fun x => x.f0.toList) ∧
      Ev (fun k => spec_HouseClays.l0 k (pre.length : Int) l (layC [] fs) ns) (house (layC [] (fs ++ gs)).length (layC [] (fs ++ gs)) (ns ++ suf.map fun x => x.f0)) ∧
      Ev (fun k => impl_HouseClays.l0 k l (l.length : Int) (pre.length : Int) fs ns) (house (fs ++ gs).length (sortC (fs ++ gs)) (ns ++ suf.map fun x => x.f0))
  | [], pre, fs, ns, ha, hf, hn => by
    have hlen : pre.length = l.length := by rw [ha]; simp
    refine ⟨[], List.Sublist.refl _, ev_step (ev_neg (by omega) ?_), ev_step (ev_neg (by omega) ?_)⟩
    · unfold house
      simp only [List.append_nil, List.map_nil]
      by_cases c : ((layC [] fs).length : Int) > 20
      · exact ev_pos c (ev_eq (ev_now _) (by rw [if_pos c]))
      · exact ev_neg c (ev_eq (ev_now _) (by rw [if_neg c]))
    · unfold house
      simp only [List.append_nil, List.map_nil]
      by_cases c : (fs.length : Int) > 20
      · exact ev_pos c (ev_eq (ev_now _) (by rw [if_pos c]))
      · exact ev_neg c (ev_eq (ev_now _) (by rw [if_neg c]))
  | y :: r, pre, fs, ns, ha, hf, hn => by
    have hlen : l.length = pre.length + (r.length + 1) := by rw [ha]; simp
    have e := succ64 (i := pre.length) (n := l.length) (by omega) (by omega)
    have hr : rd_T52 l (pre.length : Int) = y := by rw [rdS52_at l pre.length (by omega)]; simp [ha]
    simp only [List.length_cons] at hf hn
    have hll := layC_len fs []
    simp only [List.length_nil] at hll
    obtain ⟨n, m, b, p1, p2, p3⟩ := pack_of y.f0 (hs y (by rw [ha]; simp))
    cases b with
    | true =>
      obtain ⟨rfl, hy⟩ := p3 rfl
      obtain ⟨gs, g1, g2, g3⟩ := house_loop l hl hs r (pre ++ [y]) (fs ++ [⟨m, y.f1⟩]) (ns ++ [y.f0]) (by rw [ha]; simp) (by simp; omega) (by simp; omega)
      simp only [List.length_append, List.length_cons, List.length_nil, List.append_assoc, List.cons_append, List.nil_append] at g2 g3
      refine ⟨⟨m, y.f1⟩ :: gs, ?_, ev_step (ev_pos (by omega) (ev_pos (by omega) (ev_bind (by rw [hr]; exact p1) (ev_pos rfl (ev_bind (a := layC [] (fs ++ [⟨m, y.f1⟩])) ?_ (ev_pos (by omega) ?_)))))), ev_step (ev_pos (by omega) (ev_pos (by omega) (ev_pos (by omega) (ev_pos (by omega) (ev_val rfl (ev_bind (by rw [hr]; exact p2) (ev_pos rfl (ev_pos (by omega) ?_))))))))⟩
      · simp only [List.map_cons]
        rw [hy]
        exact List.Sublist.cons_cons _ g1
      · rw [layC_snoc, hr]
        exact put_evC (layC [] fs) ⟨m, y.f1⟩ (by omega) (layC_asc fs [] List.Pairwise.nil)
      · simp only [e, hr, List.map_cons]
        exact g2
      · simp only [e, hr, List.map_cons, List.length_append, List.length_cons]
        exact g3
    | false =>
      obtain ⟨gs, g1, g2, g3⟩ := house_loop l hl hs r (pre ++ [y]) fs (ns ++ [y.f0]) (by rw [ha]; simp) (by omega) (by simp; omega)
      simp only [List.length_append, List.length_cons, List.length_nil, List.append_assoc, List.cons_append, List.nil_append] at g2 g3
      refine ⟨gs, ?_, ev_step (ev_pos (by omega) (ev_pos (by omega) (ev_bind (by rw [hr]; exact p1) (ev_neg (by simp) (ev_pos (by omega) ?_))))), ev_step (ev_pos (by omega) (ev_pos (by omega) (ev_pos (by omega) (ev_pos (by omega) (ev_val rfl (ev_bind (by rw [hr]; exact p2) (ev_neg (by simp) ?_)))))))⟩
      · simp only [List.map_cons]
        exact List.Sublist.cons _ g1
      · simp only [e, hr, List.map_cons]
        exact g2
      · simp only [e, hr, List.map_cons, List.length_append]
        exact g3
theorem house_ev (l : List S52) (hl : l.length ≤ 4398046511104) (hs : ∀ x ∈ l, x.f0.size ≤ 140737488351232) :
    ∃ r : List FC × List ByteArray, Ev (fun k => spec_HouseClays.f k l) r ∧ Ev (fun k => impl_HouseClays.f k l) r ∧ r.1.length ≤ 20 ∧ r.2.length ≤ 40 := by
  obtain ⟨b, b1, b2, b3⟩ := place_ev l hl hs
  cases b with
  | false => exact ⟨([], []), ev_bind b1 (ev_neg (by simp) (ev_now _)), ev_bind b2 (ev_neg (by simp) (ev_now _)), by simp, by simp⟩
  | true =>
    obtain ⟨ha, h40, _⟩ := b3 rfl
    obtain ⟨gs, g1, g2, g3⟩ := house_loop l (by omega) hs l [] [] [] rfl (by simp; omega) (by simp; omega)
    have hd : gs.Pairwise (fun x y => ¬ x.f0.toList = y.f0.toList) := by
      have h1 : (l.map fun x => x.f0.toList).Pairwise (fun x y => ¬ x = y) := by
        rw [List.pairwise_map]
        refine ha.imp ?_
        intro x y hxy he
        unfold nameLt at hxy
        rw [he] at hxy
        exact less_irr _ hxy
      have h2 := h1.sublist g1
      rw [List.pairwise_map] at h2
      exact h2.imp (fun {x y} h he => h (by rw [he]))
    have hp : (layC [] gs).Perm gs := by simpa using layC_perm gs [] (fun _ _ y hy => by simp at hy) hd
    simp only [List.nil_append, sort_lay gs hd] at g2 g3
    rw [hp.length_eq] at g2
    have g2 : Ev (fun k => spec_HouseClays.l0 k 0 l [] []) (house gs.length (layC [] gs) (l.map fun x => x.f0)) := g2
    have g3 : Ev (fun k => impl_HouseClays.l0 k l (l.length : Int) 0 [] []) (house gs.length (layC [] gs) (l.map fun x => x.f0)) := g3
    refine ⟨house gs.length (layC [] gs) (l.map fun x => x.f0), ev_bind b1 (ev_pos rfl g2), ev_bind b2 (ev_pos rfl g3), ?_, ?_⟩
    · unfold house
      split
      · simp
      · simp only; rw [hp.length_eq]; omega
    · unfold house
      split
      · simp
      · simp only [List.length_map]; omega
end Go.Proofs.Ytnffcpajfojajaa.Q
end
section
namespace Go.Proofs.Ytnffcpajfojajaa.PureFnExactHouseClays
open Go.RowKit Go.Proofs.Ytnffcpajfojajaa.Q Go.Proofs.YtnffcpajfojajaaW.PrintWords
set_option linter.unusedVariables false
set_option linter.unusedSimpArgs false
open Go.Proofs.Ytnffcpajfojajaa.EvMore
theorem mw (a : List S65) (b : List ByteArray) (ha : a.length ≤ 20) (hb : b.length ≤ 40) : Ev (fun k => laws_markClayWorld.f k a b 1) (1 + 2 * (a.length : Int) + 1 * (b.length : Int), mks_ClayFileS 1 a, mks_StringS (1 + 2 * (a.length : Int)) b) := ev_bind (mark_ClayFileS a 1 (by omega) (by omega) (by omega)) (ev_bind (mark_StringS b (1 + 2 * (a.length : Int)) (by omega) (by omega) (by omega)) (ev_now _))
theorem hw (a : List S65) (b : List ByteArray) (ha : a.length ≤ 20) (hb : b.length ≤ 40) : Ev (fun k => laws_heldClayWorld.f k (mks_ClayFileS 1 a) (mks_StringS (1 + 2 * (a.length : Int)) b) 1) (1 + 2 * (a.length : Int) + 1 * (b.length : Int)) := ev_bind (held_ClayFileS a 1 (by omega) (by omega) (by omega)) (ev_neg (by omega) (ev_bind (held_StringS b (1 + 2 * (a.length : Int)) (by omega) (by omega) (by omega)) (ev_neg (by omega) (ev_now _))))
theorem mpl (q : List S52) (h : q.length ≤ 4398046511104) : Ev (fun k => laws_markMillPlace.f k q 1) (1 + 2 * (q.length : Int), mks_MillFileS 1 q) := ev_bind (mark_MillFileS q 1 h (by omega) (by omega)) (ev_now _)
def G49 (x : S49) : Prop := x.f0.size ≤ 140737488351232 ∧ x.f1.size ≤ 140737488351232
def Statement : Prop := ∀ (l0_0 : List (S49)), ((l0_0.length * 32 ≤ 140737488351232 ∧ l0_0.length ≤ maxLen) ∧ ∀ y ∈ l0_0, G49 y) → ∃ k, laws_FnExactHouseClays.f k l0_0 = some true
theorem FnExactHouseClays : Statement := by
  intro l hl
  obtain ⟨⟨h1, h2⟩, h3⟩ := hl
  have hlen : l.length ≤ 4398046511104 := by omega
  have hlen2 : (l.map to_MillFileS_).length ≤ 4398046511104 := by simpa using hlen
  obtain ⟨v, hv⟩ := sz_MillPlace l 1048576 hlen
  obtain ⟨⟨a, b⟩, r1, r2, ra, rb⟩ := house_ev (l.map to_MillFileS_) hlen2 (by intro x hx; obtain ⟨y, hy, rfl⟩ := List.mem_map.1 hx; exact (h3 y hy).1)
  simp only at ra rb
  have tp := to_MillPlace l hlen
  have eq := eq_ClayWorld a b (by omega) (by omega)
  have j0 : Ev (fun k => laws_FnExactHouseClays.j0 k false l a b a b) true := by
    refine ev_step ?_
    simp only [laws_FnExactHouseClays.j0, Bool.false_eq_true, if_false]
    exact ev_bind (mw a b ra rb) (ev_bind (hw a b ra rb) (ev_neg (by omega) (ev_pos rfl (ev_bind tp (ev_bind r2 (ev_bind eq (ev_pos rfl (ev_bind (hw a b ra rb) (ev_neg (by omega) (ev_pos rfl (ev_now _)))))))))))
  refine Ev.rounds (ev_bind hv ?_)
  by_cases e : v < 0
  · exact ev_pos e (ev_now _)
  · refine ev_neg e (ev_bind tp (ev_bind r1 (ev_bind tp (ev_bind r2 (ev_bind eq (ev_pos rfl (ev_bind tp (ev_bind (eq_MillPlace _ hlen2) (ev_pos rfl (ev_bind (mpl _ hlen2) (ev_neg (by simp only; omega) (ev_bind eq ?_))))))))))))
    simpa only [Bool.not_true] using j0
end Go.Proofs.Ytnffcpajfojajaa.PureFnExactHouseClays
end
