/- From a row's reading of an argument as data to the print's kinds: a value that reads as data of a type whose kind the print takes is a value of that kind, within the row's sizes. No condition. -/
import Derived.Test.YtfjpkijfoiajaaaWWords
import Derived.Test.YtfjpkijfoiajaaaWLast
import Derived.Test.YtfjpkijfoiajaaaWMore
import Derived.WalkKit
import Derived.ProofKit
import Derived.OpenShut
import Derived.ShutString
import Derived.SizedLaws
import Derived.ChangeArms
namespace Go.Proofs.Ytfjpkijfoiajaaa.Opens
open Go.RowKit Go.ChangeShapes Go.WideShapes Go.Proofs.YtfjpkijfoiajaaaW.PrintWords
set_option linter.unusedVariables false

theorem mapM_get {α β : Type} {f : α → Option β} : ∀ {l : List α} {r : List β}, l.mapM f = some r → ∀ (i : Nat) (x : α), l[i]? = some x → f x = r[i]?
  | [], r, h, i, x, hx => by simp at hx
  | a :: l, r, h, i, x, hx => by
    rw [List.mapM_cons] at h
    cases ha : f a with
    | none => rw [ha] at h; simp at h
    | some b =>
      cases hl : l.mapM f with
      | none => rw [ha, hl] at h; simp at h
      | some rs =>
        rw [ha, hl] at h
        simp at h
        subst h
        cases i with
        | zero => simp at hx; subst hx; simpa using ha
        | succ i => simp at hx ⊢; exact mapM_get hl i x hx
theorem mapM_len {α β : Type} {f : α → Option β} : ∀ {l : List α} {r : List β}, l.mapM f = some r → r.length = l.length
  | [], r, h => by simp at h; subst h; rfl
  | a :: l, r, h => by
    rw [List.mapM_cons] at h
    cases ha : f a with
    | none => rw [ha] at h; simp at h
    | some b =>
      cases hl : l.mapM f with
      | none => rw [ha, hl] at h; simp at h
      | some rs =>
        rw [ha, hl] at h
        simp at h
        subst h
        simp [mapM_len hl]
theorem cells_get {w : World} {base : Nat} {a : Addr} {n : Nat} {cs : List Value} (h : w.cells? base a n = some cs) : cs.length = n ∧ ∀ (i : Nat) (u : Value), cs[i]? = some u → w.cell? (a.add i) = some u := by
  unfold World.cells? at h
  split at h
  · refine ⟨by rw [mapM_len h, List.length_range], fun i u hu => ?_⟩
    have hi : i < n := by
      have := mapM_len h
      rw [List.length_range] at this
      obtain ⟨hl, _⟩ := List.getElem?_eq_some_iff.1 hu
      omega
    exact (mapM_get h i i (by simp [hi])).trans hu
  · simp at h

theorem add_two (a : Addr) (m i : Nat) : (a.add m).add i = a.add (m + i) := by
  unfold Addr.add
  by_cases h : m = 0 <;> by_cases h2 : i = 0 <;> simp [h, h2, Nat.add_assoc]

/-- A value that reads as data of type t is a value of kind d, and G says what its sizes are. -/
def Opens (P : Program) (t : TypeId) {α : Type} (d : Kd α) (G : α → Prop) : Prop :=
  ∀ (H : Type) (enc : TypeId × Value → H) (W : World) (fuel : Nat) (cs : List Value) (D : DataW H) (ps : List MemPlace),
    DataW.trod enc P W 0 (fun _ => true) true fuel t cs = some (D, ps) → (∀ n ∈ D.weights P t, n ≤ reachBytes) → ∃ x : α, d.K W x cs ∧ G x

theorem of_int {P : Program} {t : TypeId} {k : IntKind} (hu : P.underlying t = some (.int k)) : Opens P t (Kd.int k) (fun n => (Lit.int k n).wf = true) := by
  intro H enc W fuel cs D ps h hw
  obtain ⟨n, rfl, _, hn⟩ := DataW.trod_int hu h
  exact ⟨n, rfl, hn⟩
theorem of_bool {P : Program} {t : TypeId} (hu : P.underlying t = some .bool) : Opens P t Kd.bool (fun _ => True) := by
  intro H enc W fuel cs D ps h hw
  obtain ⟨n, rfl, _⟩ := DataW.trod_bool hu h
  exact ⟨n, rfl, trivial⟩
theorem of_string {P : Program} {t : TypeId} (hu : P.underlying t = some .string) : Opens P t Kd.string (fun s => s.size ≤ 140737488351232) := by
  intro H enc W fuel cs D ps h hw
  obtain ⟨s, rfl, hx, _⟩ := DataW.trod_string hu h
  obtain ⟨hx, _⟩ := Prod.mk.inj hx
  subst hx
  refine ⟨s, rfl, ?_⟩
  have z := hw s.data.toList.length (by simp [DataW.weights])
  rw [Array.length_toList] at z
  exact z
theorem of_iso {P : Program} {t : TypeId} {α β : Type} {d : Kd α} {G : α → Prop} (f : β → α) (g : α → β) (hfg : ∀ a, f (g a) = a) (h : Opens P t d G) : Opens P t (Kd.iso d f) (fun x => G (f x)) := by
  intro H enc W fuel cs D ps h1 hw
  obtain ⟨x, hk, hg⟩ := h H enc W fuel cs D ps h1 hw
  refine ⟨g x, ?_, ?_⟩
  · show d.K W (f (g x)) cs
    rw [hfg]; exact hk
  · show G (f (g x))
    rw [hfg]; exact hg
theorem weights_all {H : Type} {P : Program} {e : TypeId} : ∀ {l : List (DataW H)} {i : Nat} {x : DataW H}, l[i]? = some x → ∀ n ∈ x.weights P e, n ∈ DataW.weightsAll P e l
  | [], i, x, h, n, hn => by simp at h
  | a :: l, 0, x, h, n, hn => by
    simp at h; subst h
    simp only [DataW.weightsAll, List.mem_append]
    exact .inl hn
  | a :: l, i + 1, x, h, n, hn => by
    simp at h
    simp only [DataW.weightsAll, List.mem_append]
    exact .inr (weights_all h n hn)
theorem build {α : Type} (Q : Nat → α → Prop) : ∀ n : Nat, (∀ i, i < n → ∃ x, Q i x) → ∃ l : List α, l.length = n ∧ ∀ i x, l[i]? = some x → Q i x
  | 0, _ => ⟨[], rfl, fun i x h => by simp at h⟩
  | n + 1, h => by
    obtain ⟨l, hl, hq⟩ := build Q n (fun i hi => h i (by omega))
    obtain ⟨x, hx⟩ := h n (by omega)
    refine ⟨l ++ [x], by simp [hl], fun i y hy => ?_⟩
    rcases Nat.lt_or_ge i n with hi | hi
    · rw [List.getElem?_append_left (by omega)] at hy
      exact hq i y hy
    · obtain ⟨hlt, _⟩ := List.getElem?_eq_some_iff.1 hy
      have : i = n := by simp [hl] at hlt; omega
      subst this
      rw [List.getElem?_append_right (by omega), hl] at hy
      simp at hy
      subst hy
      exact hx
theorem of_slice {P : Program} {t e : TypeId} {α : Type} {d : Kd α} {G : α → Prop} {B : Nat} (hu : P.underlying t = some (.slice e)) (hc : P.cellsOf e = d.sz) (hB : P.bytesOf e = B) (h : Opens P e d G) :
    Opens P t (Kd.slice e d) (fun l => (l.length * B ≤ 140737488351232 ∧ l.length ≤ maxLen) ∧ ∀ x ∈ l, G x) := by
  intro H enc W fuel cs D ps h1 hw
  rcases DataW.trod_slice hu h1 with ⟨rfl, hx⟩ | ⟨a, len, cap, elems, rest, n, _, rfl, hx, _, hl, hm, hlen, hel, _, _⟩
  · exact ⟨[], ⟨none, 0, rfl, Nat.le_refl _, rfl, by simp, fun h => absurd h (Nat.lt_irrefl _)⟩, ⟨by simp, by simp⟩, fun x hx => by simp at hx⟩
  · obtain ⟨hx, _⟩ := Prod.mk.inj hx
    subst hx
    have hw2 : ∀ m ∈ DataW.weightsAll P e (elems.map (·.1)), m ≤ reachBytes := fun m hm => hw m (by simp [DataW.weights, hu, hm])
    have key : ∀ i, i < len → ∃ x, G x ∧ ∃ c, W.cells? 0 (a.add (i * P.cellsOf e)) (P.cellsOf e) = some c ∧ d.K W x c := by
      intro i hi
      have h2 := hel i hi
      obtain ⟨y, hy⟩ : ∃ y, elems[i]? = some y := ⟨_, List.getElem?_eq_getElem (by omega)⟩
      rw [hy] at h2
      obtain ⟨c, hc1, hc2⟩ := Option.bind_eq_some_iff.1 h2
      obtain ⟨x, hk, hg⟩ := h H enc W n c y.1 y.2 hc2 (fun m hm => hw2 m (weights_all (i := i) (x := y.1) (by simp [hy]) m hm))
      exact ⟨x, hg, c, hc1, hk⟩
    obtain ⟨l, hll, hq⟩ := build _ len key
    have hlen2 : len ≤ maxLen := Nat.le_trans hl hm
    have hsz : len * B ≤ 140737488351232 := by
      have z := hw ((elems.map (·.1)).length + (rest.map (·.1)).length |> (· * P.bytesOf e)) (by simp [DataW.weights, hu])
      simp only [List.length_map, hlen, hB] at z
      exact Nat.le_trans (Nat.mul_le_mul_right _ (Nat.le_add_right _ _)) z
    refine ⟨l, ⟨some a, cap, by rw [hll], by omega, rfl, ?_, fun _ => ⟨a, rfl, fun j p hp => ?_⟩⟩, ⟨by rw [hll]; exact hsz, by rw [hll]; exact hlen2⟩, fun x hx => ?_⟩
    · rw [hll]; exact hlen2
    · obtain ⟨_, c, hc1, hk⟩ := hq j p hp
      obtain ⟨hcl, hcc⟩ := cells_get hc1
      refine ⟨c, by rw [hcl, hc], hk, fun i u hu2 => ?_⟩
      have := hcc i u hu2
      rw [hc] at this
      rwa [add_two] at this
    · obtain ⟨i, hi⟩ := List.getElem?_of_mem hx
      exact (hq i x hi).1

/-- Fields in line. -/
def OpensF (P : Program) (fs : List Field) (off : Nat) {α : Type} (d : Kd α) (G : α → Prop) : Prop :=
  ∀ (H : Type) (enc : TypeId × Value → H) (W : World) (fuel : Nat) (cs : List Value) (xs : List (DataW H × List MemPlace)), cs.length = off + d.sz → xs.length = fs.length →
    (∀ (i : Nat) (f : Field), fs[i]? = some f → DataW.trod enc P W 0 (fun _ => true) true fuel f.type ((cs.drop f.offset).take (P.cellsOf f.type)) = xs[i]?) →
    (∀ n ∈ DataW.weightsEach P (fs.map (·.type)) (xs.map (·.1)), n ≤ reachBytes) → ∃ x : α, d.K W x (cs.drop off) ∧ G x
theorem fields_one {P : Program} {f : Field} {off : Nat} {α : Type} {d : Kd α} {G : α → Prop} (ho : f.offset = off) (hc : P.cellsOf f.type = d.sz) (h : Opens P f.type d G) : OpensF P [f] off d G := by
  intro H enc W fuel cs xs hl hx hf hw
  have h0 := hf 0 f rfl
  obtain ⟨y, rfl⟩ : ∃ y, xs = [y] := by
    cases xs with
    | nil => simp at hx
    | cons y ys => cases ys with
      | nil => exact ⟨y, rfl⟩
      | cons _ _ => simp at hx
  simp only [List.getElem?_cons_zero] at h0
  rw [ho, hc, List.take_of_length_le (by simp; omega)] at h0
  exact h H enc W fuel _ y.1 y.2 h0 (fun n hn => hw n (by simpa [DataW.weightsEach] using hn))
theorem fields_cons {P : Program} {f : Field} {fs : List Field} {off : Nat} {α β : Type} {d : Kd α} {d2 : Kd β} {G : α → Prop} {G2 : β → Prop} (ho : f.offset = off) (hc : P.cellsOf f.type = d.sz) (h : Opens P f.type d G) (h2 : OpensF P fs (off + d.sz) d2 G2) :
    OpensF P (f :: fs) off (Kd.pair d d2) (fun x => G x.1 ∧ G2 x.2) := by
  intro H enc W fuel cs xs hl hx hf hw
  have hl' : cs.length = off + (d.sz + d2.sz) := hl
  have h0 := hf 0 f rfl
  obtain ⟨y, ys, rfl⟩ : ∃ y ys, xs = y :: ys := by
    cases xs with
    | nil => simp at hx
    | cons y ys => exact ⟨y, ys, rfl⟩
  simp only [List.getElem?_cons_zero] at h0
  rw [ho, hc] at h0
  obtain ⟨a, ha, ga⟩ := h H enc W fuel _ y.1 y.2 h0 (fun n hn => hw n (by simp only [List.map_cons, DataW.weightsEach, List.mem_append]; exact .inl hn))
  obtain ⟨b, hb, gb⟩ := h2 H enc W fuel cs ys (by omega) (by simpa using hx) (fun i g hg => by simpa using hf (i + 1) g (by simpa using hg)) (fun n hn => hw n (by simp only [List.map_cons, DataW.weightsEach, List.mem_append]; exact .inr hn))
  refine ⟨(a, b), ⟨(cs.drop off).take d.sz, cs.drop (off + d.sz), ?_, ha, hb⟩, ga, gb⟩
  rw [← List.drop_drop, List.take_append_drop]
theorem of_struct {P : Program} {t : TypeId} {fs : Array Field} {α : Type} {d : Kd α} {G : α → Prop} (hu : P.underlying t = some (.struct fs)) (hc : P.cellsOf t = d.sz) (h : OpensF P fs.toList 0 d G) : Opens P t d G := by
  intro H enc W fuel cs D ps h1 hw
  obtain ⟨xs, n, _, hx, hl, hlen, hf⟩ := DataW.trod_struct hu h1
  obtain ⟨hx, _⟩ := Prod.mk.inj hx
  subst hx
  obtain ⟨x, hk, hg⟩ := h H enc W n cs xs (by omega) (by simpa using hlen) (fun i f hf2 => hf i f (by simpa using hf2)) (fun m hm => hw m (by simp only [DataW.weights, hu]; exact hm))
  exact ⟨x, by simpa using hk, hg⟩
/-- What one argument gives. -/
theorem Opens.arg {P : Program} {t : TypeId} {α : Type} {d : Kd α} {G : α → Prop} (h : Opens P t d G) {H : Type} {enc : TypeId × Value → H} {W : World} {v : Value} {D : DataW H} {ps : List MemPlace} {ts : List TypeId} {ds : List (DataW H)} {j : Nat}
    (hsz : (DataW.weightsEach P ts ds).all (· ≤ reachBytes) = true) (ht : ts[j]? = some t) (hd : ds[j]? = some D) (hT : DataW.Trod enc P W 0 (fun _ => true) true t v D ps) : ∃ x : α, d.K W x v.cells.toList ∧ G x := by
  obtain ⟨fuel, hf⟩ := hT
  exact h H enc W fuel _ D ps hf (fun n hn => by simpa using List.all_eq_true.1 hsz _ (DataW.weights_mem_each ht hd n hn))
end Go.Proofs.Ytfjpkijfoiajaaa.Opens
