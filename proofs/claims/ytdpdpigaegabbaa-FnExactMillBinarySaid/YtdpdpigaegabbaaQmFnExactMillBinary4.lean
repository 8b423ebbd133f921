/- Several texts of this seat put together by merge.py, without what this claim does not use. -/
import Derived.Test.YtdpdpigaegabbaaQmFnExactMillBinaryWWords
import Derived.Test.YtdpdpigaegabbaaQmFnExactMillBinaryWLast
import Derived.Test.YtdpdpigaegabbaaQmFnExactMillBinaryWMore
import Derived.WalkKit
import Derived.ProofKit
import Derived.OpenShut
import Derived.ShutString
import Derived.SizedLaws
import Derived.ChangeArms
import Derived.Test.YtdpdpigaegabbaaQmFnExactMillBinary1
import Derived.Lib.Strings
import Derived.Lib.Bytealg
import Derived.Test.YtdpdpigaegabbaaQmFnExactMillBinary2
import Derived.Test.YtdpdpigaegabbaaQmFnExactMillBinary3
import Derived.Test.YtdpdpigaegabbaaQmFnExactMillBinaryQf14
section
namespace Go.Proofs.Ytdpdpigaegabbaa.Opens
open Go.RowKit Go.ChangeShapes Go.WideShapes Go.Proofs.YtdpdpigaegabbaaW.PrintWords
set_option linter.unusedVariables false
def Opens (P : Program) (t : TypeId) {α : Type} (d : Kd α) (G : α → Prop) : Prop :=
  ∀ (H : Type) (enc : TypeId × Value → H) (W : World) (fuel : Nat) (cs : List Value) (D : DataW H) (ps : List MemPlace),
    DataW.trod enc P W 0 (fun _ => true) true fuel t cs = some (D, ps) → (∀ n ∈ D.weights P t, n ≤ reachBytes) → ∃ x : α, d.K W x cs ∧ G x
theorem of_int {P : Program} {t : TypeId} {k : IntKind} (hu : P.underlying t = some (.int k)) : Opens P t (Kd.int k) (fun n => (Lit.int k n).wf = true) := by
  intro H enc W fuel cs D ps h hw
  obtain ⟨n, rfl, _, hn⟩ := DataW.trod_int hu h
  exact ⟨n, rfl, hn⟩
theorem of_string {P : Program} {t : TypeId} (hu : P.underlying t = some .string) : Opens P t Kd.string (fun s => s.size ≤ 140737488351232) := by
  intro H enc W fuel cs D ps h hw
  obtain ⟨s, rfl, hx, _⟩ := DataW.trod_string hu h
  obtain ⟨hx, _⟩ := Prod.mk.inj hx
  subst hx
  refine ⟨s, rfl, ?_⟩
  have z := hw s.data.toList.length (by simp [DataW.weights])
  rw [Array.length_toList] at z
  exact z
def OpensF (P : Program) (fs : List Field) (off : Nat) {α : Type} (d : Kd α) (G : α → Prop) : Prop :=
  ∀ (H : Type) (enc : TypeId × Value → H) (W : World) (fuel : Nat) (cs : List Value) (xs : List (DataW H × List MemPlace)), cs.length = off + d.sz → xs.length = fs.length →
    (∀ (i : Nat) (f : Field), fs[i]? = some f → DataW.trod enc P W 0 (fun _ => true) true fuel f.type ((cs.drop f.offset).take (P.cellsOf f.type)) = xs[i]?) →
    (∀ n ∈ DataW.weightsEach P (fs.map (·.type)) (xs.map (·.1)), n ≤ reachBytes) → ∃ x : α, d.K W x (cs.drop off) ∧ G x
theorem fields_one {P : Program} {f : Field} {off : Nat} {α : Type} {d : Kd α} {G : α → Prop} (ho : f.offset = off) (hc : P.cellsOf f.type = d.sz) (h : Opens P f.type d G) : OpensF P [f] off d G := by
  intro H enc W fuel cs xs hl hx hf hw
  have h0 := hf 0 f rfl
  obtain ⟨y, rfl⟩ : ∃ y, xs = [y] := by
    cases xs with
    | nil => simp at hx
    | cons y ys => cases ys with
      | nil => exact ⟨y, rfl⟩
      | cons _ _ => simp at hx
  simp only [List.getElem?_cons_zero] at h0
  rw [ho, hc, List.take_of_length_le (by simp; omega)] at h0
  exact h H enc W fuel _ y.1 y.2 h0 (fun n hn => hw n (by simpa [DataW.weightsEach] using hn))
theorem fields_cons {P : Program} {f : Field} {fs : List Field} {off : Nat} {α β : Type} {d : Kd α} {d2 : Kd β} {G : α → Prop} {G2 : β → Prop} (ho : f.offset = off) (hc : P.cellsOf f.type = d.sz) (h : Opens P f.type d G) (h2 : OpensF P fs (off + d.sz) d2 G2) :
    OpensF P (f :: fs) off (Kd.pair d d2) (fun x => G x.1 ∧ G2 x.2) := by
  intro H enc W fuel cs xs hl hx hf hw
  have hl' : cs.length = off + (d.sz + d2.sz) := hl
  have h0 := hf 0 f rfl
  obtain ⟨y, ys, rfl⟩ : ∃ y ys, xs = y :: ys := by
    cases xs with
    | nil => simp at hx
    | cons y ys => exact ⟨y, ys, rfl⟩
  simp only [List.getElem?_cons_zero] at h0
  rw [ho, hc] at h0
  obtain ⟨a, ha, ga⟩ := h H enc W fuel _ y.1 y.2 h0 (fun n hn => hw n (by simp only [List.map_cons, DataW.weightsEach, List.mem_append]; exact .inl hn))
  obtain ⟨b, hb, gb⟩ := h2 H enc W fuel cs ys (by omega) (by simpa using hx) (fun i g hg => by simpa using hf (i + 1) g (by simpa using hg)) (fun n hn => hw n (by simp only [List.map_cons, DataW.weightsEach, List.mem_append]; exact .inr hn))
  refine ⟨(a, b), ⟨(cs.drop off).take d.sz, cs.drop (off + d.sz), ?_, ha, hb⟩, ga, gb⟩
  rw [← List.drop_drop, List.take_append_drop]
theorem of_struct {P : Program} {t : TypeId} {fs : Array Field} {α : Type} {d : Kd α} {G : α → Prop} (hu : P.underlying t = some (.struct fs)) (hc : P.cellsOf t = d.sz) (h : OpensF P fs.toList 0 d G) : Opens P t d G := by
  intro H enc W fuel cs D ps h1 hw
  obtain ⟨xs, n, _, hx, hl, hlen, hf⟩ := DataW.trod_struct hu h1
  obtain ⟨hx, _⟩ := Prod.mk.inj hx
  subst hx
  obtain ⟨x, hk, hg⟩ := h H enc W n cs xs (by omega) (by simpa using hlen) (fun i f hf2 => hf i f (by simpa using hf2)) (fun m hm => hw m (by simp only [DataW.weights, hu]; exact hm))
  exact ⟨x, by simpa using hk, hg⟩
theorem Opens.arg {P : Program} {t : TypeId} {α : Type} {d : Kd α} {G : α → Prop} (h : Opens P t d G) {H : Type} {enc : TypeId × Value → H} {W : World} {v : Value} {D : DataW H} {ps : List MemPlace} {ts : List TypeId} {ds : List (DataW H)} {j : Nat}
    (hsz : (DataW.weightsEach P ts ds).all (· ≤ reachBytes) = true) (ht : ts[j]? = some t) (hd : ds[j]? = some D) (hT : DataW.Trod enc P W 0 (fun _ => true) true t v D ps) : ∃ x : α, d.K W x v.cells.toList ∧ G x := by
  obtain ⟨fuel, hf⟩ := hT
  exact h H enc W fuel _ D ps hf (fun n hn => by simpa using List.all_eq_true.1 hsz _ (DataW.weights_mem_each ht hd n hn))
end Go.Proofs.Ytdpdpigaegabbaa.Opens
end
section
namespace Go.Proofs.Ytdpdpigaegabbaa.Ord
open Go.RowKit Go.Proofs.Ytdpdpigaegabbaa.Mine
theorem less_trans : ∀ a b c : List UInt8, Op.bytesLess a b = true → Op.bytesLess b c = true → Op.bytesLess a c = true
  | _, [], _, h, _ => by simp [Op.bytesLess] at h
  | _, _ :: _, [], _, h => by simp [Op.bytesLess] at h
  | [], _ :: _, _ :: _, _, _ => by simp [Op.bytesLess]
  | a :: x, b :: y, c :: z, h, k => by
    simp only [Op.bytesLess, Bool.or_eq_true, Bool.and_eq_true, decide_eq_true_eq, beq_iff_eq] at h k ⊢
    rcases h with h | ⟨rfl, h⟩
    · rcases k with k | ⟨rfl, k⟩
      · exact .inl (UInt8.lt_trans h k)
      · exact .inl h
    · rcases k with k | ⟨rfl, k⟩
      · exact .inl k
      · exact .inr ⟨rfl, less_trans x y z h k⟩
end Go.Proofs.Ytdpdpigaegabbaa.Ord
end
section
namespace Go.Proofs.Ytdpdpigaegabbaa.Q
open Go.RowKit Go.Proofs.YtdpdpigaegabbaaW.PrintWords Go.Proofs.YtdpdpigaegabbaaW.PrintLast Go.Proofs.YtdpdpigaegabbaaW.PrintMore
set_option linter.unusedVariables false
set_option linter.unusedSimpArgs false
theorem u8_ (t : Int) (h : t = 3 ∨ t = 7) : impl_bitsOf.f t = some 8 := by rcases h with rfl | rfl <;> decide +kernel
theorem u16_ (t : Int) (h : t = 4 ∨ t = 8) : impl_bitsOf.f t = some 16 := by rcases h with rfl | rfl <;> decide +kernel
theorem u32_ (t : Int) (h : t = 5 ∨ t = 9) : impl_bitsOf.f t = some 32 := by rcases h with rfl | rfl <;> decide +kernel
theorem u64_ (t : Int) (h : t = 6 ∨ t = 10) : impl_bitsOf.f t = some 64 := by rcases h with rfl | rfl <;> decide +kernel
theorem shlU (x : Int) (j : Nat) (h : j ≤ 64) : shl .u64 x (j : Int) = (x * 2 ^ j) % 18446744073709551616 := by
  unfold shl; rw [wrapU, Int.toNat_natCast, Nat.min_eq_left (by simpa [IntKind.bits] using h)]
theorem shlI (x : Int) (j : Nat) (h : j ≤ 64) : shl .i64 x (j : Int) = wrap64 (x * 2 ^ j) := by
  unfold shl; rw [wrapI, Int.toNat_natCast, Nat.min_eq_left (by simpa [IntKind.bits] using h)]
theorem shrK (k : IntKind) (hk : k.bits = 64) (x : Int) (j : Nat) (h : j ≤ 64) : shr k x (j : Int) = x / 2 ^ j := by
  unfold shr; rw [Int.toNat_natCast, Nat.min_eq_left (by rw [hk]; exact h)]
theorem wrapped_eq {t n : Int} (h0 : 3 ≤ t) (h1 : t ≤ 10) (hn0 : 0 ≤ n) (hn1 : n < 18446744073709551616) : impl_wrapped.f t n = some (conv t n) := by
  have e56 : wrap64 (64 - 8) = 56 := by decide +kernel
  have e48 : wrap64 (64 - 16) = 48 := by decide +kernel
  have e32 : wrap64 (64 - 32) = 32 := by decide +kernel
  have e0 : wrap64 (64 - 64) = 0 := by decide +kernel
  have a56 : ∀ x, shl .u64 x 56 = (x * 2 ^ 56) % 18446744073709551616 := fun x => shlU x 56 (by omega)
  have a48 : ∀ x, shl .u64 x 48 = (x * 2 ^ 48) % 18446744073709551616 := fun x => shlU x 48 (by omega)
  have a32 : ∀ x, shl .u64 x 32 = (x * 2 ^ 32) % 18446744073709551616 := fun x => shlU x 32 (by omega)
  have a0 : ∀ x, shl .u64 x 0 = (x * 2 ^ 0) % 18446744073709551616 := fun x => shlU x 0 (by omega)
  have b56 : ∀ x, shl .i64 x 56 = wrap64 (x * 2 ^ 56) := fun x => shlI x 56 (by omega)
  have b48 : ∀ x, shl .i64 x 48 = wrap64 (x * 2 ^ 48) := fun x => shlI x 48 (by omega)
  have b32 : ∀ x, shl .i64 x 32 = wrap64 (x * 2 ^ 32) := fun x => shlI x 32 (by omega)
  have b0 : ∀ x, shl .i64 x 0 = wrap64 (x * 2 ^ 0) := fun x => shlI x 0 (by omega)
  have c56 : ∀ x, shr .u64 x 56 = x / 2 ^ 56 := fun x => shrK _ rfl x 56 (by omega)
  have c48 : ∀ x, shr .u64 x 48 = x / 2 ^ 48 := fun x => shrK _ rfl x 48 (by omega)
  have c32 : ∀ x, shr .u64 x 32 = x / 2 ^ 32 := fun x => shrK _ rfl x 32 (by omega)
  have c0 : ∀ x, shr .u64 x 0 = x / 2 ^ 0 := fun x => shrK _ rfl x 0 (by omega)
  have d56 : ∀ x, shr .i64 x 56 = x / 2 ^ 56 := fun x => shrK _ rfl x 56 (by omega)
  have d48 : ∀ x, shr .i64 x 48 = x / 2 ^ 48 := fun x => shrK _ rfl x 48 (by omega)
  have d32 : ∀ x, shr .i64 x 32 = x / 2 ^ 32 := fun x => shrK _ rfl x 32 (by omega)
  have d0 : ∀ x, shr .i64 x 0 = x / 2 ^ 0 := fun x => shrK _ rfl x 0 (by omega)
  unfold impl_wrapped.f
  rcases types_cases h0 h1 with rfl | rfl | rfl | rfl | rfl | rfl | rfl | rfl
  · rw [u8_ _ (by simp)]; simp only [Option.bind_some, impl_unsignedType.f, e56, a56, c56]; simp [conv, wrap64] <;> omega
  · rw [u16_ _ (by simp)]; simp only [Option.bind_some, impl_unsignedType.f, e48, a48, c48]; simp [conv, wrap64] <;> omega
  · rw [u32_ _ (by simp)]; simp only [Option.bind_some, impl_unsignedType.f, e32, a32, c32]; simp [conv, wrap64] <;> omega
  · rw [u64_ _ (by simp)]; simp only [Option.bind_some, impl_unsignedType.f, e0, a0, c0]; simp [conv, wrap64] <;> omega
  · rw [u8_ _ (by simp)]; simp only [Option.bind_some, impl_unsignedType.f, e56, b56, d56]; simp [conv, wrap64] <;> omega
  · rw [u16_ _ (by simp)]; simp only [Option.bind_some, impl_unsignedType.f, e48, b48, d48]; simp [conv, wrap64] <;> omega
  · rw [u32_ _ (by simp)]; simp only [Option.bind_some, impl_unsignedType.f, e32, b32, d32]; simp [conv, wrap64] <;> omega
  · rw [u64_ _ (by simp)]; simp only [Option.bind_some, impl_unsignedType.f, e0, b0, d0]; simp [conv, wrap64] <;> omega
theorem into_eq {t n : Int} (hn0 : 0 ≤ n) (hn1 : n < 18446744073709551616) : spec_l13Into.f t n = some (conv t n) := by
  unfold spec_l13Into.f; rw [if_pos ⟨hn0, hn1⟩]
def vval (t n : Int) (s : ByteArray) : Bool :=
  if t = 1 then (n == 0 || n == 1) && s.toList == ([] : List UInt8) else if t = 2 then n == 0 && decide ((s.size : Int) ≤ 3000) else
  if 3 ≤ t ∧ t ≤ 10 then s.toList == ([] : List UInt8) && n == conv t (IntKind.u64.wrap n) else false
theorem spec_valid (t n : Int) (s : ByteArray) : spec_MillValidValue.f t n s = some (vval t n s) := by
  have hr := wrapU_range n
  unfold spec_MillValidValue.f spec_l10Integer.f vval
  by_cases h1 : t = 1
  · simp only [h1]; by_cases a : n = 0 <;> by_cases b : n = 1 <;> simp [a, b]
  · by_cases h2 : t = 2
    · simp only [h2]; by_cases a : n = 0 <;> simp [a]
    · by_cases h3 : 3 ≤ t
      · by_cases h4 : t ≤ 10
        · rw [if_neg h1, if_neg h2, if_pos h3, if_neg h1, if_neg h2, if_pos (show 3 ≤ t ∧ t ≤ 10 from ⟨h3, h4⟩)]
          simp only [Option.bind_some, h4, decide_true, if_true]
          by_cases hs : s.toList = []
          · rw [if_pos hs, into_eq hr.1 hr.2]; simp [hs]
          · rw [if_neg hs]; simp [hs]
        · simp [h1, h2, h3, h4]
      · simp [h1, h2, h3]
theorem impl_valid (t n : Int) (s : ByteArray) : impl_MillValidValue.f t n s = some (vval t n s) := by
  have hr := wrapU_range n
  unfold impl_MillValidValue.f impl_integerType.f vval
  by_cases h1 : t = 1
  · simp only [h1]; by_cases hs : s.toList = [] <;> by_cases a : n = 0 <;> simp [a, hs]
  · by_cases h2 : t = 2
    · simp only [h2]; by_cases a : n = 0 <;> simp [a]
    · by_cases h3 : 3 ≤ t
      · by_cases h4 : t ≤ 10
        · rw [if_neg h1, if_neg h2, if_pos h3, if_neg h1, if_neg h2, if_pos (show 3 ≤ t ∧ t ≤ 10 from ⟨h3, h4⟩)]
          simp only [Option.bind_some, h4, decide_true, if_true]
          by_cases hs : s.toList = []
          · rw [if_pos hs, wrapped_eq h3 h4 hr.1 hr.2]; simp [hs]; rw [Bool.eq_iff_iff, beq_iff_eq, beq_iff_eq]; exact ⟨Eq.symm, Eq.symm⟩
          · rw [if_neg hs]; simp [hs]
        · simp [h1, h2, h3, h4]
      · simp [h1, h2, h3]
end Go.Proofs.Ytdpdpigaegabbaa.Q
end
section
namespace Go.Proofs.Ytdpdpigaegabbaa.EvMore
open Go.RowKit Go.Proofs.YtdpdpigaegabbaaW.PrintWords
theorem ev_pos {α : Type} {c : Prop} [Decidable c] {f g : Nat → Option α} {r : α} (h : c) (k : Ev f r) : Ev (fun n => if c then f n else g n) r := by
  simp only [if_pos h]; exact k
theorem ev_neg {α : Type} {c : Prop} [Decidable c] {f g : Nat → Option α} {r : α} (h : ¬ c) (k : Ev g r) : Ev (fun n => if c then f n else g n) r := by
  simp only [if_neg h]; exact k
theorem ev_val {α β : Type} {o : Option α} {a : α} {f : Nat → α → Option β} {r : β} (h : o = some a) (k : Ev (fun n => f n a) r) : Ev (fun n => o.bind (f n)) r := by
  subst h; simpa using k
theorem ev_bind {α β : Type} {g : Nat → Option α} {f : Nat → α → Option β} {a : α} {r : β} (h : Ev g a) (k : Ev (fun n => f n a) r) : Ev (fun n => (g n).bind (f n)) r := Ev.bind h k
theorem ev_now {α : Type} (r : α) : Ev (fun _ => some r) r := Ev.now r
theorem ev_eq {α : Type} {f : Nat → Option α} {r q : α} (h : Ev f r) (e : r = q) : Ev f q := e ▸ h
theorem ev_step {α : Type} {g : Nat → Option α} {r : α} (k : Ev (fun n => g (n + 1)) r) : Ev g r := Ev.step (f := fun n => g (n + 1)) (fun _ => rfl) k
theorem succ64 {i n : Nat} (h : i < n) (hn : n ≤ 9223372036854775807) : wrap64 ((i : Int) + 1) = ((i + 1 : Nat) : Int) := by
  unfold wrap64; omega
end Go.Proofs.Ytdpdpigaegabbaa.EvMore
end
section
namespace Go.Proofs.Ytdpdpigaegabbaa.Q
open Go.RowKit Go.Proofs.YtdpdpigaegabbaaW.PrintWords Go.Proofs.YtdpdpigaegabbaaW.PrintLast Go.Proofs.YtdpdpigaegabbaaW.PrintMore Go.Proofs.Ytdpdpigaegabbaa.EvMore
set_option linter.unusedVariables false
set_option linter.unusedSimpArgs false
theorem num_spec {t n : Int} (hn0 : 0 ≤ n) (hn1 : n < 18446744073709551616) : spec_l13Num.f t n = some (t, conv t n, ⟨#[]⟩) := by
  unfold spec_l13Num.f; rw [into_eq hn0 hn1]; rfl
theorem num_impl {t n : Int} (h0 : 3 ≤ t) (h1 : t ≤ 10) (hn0 : 0 ≤ n) (hn1 : n < 18446744073709551616) : impl_mInt.f t n = some (t, conv t n, ⟨#[]⟩) := by
  unfold impl_mInt.f; rw [wrapped_eq h0 h1 hn0 hn1]; rfl
def bitsN (t : Int) : Nat := if t = 3 ∨ t = 7 then 8 else if t = 4 ∨ t = 8 then 16 else if t = 5 ∨ t = 9 then 32 else 64
theorem bits_ev (t : Int) : Ev (fun k => spec_l10Bits.f k t) (bitsN t : Int) := by
  have h := Ev.of (fun k => spec_l10Bits.mono t k) (l10Bits_some t)
  refine ev_eq h ?_
  unfold bitsN; (repeat' split) <;> rfl
theorem bits_impl {t : Int} (h0 : 3 ≤ t) (h1 : t ≤ 10) : impl_bitsOf.f t = some (bitsN t : Int) := by
  rcases types_cases h0 h1 with rfl | rfl | rfl | rfl | rfl | rfl | rfl | rfl <;> decide +kernel
theorem signed_spec (t : Int) : spec_l10Signed.f t = some (decide (7 ≤ t ∧ t ≤ 10)) := by unfold spec_l10Signed.f; by_cases h : t ≥ 7 <;> simp [h]
theorem bitsN_le (t : Int) : bitsN t ≤ 64 := by unfold bitsN; (repeat' split) <;> omega
def inT (t n : Int) : Prop := n = conv t (IntKind.u64.wrap n)
theorem conv_wrap {t n : Int} (h0 : 3 ≤ t) (h1 : t ≤ 10) : conv t (IntKind.u64.wrap n) = conv t n := by
  rw [wrapU]
  rcases types_cases h0 h1 with rfl | rfl | rfl | rfl | rfl | rfl | rfl | rfl <;> simp [conv, wrap64] <;> omega
theorem conv_twice {t x : Int} (h0 : 3 ≤ t) (h1 : t ≤ 10) : conv t (IntKind.u64.wrap (IntKind.u64.wrap (conv t x) * 2)) = conv t (x * 2) := by
  rw [wrapU, wrapU]
  rcases types_cases h0 h1 with rfl | rfl | rfl | rfl | rfl | rfl | rfl | rfl <;> simp [conv, wrap64] <;> omega
theorem half_wrap {v : Int} (h0 : -9223372036854775808 ≤ v) (h1 : v ≤ 9223372036854775807) : (0 ≤ v → wrap64 (Int.tdiv v 2) = v / 2) ∧ (v < 0 → Int.tmod v 2 = 0 → wrap64 (Int.tdiv v 2) = v / 2) ∧ (v < 0 → ¬ Int.tmod v 2 = 0 → wrap64 (wrap64 (Int.tdiv v 2) - 1) = v / 2) := by
  refine ⟨fun h => ?_, fun h h2 => ?_, fun h h2 => ?_⟩
  · rw [Int.tdiv_eq_ediv_of_nonneg h]; unfold wrap64; omega
  · have e : v = -(-v) := by omega
    have e1 : Int.tdiv v 2 = -((-v) / 2) := by rw [e, Int.neg_tdiv, Int.tdiv_eq_ediv_of_nonneg (by omega)]; simp
    have e2 : Int.tmod v 2 = -((-v) % 2) := by rw [e, Int.neg_tmod, Int.tmod_eq_emod_of_nonneg (by omega)]; simp
    rw [e1]; rw [e2] at h2; unfold wrap64; omega
  · have e : v = -(-v) := by omega
    have e1 : Int.tdiv v 2 = -((-v) / 2) := by rw [e, Int.neg_tdiv, Int.tdiv_eq_ediv_of_nonneg (by omega)]; simp
    have e2 : Int.tmod v 2 = -((-v) % 2) := by rw [e, Int.neg_tmod, Int.tmod_eq_emod_of_nonneg (by omega)]; simp
    rw [e1]; rw [e2] at h2; unfold wrap64; omega
theorem pow_step (a : Int) (i : Nat) : a / 2 ^ i / 2 = a / 2 ^ (i + 1) := by
  have hp : (0 : Int) < 2 ^ i := Int.pow_pos (by decide)
  rw [Int.ediv_ediv, if_neg (fun h => by omega), Int.pow_succ, Int.sub_zero]
theorem left_loop {t : Int} (h0 : 3 ≤ t) (h1 : t ≤ 10) (a : Int) (c : Nat) (hc : c ≤ 64) (e : ByteArray) (he : e = ⟨#[]⟩) : ∀ d i : Nat, i + d = c →
    Ev (fun k => spec_l13Shift.l0 k 17 t (c : Int) (i : Int) t (conv t (a * 2 ^ i)) e) (t, conv t (a * 2 ^ c), ⟨#[]⟩)
  | 0, i, h => by
    have : i = c := by omega
    subst this he
    exact ev_step (ev_neg (by omega) (ev_now _))
  | d + 1, i, h => by
    have es := succ64 (i := i) (n := c) (by omega) (by omega)
    have hr := wrapU_range (IntKind.u64.wrap (conv t (a * 2 ^ i)) * 2)
    refine ev_step (ev_pos (by omega) (ev_pos rfl (ev_val (num_spec hr.1 hr.2) ?_)))
    simp only [es, conv_twice h0 h1]
    have := left_loop h0 h1 a c hc ⟨#[]⟩ rfl d (i + 1) (by omega)
    rwa [Int.pow_succ, ← Int.mul_assoc] at this
theorem right_loop {t : Int} (h0 : 7 ≤ t) (h1 : t ≤ 10) (a : Int) (ha : -9223372036854775808 ≤ a ∧ a ≤ 9223372036854775807) (c : Nat) (hc : c ≤ 64) (e : ByteArray) : ∀ d i : Nat, i + d = c →
    Ev (fun k => spec_l13Shift.l0 k 18 t (c : Int) (i : Int) t (a / 2 ^ i) e) (t, a / 2 ^ c, e)
  | 0, i, h => by
    have : i = c := by omega
    subst this
    exact ev_step (ev_neg (by omega) (ev_now _))
  | d + 1, i, h => by
    have es := succ64 (i := i) (n := c) (by omega) (by omega)
    have hp : (0 : Int) < 2 ^ i := Int.pow_pos (by decide)
    have r0 : -9223372036854775808 ≤ a / 2 ^ i := by
      have := Int.le_ediv_of_mul_le (a := -9223372036854775808) (b := a) hp (by have h3 : (1 : Int) ≤ 2 ^ i := hp; generalize (2 : Int) ^ i = z at h3 ⊢; omega)
      exact this
    have r1 : a / 2 ^ i ≤ 9223372036854775807 := by
      rcases Int.lt_or_le a 0 with h2 | h2
      · have := Int.ediv_neg_of_neg_of_pos h2 hp; omega
      · have := Int.ediv_le_self (2 ^ i) h2; omega
    obtain ⟨b1, b2, b3⟩ := half_wrap r0 r1
    have ih := right_loop h0 h1 a ha c hc e d (i + 1) (by omega)
    rw [← pow_step] at ih
    refine ev_step (ev_pos (by omega) (ev_neg (by decide) (ev_val (signed_spec t) (ev_pos (by simp [h0, h1]) ?_))))
    by_cases n : a / 2 ^ i < 0
    · by_cases m : Int.tmod (a / 2 ^ i) 2 = 0
      · exact ev_pos n (ev_pos m (by simp only [es, b2 n m]; exact ih))
      · exact ev_pos n (ev_neg m (by simp only [es, b3 n m]; exact ih))
    · exact ev_neg n (by simp only [es, b1 (by omega)]; exact ih)
theorem rightU_loop {t : Int} (h0 : 3 ≤ t) (h1 : t ≤ 6) (a : Int) (ha : 0 ≤ a ∧ a < 18446744073709551616) (c : Nat) (hc : c ≤ 64) (e : ByteArray) : ∀ d i : Nat, i + d = c →
    Ev (fun k => spec_l13Shift.l0 k 18 t (c : Int) (i : Int) t (wrap64 (a / 2 ^ i)) e) (t, wrap64 (a / 2 ^ c), e)
  | 0, i, h => by
    have : i = c := by omega
    subst this
    exact ev_step (ev_neg (by omega) (ev_now _))
  | d + 1, i, h => by
    have es := succ64 (i := i) (n := c) (by omega) (by omega)
    have hp : (0 : Int) < 2 ^ i := Int.pow_pos (by decide)
    have r0 : 0 ≤ a / 2 ^ i := Int.ediv_nonneg ha.1 (by omega)
    have r1 : a / 2 ^ i < 18446744073709551616 := by have := Int.ediv_le_self (2 ^ i) ha.1; omega
    have ih := rightU_loop h0 h1 a ha c hc e d (i + 1) (by omega)
    rw [← pow_step] at ih
    refine ev_step (ev_pos (by omega) (ev_neg (by decide) (ev_val (signed_spec t) (ev_neg (by simp; omega) ?_))))
    have e1 : IntKind.u64.wrap (wrap64 (a / 2 ^ i)) = a / 2 ^ i := by rw [wrapU]; unfold wrap64; omega
    have e2 : IntKind.u64.wrap (Int.tdiv (a / 2 ^ i) 2) = a / 2 ^ i / 2 := by rw [Int.tdiv_eq_ediv_of_nonneg r0, wrapU]; omega
    simp only [es, e1, e2]; exact ih
def shiftC (t b : Int) : Nat := if b < 0 ∨ b > (bitsN t : Int) then bitsN t else b.toNat
def shiftV (op t a b : Int) : Int := if op = 17 then conv t (a * 2 ^ shiftC t b) else if 7 ≤ t then a / 2 ^ shiftC t b else wrap64 (IntKind.u64.wrap a / 2 ^ shiftC t b)
theorem shift_spec {op t : Int} (ho : op = 17 ∨ op = 18) (h0 : 3 ≤ t) (h1 : t ≤ 10) (a b : Int) (ha : -9223372036854775808 ≤ a ∧ a ≤ 9223372036854775807) (hb : -9223372036854775808 ≤ b ∧ b ≤ 9223372036854775807) (hT : inT t a) (hB : inT t b) :
    Ev (fun k => spec_l13Shift.f k op t a b) (t, shiftV op t a b, ⟨#[]⟩) := by
  have hle := bitsN_le t
  have hpos : 8 ≤ bitsN t := by unfold bitsN; (repeat' split) <;> omega
  have hn : IntKind.u64.wrap (bitsN t : Int) = (bitsN t : Int) := by rw [wrapU]; omega
  have hcl : shiftC t b ≤ 64 := by unfold shiftC; split <;> omega
  have base : ∀ c : Int, c = (shiftC t b : Int) → Ev (fun k => spec_l13Shift.j1 k op t a c) (t, shiftV op t a b, ⟨#[]⟩) := by
    intro c hc
    subst hc
    refine ev_step ?_
    unfold shiftV
    rcases ho with rfl | rfl
    · rw [if_pos rfl]
      have := left_loop h0 h1 a (shiftC t b) hcl ⟨#[]⟩ rfl (shiftC t b) 0 (by omega)
      rw [Int.pow_zero, Int.mul_one, ← conv_wrap h0 h1, ← hT] at this
      exact this
    · rw [if_neg (by decide)]
      by_cases s : 7 ≤ t
      · rw [if_pos s]
        have := right_loop s h1 a ha (shiftC t b) hcl ⟨#[]⟩ (shiftC t b) 0 (by omega)
        rw [Int.pow_zero, Int.ediv_one] at this
        exact this
      · rw [if_neg s]
        have := rightU_loop h0 (by omega) (IntKind.u64.wrap a) (wrapU_range a) (shiftC t b) hcl ⟨#[]⟩ (shiftC t b) 0 (by omega)
        rw [Int.pow_zero, Int.ediv_one, show wrap64 (IntKind.u64.wrap a) = a from by rw [wrapU]; unfold wrap64; omega] at this
        exact this
  have jT : shiftC t b = bitsN t → Ev (fun k => spec_l13Shift.j0 k op t a b (bitsN t : Int) true) (t, shiftV op t a b, ⟨#[]⟩) := by
    intro h
    refine ev_step ?_
    simp only [spec_l13Shift.j0, if_true]
    exact base _ (by rw [h]; unfold wrap64; omega)
  have jF : (b = (shiftC t b : Int)) → Ev (fun k => spec_l13Shift.j0 k op t a b (bitsN t : Int) false) (t, shiftV op t a b, ⟨#[]⟩) := by
    intro h
    refine ev_step ?_
    simp only [spec_l13Shift.j0, Bool.false_eq_true, if_false]
    exact base _ h
  refine ev_bind (bits_ev t) (ev_val (signed_spec t) ?_)
  simp only [hn]
  have low : ¬ b < 0 → IntKind.u64.wrap b = b := fun h => by rw [wrapU]; omega
  by_cases s : 7 ≤ t
  · refine ev_pos (by simp [s, h1]) ?_
    by_cases n : b < 0
    · exact ev_pos n (jT (by unfold shiftC; rw [if_pos (Or.inl n)]))
    · refine ev_neg n ?_
      rw [low n]
      by_cases g : b > (bitsN t : Int)
      · rw [decide_eq_true g]; exact jT (by unfold shiftC; rw [if_pos (Or.inr g)])
      · rw [decide_eq_false g]; exact jF (by unfold shiftC; rw [if_neg (by omega)]; omega)
  · refine ev_neg (by simp [s]) ?_
    by_cases n : b < 0
    · have : IntKind.u64.wrap b > (bitsN t : Int) := by rw [wrapU]; omega
      rw [decide_eq_true this]; exact jT (by unfold shiftC; rw [if_pos (Or.inl n)])
    · rw [low n]
      by_cases g : b > (bitsN t : Int)
      · rw [decide_eq_true g]; exact jT (by unfold shiftC; rw [if_pos (Or.inr g)])
      · rw [decide_eq_false g]; exact jF (by unfold shiftC; rw [if_neg (by omega)]; omega)
def divQ (t a b : Int) : Int := if 7 ≤ t then conv t (Int.tdiv a b) else conv t (Int.tdiv (IntKind.u64.wrap a) (IntKind.u64.wrap b))
def divR (t a b : Int) : Int := if 7 ≤ t then conv t (Int.tmod a b) else conv t (Int.tmod (IntKind.u64.wrap a) (IntKind.u64.wrap b))
theorem abs_spec {t : Int} (h0 : 3 ≤ t) (h1 : t ≤ 10) (a : Int) (ha : -9223372036854775808 ≤ a ∧ a ≤ 9223372036854775807) :
    spec_l13Abs.f t a = some (if 7 ≤ t then (if a < 0 then (-a, true) else (a, false)) else (IntKind.u64.wrap a, false)) := by
  unfold spec_l13Abs.f
  rw [signed_spec, Option.bind_some]
  by_cases s : 7 ≤ t
  · rw [if_pos (by simp [s, h1]), if_pos s]
    by_cases n : a < 0
    · rw [if_pos n, if_pos n]; congr 2; rw [wrapU, wrapU]; omega
    · rw [if_neg n, if_neg n]; congr 2; rw [wrapU]; omega
  · rw [if_neg (by simp [s]), if_neg s]
theorem conv_neg {t x : Int} (h0 : 3 ≤ t) (h1 : t ≤ 10) : conv t (IntKind.u64.wrap (-(IntKind.u64.wrap x))) = conv t (-x) := by
  rw [wrapU, wrapU]
  rcases types_cases h0 h1 with rfl | rfl | rfl | rfl | rfl | rfl | rfl | rfl <;> simp [conv, wrap64] <;> omega
theorem divide_spec {t : Int} (h0 : 3 ≤ t) (h1 : t ≤ 10) (a b : Int) (ha : -9223372036854775808 ≤ a ∧ a ≤ 9223372036854775807) (hb : -9223372036854775808 ≤ b ∧ b ≤ 9223372036854775807) (nz : ¬ b = 0) :
    Ev (fun k => spec_l13Divide.f k t a b) (t, divQ t a b, ⟨#[]⟩, t, divR t a b, ⟨#[]⟩) := by
  refine ev_val (abs_spec h0 h1 a ha) (ev_val (abs_spec h0 h1 b hb) ?_)
  have fin : ∀ (fl : Bool) (q r : Int), conv t (IntKind.u64.wrap q) = divQ t a b → (IntKind.u64.wrap q = q) → (0 ≤ r ∧ r < 18446744073709551616) → (if fl = true then conv t (IntKind.u64.wrap (-r)) else conv t r) = divR t a b → Ev (fun k => spec_l13Divide.j0 k t fl q r) (t, divQ t a b, ⟨#[]⟩, t, divR t a b, ⟨#[]⟩) := by
    intro fl q r hq hw hr h
    have hqr := wrapU_range q
    rw [hw] at hqr hq
    refine ev_step ?_
    cases fl
    · simp only [spec_l13Divide.j0, Bool.false_eq_true, if_false]
      refine ev_val (num_spec hqr.1 hqr.2) (ev_val (num_spec hr.1 hr.2) (ev_eq (ev_now _) ?_))
      rw [hq]; simp only [Bool.false_eq_true, if_false] at h; rw [h]
    · simp only [spec_l13Divide.j0, if_true]
      have hr2 := wrapU_range (-r)
      refine ev_val (num_spec hqr.1 hqr.2) (ev_val (num_spec hr2.1 hr2.2) (ev_eq (ev_now _) ?_))
      rw [hq]; simp only [if_true] at h; rw [h]
  have ww : ∀ x, IntKind.u64.wrap (IntKind.u64.wrap x) = IntKind.u64.wrap x := fun x => by rw [wrapU, wrapU]; omega
  have pos : ∀ x y : Int, 0 ≤ x → x < 18446744073709551616 → 0 < y → (0 ≤ Int.tmod x y ∧ Int.tmod x y < 18446744073709551616) := by
    intro x y hx hx2 hy
    rw [Int.tmod_eq_emod_of_nonneg hx]
    have h2 := Int.emod_nonneg x (Int.ne_of_gt hy)
    have h3 : x % y ≤ x := by
      have h4 := Int.mul_nonneg (Int.le_of_lt hy) (Int.ediv_nonneg hx (Int.le_of_lt hy))
      have h5 := Int.emod_def x y
      omega
    omega
  by_cases s : 7 ≤ t
  · simp only [if_pos s]
    have Q : divQ t a b = conv t (Int.tdiv a b) := by unfold divQ; rw [if_pos s]
    have R : divR t a b = conv t (Int.tmod a b) := by unfold divR; rw [if_pos s]
    by_cases na : a < 0 <;> by_cases nb : b < 0
    · rw [if_pos na, if_pos nb]
      refine ev_neg (by show ¬ (-b = 0); omega) (ev_neg (by simp) (fin true _ _ ?_ (ww _) (pos _ _ (by omega) (by omega) (by omega)) ?_))
      · rw [ww, conv_wrap h0 h1, Q, Int.neg_tdiv_neg]
      · rw [if_pos rfl, conv_wrap h0 h1, R, Int.tmod_neg, Int.neg_tmod, Int.neg_neg]
    · rw [if_pos na, if_neg nb]
      refine ev_neg (by show ¬ (b = 0); omega) (ev_pos (by simp) (fin true _ _ ?_ (ww _) (pos _ _ (by omega) (by omega) (by omega)) ?_))
      · rw [ww, conv_neg h0 h1, Q, Int.neg_tdiv, Int.neg_neg]
      · rw [if_pos rfl, conv_wrap h0 h1, R, Int.neg_tmod, Int.neg_neg]
    · rw [if_neg na, if_pos nb]
      refine ev_neg (by show ¬ (-b = 0); omega) (ev_pos (by simp) (fin false _ _ ?_ (ww _) (pos _ _ (by omega) (by omega) (by omega)) ?_))
      · rw [ww, conv_neg h0 h1, Q, Int.tdiv_neg, Int.neg_neg]
      · rw [if_neg (by simp), R, Int.tmod_neg]
    · rw [if_neg na, if_neg nb]
      refine ev_neg (by show ¬ (b = 0); omega) (ev_neg (by simp) (fin false _ _ ?_ (ww _) (pos _ _ (by omega) (by omega) (by omega)) ?_))
      · rw [ww, conv_wrap h0 h1, Q]
      · rw [if_neg (by simp), R]
  · simp only [if_neg s]
    have hx := wrapU_range a
    have hy := wrapU_range b
    have hy0 : 0 < IntKind.u64.wrap b := by rw [wrapU]; omega
    refine ev_neg (by show ¬ (IntKind.u64.wrap b = 0); omega) (ev_neg (by simp) (fin false _ _ ?_ (ww _) (pos _ _ hx.1 hx.2 hy0) ?_))
    · rw [ww, conv_wrap h0 h1]; unfold divQ; rw [if_neg s]
    · rw [if_neg (by simp)]; unfold divR; rw [if_neg s]
theorem conv_mod {t x : Int} (h0 : 3 ≤ t) (h1 : t ≤ 10) : conv t (wrap64 x) = conv t x := by
  rcases types_cases h0 h1 with rfl | rfl | rfl | rfl | rfl | rfl | rfl | rfl <;> simp [conv, wrap64] <;> omega
theorem inT_range {t n : Int} (h0 : 3 ≤ t) (h1 : t ≤ 10) (h : inT t n) :
    (7 ≤ t → -(2 ^ bitsN t) ≤ 2 * n ∧ 2 * n < 2 ^ bitsN t) ∧ (t ≤ 6 → 0 ≤ IntKind.u64.wrap n ∧ IntKind.u64.wrap n < 2 ^ bitsN t) ∧ (t ≤ 5 → 0 ≤ n ∧ n < 2 ^ bitsN t) := by
  unfold inT at h
  rw [wrapU] at h ⊢
  rcases types_cases h0 h1 with rfl | rfl | rfl | rfl | rfl | rfl | rfl | rfl <;> simp [conv, wrap64] at h <;> simp [bitsN] <;> omega
theorem conv_small {t x : Int} (h0 : 3 ≤ t) (h1 : t ≤ 10) (hs : 7 ≤ t → -(2 ^ bitsN t) ≤ 2 * x ∧ 2 * x < 2 ^ bitsN t) (hu : t ≤ 6 → 0 ≤ x ∧ x < 2 ^ bitsN t) : conv t x = if 7 ≤ t then x else wrap64 x := by
  rcases types_cases h0 h1 with rfl | rfl | rfl | rfl | rfl | rfl | rfl | rfl <;> simp [bitsN] at hs hu <;> simp [conv, wrap64] <;> omega
theorem conv_shl {t : Int} (a : Int) (h0 : 3 ≤ t) (h1 : t ≤ 10) : conv t (a * 2 ^ bitsN t) = 0 := by
  rcases types_cases h0 h1 with rfl | rfl | rfl | rfl | rfl | rfl | rfl | rfl <;> simp [conv, wrap64, bitsN] <;> omega
theorem conv_zero {t : Int} (h0 : 3 ≤ t) (h1 : t ≤ 10) : conv t 0 = 0 := by
  rcases types_cases h0 h1 with rfl | rfl | rfl | rfl | rfl | rfl | rfl | rfl <;> decide +kernel
theorem conv_ones {t : Int} (h0 : 7 ≤ t) (h1 : t ≤ 10) : conv t 18446744073709551615 = -1 := by
  rcases (by omega : t = 7 ∨ t = 8 ∨ t = 9 ∨ t = 10) with rfl | rfl | rfl | rfl <;> decide +kernel
theorem conv_lin {t : Int} (a p : Int) (h0 : 3 ≤ t) (h1 : t ≤ 10) : conv t (IntKind.u64.wrap (IntKind.u64.wrap a * p)) = conv t (a * p) := by
  rw [conv_wrap h0 h1, wrapU]
  have e : a * p = (a % 18446744073709551616) * p + 18446744073709551616 * ((a / 18446744073709551616) * p) := by
    have := Int.emod_add_mul_ediv a 18446744073709551616
    rw [← Int.mul_assoc, ← Int.add_mul, this]
  rw [e]
  generalize (a % 18446744073709551616) * p = x
  generalize (a / 18446744073709551616) * p = y
  rcases types_cases h0 h1 with rfl | rfl | rfl | rfl | rfl | rfl | rfl | rfl <;> simp [conv, wrap64] <;> omega
end Go.Proofs.Ytdpdpigaegabbaa.Q
end
section
namespace Go.Proofs.Ytdpdpigaegabbaa.Q
open Go.RowKit Go.Proofs.YtdpdpigaegabbaaW.PrintWords Go.Proofs.YtdpdpigaegabbaaW.PrintLast Go.Proofs.YtdpdpigaegabbaaW.PrintMore Go.Proofs.Ytdpdpigaegabbaa.EvMore
set_option linter.unusedVariables false
set_option linter.unusedSimpArgs false
def binT (op t : Int) : Int :=
  if op ≤ 2 then (if t = 1 then 1 else 0) else if op ≤ 4 then (if 1 ≤ t ∧ t ≤ 10 then 1 else 0) else if op ≤ 8 then (if 2 ≤ t ∧ t ≤ 10 then 1 else 0) else
  if op = 9 then (if 2 ≤ t ∧ t ≤ 10 then t else 0) else (if 3 ≤ t ∧ t ≤ 10 then t else 0)
theorem bin_all : ∀ o : Fin 18, ∀ u : Fin 11, spec_l12Bin.f 5 ((o.val : Int) + 1) (u.val : Int) (u.val : Int) = some (binT ((o.val : Int) + 1) (u.val : Int)) := by decide +kernel
theorem spec_bin (op t : Int) (h1 : 1 ≤ op) (h2 : op ≤ 18) (ht : 0 ≤ t) (ht2 : t ≤ 10) : Ev (fun k => spec_l12Bin.f k op t t) (binT op t) := by
  have h := bin_all ⟨(op - 1).toNat, by omega⟩ ⟨t.toNat, by omega⟩
  simp only [show (((op - 1).toNat : Nat) : Int) + 1 = op by omega, show ((t.toNat : Nat) : Int) = t by omega] at h
  exact Ev.of (fun k => spec_l12Bin.mono op t t k) h
theorem spec_bin_ne (op t u : Int) (h : ¬ t = u) : Ev (fun k => spec_l12Bin.f k op t u) 0 := by
  refine ev_neg h (ev_step ?_)
  simp only [spec_l12Bin.j0, if_true]
  exact ev_now _
def binOk (o : Option (Int × Bool)) (b : Int) : Bool := match o with
  | some (x, ok) => (ok == decide (¬ b = 0)) && (decide (b = 0) || (x == b))
  | none => false
theorem impl_all : ∀ o : Fin 18, ∀ u : Fin 11, u.val = 0 ∨ binOk (impl_binType.f ((o.val : Int) + 1) (u.val : Int) (u.val : Int)) (binT ((o.val : Int) + 1) (u.val : Int)) = true := by decide +kernel
theorem impl_bin (op t : Int) (h1 : 1 ≤ op) (h2 : op ≤ 18) (ht : 1 ≤ t) (ht2 : t ≤ 10) : ∃ u, impl_binType.f op t t = some (u, decide (¬ binT op t = 0)) ∧ (¬ binT op t = 0 → u = binT op t) := by
  have h := impl_all ⟨(op - 1).toNat, by omega⟩ ⟨t.toNat, by omega⟩
  simp only [show (((op - 1).toNat : Nat) : Int) + 1 = op by omega, show ((t.toNat : Nat) : Int) = t by omega] at h
  rcases h with h | h
  · omega
  · unfold binOk at h
    split at h
    · rename_i x ok e
      simp only [Bool.and_eq_true, Bool.or_eq_true, beq_iff_eq, decide_eq_true_eq] at h
      exact ⟨x, by rw [e, h.1], fun n => h.2.resolve_left n⟩
    · cases h
theorem impl_bin_ne (op t u : Int) (h : ¬ t = u) : impl_binType.f op t u = some (0, false) := by unfold impl_binType.f; rw [if_neg h]
theorem unsigned_impl {t : Int} (h0 : 3 ≤ t) : impl_unsignedType.f t = some (decide (t ≤ 6)) := by unfold impl_unsignedType.f; rw [if_pos h0]
set_option maxRecDepth 20000 in
theorem shift_impl {op t : Int} (ho : op = 17 ∨ op = 18) (h0 : 3 ≤ t) (h1 : t ≤ 10) (a b : Int) (ax bx : ByteArray) (ha : -9223372036854775808 ≤ a ∧ a ≤ 9223372036854775807) (hb : -9223372036854775808 ≤ b ∧ b ≤ 9223372036854775807) (hT : inT t a) (hB : inT t b) :
    Ev (fun k => impl_MillBinary.j2 k op t (IntKind.u64.wrap a) (IntKind.u64.wrap b) true t a ax t b bx 0 0 ⟨#[]⟩) (t, shiftV op t a b, ⟨#[]⟩, ⟨#[]⟩) := by
  have hle := bitsN_le t
  have hpos : 8 ≤ bitsN t := by unfold bitsN; (repeat' split) <;> omega
  have hn : IntKind.u64.wrap (bitsN t : Int) = (bitsN t : Int) := by rw [wrapU]; omega
  have hrA := wrapU_range a
  obtain ⟨rS, rU, rP⟩ := inT_range h0 h1 hT
  obtain ⟨sS, sU, sP⟩ := inT_range h0 h1 hB
  have z4 : ∀ f : Bool, Ev (fun k => impl_MillBinary.j4 k t f) (t, if f = true then conv t 18446744073709551615 else 0, ⟨#[]⟩, ⟨#[]⟩) := by
    intro f
    refine ev_step ?_
    cases f
    · simp only [impl_MillBinary.j4, Bool.false_eq_true, if_false]
      exact ev_val (num_impl h0 h1 (by decide) (by decide)) (ev_eq (ev_now _) (by rw [conv_zero h0 h1]))
    · simp only [impl_MillBinary.j4, if_true]
      exact ev_val (num_impl h0 h1 (by decide) (by decide)) (ev_now _)
  have j3T : shiftC t b = bitsN t → Ev (fun k => impl_MillBinary.j3 k op t (IntKind.u64.wrap a) (IntKind.u64.wrap b) (decide (¬ t ≤ 6)) true t a ax) (t, shiftV op t a b, ⟨#[]⟩, ⟨#[]⟩) := by
    intro hc
    refine ev_step ?_
    simp only [impl_MillBinary.j3, if_true]
    rcases ho with rfl | rfl
    · refine ev_neg (by decide) (ev_eq (z4 false) ?_)
      simp only [shiftV, if_true, hc, conv_shl a h0 h1]; rfl
    · refine ev_pos rfl ?_
      by_cases s : t ≤ 6
      · refine ev_neg (by simp [s]) (ev_eq (z4 false) ?_)
        have := rU s
        have e : IntKind.u64.wrap a / 2 ^ bitsN t = 0 := Int.ediv_eq_zero_of_lt this.1 this.2
        unfold shiftV; rw [hc, if_neg (show ¬ (18 : Int) = 17 by decide), if_neg (show ¬ 7 ≤ t by omega), e, show wrap64 0 = 0 from by decide +kernel]; rfl
      · refine ev_pos (by simp [s]) (ev_eq (z4 _) ?_)
        have := rS (by omega)
        unfold shiftV; rw [hc, if_neg (show ¬ (18 : Int) = 17 by decide), if_pos (show 7 ≤ t by omega)]
        by_cases n : a < 0
        · have e : a / 2 ^ bitsN t = -1 := by
            have hp : (0 : Int) < 2 ^ bitsN t := Int.pow_pos (by decide)
            generalize (2 : Int) ^ bitsN t = z at hp this
            refine Int.le_antisymm ?_ ?_
            · have := Int.ediv_neg_of_neg_of_pos n hp; omega
            · exact Int.le_ediv_of_mul_le hp (by omega)
          simp only [n, decide_true, if_true, conv_ones (show 7 ≤ t by omega) h1, e]
        · have e : a / 2 ^ bitsN t = 0 := Int.ediv_eq_zero_of_lt (by omega) (by omega)
          simp only [n, decide_false, Bool.false_eq_true, if_false, e]
  have j3F : 0 ≤ b → b < (bitsN t : Int) → Ev (fun k => impl_MillBinary.j3 k op t (IntKind.u64.wrap a) (IntKind.u64.wrap b) (decide (¬ t ≤ 6)) false t a ax) (t, shiftV op t a b, ⟨#[]⟩, ⟨#[]⟩) := by
    intro b0 b1
    have eb : IntKind.u64.wrap b = ((b.toNat : Nat) : Int) := by rw [wrapU]; omega
    have hc : shiftC t b = b.toNat := by unfold shiftC; rw [if_neg (by omega)]
    have bl : b.toNat ≤ 64 := by omega
    have hp : (0 : Int) < 2 ^ b.toNat := Int.pow_pos (by decide)
    refine ev_step ?_
    simp only [impl_MillBinary.j3, Bool.false_eq_true, if_false, eb]
    rcases ho with rfl | rfl
    · have hr := wrapU_range (IntKind.u64.wrap a * 2 ^ b.toNat)
      refine ev_pos rfl (ev_pos (by omega) ?_)
      rw [shlU _ _ bl, ← wrapU]
      refine ev_val (num_impl h0 h1 hr.1 hr.2) (ev_eq (ev_now _) ?_)
      simp only [shiftV, if_true, hc, conv_lin a _ h0 h1]
    · refine ev_neg (by decide) ?_
      by_cases s : t ≤ 6
      · refine ev_neg (by simp [s]) (ev_pos (by omega) ?_)
        rw [shrK .u64 rfl _ _ bl]
        have r0 : 0 ≤ IntKind.u64.wrap a / 2 ^ b.toNat := Int.ediv_nonneg hrA.1 (by omega)
        have r1 : IntKind.u64.wrap a / 2 ^ b.toNat ≤ IntKind.u64.wrap a := Int.ediv_le_self _ hrA.1
        refine ev_val (num_impl h0 h1 r0 (by omega)) (ev_eq (ev_now _) ?_)
        have := rU s
        unfold shiftV; rw [hc, if_neg (show ¬ (18 : Int) = 17 by decide), if_neg (show ¬ 7 ≤ t by omega), conv_small h0 h1 (fun h => by omega) (fun _ => ⟨r0, by omega⟩), if_neg (by omega)]
      · refine ev_pos (by simp [s]) (ev_pos (by omega) ?_)
        rw [shrK .i64 rfl _ _ bl]
        have hr := wrapU_range (a / 2 ^ b.toNat)
        refine ev_val (num_impl h0 h1 hr.1 hr.2) (ev_eq (ev_now _) ?_)
        have := rS (by omega)
        have q1 : (0 ≤ a → 0 ≤ a / 2 ^ b.toNat ∧ a / 2 ^ b.toNat ≤ a) := fun h => ⟨Int.ediv_nonneg h (by omega), Int.ediv_le_self _ h⟩
        have q2 : (a < 0 → a / 2 ^ b.toNat < 0 ∧ a ≤ a / 2 ^ b.toNat) := fun h => ⟨Int.ediv_neg_of_neg_of_pos h hp, Int.le_ediv_of_mul_le hp (by
          have h3 : (1 : Int) ≤ 2 ^ b.toNat := hp
          have := Int.mul_le_mul_of_nonpos_left (Int.le_of_lt h) h3
          rwa [Int.mul_one] at this)⟩
        unfold shiftV; rw [hc, if_neg (show ¬ (18 : Int) = 17 by decide), if_pos (show 7 ≤ t by omega), conv_wrap h0 h1, conv_small h0 h1 (fun _ => ?_) (fun h => by omega), if_pos (show 7 ≤ t by omega)]
        generalize a / 2 ^ b.toNat = z at q1 q2 ⊢
        generalize (2 : Int) ^ bitsN t = y at this ⊢
        omega
  refine ev_step ?_
  simp only [impl_MillBinary.j2, if_true]
  refine ev_val (unsigned_impl h0) ?_
  by_cases s : t ≤ 6
  · simp only [s, decide_true, if_true, Bool.not_true]
    refine ev_val (bits_impl h0 h1) ?_
    rw [hn]
    have e6 : decide (¬ t ≤ 6) = false := by simp [s]
    simp only [e6] at j3T j3F
    by_cases g : IntKind.u64.wrap b ≥ (bitsN t : Int)
    · rw [decide_eq_true g]
      refine j3T ?_
      unfold shiftC
      rw [wrapU] at g
      by_cases h : b < 0 ∨ b > (bitsN t : Int)
      · rw [if_pos h]
      · rw [if_neg h]; omega
    · rw [decide_eq_false g]
      rw [wrapU] at g
      exact j3F (by omega) (by omega)
  · have e6 : decide (¬ t ≤ 6) = true := by simp [s]
    simp only [s, decide_false, Bool.false_eq_true, if_false, Bool.not_false]
    simp only [e6] at j3T j3F
    by_cases n : b < 0
    · exact ev_pos n (j3T (by unfold shiftC; rw [if_pos (Or.inl n)]))
    · refine ev_neg n (ev_val (bits_impl h0 h1) ?_)
      rw [hn]
      by_cases g : IntKind.u64.wrap b ≥ (bitsN t : Int)
      · rw [decide_eq_true g]
        refine j3T ?_
        unfold shiftC
        rw [wrapU] at g
        by_cases h : b < 0 ∨ b > (bitsN t : Int)
        · rw [if_pos h]
        · rw [if_neg h]; omega
      · rw [decide_eq_false g]
        rw [wrapU] at g
        exact j3F (by omega) (by omega)
theorem divide_impl {op t : Int} (h0 : 3 ≤ t) (h1 : t ≤ 10) (a b : Int) (ax bx : ByteArray) (ha : -9223372036854775808 ≤ a ∧ a ≤ 9223372036854775807) (hb : -9223372036854775808 ≤ b ∧ b ≤ 9223372036854775807) (nz : ¬ b = 0) :
    Ev (fun k => impl_MillBinary.j2 k op t (IntKind.u64.wrap a) (IntKind.u64.wrap b) false t a ax t b bx 0 0 ⟨#[]⟩) (t, if op = 14 then divQ t a b else divR t a b, ⟨#[]⟩, ⟨#[]⟩) := by
  have hx := wrapU_range a
  have hy := wrapU_range b
  have hy0 : 0 < IntKind.u64.wrap b := by rw [wrapU]; omega
  refine ev_step ?_
  simp only [impl_MillBinary.j2, Bool.false_eq_true, if_false]
  refine ev_neg nz (ev_val (unsigned_impl h0) ?_)
  by_cases s : t ≤ 6
  · refine ev_pos (by simp [s]) ?_
    have Q : divQ t a b = conv t (Int.tdiv (IntKind.u64.wrap a) (IntKind.u64.wrap b)) := by unfold divQ; rw [if_neg (by omega)]
    have R : divR t a b = conv t (Int.tmod (IntKind.u64.wrap a) (IntKind.u64.wrap b)) := by unfold divR; rw [if_neg (by omega)]
    by_cases o : op = 14
    · have hr := wrapU_range (Int.tdiv (IntKind.u64.wrap a) (IntKind.u64.wrap b))
      refine ev_pos o (ev_neg (by omega) (ev_val (num_impl h0 h1 hr.1 hr.2) (ev_eq (ev_now _) ?_)))
      rw [if_pos o, Q, conv_wrap h0 h1]
    · refine ev_neg o (ev_neg (by omega) ?_)
      have hm : 0 ≤ Int.tmod (IntKind.u64.wrap a) (IntKind.u64.wrap b) ∧ Int.tmod (IntKind.u64.wrap a) (IntKind.u64.wrap b) < 18446744073709551616 := by
        rw [Int.tmod_eq_emod_of_nonneg hx.1]
        have h2 := Int.emod_nonneg (IntKind.u64.wrap a) (Int.ne_of_gt hy0)
        have h3 := Int.emod_lt_of_pos (IntKind.u64.wrap a) hy0
        omega
      refine ev_val (num_impl h0 h1 hm.1 hm.2) (ev_eq (ev_now _) ?_)
      rw [if_neg o, R]
  · refine ev_neg (by simp [s]) ?_
    have Q : divQ t a b = conv t (Int.tdiv a b) := by unfold divQ; rw [if_pos (by omega)]
    have R : divR t a b = conv t (Int.tmod a b) := by unfold divR; rw [if_pos (by omega)]
    by_cases m : b = -1
    · subst m
      refine ev_pos rfl ?_
      by_cases o : op = 14
      · have hr := wrapU_range (-(IntKind.u64.wrap a))
        refine ev_pos o (ev_val (num_impl h0 h1 hr.1 hr.2) (ev_eq (ev_now _) ?_))
        rw [if_pos o, Q, conv_neg h0 h1, Int.tdiv_neg, Int.tdiv_one]
      · refine ev_neg o (ev_val (num_impl h0 h1 (by decide) (by decide)) (ev_eq (ev_now _) ?_))
        rw [if_neg o, R, Int.tmod_neg, Int.tmod_one]
    · refine ev_neg m ?_
      by_cases o : op = 14
      · have hr := wrapU_range (wrap64 (Int.tdiv a b))
        refine ev_pos o (ev_val (num_impl h0 h1 hr.1 hr.2) (ev_eq (ev_now _) ?_))
        rw [if_pos o, Q, conv_wrap h0 h1, conv_mod h0 h1]
      · have hr := wrapU_range (Int.tmod a b)
        refine ev_neg o (ev_val (num_impl h0 h1 hr.1 hr.2) (ev_eq (ev_now _) ?_))
        rw [if_neg o, R, conv_wrap h0 h1]
end Go.Proofs.Ytdpdpigaegabbaa.Q
end
section
namespace Go.Proofs.Ytdpdpigaegabbaa.Q
open Go.RowKit Go.Proofs.YtdpdpigaegabbaaW.PrintWords Go.Proofs.YtdpdpigaegabbaaW.PrintLast Go.Proofs.YtdpdpigaegabbaaW.PrintMore Go.Proofs.Ytdpdpigaegabbaa.EvMore
set_option linter.unusedVariables false
set_option linter.unusedSimpArgs false
theorem bytes_tri : ∀ a b : List UInt8, ¬ Op.bytesLess a b = true → ¬ Op.bytesLess b a = true → a = b
  | [], [], _, _ => rfl
  | [], _ :: _, h, _ => by simp [Op.bytesLess] at h
  | _ :: _, [], _, h => by simp [Op.bytesLess] at h
  | a :: x, b :: y, h, k => by
    simp only [Op.bytesLess, Bool.or_eq_true, Bool.and_eq_true, decide_eq_true_eq, beq_iff_eq, not_or, not_and] at h k
    have e : a = b := by
      have h1 := h.1
      have k1 := k.1
      rw [UInt8.lt_iff_toNat_lt] at h1 k1
      exact UInt8.toNat_inj.1 (by omega)
    subst e
    rw [bytes_tri x y (h.2 rfl) (k.2 rfl)]
theorem bytes_irr : ∀ a : List UInt8, ¬ Op.bytesLess a a = true
  | [] => by simp [Op.bytesLess]
  | a :: x => by simp [Op.bytesLess, UInt8.lt_irrefl, bytes_irr x]
def sgn (l g : Bool) : Int := if l then -1 else if g then 1 else 0
theorem cmp_str (a b : ByteArray) : cmp_Compare_string.f a b = some (sgn (Op.bytesLess a.toList b.toList) (Op.bytesLess b.toList a.toList)) := by
  unfold cmp_Compare_string.f cmp_isNaN_string.f sgn
  simp; (repeat' split) <;> rfl
theorem cmp_u (a b : Int) : cmp_Compare_uint64.f a b = some (sgn (decide (a < b)) (decide (a > b))) := by
  unfold cmp_Compare_uint64.f cmp_isNaN_uint64.f sgn
  simp; (repeat' split) <;> rfl
theorem cmp_i (a b : Int) : cmp_Compare_int64.f a b = some (sgn (decide (a < b)) (decide (a > b))) := by
  unfold cmp_Compare_int64.f cmp_isNaN_int64.f sgn
  simp; (repeat' split) <;> rfl
theorem vval_num {t n : Int} {s : ByteArray} (h0 : 3 ≤ t) (h1 : t ≤ 10) (h : vval t n s = true) : inT t n ∧ s.toList = [] := by
  unfold vval at h
  rw [if_neg (by omega), if_neg (by omega), if_pos ⟨h0, h1⟩] at h
  simp only [Bool.and_eq_true, beq_iff_eq] at h
  exact ⟨h.2, h.1⟩
theorem vval_bool {n : Int} {s : ByteArray} (h : vval 1 n s = true) : (n = 0 ∨ n = 1) ∧ s.toList = [] := by
  unfold vval at h
  simp only [if_true, Bool.and_eq_true, Bool.or_eq_true, beq_iff_eq] at h
  exact ⟨h.1, h.2⟩
theorem vval_type {t n : Int} {s : ByteArray} (h : vval t n s = true) : 1 ≤ t ∧ t ≤ 10 := by
  unfold vval at h
  by_cases a : t = 1
  · omega
  · rw [if_neg a] at h
    by_cases b : t = 2
    · omega
    · rw [if_neg b] at h
      by_cases c : 3 ≤ t ∧ t ≤ 10
      · omega
      · rw [if_neg c] at h; cases h
theorem ord_both {t : Int} (an bn : Int) (ax bx : ByteArray) (ha : -9223372036854775808 ≤ an ∧ an ≤ 9223372036854775807) (hb : -9223372036854775808 ≤ bn ∧ bn ≤ 9223372036854775807) (Va : vval t an ax = true) (Vb : vval t bn bx = true) :
    ∃ l g : Bool, impl_millOrder.f t an ax t bn bx = some (sgn l g) ∧ spec_l13Compare.f t an ax t bn bx = some (l, !l && !g) ∧ ¬ (l = true ∧ g = true) := by
  have ht := vval_type Va
  unfold impl_millOrder.f spec_l13Compare.f
  by_cases t2 : t = 2
  · refine ⟨Op.bytesLess ax.toList bx.toList, Op.bytesLess bx.toList ax.toList, ?_, ?_, ?_⟩
    · rw [if_pos t2, cmp_str]; rfl
    · rw [if_pos t2]
      congr 2
      cases e1 : Op.bytesLess ax.toList bx.toList with
      | true =>
        simp
        intro e
        rw [e] at e1
        exact bytes_irr _ e1
      | false =>
        cases e2 : Op.bytesLess bx.toList ax.toList with
        | true =>
          simp
          intro e
          rw [e] at e2
          exact bytes_irr _ e2
        | false =>
          simpa using bytes_tri _ _ (by rw [e1]; simp) (by rw [e2]; simp)
    · rintro ⟨p, q⟩
      exact bytes_irr _ (Ord.less_trans _ _ _ p q)
  · rw [if_neg t2, if_neg t2]
    unfold spec_l13Less.f
    rw [signed_spec, Option.bind_some]
    by_cases s : 7 ≤ t
    · refine ⟨decide (an < bn), decide (an > bn), ?_, ?_, ?_⟩
      · rw [if_neg (by omega), cmp_i]; rfl
      · rw [if_pos (by simp [s, ht.2]), Option.bind_some]
        congr 2
        rw [Bool.eq_iff_iff]; simp; omega
      · simp; omega
    · have low : IntKind.u64.wrap an = an ∧ IntKind.u64.wrap bn = bn ∨ t = 6 := by
        by_cases t6 : t = 6
        · exact .inr t6
        · refine .inl ?_
          rcases (by omega : t = 1 ∨ 3 ≤ t) with rfl | h3
          · have := (vval_bool Va).1
            have := (vval_bool Vb).1
            rw [wrapU, wrapU]; omega
          · have p := (inT_range h3 ht.2 (vval_num h3 ht.2 Va).1).2.2 (by omega)
            have q := (inT_range h3 ht.2 (vval_num h3 ht.2 Vb).1).2.2 (by omega)
            rw [wrapU, wrapU]; omega
      have inj : IntKind.u64.wrap an = IntKind.u64.wrap bn ↔ an = bn := by rw [wrapU, wrapU]; omega
      refine ⟨decide (IntKind.u64.wrap an < IntKind.u64.wrap bn), decide (IntKind.u64.wrap an > IntKind.u64.wrap bn), ?_, ?_, ?_⟩
      · by_cases t6 : t = 6
        · rw [if_pos t6, cmp_u]; rfl
        · rw [if_neg t6, cmp_i]
          rcases low with ⟨p, q⟩ | p
          · rw [p, q]; rfl
          · exact absurd p t6
      · rw [if_neg (by simp [s]), Option.bind_some]
        congr 2
        rw [Bool.eq_iff_iff]; simp; omega
      · simp; omega
def ordB (op : Int) (l g : Bool) : Bool := if op = 3 then !l && !g else if op = 4 then !(!l && !g) else if op = 5 then l else if op = 6 then l || (!l && !g) else if op = 7 then !l && !(!l && !g) else !l
theorem order_spec {op t : Int} (an bn : Int) (ax bx : ByteArray) (l g : Bool) (h : spec_l13Compare.f t an ax t bn bx = some (l, !l && !g)) : spec_l13Order.f op t an ax t bn bx = some (ordB op l g) := by
  unfold spec_l13Order.f ordB
  rw [h, Option.bind_some]
  (repeat' split) <;> simp_all
theorem order_impl (l g : Bool) (h : ¬ (l = true ∧ g = true)) : ∀ o : Fin 6, rdOf false [(sgn l g == 0), (sgn l g != 0), decide (sgn l g < 0), decide (sgn l g ≤ 0), decide (sgn l g > 0), decide (sgn l g ≥ 0)] (o.val : Int) = ordB ((o.val : Int) + 3) l g := by
  cases l <;> cases g <;> first | (exact absurd ⟨rfl, rfl⟩ h) | decide +kernel
theorem spec_type (op at_ an bt bn : Int) (ax bx : ByteArray) : Ev (fun k => spec_MillBinary.j0 k op true at_ an ax bt bn bx) (0, 0, ⟨#[]⟩, ⟨#[116, 121, 112, 101]⟩) := by
  refine ev_step ?_
  simp only [spec_MillBinary.j0, if_true]
  exact ev_now _
theorem impl_type (op at_ an bt bn : Int) (ax bx : ByteArray) : Ev (fun k => impl_MillBinary.j0 k op true at_ an ax bt bn bx 0 0 ⟨#[]⟩) (0, 0, ⟨#[]⟩, ⟨#[116, 121, 112, 101]⟩) := by
  refine ev_step ?_
  simp only [impl_MillBinary.j0, if_true]
  exact ev_now _
def bval (b : Bool) : Int × Int × ByteArray × ByteArray := (1, if b = true then 1 else 0, ⟨#[]⟩, ⟨#[]⟩)
theorem bool_spec (b : Bool) : spec_l13Bool.f b = some (1, if b = true then 1 else 0, ⟨#[]⟩) := by cases b <;> rfl
theorem bool_impl (b : Bool) : impl_mBool.f b = some (1, if b = true then 1 else 0, ⟨#[]⟩) := by cases b <;> rfl
set_option maxRecDepth 20000 in
set_option maxHeartbeats 4000000 in
theorem bin_core (op t an bn : Int) (ax bx : ByteArray) (h1 : 1 ≤ op) (h2 : op ≤ 18) (ha : -9223372036854775808 ≤ an ∧ an ≤ 9223372036854775807) (hb : -9223372036854775808 ≤ bn ∧ bn ≤ 9223372036854775807) (sa : ax.size ≤ 140737488351232) (sb : bx.size ≤ 140737488351232)
    (Va : vval t an ax = true) (Vb : vval t bn bx = true) (nz : ¬ binT op t = 0) :
    ∃ r, Ev (fun k => spec_MillBinary.j0 k op false t an ax t bn bx) r ∧ Ev (fun k => impl_MillBinary.j0 k op false t an ax t bn bx 0 0 ⟨#[]⟩) r := by
  have ht := vval_type Va
  obtain ⟨u, hu, hU⟩ := impl_bin op t h1 h2 ht.1 ht.2
  rw [decide_eq_true nz] at hu
  have hu2 := hU nz
  by_cases o2 : op ≤ 2
  · have t1 : t = 1 := by unfold binT at nz; rw [if_pos o2] at nz; by_cases c : t = 1 <;> simp_all
    subst t1
    obtain ⟨na, _⟩ := vval_bool Va
    obtain ⟨nb, _⟩ := vval_bool Vb
    rcases (by omega : op = 1 ∨ op = 2) with rfl | rfl
    · refine ⟨bval (an == 1 || bn == 1), ev_step ?_, ev_step ?_⟩
      · simp only [spec_MillBinary.j0, Bool.false_eq_true, if_false, if_true, bool_spec, Option.bind_some]
        rcases na with rfl | rfl
        · exact ev_neg (by decide) (ev_now _)
        · exact ev_pos rfl (ev_now _)
      · simp only [impl_MillBinary.j0, Bool.false_eq_true, if_false, hu, Option.bind_some, if_true, bool_impl]
        refine ev_eq (ev_now _) ?_
        rcases na with rfl | rfl <;> rcases nb with rfl | rfl <;> decide +kernel
    · refine ⟨bval (an == 1 && bn == 1), ev_step ?_, ev_step ?_⟩
      · simp only [spec_MillBinary.j0, Bool.false_eq_true, if_false, if_true, bool_spec, Option.bind_some, show ¬ (2 : Int) = 1 by decide]
        rcases na with rfl | rfl
        · exact ev_neg (by decide) (ev_now _)
        · exact ev_pos rfl (ev_now _)
      · simp only [impl_MillBinary.j0, Bool.false_eq_true, if_false, hu, Option.bind_some, if_true, bool_impl, show ¬ (2 : Int) = 1 by decide]
        refine ev_eq (ev_now _) ?_
        rcases na with rfl | rfl <;> rcases nb with rfl | rfl <;> decide +kernel
  · by_cases o8 : op ≤ 8
    · obtain ⟨l, g, oi, os, ng⟩ := ord_both an bn ax bx ha hb Va Vb
      have oS := order_spec (op := op) an bn ax bx l g os
      have oI := order_impl l g ng ⟨(op - 3).toNat, by omega⟩
      simp only [show (((op - 3).toNat : Nat) : Int) = op - 3 by omega, show op - 3 + 3 = op by omega] at oI
      have hw : wrap64 (op - 3) = op - 3 := by unfold wrap64; omega
      have j1s : Ev (fun k => spec_MillBinary.j1 k op (IntKind.u64.wrap an) (IntKind.u64.wrap bn) op true t an ax t bn bx) (bval (ordB op l g)) := by
        refine ev_step ?_
        simp only [spec_MillBinary.j1, if_true, oS, Option.bind_some, bool_spec]
        exact ev_now _
      have j1i : Ev (fun k => impl_MillBinary.j1 k op u (IntKind.u64.wrap an) (IntKind.u64.wrap bn) op true t an ax t bn bx 0 0 ⟨#[]⟩) (bval (ordB op l g)) := by
        refine ev_step ?_
        simp only [impl_MillBinary.j1, if_true, oi, Option.bind_some, hw, oI, bool_impl]
        refine ev_pos (by omega) (ev_pos (by simp; omega) (ev_now _))
      refine ⟨bval (ordB op l g), ev_step ?_, ev_step ?_⟩
      · rcases (by omega : op = 3 ∨ op = 4 ∨ op = 5 ∨ op = 6 ∨ op = 7 ∨ op = 8) with rfl | rfl | rfl | rfl | rfl | rfl
        all_goals
          simp only [spec_MillBinary.j0, Bool.false_eq_true, if_false]
          repeat first | exact j1s | refine ev_pos rfl ?_ | refine ev_neg (by decide) ?_
      · rcases (by omega : op = 3 ∨ op = 4 ∨ op = 5 ∨ op = 6 ∨ op = 7 ∨ op = 8) with rfl | rfl | rfl | rfl | rfl | rfl
        all_goals
          simp only [impl_MillBinary.j0, Bool.false_eq_true, if_false, hu, Option.bind_some, if_true]
          repeat first | exact j1i | refine ev_pos rfl ?_ | refine ev_neg (by decide) ?_
    · have hut : u = t := by
        rw [hu2]; unfold binT at nz ⊢
        rw [if_neg o2, if_neg (by omega), if_neg o8] at nz ⊢
        by_cases o9 : op = 9
        · rw [if_pos o9] at nz ⊢
          by_cases c : 2 ≤ t ∧ t ≤ 10
          · rw [if_pos c]
          · rw [if_neg c] at nz; exact absurd rfl nz
        · rw [if_neg o9] at nz ⊢
          by_cases c : 3 ≤ t ∧ t ≤ 10
          · rw [if_pos c]
          · rw [if_neg c] at nz; exact absurd rfl nz
      subst hut
      have dn : ∀ r, Ev (fun k => spec_MillBinary.j1 k op (IntKind.u64.wrap an) (IntKind.u64.wrap bn) op false u an ax u bn bx) r → Ev (fun k => spec_MillBinary.j0 k op false u an ax u bn bx) r := by
        intro r hr
        refine ev_step ?_
        simp only [spec_MillBinary.j0, Bool.false_eq_true, if_false]
        refine ev_neg (by omega) (ev_neg (by omega) (ev_neg (by omega) (ev_neg (by omega) (ev_neg (by omega) (ev_neg (by omega) (ev_neg (by omega) ?_))))))
        rw [show (op == 8) = false from by simp; omega]; exact hr
      have dm : ∀ r, Ev (fun k => impl_MillBinary.j1 k op u (IntKind.u64.wrap an) (IntKind.u64.wrap bn) op false u an ax u bn bx 0 0 ⟨#[]⟩) r → Ev (fun k => impl_MillBinary.j0 k op false u an ax u bn bx 0 0 ⟨#[]⟩) r := by
        intro r hr
        refine ev_step ?_
        simp only [impl_MillBinary.j0, Bool.false_eq_true, if_false, hu, Option.bind_some, if_true]
        refine ev_neg (by omega) (ev_neg (by omega) (ev_neg (by omega) (ev_neg (by omega) (ev_neg (by omega) (ev_neg (by omega) (ev_neg (by omega) ?_))))))
        rw [show (op == 8) = false from by simp; omega]; exact hr
      by_cases t2 : u = 2
      · subst t2
        have o9 : op = 9 := by
          unfold binT at nz
          rw [if_neg o2, if_neg (by omega), if_neg o8] at nz
          by_cases o9 : op = 9
          · exact o9
          · rw [if_neg o9, if_neg (by omega)] at nz; exact absurd rfl nz
        subst o9
        have hw : wrap64 ((ax.size : Int) + (bx.size : Int)) = (ax.size : Int) + (bx.size : Int) := by unfold wrap64; omega
        by_cases c : (ax.size : Int) + (bx.size : Int) > 3000
        · refine ⟨(0, 0, ⟨#[]⟩, ⟨#[108, 111, 110, 103]⟩), dn _ (ev_step ?_), dm _ (ev_step ?_)⟩
          · simp only [spec_MillBinary.j1, Bool.false_eq_true, if_false, if_true, hw]
            exact ev_pos c (ev_now _)
          · simp only [impl_MillBinary.j1, Bool.false_eq_true, if_false, if_true, hw]
            exact ev_pos c (ev_now _)
        · refine ⟨(2, 0, ax ++ bx, ⟨#[]⟩), dn _ (ev_step ?_), dm _ (ev_step ?_)⟩
          · simp only [spec_MillBinary.j1, Bool.false_eq_true, if_false, if_true, hw]
            exact ev_neg c (ev_pos (by omega) (ev_val rfl (ev_now _)))
          · simp only [impl_MillBinary.j1, Bool.false_eq_true, if_false, if_true, hw]
            exact ev_neg c (ev_pos (by omega) (ev_val rfl (ev_now _)))
      · have h3 : 3 ≤ u := by
          rcases (by omega : u = 1 ∨ 3 ≤ u) with rfl | h
          · exfalso
            unfold binT at nz
            rw [if_neg o2, if_neg (by omega), if_neg o8] at nz
            by_cases o9 : op = 9
            · rw [if_pos o9, if_neg (by omega)] at nz; exact nz rfl
            · rw [if_neg o9, if_neg (by omega)] at nz; exact nz rfl
          · exact h
        have Ta := (vval_num h3 ht.2 Va).1
        have Tb := (vval_num h3 ht.2 Vb).1
        have num : ∀ X : Int, 0 ≤ X → X < 18446744073709551616 → (op = 9 ∧ X = IntKind.u64.wrap (IntKind.u64.wrap an + IntKind.u64.wrap bn) ∨ op = 10 ∧ X = IntKind.u64.wrap (IntKind.u64.wrap an - IntKind.u64.wrap bn) ∨ op = 11 ∧ X = Go.bits .or .u64 (IntKind.u64.wrap an) (IntKind.u64.wrap bn) ∨ op = 12 ∧ X = Go.bits .xor .u64 (IntKind.u64.wrap an) (IntKind.u64.wrap bn) ∨ op = 13 ∧ X = IntKind.u64.wrap (IntKind.u64.wrap an * IntKind.u64.wrap bn) ∨ op = 16 ∧ X = Go.bits .and .u64 (IntKind.u64.wrap an) (IntKind.u64.wrap bn)) →
            ∃ r, Ev (fun k => spec_MillBinary.j0 k op false u an ax u bn bx) r ∧ Ev (fun k => impl_MillBinary.j0 k op false u an ax u bn bx 0 0 ⟨#[]⟩) r := by
          intro X X0 X1 hX
          refine ⟨(u, conv u X, ⟨#[]⟩, ⟨#[]⟩), dn _ (ev_step ?_), dm _ (ev_step ?_)⟩
          · simp only [spec_MillBinary.j1, Bool.false_eq_true, if_false]
            have q : ∀ Y, Y = X → Ev (fun _ : Nat => (spec_l13Num.f u Y).bind fun bt => some (bt.1, bt.2.1, bt.2.2, (⟨#[]⟩ : ByteArray))) (u, conv u X, ⟨#[]⟩, ⟨#[]⟩) := by
              intro Y e; subst e; exact ev_val (num_spec X0 X1) (ev_now _)
            rcases hX with ⟨rfl, e⟩ | ⟨rfl, e⟩ | ⟨rfl, e⟩ | ⟨rfl, e⟩ | ⟨rfl, e⟩ | ⟨rfl, e⟩
            all_goals repeat first | (with_reducible exact q _ e.symm) | (with_reducible refine ev_pos rfl ?_) | refine ev_neg (by decide) ?_ | refine ev_neg t2 ?_
          · simp only [impl_MillBinary.j1, Bool.false_eq_true, if_false]
            have q : ∀ Y, Y = X → Ev (fun _ : Nat => (impl_mInt.f u Y).bind fun bt => some (bt.1, bt.2.1, bt.2.2, (⟨#[]⟩ : ByteArray))) (u, conv u X, ⟨#[]⟩, ⟨#[]⟩) := by
              intro Y e; subst e; exact ev_val (num_impl h3 ht.2 X0 X1) (ev_now _)
            rcases hX with ⟨rfl, e⟩ | ⟨rfl, e⟩ | ⟨rfl, e⟩ | ⟨rfl, e⟩ | ⟨rfl, e⟩ | ⟨rfl, e⟩
            all_goals repeat first | (with_reducible exact q _ e.symm) | (with_reducible refine ev_pos rfl ?_) | refine ev_neg (by decide) ?_ | refine ev_neg t2 ?_
        by_cases a9 : op = 9
        · exact num _ (wrapU_range _).1 (wrapU_range _).2 (.inl ⟨a9, rfl⟩)
        by_cases a10 : op = 10
        · exact num _ (wrapU_range _).1 (wrapU_range _).2 (.inr (.inl ⟨a10, rfl⟩))
        by_cases a11 : op = 11
        · exact num _ (wrapU_range _).1 (wrapU_range _).2 (.inr (.inr (.inl ⟨a11, rfl⟩)))
        by_cases a12 : op = 12
        · exact num _ (wrapU_range _).1 (wrapU_range _).2 (.inr (.inr (.inr (.inl ⟨a12, rfl⟩))))
        by_cases a13 : op = 13
        · exact num _ (wrapU_range _).1 (wrapU_range _).2 (.inr (.inr (.inr (.inr (.inl ⟨a13, rfl⟩)))))
        by_cases a16 : op = 16
        · exact num _ (wrapU_range _).1 (wrapU_range _).2 (.inr (.inr (.inr (.inr (.inr ⟨a16, rfl⟩)))))
        have tail : ∀ r, Ev (fun k => impl_MillBinary.j2 k op u (IntKind.u64.wrap an) (IntKind.u64.wrap bn) (decide (17 ≤ op)) u an ax u bn bx 0 0 ⟨#[]⟩) r → Ev (fun k => impl_MillBinary.j1 k op u (IntKind.u64.wrap an) (IntKind.u64.wrap bn) op false u an ax u bn bx 0 0 ⟨#[]⟩) r := by
          intro r hr
          refine ev_step ?_
          simp only [impl_MillBinary.j1, Bool.false_eq_true, if_false]
          refine ev_neg a9 (ev_neg a10 (ev_neg a13 (ev_neg a11 (ev_neg a12 (ev_neg a16 ?_)))))
          by_cases b : op = 17
          · refine ev_pos b ?_
            rw [show (op == 17) = decide (17 ≤ op) from by rw [Bool.eq_iff_iff]; simp; omega]; exact hr
          · refine ev_neg b ?_
            rw [show (op == 18) = decide (17 ≤ op) from by rw [Bool.eq_iff_iff]; simp; omega]; exact hr
        by_cases s : 17 ≤ op
        · refine ⟨(u, shiftV op u an bn, ⟨#[]⟩, ⟨#[]⟩), dn _ (ev_step ?_), dm _ (tail _ ?_)⟩
          · simp only [spec_MillBinary.j1, Bool.false_eq_true, if_false]
            refine ev_neg a9 (ev_neg a10 (ev_neg a11 (ev_neg a12 (ev_neg a13 (ev_neg a16 ?_)))))
            have hs := shift_spec (op := op) (by omega) h3 ht.2 an bn ha hb Ta Tb
            by_cases b : op = 17
            · exact ev_pos b (ev_bind hs (ev_now _))
            · exact ev_neg b (ev_pos (by omega) (ev_bind hs (ev_now _)))
          · rw [decide_eq_true s]
            exact shift_impl (by omega) h3 ht.2 an bn ax bx ha hb Ta Tb
        · by_cases z : bn = 0
          · refine ⟨(0, 0, ⟨#[]⟩, ⟨#[100, 105, 118, 105, 100, 101]⟩), dn _ (ev_step ?_), dm _ (tail _ ?_)⟩
            · simp only [spec_MillBinary.j1, Bool.false_eq_true, if_false]
              exact ev_neg a9 (ev_neg a10 (ev_neg a11 (ev_neg a12 (ev_neg a13 (ev_neg a16 (ev_neg (by omega) (ev_neg (by omega) (ev_pos z (ev_now _)))))))))
            · rw [decide_eq_false s]
              refine ev_step ?_
              simp only [impl_MillBinary.j2, Bool.false_eq_true, if_false]
              exact ev_pos z (ev_now _)
          · refine ⟨(u, if op = 14 then divQ u an bn else divR u an bn, ⟨#[]⟩, ⟨#[]⟩), dn _ (ev_step ?_), dm _ (tail _ ?_)⟩
            · simp only [spec_MillBinary.j1, Bool.false_eq_true, if_false]
              refine ev_neg a9 (ev_neg a10 (ev_neg a11 (ev_neg a12 (ev_neg a13 (ev_neg a16 (ev_neg (by omega) (ev_neg (by omega) (ev_neg z (ev_bind (divide_spec h3 ht.2 an bn ha hb z) ?_)))))))))
              by_cases q : op = 14
              · exact ev_pos q (ev_eq (ev_now _) (by rw [if_pos q]))
              · exact ev_neg q (ev_eq (ev_now _) (by rw [if_neg q]))
            · rw [decide_eq_false s]
              exact divide_impl h3 ht.2 an bn ax bx ha hb z
theorem bin_ev (op at_ an bt bn : Int) (ax bx : ByteArray) (ha : -9223372036854775808 ≤ an ∧ an ≤ 9223372036854775807) (hb : -9223372036854775808 ≤ bn ∧ bn ≤ 9223372036854775807) (sa : ax.size ≤ 140737488351232) (sb : bx.size ≤ 140737488351232) :
    ∃ r, Ev (fun k => spec_MillBinary.f k op at_ an ax bt bn bx) r ∧ Ev (fun k => impl_MillBinary.f k op at_ an ax bt bn bx) r := by
  have S := spec_type op at_ an bt bn ax bx
  have I := impl_type op at_ an bt bn ax bx
  by_cases Va : vval at_ an ax = true
  · by_cases Vb : vval bt bn bx = true
    · by_cases c1 : op < 1
      · exact ⟨_, ev_val (spec_valid _ _ _) (ev_pos Va (ev_val (spec_valid _ _ _) (ev_pos Vb (ev_pos c1 S)))), ev_val (impl_valid _ _ _) (ev_pos Va (ev_val (impl_valid _ _ _) (ev_pos Vb (ev_pos c1 I))))⟩
      · by_cases c2 : op > 18
        · exact ⟨_, ev_val (spec_valid _ _ _) (ev_pos Va (ev_val (spec_valid _ _ _) (ev_pos Vb (ev_neg c1 (ev_pos c2 S))))), ev_val (impl_valid _ _ _) (ev_pos Va (ev_val (impl_valid _ _ _) (ev_pos Vb (ev_neg c1 (by rw [decide_eq_true c2]; exact I)))))⟩
        · suffices h : ∃ r, Ev (fun n => (spec_l12Bin.f n op at_ bt).bind fun t106 => spec_MillBinary.j0 n op (t106 == 0) at_ an ax bt bn bx) r ∧ Ev (fun k => impl_MillBinary.j0 k op false at_ an ax bt bn bx 0 0 ⟨#[]⟩) r by
            obtain ⟨r, h1, h2⟩ := h
            exact ⟨r, ev_val (spec_valid _ _ _) (ev_pos Va (ev_val (spec_valid _ _ _) (ev_pos Vb (ev_neg c1 (ev_neg c2 h1))))), ev_val (impl_valid _ _ _) (ev_pos Va (ev_val (impl_valid _ _ _) (ev_pos Vb (ev_neg c1 (by rw [decide_eq_false c2]; exact h2)))))⟩
          by_cases ht : at_ = bt
          · subst ht
            have hT := vval_type Va
            by_cases nz : binT op at_ = 0
            · obtain ⟨u, hu, _⟩ := impl_bin op at_ (by omega) (by omega) hT.1 hT.2
              refine ⟨_, ev_bind (spec_bin op at_ (by omega) (by omega) (by omega) hT.2) (by rw [nz]; exact S), ev_step ?_⟩
              simp only [impl_MillBinary.j0, Bool.false_eq_true, if_false, hu, nz, Option.bind_some, not_true, decide_false]
              exact ev_now _
            · obtain ⟨r, h1, h2⟩ := bin_core op at_ an bn ax bx (by omega) (by omega) ha hb sa sb Va Vb nz
              exact ⟨r, ev_bind (spec_bin op at_ (by omega) (by omega) (by omega) hT.2) (by rw [show (binT op at_ == 0) = false from by simpa using nz]; exact h1), h2⟩
          · refine ⟨_, ev_bind (spec_bin_ne op at_ bt ht) S, ev_step ?_⟩
            simp only [impl_MillBinary.j0, Bool.false_eq_true, if_false, impl_bin_ne op at_ bt ht, Option.bind_some]
            exact ev_now _
    · exact ⟨_, ev_val (spec_valid _ _ _) (ev_pos Va (ev_val (spec_valid _ _ _) (ev_neg Vb S))), ev_val (impl_valid _ _ _) (ev_pos Va (ev_val (impl_valid _ _ _) (ev_neg Vb I)))⟩
  · exact ⟨_, ev_val (spec_valid _ _ _) (ev_neg Va S), ev_val (impl_valid _ _ _) (ev_neg Va I)⟩
end Go.Proofs.Ytdpdpigaegabbaa.Q
end
section
namespace Go.Proofs.Ytdpdpigaegabbaa.PureFnExactMillBinary
open Go.RowKit Go.Proofs.Ytdpdpigaegabbaa.Q Go.Proofs.YtdpdpigaegabbaaW.PrintWords
set_option linter.unusedVariables false
set_option linter.unusedSimpArgs false
open Go.Proofs.Ytdpdpigaegabbaa.EvMore
def Statement : Prop := ∀ (a0 : Int) (a1_0 : Int) (a1_1 : Int) (a1_2 : ByteArray) (a2_0 : Int) (a2_1 : Int) (a2_2 : ByteArray), (Lit.int .i64 a0).wf = true → (Lit.int .i64 a1_0).wf = true → (Lit.int .i64 a1_1).wf = true → a1_2.size ≤ 140737488351232 → (Lit.int .i64 a2_0).wf = true → (Lit.int .i64 a2_1).wf = true → a2_2.size ≤ 140737488351232 → ∃ k, laws_FnExactMillBinary.f k a0 a1_0 a1_1 a1_2 a2_0 a2_1 a2_2 = some true
theorem FnExactMillBinary : Statement := by
  intro op a1 a2 a3 b1 b2 b3 _ _ h2 h3 _ g2 g3
  obtain ⟨r, r1, r2⟩ := bin_ev op a1 a2 b1 b2 a3 b3 (wf_i64 h2) (wf_i64 g2) h3 g3
  have sz : ∀ t n s left, ∃ v, laws_szMillValue.f t n s left = some v := by
    intro t n s left
    unfold laws_szMillValue.f
    split <;> exact ⟨_, rfl⟩
  obtain ⟨v, hv⟩ := sz a1 a2 a3 1048576
  obtain ⟨u, hu⟩ := sz b1 b2 b3 v
  have eqv : laws_eqMillValue.f r.1 r.2.1 r.2.2.1 r.1 r.2.1 r.2.2.1 = some true := by simp [laws_eqMillValue.f]
  refine Ev.rounds (ev_val hv ?_)
  by_cases c : v < 0
  · exact ev_pos c (ev_now _)
  · refine ev_neg c (ev_val hu ?_)
    by_cases d : u < 0
    · exact ev_pos d (ev_now _)
    · exact ev_neg d (ev_val rfl (ev_val rfl (ev_bind r1 (ev_val rfl (ev_val rfl (ev_bind r2 (ev_val eqv (ev_pos rfl (ev_pos rfl (ev_now _)))))))))) 
end Go.Proofs.Ytdpdpigaegabbaa.PureFnExactMillBinary
end
