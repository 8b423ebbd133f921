/- strings.Builder's WriteString at this program: the shelf's contract, its layings written out (the shelf's own command lays none: the body that it reads names fewer types than the structure). No condition beyond the theorems' own. -/
import Derived.Test.YtfjpkijfoiajaaaProg
import Derived.Test.YtfjpkijfoiajaaaShelf
import Derived.Shelf.Strings.BuilderK
import Derived.Test.YtfjpkijfoiajaaaShort
import Derived.Test.YtfjpkijfoiajaaaQ0
namespace Go.Proofs.Ytfjpkijfoiajaaa.Q
set_option linter.unusedVariables false
set_option linter.unusedSimpArgs false
open Go.Shelf Go.RowKit Go.Proofs Go.Proofs.YtfjpkijfoiajaaaW.PrintWords
def bld_ren : Go.Shelf.Ren := ⟨fun | 166 => 12 | 240 => 18 | 276 => 20 | n => n, fun | 70 => 37 | 9 => 9 | 0 => 0 | 4 => 4 | 20 => 20 | 72 => 39 | 164 => 51 | 37 => 33 | 5 => 5 | 3 => 3 | 75 => 41 | 80 => 44 | n => n, fun | n => n⟩
theorem bld166 : Go.Proofs.Lays.n166 Try.prog bld_ren := {
  mixed := by kernel_rfl
  f166 := Try.func12.trans (congrArg some (by kernel_rfl))
  f240 := Try.func18.trans (congrArg some (by kernel_rfl))
  f276 := Try.func20.trans (congrArg some (by kernel_rfl))
  t0 := Try.underlying0
  a0 := Try.isAgg0
  z0 := Try.sizeOf0
  v0 := Try.zeroValue0
  t3 := Try.underlying3
  a3 := Try.isAgg3
  z3 := Try.sizeOf3
  v3 := Try.zeroValue3
  t4 := Try.underlying4
  a4 := Try.isAgg4
  z4 := Try.sizeOf4
  v4 := Try.zeroValue4
  t9 := Try.underlying9
  a9 := Try.isAgg9
  z9 := Try.sizeOf9
  v9 := Try.zeroValue9
  t20 := Try.underlying20
  a20 := Try.isAgg20
  z20 := Try.sizeOf20
  v20 := Try.zeroValue20
  t37 := Try.underlying33
  a37 := Try.isAgg33
  z37 := Try.sizeOf33
  v37 := Try.zeroValue33
  t70 := Try.underlying37
  a70 := Try.isAgg37
  z70 := Try.sizeOf37
  v70 := Try.zeroValue37
  t72 := Try.underlying39
  a72 := Try.isAgg39
  z72 := Try.sizeOf39
  v72 := Try.zeroValue39
  t75 := Try.underlying41
  a75 := Try.isAgg41
  z75 := Try.sizeOf41
  v75 := Try.zeroValue41
  t164 := Try.underlying51
  a164 := Try.isAgg51
  z164 := Try.sizeOf51
  v164 := Try.zeroValue51 }
theorem bldX : Go.Proofs.Builder.Extra Try.prog bld_ren := {
  sizeBuilder := by kernel_rfl
  liesBuilder := by kernel_rfl
  t5 := Try.underlying5
  a5 := Try.isAgg5
  z5 := Try.sizeOf5
  v5 := Try.zeroValue5
  infoByte := by kernel_rfl
  cellsByte := by kernel_rfl
  sizeByte := by kernel_rfl
  neB5 := by decide }
theorem write_k (B b : Nat) (bs : List Value) (s : ByteArray) (w : World) (h : Lib.IsBuilderF 39 5 B b bs w) (hlen : bs.length + s.size ≤ 140737488355328) (hBw : B ≤ w.heap.size) :
    Calls Try.prog 12 #[.pointer (some ⟨b, 0, none⟩), .string s] w fun e w' => e = .returned (.tuple #[.int .i64 s.size, .nilIface]) ∧ (Lib.BuilderAtF 39 5 B b (.pointer (some ⟨b, 0, none⟩)) (bs ++ Lib.strCells s) w' ∧ Below B w w' ∧ Lib.OthersKept 5 (some b) w w') :=
  Any.Builder_WriteString_k bld166 bldX B b bs s w h hlen hBw
theorem string_k (B b : Nat) (l : List UInt8) (w : World) (h : Lib.IsBuilderF 39 5 B b (Lib.byteCells l) w) (hBw : B ≤ w.heap.size) :
    Calls Try.prog 14 #[.pointer (some ⟨b, 0, none⟩)] w fun e w' => e = .returned (.string ⟨l.toArray⟩) ∧ (Lib.IsBuilderF 39 5 B b (Lib.byteCells l) w' ∧ Below B w w' ∧ Lib.OthersKept 5 (some b) w w') :=
  Any.Builder_String_any_k Try.lays169 Try.Builder_Extra_169 B b l w h hBw
/-- A builder that holds these bytes. -/
def Bd (B : Nat) (w : World) (b : Nat) (xs : List Int) : Prop := (∀ x ∈ xs, 0 ≤ x ∧ x < 256) ∧ Lib.IsBuilderF 39 5 B b (nums .u8 xs) w
section
variable {B b g : Nat} {W W2 : World} {xs : List Int}
theorem bd_block (h : Bd B W b xs) : B ≤ b ∧ ∃ p v, W.heap[b]? = some (.cells #[p, v] 39 (0, 0)) := by
  rcases h.2 with h | h
  · exact ⟨h.1, _, _, h.2.choose_spec.1⟩
  · exact ⟨h.1, _, _, h.2.choose_spec.1⟩
theorem bdF_move {p : Value} {bs : List Value} (h : Lib.BuilderAtF 39 5 B b p bs W) (hm : ∀ (k : Nat) (cs : Array Value) (t : TypeId) (fr : Nat × Nat), W.heap[k]? = some (.cells cs t fr) → t = 39 ∨ t = 5 → W2.heap[k]? = W.heap[k]?) : Lib.BuilderAtF 39 5 B b p bs W2 := by
  obtain ⟨hB, v, hb, ⟨hl, hown⟩, hne⟩ := h
  refine ⟨hB, v, (hm b _ _ _ hb (.inl rfl)).trans hb, ⟨hl, ?_⟩, hne⟩
  rcases hown with hn | ⟨g, cap, cur, fz, hv, hb2, hg, rest⟩
  · exact .inl hn
  · exact .inr ⟨g, cap, cur, fz, hv, hb2, (hm g _ _ _ hg (.inr rfl)).trans hg, rest⟩
theorem bd_move (h : Bd B W b xs) (hm : ∀ (k : Nat) (cs : Array Value) (t : TypeId) (fr : Nat × Nat), W.heap[k]? = some (.cells cs t fr) → t = 39 ∨ t = 5 → W2.heap[k]? = W.heap[k]?) : Bd B W2 b xs :=
  ⟨h.1, h.2.imp (fun h => bdF_move h hm) (fun h => bdF_move h hm)⟩
theorem bd_below (h : Bd B W b xs) (hb : Below W.heap.size W W2) : Bd B W2 b xs := bd_move h (fun k _ _ _ hk _ => hb.block k (blk_lt hk))
theorem bd_alloc (h : Bd B W b xs) (o : Obj) : Bd B (W.alloc o) b xs := bd_below h (below_alloc (Below.refl _ _) o)
theorem bd_drew (h : Bd B W b xs) : Bd B W.drew b xs := h
theorem bd_drewN (h : Bd B W b xs) (n : Nat) : Bd B (W.drewN n) b xs := h
/-- Stores into a block of another type. -/
theorem bd_one {cs : Array Value} {t : TypeId} (h : Bd B W b xs) (hg : W.heap[g]? = some (.cells cs t (0, 0))) (ht : t ≠ 39 ∧ t ≠ 5) (hk : ∀ k, k ≠ g → W2.heap[k]? = W.heap[k]?) : Bd B W2 b xs :=
  bd_move h (fun k _ t2 _ hk2 ht2 => hk k (fun e => by
    subst e
    rw [hg] at hk2
    injection hk2 with hk2
    injection hk2 with _ e2 _
    subst e2
    rcases ht2 with e | e
    · exact ht.1 e
    · exact ht.2 e))
theorem strs_nums (s : ByteArray) : Lib.strCells s = nums .u8 (bytesOf s) := by
  unfold Lib.strCells nums Go.Proofs.YtfjpkijfoiajaaaW.PrintWords.bytesOf
  rw [List.map_map]
  rfl
theorem bytesOf_range (s : ByteArray) : ∀ x ∈ Go.Proofs.YtfjpkijfoiajaaaW.PrintWords.bytesOf s, 0 ≤ x ∧ x < 256 := by
  intro x hx
  obtain ⟨c, _, rfl⟩ := List.mem_map.1 hx
  exact ⟨Int.natCast_nonneg _, by have := UInt8.toNat_lt c; omega⟩
theorem bd_put {s : ByteArray} (h : Bd B W b xs) (hp : Lib.BuilderAtF 39 5 B b (.pointer (some ⟨b, 0, none⟩)) (nums .u8 xs ++ Lib.strCells s) W2) : Bd B W2 b (xs ++ Go.Proofs.YtfjpkijfoiajaaaW.PrintWords.bytesOf s) := by
  refine ⟨fun x hx => ?_, .inr ?_⟩
  · rcases List.mem_append.1 hx with hx | hx
    · exact h.1 x hx
    · exact bytesOf_range s x hx
  · rw [strs_nums] at hp
    unfold nums at hp ⊢
    rw [List.map_append]
    exact hp
/-- What is no builder and no row of bytes is kept. -/
theorem bk_kept {cs : Array Value} {t : TypeId} (h : Bd B W b xs) (hg : Aside0 (W.heap[g]? = some (.cells cs t (0, 0)))) (ht : t ≠ 39 ∧ t ≠ 5) (hk : Lib.OthersKept 5 (some b) W W2) : Aside0 (W2.heap[g]? = some (.cells cs t (0, 0))) := ⟨by
  obtain ⟨_, p, v, hb⟩ := bd_block h
  refine hk g _ hg.out (fun e => ?_) (fun c fz e => ?_)
  · injection e with e
    subst e
    rw [hg.out] at hb
    injection hb with hb
    injection hb with _ e2 _
    exact ht.1 e2
  · injection e with _ e2 _
    exact ht.2 e2⟩
theorem bd_fresh (hB : B ≤ b) (hb : W.heap[b]? = some (.cells #[.pointer none, .slice none 0 0] 39 (0, 0))) : Bd B W b [] :=
  ⟨fun _ h => by simp at h, .inl ⟨hB, .slice none 0 0, hb, World.ownsRowF_nil _ _ _ _, by simp [Value.ownBlock]⟩⟩
/-- WriteString at such a builder. -/
theorem bd_write (s : ByteArray) (h : Bd B W b xs) (hlen : xs.length + s.size ≤ 140737488355328) (hBw : B ≤ W.heap.size) :
    Calls Try.prog 12 #[.pointer (some ⟨b, 0, none⟩), .string s] W fun e w' => ∃ v, e = .returned v ∧ Bd B w' b (xs ++ Go.Proofs.YtfjpkijfoiajaaaW.PrintWords.bytesOf s) ∧ Below B W w' ∧ Lib.OthersKept 5 (some b) W w' := by
  refine (write_k B b (nums .u8 xs) s W h.2 (by unfold nums; rw [List.length_map]; exact hlen) hBw).mono ?_
  rintro e w' ⟨rfl, h1, h2, h3⟩
  exact ⟨_, rfl, bd_put h h1, h2, h3⟩
theorem bd_string (h : Bd B W b xs) (hBw : B ≤ W.heap.size) :
    Calls Try.prog 14 #[.pointer (some ⟨b, 0, none⟩)] W fun e w' => e = .returned (.string (strOfNums xs)) ∧ Below B W w' := by
  obtain ⟨l, rfl⟩ : ∃ l : List UInt8, xs = l.map fun c => (c.toNat : Int) := by
    refine ⟨xs.map fun x => UInt8.ofNat x.toNat, ?_⟩
    have hx := h.1
    clear h
    induction xs with
    | nil => rfl
    | cons x r ih =>
      have h0 := hx x List.mem_cons_self
      have e : ((UInt8.ofNat x.toNat).toNat : Int) = x := by
        have h1 : x.toNat < 256 := by omega
        have h2 : (UInt8.ofNat x.toNat).toNat = x.toNat := by simp [Nat.mod_eq_of_lt h1]
        rw [h2]
        omega
      simp only [List.map_cons, e]
      rw [← ih (fun y hy => hx y (List.mem_cons_of_mem _ hy))]
  refine (string_k B b l W ?_ hBw).mono ?_
  · have := h.2
    unfold nums at this
    rw [List.map_map] at this
    exact this
  · rintro e w' ⟨rfl, _, h2, _⟩
    refine ⟨?_, h2⟩
    have e : strOfNums (l.map fun c => (c.toNat : Int)) = ⟨l.toArray⟩ := by
      unfold strOfNums
      rw [List.map_map]
      have e0 : (l.map ((fun n : Int => UInt8.ofNat n.toNat) ∘ fun c => (c.toNat : Int))) = l := by
        conv => rhs; rw [← List.map_id l]
        exact List.map_congr_left (fun c _ => by simp)
      rw [e0]
    rw [e]
end
end Go.Proofs.Ytfjpkijfoiajaaa.Q
