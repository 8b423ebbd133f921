/- What impl.YardTag returns: the empty text at a key that is too long, else eight bytes of the sum over key, a zero byte and body. No condition. -/
import Derived.Test.YtdpdpigaegabbaaQXConv
import Derived.Test.YtdpdpigaegabbaaQf51
namespace Go.Proofs.Ytdpdpigaegabbaa.Q
open Go.RowKit Go.Proofs.YtdpdpigaegabbaaW.PrintWords Go.Proofs.YtdpdpigaegabbaaW.PrintLast Go.Proofs.YtdpdpigaegabbaaW.PrintMore
set_option linter.unusedVariables false
set_option linter.unusedSimpArgs false
def tagStep (h c : Int) : Int := IntKind.u64.wrap ((Go.bits .xor .u64 h c) * 1099511628211)
def tagRun (h : Int) (s : ByteArray) : Nat → Int
  | 0 => h
  | i + 1 => tagStep (tagRun h s i) (bt s (i : Int))
def tagByte (h : Int) (i : Nat) : Int := (shr .u64 h (56 - 8 * (i : Int))) % 256
def tagBytes (h : Int) : ByteArray := strOfNums ((List.range 8).map (tagByte h))
def tagSum (xs : List ByteArray) : Nat → Int
  | 0 => 14695981039346656037
  | j + 1 => tagRun (tagSum xs j) (xs.getD j ByteArray.empty) (xs.getD j ByteArray.empty).size
def impl_YardTag.f (a0 : ByteArray) (a1 : ByteArray) : Option ByteArray := if a1.size ≤ 30 then (if a0.size ≤ 140737488351232 then some (tagBytes (tagSum [a1, ⟨#[0]⟩, a0] 3)) else none) else some (⟨#[]⟩ : ByteArray)
def tagCells (h : Int) (i : Nat) : Array Value := ((List.range 8).map fun j => Value.int .u8 (if j < i then tagByte h j else 0)).toArray
theorem tagCells_at (h : Int) (i : Nat) (hi : i < 8) : (tagCells h i)[i]? = some (.int .u8 0) := by
  unfold tagCells; simp [hi]
theorem tagCells_set (h : Int) (i : Nat) (hi : i < 8) : (tagCells h i).setIfInBounds i (.int .u8 (tagByte h i)) = tagCells h (i + 1) := by
  rcases (by omega : i = 0 ∨ i = 1 ∨ i = 2 ∨ i = 3 ∨ i = 4 ∨ i = 5 ∨ i = 6 ∨ i = 7) with rfl | rfl | rfl | rfl | rfl | rfl | rfl | rfl <;> rfl
theorem tag_put {wr : World} {g T : Nat} {H : Int} {i : Nat} (h : wr.heap[g]? = some (.cells (tagCells H i) T (0, 0))) (hi : i < 8) : (wr.setCell ⟨g, i, none⟩ (.int .u8 (H / 2 ^ (56 - 8 * i) % 256))).heap[g]? = some (.cells (tagCells H (i + 1)) T (0, 0)) := by
  have e : tagByte H i = H / 2 ^ (56 - 8 * i) % 256 := by
    unfold tagByte shr
    have e2 : min (56 - 8 * (i : Int)).toNat IntKind.u64.bits = 56 - 8 * i := by simp only [IntKind.bits]; omega
    rw [e2]
  exact blk_put h i _ (by rw [← e]; exact tagCells_set H i hi)
theorem tag_reads {wr : World} {g T : Nat} {H : Int} (h : wr.heap[g]? = some (.cells (tagCells H 8) T (0, 0))) : (Kd.int .u8).C wr (some ⟨g, 0, none⟩) 8 ((List.range 8).map (tagByte H)) := by
  refine ⟨rfl, by omega, fun _ => ⟨_, rfl, fun j p hp => ⟨[.int .u8 p], rfl, rfl, fun i u hu => ?_⟩⟩⟩
  have hj : j < 8 := by have := (List.getElem?_eq_some_iff.1 hp).1; simpa using this
  cases i with
  | zero =>
    have hu2 : Value.int .u8 p = u := by simpa using hu
    subst hu2
    have hp2 : tagByte H j = p := by simpa [hj] using hp
    have hc := blk_cell h j
    have e : (tagCells H 8)[j]? = some (.int .u8 p) := by unfold tagCells; simp [hj, hp2]
    rw [e] at hc
    cases j <;> simpa [Addr.add, Kd.int, Kd.scalar] using hc
  | succ i => simp at hu
set_option maxHeartbeats 4000000 in
set_option maxRecDepth 100000 in
theorem tag_long (a0 a1 : ByteArray) (w : World) (h : ¬ a1.size ≤ 30) :
    Calls Try.prog 20 #[.string a0, .string a1] w fun e w' => e = .returned (.string ⟨#[]⟩) ∧ Below w.heap.size w w' := by
  have A1 : Aside0 (impl_keyOK.f a1 = some false) := ⟨by unfold impl_keyOK.f; simp; omega⟩
  clear h
  have HB := Aside0.mk (Below.refl w.heap.size w)
  go_enter Try.func20, Try.ntmps20
  go_wp2_with (first | ((with_reducible refine gate_callee (f := 51) rfl ?_); refine goesL_ (some 12) rfl rfl Try.func51 (by kernel_rfl) rfl #[.string a1] rfl (by (try simp only [List.map_toArray, List.map_cons, List.map_nil]); first | done | rfl) ?_; (with_reducible refine (impl_keyOK.calls a1 false _ A1.out).mono ?_); rintro e w' ⟨rfl, ⟨nd, rfl⟩⟩; refine ⟨_, rfl, ?_⟩))
  go_ret
  exact ⟨rfl, by repeat (first | (with_reducible first | exact HB.out | apply below_alloc | apply pw_below_drewN | apply below_drew1) | exact HB.out)⟩
set_option maxHeartbeats 8000000 in
set_option maxRecDepth 100000 in
theorem tag_short (a0 a1 : ByteArray) (w : World) (h : a1.size ≤ 30) (h0 : a0.size ≤ 140737488351232) :
    Calls Try.prog 20 #[.string a0, .string a1] w fun e w' => e = .returned (.string (tagBytes (tagSum [a1, ⟨#[0]⟩, a0] 3))) ∧ Below w.heap.size w w' := by
  have A1 : Aside0 (impl_keyOK.f a1 = some true) := ⟨by unfold impl_keyOK.f; simp; omega⟩
  have S1 : Aside0 (a1.size ≤ 140737488351232) := ⟨by omega⟩
  have S0 := Aside0.mk h0
  have Z : Aside0 ((⟨#[0]⟩ : ByteArray).size ≤ 140737488351232) := ⟨by show (1 : Nat) ≤ _; omega⟩
  have HB := Aside0.mk (Below.refl w.heap.size w)
  clear h h0
  go_enter Try.func20, Try.ntmps20
  go_wp2_with (first | ((with_reducible refine gate_callee (f := 51) rfl ?_); refine goesL_ (some 12) rfl rfl Try.func51 (by kernel_rfl) rfl #[.string a1] rfl (by (try simp only [List.map_toArray, List.map_cons, List.map_nil]); first | done | rfl) ?_; (with_reducible refine (impl_keyOK.calls a1 true _ A1.out).mono ?_); rintro e w' ⟨rfl, ⟨nd, rfl⟩⟩; refine ⟨_, rfl, ?_⟩))
  have hblk := Aside0.mk (blk_new (w.drewN nd) (.cells #[.string a1, .string ⟨#[0]⟩, .string a0] 9 (0, 0)))
  have c0 : ((w.drewN nd).alloc (.cells #[.string a1, .string ⟨#[0]⟩, .string a0] 9)).cell? ⟨w.heap.size, 0, none⟩ = some (.string a1) := (blk_cell (g := w.heap.size) hblk.out 0).trans rfl
  have c1 : ((w.drewN nd).alloc (.cells #[.string a1, .string ⟨#[0]⟩, .string a0] 9)).cell? ⟨w.heap.size, 1, none⟩ = some (.string ⟨#[0]⟩) := (blk_cell (g := w.heap.size) hblk.out 1).trans rfl
  have c2 : ((w.drewN nd).alloc (.cells #[.string a1, .string ⟨#[0]⟩, .string a0] 9)).cell? ⟨w.heap.size, 2, none⟩ = some (.string a0) := (blk_cell (g := w.heap.size) hblk.out 2).trans rfl
  go_loop [5, 18] (fun h j => ∃ (k : Nat) (z : Int), (z = k ∧ k ≤ 3) ∧ j = .int .i64 z ∧ h = .int .u64 (tagSum [a1, ⟨#[0]⟩, a0] k)) (fun _ j => 3 - (intOf j).toNat)
  case atStart => exact ⟨0, 0, by omega, rfl, rfl⟩
  case round =>
    obtain ⟨k, z, ⟨hz, hk⟩, rfl, rfl⟩ := hrel
    rcases (by omega : (k = 0 ∧ z = 0) ∨ (k = 1 ∧ z = 1) ∨ (k = 2 ∧ z = 2) ∨ (k = 3 ∧ z = 3)) with ⟨rfl, rfl⟩ | ⟨rfl, rfl⟩ | ⟨rfl, rfl⟩ | ⟨rfl, rfl⟩ <;> clear hz hk
    · go_wp2
      go_loop [5, 8] (fun h i => ∃ n : Nat, Aside0 (n ≤ (a1 : ByteArray).size) ∧ i = .int .i64 n ∧ h = .int .u64 (tagRun (tagSum [a1, ⟨#[0]⟩, a0] 0) a1 n)) (fun _ i => (a1 : ByteArray).size - (intOf i).toNat)
      case atStart => exact ⟨0, ⟨Nat.zero_le _⟩, rfl, rfl⟩
      case round =>
        obtain ⟨n, HN, rfl, rfl⟩ := hrel
        have hn := HN.out
        have hS := S1.out
        by_cases hlt : n < (a1 : ByteArray).size
        · have hb := bt_at a1 (n : Int)
          have hb2 := bt_range a1 (n : Int)
          simp only [Int.toNat_natCast] at hb
          clear HN hn
          go_wp2
          go_round
          case rel => exact ⟨n + 1, ⟨by omega⟩, by go_num, by first | rfl | (simp [tagRun, tagStep, hb, hlt]; done)⟩
          case measure => simp [intOf]; omega
        · have hn2 : n = (a1 : ByteArray).size := by omega
          clear HN hn
          go_wp2
          go_round
          case rel => exact ⟨1, 1, by omega, rfl, by rw [hn2]; rfl⟩
          case measure => simp [intOf]
    · go_wp2
      go_loop [5, 8] (fun h i => ∃ (n : Nat) (y : Int), (y = n ∧ n ≤ 1) ∧ i = .int .i64 y ∧ h = .int .u64 (tagRun (tagSum [a1, ⟨#[0]⟩, a0] 1) ⟨#[0]⟩ n)) (fun _ i => 1 - (intOf i).toNat)
      case atStart => exact ⟨0, 0, by omega, rfl, rfl⟩
      case round =>
        obtain ⟨n, y, ⟨hy, hn⟩, rfl, rfl⟩ := hrel
        rcases (by omega : (n = 0 ∧ y = 0) ∨ (n = 1 ∧ y = 1)) with ⟨rfl, rfl⟩ | ⟨rfl, rfl⟩ <;> clear hy hn
        · go_wp2
          go_round
          case rel => exact ⟨1, 1, by omega, rfl, rfl⟩
          case measure => simp [intOf]
        · go_wp2
          go_round
          case rel => exact ⟨2, 2, by omega, rfl, rfl⟩
          case measure => simp [intOf]
    · go_wp2
      go_loop [5, 8] (fun h i => ∃ n : Nat, Aside0 (n ≤ (a0 : ByteArray).size) ∧ i = .int .i64 n ∧ h = .int .u64 (tagRun (tagSum [a1, ⟨#[0]⟩, a0] 2) a0 n)) (fun _ i => (a0 : ByteArray).size - (intOf i).toNat)
      case atStart => exact ⟨0, ⟨Nat.zero_le _⟩, rfl, rfl⟩
      case round =>
        obtain ⟨n, HN, rfl, rfl⟩ := hrel
        have hn := HN.out
        have hS := S0.out
        by_cases hlt : n < (a0 : ByteArray).size
        · have hb := bt_at a0 (n : Int)
          have hb2 := bt_range a0 (n : Int)
          simp only [Int.toNat_natCast] at hb
          clear HN hn
          go_wp2
          go_round
          case rel => exact ⟨n + 1, ⟨by omega⟩, by go_num, by first | rfl | (simp [tagRun, tagStep, hb, hlt]; done)⟩
          case measure => simp [intOf]; omega
        · have hn2 : n = (a0 : ByteArray).size := by omega
          clear HN hn
          go_wp2
          go_round
          case rel => exact ⟨3, 3, by omega, rfl, by rw [hn2]; rfl⟩
          case measure => simp [intOf]
    · obtain ⟨H, hH⟩ : ∃ H : Int, tagSum [a1, ⟨#[0]⟩, a0] 3 = H := ⟨_, rfl⟩
      rw [hH]
      have HH := Aside0.mk hH
      clear hH
      go_wp2
      have HB1 : Below w.heap.size w ((w.drewN nd).alloc (.cells #[.string a1, .string ⟨#[0]⟩, .string a0] 9)) := below_alloc (pw_below_drewN (Below.refl _ _) _) _
      have HB2 := Aside0.mk (below_alloc HB1 (.cells (tagCells H 0) 84))
      have hb0 := Aside0.mk (blk_new ((w.drewN nd).alloc (.cells #[.string a1, .string ⟨#[0]⟩, .string a0] 9)) (.cells (tagCells H 0) 84 (0, 0)))
      clear HB1 c0 c1 c2 hblk
      go_loopw [36] (fun i wr => ∃ (k : Nat) (z : Int), (z = k ∧ k ≤ 8) ∧ i = .int .i64 z ∧ Aside0 (wr.heap[w.heap.size + 1]? = some (.cells (tagCells H k) 84 (0, 0))) ∧ Aside0 (Below w.heap.size w wr)) (fun i _ => 8 - (intOf i).toNat)
      case atStart => exact ⟨0, 0, by omega, rfl, ⟨by have h := hb0.out; rw [show ((w.drewN nd).alloc (.cells #[.string a1, .string ⟨#[0]⟩, .string a0] 9)).heap.size = w.heap.size + 1 from by simp [World.alloc]] at h; exact h⟩, HB2⟩
      case round =>
        obtain ⟨k, z, ⟨hz, hk⟩, rfl, hb, HB⟩ := hrel
        rcases (by omega : (k = 8 ∧ z = 8) ∨ (k = 0 ∧ z = 0) ∨ (k = 1 ∧ z = 1) ∨ (k = 2 ∧ z = 2) ∨ (k = 3 ∧ z = 3) ∨ (k = 4 ∧ z = 4) ∨ (k = 5 ∧ z = 5) ∨ (k = 6 ∧ z = 6) ∨ (k = 7 ∧ z = 7)) with ⟨rfl, rfl⟩ | ⟨rfl, rfl⟩ | ⟨rfl, rfl⟩ | ⟨rfl, rfl⟩ | ⟨rfl, rfl⟩ | ⟨rfl, rfl⟩ | ⟨rfl, rfl⟩ | ⟨rfl, rfl⟩ | ⟨rfl, rfl⟩ <;> clear hz hk
        · have hcv := Kd.C_string (P := Try.prog) (c := 8) Try.underlying75 Try.underlying5 Try.underlying9 (tag_reads hb.out)
          go_wp2
          go_ret
          exact ⟨by rw [HH.out]; rfl, HB.out⟩
        all_goals
          have hc0 := blk_cell hb.out 0
          have hc1 := blk_cell hb.out 1
          have hc2 := blk_cell hb.out 2
          have hc3 := blk_cell hb.out 3
          have hc4 := blk_cell hb.out 4
          have hc5 := blk_cell hb.out 5
          have hc6 := blk_cell hb.out 6
          have hc7 := blk_cell hb.out 7
          have hf0 := blk_frozen hb.out 0
          have hf1 := blk_frozen hb.out 1
          have hf2 := blk_frozen hb.out 2
          have hf3 := blk_frozen hb.out 3
          have hf4 := blk_frozen hb.out 4
          have hf5 := blk_frozen hb.out 5
          have hf6 := blk_frozen hb.out 6
          have hf7 := blk_frozen hb.out 7
          simp only [tagCells, List.range, List.range.loop, List.map_cons, List.map_nil, List.getElem?_toArray, List.getElem?_cons_zero, List.getElem?_cons_succ, Nat.reduceLT, if_true, if_false] at hc0 hc1 hc2 hc3 hc4 hc5 hc6 hc7
          go_wp2
          go_roundw
          case rel => first | exact ⟨1, 1, by omega, rfl, ⟨tag_put hb.out (by omega)⟩, ⟨below_set HB.out (Nat.le_succ _)⟩⟩ | exact ⟨2, 2, by omega, rfl, ⟨tag_put hb.out (by omega)⟩, ⟨below_set HB.out (Nat.le_succ _)⟩⟩ | exact ⟨3, 3, by omega, rfl, ⟨tag_put hb.out (by omega)⟩, ⟨below_set HB.out (Nat.le_succ _)⟩⟩ | exact ⟨4, 4, by omega, rfl, ⟨tag_put hb.out (by omega)⟩, ⟨below_set HB.out (Nat.le_succ _)⟩⟩ | exact ⟨5, 5, by omega, rfl, ⟨tag_put hb.out (by omega)⟩, ⟨below_set HB.out (Nat.le_succ _)⟩⟩ | exact ⟨6, 6, by omega, rfl, ⟨tag_put hb.out (by omega)⟩, ⟨below_set HB.out (Nat.le_succ _)⟩⟩ | exact ⟨7, 7, by omega, rfl, ⟨tag_put hb.out (by omega)⟩, ⟨below_set HB.out (Nat.le_succ _)⟩⟩ | exact ⟨8, 8, by omega, rfl, ⟨by have h := tag_put hb.out (by omega); simpa using h⟩, ⟨below_set HB.out (Nat.le_succ _)⟩⟩
          case measure => simp [intOf]
theorem impl_YardTag.calls (a0 : ByteArray) (a1 : ByteArray) (r : ByteArray) (w : World) (h : impl_YardTag.f a0 a1 = some r) :
    Calls Try.prog 20 #[.string a0, .string a1] w fun e w' => e = .returned (.string r) ∧ Below w.heap.size w w' := by
  unfold impl_YardTag.f at h
  split at h
  · split at h
    · obtain rfl := Option.some.inj h
      exact tag_short a0 a1 w ‹_› ‹_›
    · simp at h
  · obtain rfl := Option.some.inj h
    exact tag_long a0 a1 w ‹_›
end Go.Proofs.Ytdpdpigaegabbaa.Q
