/- A plan's text: program and reference write the same. The plan's texts and lists are at most 2^20 together. -/
import Derived.Test.YtfjpkijfoiajaaaQPQuote
import Derived.Test.YtfjpkijfoiajaaaQPL
import Derived.Test.YtfjpkijfoiajaaaQf5
import Derived.Test.YtfjpkijfoiajaaaQXPlan
namespace Go.Proofs.Ytfjpkijfoiajaaa.Q
open Go.RowKit Go.Proofs.YtfjpkijfoiajaaaW.PrintWords Go.Proofs.YtfjpkijfoiajaaaW.PrintLast Go.Proofs.YtfjpkijfoiajaaaW.PrintMore Go.Proofs.Ytfjpkijfoiajaaa.EvMore
set_option linter.unusedVariables false
set_option linter.unusedSimpArgs false
def wtS (l : List ByteArray) : Nat := (l.map fun s => s.size + 1).sum
def wtT (x : S34) : Nat := x.f0.size + x.f1.size + x.f2.size + wtS x.f3 + wtS x.f4 + 1
def wtL (l : List S34) : Nat := (l.map wtT).sum
theorem wtS_cons (s : ByteArray) (l : List ByteArray) : wtS (s :: l) = s.size + 1 + wtS l := by simp [wtS]
theorem wtS_mem {s : ByteArray} : ∀ {l : List ByteArray}, s ∈ l → s.size + 1 ≤ wtS l
  | y :: r, h => by
    rw [wtS_cons]
    rcases List.mem_cons.1 h with rfl | h
    · omega
    · have := wtS_mem h; omega
theorem wtL_cons (x : S34) (l : List S34) : wtL (x :: l) = wtT x + wtL l := by simp [wtL]
theorem bytesOf_len (s : ByteArray) : (bytesOf s).length = s.size := by simp [bytesOf]
theorem ba2 (a b c : ByteArray) : ((a ++ b) ++ c).size = a.size + b.size + c.size := by simp [ByteArray.size_append]
theorem outs_loop (l : List S34) (f0 f1 f2 : ByteArray) (f3 f4 : List ByteArray) (x4 : Int) (hz : f4.length ≤ 4194304) (hs : ∀ s ∈ f4, s.size ≤ 4194304) : ∀ (suf pre : List ByteArray) (acc : List Int), f4 = pre ++ suf → acc.length + 7 * wtS suf ≤ 100000000 →
    ∃ acc2 : List Int, acc2.length ≤ acc.length + 7 * wtS suf ∧ ∀ r, (Ev (fun k => spec_ClayFormPlan.l0 k l acc2 (wrap64 (x4 + 1))) r → Ev (fun k => spec_ClayFormPlan.l2 k l acc x4 (pre.length : Int) f0 f1 f2 f3 f4) r) ∧
      (Ev (fun k => impl_ClayFormPlan.l0 k l acc2 (wrap64 (x4 + 1))) r → Ev (fun k => impl_ClayFormPlan.l2 k l acc x4 (pre.length : Int) f0 f1 f2 f3 f4) r)
  | [], pre, acc, ha, hl => by
    have hlen : pre.length = f4.length := by rw [ha]; simp
    exact ⟨acc, by omega, fun r => ⟨fun h => ev_step (ev_neg (by omega) h), fun h => ev_step (ev_neg (by omega) h)⟩⟩
  | y :: t, pre, acc, ha, hl => by
    have hlen : f4.length = pre.length + (t.length + 1) := by rw [ha]; simp
    have e := succ64 (i := pre.length) (n := f4.length) (by omega) (by omega)
    have hr : rdOf ByteArray.empty f4 (pre.length : Int) = y := by rw [rdB_at f4 pre.length (by omega)]; simp [ha]
    have hys := hs y (by rw [ha]; simp)
    rw [wtS_cons] at hl ⊢
    obtain ⟨q, q0, q1, q2⟩ := quote_ev y hys
    have z1 : (((⟨#[32, 32, 62, 32]⟩ : ByteArray) ++ q) ++ (⟨#[10]⟩ : ByteArray)).size = 4 + q.size + 1 := ba2 _ _ _
    have z2 : ((⟨#[32, 32, 62, 32]⟩ : ByteArray) ++ q).size = 4 + q.size := ByteArray.size_append
    have zb := bytesOf_len (((⟨#[32, 32, 62, 32]⟩ : ByteArray) ++ q) ++ (⟨#[10]⟩ : ByteArray))
    obtain ⟨acc2, a1, a2⟩ := outs_loop l f0 f1 f2 f3 f4 x4 hz hs t (pre ++ [y]) (acc ++ bytesOf (((⟨#[32, 32, 62, 32]⟩ : ByteArray) ++ q) ++ (⟨#[10]⟩ : ByteArray))) (by rw [ha]; simp) (by rw [List.length_append, zb, z1]; omega)
    rw [List.length_append, zb, z1] at a1
    simp only [List.length_append, List.length_cons, List.length_nil] at a2
    refine ⟨acc2, by omega, fun r => ⟨fun h => ?_, fun h => ?_⟩⟩
    · refine ev_step (ev_pos (by omega) (ev_pos (by omega) (ev_bind (by rw [hr]; exact q1) (ev_pos (by omega) (ev_pos (by rw [z2]; omega) (ev_pos (by rw [z1]; omega) ?_))))))
      simp only [e]
      exact (a2 r).1 h
    · refine ev_step (ev_pos (by omega) (ev_pos (by omega) (ev_bind (by rw [hr]; exact q2) (ev_pos (by omega) (ev_pos (by rw [z2]; omega) (ev_pos (by rw [z1]; omega) ?_))))))
      simp only [e]
      exact (a2 r).2 h
theorem ins_loop (l : List S34) (f0 f1 f2 : ByteArray) (f3 f4 : List ByteArray) (x4 : Int) (hz : f3.length ≤ 4194304) (hs : ∀ s ∈ f3, s.size ≤ 4194304) : ∀ (suf pre : List ByteArray) (acc : List Int), f3 = pre ++ suf → acc.length + 7 * wtS suf ≤ 100000000 →
    ∃ acc2 : List Int, acc2.length ≤ acc.length + 7 * wtS suf ∧ ∀ r, (Ev (fun k => spec_ClayFormPlan.l2 k l acc2 x4 0 f0 f1 f2 f3 f4) r → Ev (fun k => spec_ClayFormPlan.l1 k l acc x4 (pre.length : Int) f0 f1 f2 f3 f4) r) ∧
      (Ev (fun k => impl_ClayFormPlan.l2 k l acc2 x4 0 f0 f1 f2 f3 f4) r → Ev (fun k => impl_ClayFormPlan.l1 k l acc x4 (pre.length : Int) f0 f1 f2 f3 f4) r)
  | [], pre, acc, ha, hl => by
    have hlen : pre.length = f3.length := by rw [ha]; simp
    exact ⟨acc, by omega, fun r => ⟨fun h => ev_step (ev_neg (by omega) h), fun h => ev_step (ev_neg (by omega) h)⟩⟩
  | y :: t, pre, acc, ha, hl => by
    have hlen : f3.length = pre.length + (t.length + 1) := by rw [ha]; simp
    have e := succ64 (i := pre.length) (n := f3.length) (by omega) (by omega)
    have hr : rdOf ByteArray.empty f3 (pre.length : Int) = y := by rw [rdB_at f3 pre.length (by omega)]; simp [ha]
    have hys := hs y (by rw [ha]; simp)
    rw [wtS_cons] at hl ⊢
    obtain ⟨q, q0, q1, q2⟩ := quote_ev y hys
    have z1 : (((⟨#[32, 32, 60, 32]⟩ : ByteArray) ++ q) ++ (⟨#[10]⟩ : ByteArray)).size = 4 + q.size + 1 := ba2 _ _ _
    have z2 : ((⟨#[32, 32, 60, 32]⟩ : ByteArray) ++ q).size = 4 + q.size := ByteArray.size_append
    have zb := bytesOf_len (((⟨#[32, 32, 60, 32]⟩ : ByteArray) ++ q) ++ (⟨#[10]⟩ : ByteArray))
    obtain ⟨acc2, a1, a2⟩ := ins_loop l f0 f1 f2 f3 f4 x4 hz hs t (pre ++ [y]) (acc ++ bytesOf (((⟨#[32, 32, 60, 32]⟩ : ByteArray) ++ q) ++ (⟨#[10]⟩ : ByteArray))) (by rw [ha]; simp) (by rw [List.length_append, zb, z1]; omega)
    rw [List.length_append, zb, z1] at a1
    simp only [List.length_append, List.length_cons, List.length_nil] at a2
    refine ⟨acc2, by omega, fun r => ⟨fun h => ?_, fun h => ?_⟩⟩
    · refine ev_step (ev_pos (by omega) (ev_pos (by omega) (ev_bind (by rw [hr]; exact q1) (ev_pos (by omega) (ev_pos (by rw [z2]; omega) (ev_pos (by rw [z1]; omega) ?_))))))
      simp only [e]
      exact (a2 r).1 h
    · refine ev_step (ev_pos (by omega) (ev_pos (by omega) (ev_bind (by rw [hr]; exact q2) (ev_pos (by omega) (ev_pos (by rw [z2]; omega) (ev_pos (by rw [z1]; omega) ?_))))))
      simp only [e]
      exact (a2 r).2 h
theorem wt_in {x : S34} : ∀ {l : List S34}, x ∈ l → wtT x ≤ wtL l
  | y :: r, h => by
    rw [wtL_cons]
    rcases List.mem_cons.1 h with rfl | h
    · omega
    · have := wt_in h; omega
theorem wtS_len (l : List ByteArray) : l.length ≤ wtS l := by
  induction l with
  | nil => simp
  | cons y r ih => rw [wtS_cons, List.length_cons]; omega
theorem wtL_len (l : List S34) : l.length ≤ wtL l := by
  induction l with
  | nil => simp
  | cons y r ih => rw [wtL_cons, List.length_cons]; unfold wtT; omega
set_option maxHeartbeats 1000000 in
theorem plan_loop (l : List S34) (hw : wtL l ≤ 1048576) : ∀ (suf pre : List S34) (acc : List Int), l = pre ++ suf → acc.length + 14 * wtL suf ≤ 100000000 →
    ∃ q : ByteArray, Ev (fun k => spec_ClayFormPlan.l0 k l acc (pre.length : Int)) q ∧ Ev (fun k => impl_ClayFormPlan.l0 k l acc (pre.length : Int)) q
  | [], pre, acc, ha, hl => by
    have hlen : pre.length = l.length := by rw [ha]; simp
    exact ⟨_, ev_step (ev_neg (by omega) (ev_now _)), ev_step (ev_neg (by omega) (ev_now _))⟩
  | y :: t, pre, acc, ha, hl => by
    have hlen : l.length = pre.length + (t.length + 1) := by rw [ha]; simp
    have hll := wtL_len l
    have e := succ64 (i := pre.length) (n := l.length) (by omega) (by omega)
    have hr : rd_T34 l (pre.length : Int) = y := by rw [rdS34_at l pre.length (by omega)]; simp [ha]
    have hyw : wtT y ≤ 1048576 := Nat.le_trans (wt_in (by rw [ha]; simp)) hw
    have hyw2 := hyw
    unfold wtT at hyw2
    have g3 := wtS_len y.f3
    have g4 := wtS_len y.f4
    rw [wtL_cons] at hl
    have hl2 := hl
    unfold wtT at hl2
    obtain ⟨a, a0, a1, a2⟩ := quote_ev y.f0 (by omega)
    obtain ⟨b, b0, b1, b2⟩ := quote_ev y.f1 (by omega)
    obtain ⟨c, c0, c1, c2⟩ := quote_ev y.f2 (by omega)
    have s1 : (a ++ (⟨#[58, 32]⟩ : ByteArray)).size = a.size + 2 := ByteArray.size_append
    have s2 : ((a ++ (⟨#[58, 32]⟩ : ByteArray)) ++ b).size = a.size + 2 + b.size := by rw [ByteArray.size_append, s1]
    have s3 : (((a ++ (⟨#[58, 32]⟩ : ByteArray)) ++ b) ++ (⟨#[32]⟩ : ByteArray)).size = a.size + 2 + b.size + 1 := by rw [ByteArray.size_append, s2]; rfl
    have s4 : ((((a ++ (⟨#[58, 32]⟩ : ByteArray)) ++ b) ++ (⟨#[32]⟩ : ByteArray)) ++ c).size = a.size + 2 + b.size + 1 + c.size := by rw [ByteArray.size_append, s3]
    have s5 : (((((a ++ (⟨#[58, 32]⟩ : ByteArray)) ++ b) ++ (⟨#[32]⟩ : ByteArray)) ++ c) ++ (⟨#[10]⟩ : ByteArray)).size = a.size + 2 + b.size + 1 + c.size + 1 := by rw [ByteArray.size_append, s4]; rfl
    have zb := bytesOf_len (((((a ++ (⟨#[58, 32]⟩ : ByteArray)) ++ b) ++ (⟨#[32]⟩ : ByteArray)) ++ c) ++ (⟨#[10]⟩ : ByteArray))
    obtain ⟨line, hline⟩ : ∃ z, z = acc ++ bytesOf (((((a ++ (⟨#[58, 32]⟩ : ByteArray)) ++ b) ++ (⟨#[32]⟩ : ByteArray)) ++ c) ++ (⟨#[10]⟩ : ByteArray)) := ⟨_, rfl⟩
    have lz : line.length = acc.length + (a.size + 2 + b.size + 1 + c.size + 1) := by rw [hline, List.length_append, zb, s5]
    obtain ⟨m1, m1l, m1e⟩ := ins_loop l y.f0 y.f1 y.f2 y.f3 y.f4 (pre.length : Int) (by omega) (fun s hs => by have := wtS_mem hs; omega) y.f3 [] line rfl (by omega)
    obtain ⟨m2, m2l, m2e⟩ := outs_loop l y.f0 y.f1 y.f2 y.f3 y.f4 (pre.length : Int) (by omega) (fun s hs => by have := wtS_mem hs; omega) y.f4 [] m1 rfl (by omega)
    obtain ⟨q, q1, q2⟩ := plan_loop l hw t (pre ++ [y]) m2 (by rw [ha]; simp) (by omega)
    simp only [List.length_append, List.length_cons, List.length_nil] at q1 q2
    refine ⟨q, ev_step (ev_pos (by omega) (ev_pos (by omega) (ev_bind (by rw [hr]; exact a1) (ev_pos (by omega) (ev_bind (by rw [hr]; exact b1) (ev_pos (by rw [s1]; omega) (ev_pos (by rw [s2]; omega) (ev_bind (by rw [hr]; exact c1) (ev_pos (by rw [s3]; omega) (ev_pos (by rw [s4]; omega) (ev_pos (by rw [s5]; omega) ?_))))))))))), ev_step (ev_pos (by omega) (ev_pos (by omega) (ev_bind (by rw [hr]; exact a2) (ev_pos (by omega) (ev_bind (by rw [hr]; exact b2) (ev_pos (by rw [s1]; omega) (ev_pos (by rw [s2]; omega) (ev_bind (by rw [hr]; exact c2) (ev_pos (by rw [s3]; omega) (ev_pos (by rw [s4]; omega) (ev_pos (by rw [s5]; omega) ?_)))))))))))⟩
    · simp only [hr, ← hline]
      exact (m1e q).1 ((m2e q).1 (by simp only [e]; exact q1))
    · simp only [hr, ← hline]
      exact (m1e q).2 ((m2e q).2 (by simp only [e]; exact q2))
theorem plan_ev (l : List S34) (hw : wtL l ≤ 1048576) : ∃ q : ByteArray, Ev (fun k => spec_ClayFormPlan.f k l) q ∧ Ev (fun k => impl_ClayFormPlan.f k l) q := plan_loop l hw l [] [] rfl (by simp; omega)
/-! ### What the law's own count of sizes tells -/
theorem szStr_l0 (l : List ByteArray) (hl : l.length ≤ 8796093022208) (hs : ∀ x ∈ l, x.size ≤ 140737488351232) : ∀ (suf pre : List ByteArray) (a : Int), l = pre ++ suf → 0 ≤ a → a ≤ 1048576 →
    ∃ v, Ev (fun k => laws_szStringS.l0 k l a (pre.length : Int)) v ∧ (0 ≤ v → v + (wtS suf : Int) = a + suf.length)
  | [], pre, a, ha, h0, h1 => by
    have hlen : pre.length = l.length := by rw [ha]; simp
    exact ⟨a, ev_step (ev_neg (by omega) (ev_now _)), fun _ => by simp [wtS]⟩
  | y :: t, pre, a, ha, h0, h1 => by
    have hlen : l.length = pre.length + (t.length + 1) := by rw [ha]; simp
    have e := succ64 (i := pre.length) (n := l.length) (by omega) (by omega)
    have hr : rdOf ByteArray.empty l (pre.length : Int) = y := by rw [rdB_at l pre.length (by omega)]; simp [ha]
    have hys := hs y (by rw [ha]; simp)
    have w : wrap64 (a - (y.size : Int)) = a - (y.size : Int) := id64 (by omega) (by omega)
    rw [wtS_cons]
    by_cases c : a - (y.size : Int) < 0
    · exact ⟨-1, ev_step (ev_pos (by omega) (ev_pos (by omega) (ev_pos (by rw [hr, w]; exact c) (ev_now _)))), fun h => absurd h (by omega)⟩
    · obtain ⟨v, v1, v2⟩ := szStr_l0 l hl hs t (pre ++ [y]) (a - (y.size : Int)) (by rw [ha]; simp) (by omega) (by omega)
      simp only [List.length_append, List.length_cons, List.length_nil] at v1
      refine ⟨v, ev_step (ev_pos (by omega) (ev_pos (by omega) (ev_neg (by rw [hr, w]; exact c) ?_))), fun h => by have := v2 h; simp only [List.length_cons]; omega⟩
      simp only [hr, w, e]
      exact v1
theorem szStr (l : List ByteArray) (hl : l.length ≤ 8796093022208) (hs : ∀ x ∈ l, x.size ≤ 140737488351232) (a : Int) (h0 : 0 ≤ a) (h1 : a ≤ 1048576) : ∃ v, Ev (fun k => laws_szStringS.f k l a) v ∧ v ≤ 1048576 ∧ (0 ≤ v → v + (wtS l : Int) = a) := by
  have w : wrap64 (a - (l.length : Int)) = a - (l.length : Int) := id64 (by omega) (by omega)
  by_cases c : a - (l.length : Int) < 0
  · exact ⟨-1, ev_pos (by rw [w]; exact c) (ev_now _), by omega, fun h => absurd h (by omega)⟩
  · obtain ⟨v, v1, v2⟩ := szStr_l0 l hl hs l [] (a - (l.length : Int)) rfl (by omega) (by omega)
    refine ⟨v, ev_neg (by rw [w]; exact c) (by rw [w]; exact v1), ?_, fun h => by have := v2 h; omega⟩
    by_cases h : 0 ≤ v
    · have := v2 h; have := wtS_len l; omega
    · omega
theorem szT (x : S32) (hx : x.f0.size ≤ 140737488351232 ∧ x.f1.size ≤ 140737488351232 ∧ x.f2.size ≤ 140737488351232 ∧ (x.f3.length ≤ 8796093022208 ∧ ∀ y ∈ x.f3, y.size ≤ 140737488351232) ∧ x.f4.length ≤ 8796093022208 ∧ ∀ y ∈ x.f4, y.size ≤ 140737488351232) (a : Int) (h0 : 0 ≤ a) (h1 : a ≤ 1048576) :
    ∃ v, Ev (fun k => laws_szClayTarget.f k x.f0 x.f1 x.f2 x.f3 x.f4 a) v ∧ v ≤ 1048576 ∧ (0 ≤ v → v + (wtT (to_ClayTargetS_ x) : Int) = a + 1) := by
  obtain ⟨x0, x1, x2, ⟨x3, y3⟩, x4, y4⟩ := hx
  have w0 : wrap64 (a - (x.f0.size : Int)) = a - (x.f0.size : Int) := id64 (by omega) (by omega)
  by_cases c0 : a - (x.f0.size : Int) < 0
  · exact ⟨-1, ev_pos (by rw [w0]; exact c0) (ev_now _), by omega, fun h => absurd h (by omega)⟩
  have w1 : wrap64 (a - (x.f0.size : Int) - (x.f1.size : Int)) = a - (x.f0.size : Int) - (x.f1.size : Int) := id64 (by omega) (by omega)
  by_cases c1 : a - (x.f0.size : Int) - (x.f1.size : Int) < 0
  · exact ⟨-1, ev_neg (by rw [w0]; exact c0) (ev_pos (by rw [w0, w1]; exact c1) (ev_now _)), by omega, fun h => absurd h (by omega)⟩
  have w2 : wrap64 (a - (x.f0.size : Int) - (x.f1.size : Int) - (x.f2.size : Int)) = a - (x.f0.size : Int) - (x.f1.size : Int) - (x.f2.size : Int) := id64 (by omega) (by omega)
  by_cases c2 : a - (x.f0.size : Int) - (x.f1.size : Int) - (x.f2.size : Int) < 0
  · exact ⟨-1, ev_neg (by rw [w0]; exact c0) (ev_neg (by rw [w0, w1]; exact c1) (ev_pos (by rw [w0, w1, w2]; exact c2) (ev_now _))), by omega, fun h => absurd h (by omega)⟩
  obtain ⟨v, v1, v2, v3⟩ := szStr x.f3 x3 y3 (a - (x.f0.size : Int) - (x.f1.size : Int) - (x.f2.size : Int)) (by omega) (by omega)
  by_cases c3 : v < 0
  · exact ⟨-1, ev_neg (by rw [w0]; exact c0) (ev_neg (by rw [w0, w1]; exact c1) (ev_neg (by rw [w0, w1, w2]; exact c2) (ev_bind (by rw [w0, w1, w2]; exact v1) (ev_pos c3 (ev_now _))))), by omega, fun h => absurd h (by omega)⟩
  obtain ⟨u, u1, u2, u3⟩ := szStr x.f4 x4 y4 v (by omega) (by omega)
  by_cases c4 : u < 0
  · exact ⟨-1, ev_neg (by rw [w0]; exact c0) (ev_neg (by rw [w0, w1]; exact c1) (ev_neg (by rw [w0, w1, w2]; exact c2) (ev_bind (by rw [w0, w1, w2]; exact v1) (ev_neg c3 (ev_bind u1 (ev_pos c4 (ev_now _))))))), by omega, fun h => absurd h (by omega)⟩
  refine ⟨u, ev_neg (by rw [w0]; exact c0) (ev_neg (by rw [w0, w1]; exact c1) (ev_neg (by rw [w0, w1, w2]; exact c2) (ev_bind (by rw [w0, w1, w2]; exact v1) (ev_neg c3 (ev_bind u1 (ev_neg c4 (ev_now _))))))), u2, fun h => ?_⟩
  have e1 := v3 (by omega)
  have e2 := u3 h
  unfold wtT to_ClayTargetS_
  simp only
  omega
def GT (x : S32) : Prop := x.f0.size ≤ 140737488351232 ∧ x.f1.size ≤ 140737488351232 ∧ x.f2.size ≤ 140737488351232 ∧ (x.f3.length ≤ 8796093022208 ∧ ∀ y ∈ x.f3, y.size ≤ 140737488351232) ∧ x.f4.length ≤ 8796093022208 ∧ ∀ y ∈ x.f4, y.size ≤ 140737488351232
theorem szTS_l0 (l : List S32) (hl : l.length ≤ 1466015503701) (hx : ∀ x ∈ l, GT x) : ∀ (suf pre : List S32) (a : Int), l = pre ++ suf → 0 ≤ a → a ≤ 1048576 →
    ∃ v, Ev (fun k => laws_szClayTargetS.l0 k l a (pre.length : Int)) v ∧ (0 ≤ v → v + (wtL (suf.map to_ClayTargetS_) : Int) = a + suf.length)
  | [], pre, a, ha, h0, h1 => by
    have hlen : pre.length = l.length := by rw [ha]; simp
    exact ⟨a, ev_step (ev_neg (by omega) (ev_now _)), fun _ => by simp [wtL]⟩
  | y :: t, pre, a, ha, h0, h1 => by
    have hlen : l.length = pre.length + (t.length + 1) := by rw [ha]; simp
    have e := succ64 (i := pre.length) (n := l.length) (by omega) (by omega)
    have hr : rd_T32 l (pre.length : Int) = y := by rw [rdS32_at l pre.length (by omega)]; simp [ha]
    obtain ⟨v, v1, v2, v3⟩ := szT y (hx y (by rw [ha]; simp)) a h0 h1
    rw [List.map_cons, wtL_cons]
    by_cases c : v < 0
    · exact ⟨-1, ev_step (ev_pos (by omega) (ev_pos (by omega) (ev_bind (by rw [hr]; exact v1) (ev_pos c (ev_now _))))), fun h => absurd h (by omega)⟩
    · obtain ⟨u, u1, u2⟩ := szTS_l0 l hl hx t (pre ++ [y]) v (by rw [ha]; simp) (by omega) v2
      simp only [List.length_append, List.length_cons, List.length_nil] at u1
      refine ⟨u, ev_step (ev_pos (by omega) (ev_pos (by omega) (ev_bind (by rw [hr]; exact v1) (ev_neg c ?_)))), fun h => by have := u2 h; have := v3 (by omega); simp only [List.length_cons]; omega⟩
      simp only [e]
      exact u1
theorem szTS (l : List S32) (hl : l.length ≤ 1466015503701) (hx : ∀ x ∈ l, GT x) : ∃ v, Ev (fun k => laws_szClayTargetS.f k l 1048576) v ∧ (0 ≤ v → wtL (l.map to_ClayTargetS_) ≤ 1048576) := by
  have w : wrap64 (1048576 - (l.length : Int)) = 1048576 - (l.length : Int) := id64 (by omega) (by omega)
  by_cases c : 1048576 - (l.length : Int) < 0
  · exact ⟨-1, ev_pos (by rw [w]; exact c) (ev_now _), fun h => absurd h (by omega)⟩
  · obtain ⟨v, v1, v2⟩ := szTS_l0 l hl hx l [] (1048576 - (l.length : Int)) rfl (by omega) (by omega)
    exact ⟨v, ev_neg (by rw [w]; exact c) (by rw [w]; exact v1), fun h => by have := v2 h; omega⟩
end Go.Proofs.Ytfjpkijfoiajaaa.Q
