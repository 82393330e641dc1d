/-
  account's store as one thing: what it holds, where, and what leaves it as it is.
-/
import Derived.Test.YtinpgejkkfpckaaHSum
import Derived.Test.YtinpgejkkfpckaaQ1
namespace Go.Proofs.Ytinpgejkkfpckaa.Pr
open Go.RowKit Go.Proofs.YtinpgejkkfpckaaW.PrintWords Go.Proofs.YtinpgejkkfpckaaW.PrintLast Go.Proofs.YtinpgejkkfpckaaW.PrintMore Go.Proofs.YtinpgejkkfpckaaG
set_option linter.unusedVariables false
set_option linter.unusedSimpArgs false
/-- Block s is a store that knows the events P (in the order in which they came), its ids these; all it is made of is ok. -/
def St (w : World) (base : Nat) (ok : Nat → Prop) (s : Nat) (P : List Past) (ids : List Int) : Prop :=
  ∃ m v, ok s ∧ ok m ∧ m ≠ s ∧ base ≤ s ∧ base ≤ m ∧ w.heap[s]? = some (.cells #[.map (some m), v] 70 (0, 0)) ∧ MapP w m P ∧ Kd.R (Kd.int .i64) 3 w base (fun k => ok k ∧ k ≠ s ∧ k ≠ m) v ids
/-- Nothing but what is ok has turned. -/
structure Off (w w' : World) (ok : Nat → Prop) : Prop where
  os : w'.os = w.os
  tape : w'.tape = w.tape
  output : w'.output = w.output
  size : w.heap.size ≤ w'.heap.size
  block : ∀ k, k < w.heap.size → ¬ ok k → w'.heap[k]? = w.heap[k]?
theorem MapP.lt {w : World} {m : Nat} {P : List Past} (h : MapP w m P) : m < w.heap.size := by
  obtain ⟨es, cl, h1, h2⟩ := h
  rcases Nat.lt_or_ge m w.heap.size with h3 | h3
  · exact h3
  · rw [Array.getElem?_eq_none h3] at h1; cases h1
theorem MapP.same {w w' : World} {m : Nat} {P : List Past} (h : MapP w m P) (e : w'.heap[m]? = w.heap[m]?) : MapP w' m P := by
  obtain ⟨es, cl, h1, h2⟩ := h
  exact ⟨es, cl, e.trans h1, h2⟩
section
variable {w w' w0 : World} {base base' s : Nat} {ok ok' : Nat → Prop} {P : List Past} {ids : List Int}
theorem St.lt (h : St w base ok s P ids) : s < w.heap.size := by
  obtain ⟨m, v, _, _, _, _, _, hs, _⟩ := h
  exact blk_lt hs
theorem St.mono (h : St w base ok s P ids) (hk : ∀ k, ok k → ok' k) : St w base ok' s P ids := by
  obtain ⟨m, v, h1, h2, h3, h4, h5, h6, h7, h8⟩ := h
  exact ⟨m, v, hk _ h1, hk _ h2, h3, h4, h5, h6, h7, Kd.R_mono h8 fun k hk' => ⟨hk k hk'.1, hk'.2⟩⟩
/-- Its own blocks are as they were: the store is. -/
theorem St.step (h : St w base ok s P ids) (hm : ∀ k, ok k → k < w.heap.size → w'.heap[k]? = w.heap[k]?) : St w' base (fun k => ok k ∧ k < w.heap.size) s P ids := by
  obtain ⟨m, v, h1, h2, h3, h4, h5, h6, h7, h8⟩ := h
  have l1 := blk_lt h6
  have l2 := h7.lt
  refine ⟨m, v, ⟨h1, l1⟩, ⟨h2, l2⟩, h3, h4, h5, (hm s h1 l1).trans h6, h7.same (hm m h2 l2), ?_⟩
  refine Kd.R_mono (Kd.R_move (Kd.R_bound h8) fun k hk => hm k hk.1.1 hk.2.2.1) fun k hk => ⟨⟨hk.1.1, hk.2.2.1⟩, hk.1.2⟩
theorem St.bound (h : St w base ok s P ids) : St w base (fun k => ok k ∧ k < w.heap.size) s P ids := h.step fun _ _ _ => rfl
theorem St.below (h : St w base ok s P ids) (hb : Below w.heap.size w w') : St w' base ok s P ids := (h.step fun k _ hk => hb.block k hk).mono fun _ hk => hk.1
theorem St.drewN (h : St w base ok s P ids) (n : Nat) : St (w.drewN n) base ok s P ids := h.below (pw_below_drewN (Below.refl _ _) n)
theorem St.alloc (h : St w base ok s P ids) (o : Obj) : St (w.alloc o) base ok s P ids := h.below (below_alloc (Below.refl _ _) o)
theorem St.lower (h : St w base ok s P ids) (hb : base' ≤ base) : St w base' ok s P ids := by
  obtain ⟨m, v, h1, h2, h3, h4, h5, h6, h7, h8⟩ := h
  exact ⟨m, v, h1, h2, h3, by omega, by omega, h6, h7, Kd.R_lower h8 hb⟩
/-- Another store has turned. -/
theorem St.off (h : St w base ok s P ids) (ho : Off w w' ok') (hd : ∀ k, ok k → ¬ ok' k) : St w' base (fun k => ok k ∧ k < w.heap.size) s P ids := h.step fun k hk hl => ho.block k hl (hd k hk)
theorem St.reads (h : St w base ok s P ids) : ∃ m A c, w.cell? ⟨s, 0, none⟩ = some (.map (some m)) ∧ w.cell? ⟨s, 1, none⟩ = some (.slice A ids.length c) ∧ MapP w m P ∧ ids.length ≤ c ∧ Kd.C (Kd.int .i64) w A ids.length ids := by
  obtain ⟨m, v, h1, h2, h3, h4, h5, h6, h7, h8⟩ := h
  obtain ⟨A, c, rfl, hc, hC⟩ := Kd.R_reads h8
  exact ⟨m, A, c, (blk_cell h6 0).trans rfl, (blk_cell h6 1).trans rfl, h7, hc, hC⟩
theorem Off.refl (w : World) (ok : Nat → Prop) : Off w w ok := ⟨rfl, rfl, rfl, Nat.le_refl _, fun _ _ _ => rfl⟩
theorem Off.of_below (h : Below w.heap.size w w') : Off w w' ok := ⟨h.os, h.tape, h.output, h.size, fun k hk _ => h.block k hk⟩
theorem Off.trans {w2 : World} (h : Off w w' ok) (k : Off w' w2 ok') (hk : ∀ i, i < w.heap.size → ok' i → ok i) : Off w w2 ok :=
  ⟨k.os.trans h.os, k.tape.trans h.tape, k.output.trans h.output, Nat.le_trans h.size k.size, fun i hi hn => (k.block i (Nat.lt_of_lt_of_le hi h.size) fun hh => hn (hk i hi hh)).trans (h.block i hi hn)⟩
theorem Off.to_below (h : Off w w' ok) (hk : ∀ k, ok k → base ≤ k) (hb : Below base w0 w) (hs : base ≤ w.heap.size) : Below base w0 w' :=
  hb.trans ⟨h.os, h.tape, h.output, h.size, fun k hk' => h.block k (by omega) fun hh => by have := hk k hh; omega⟩
end
theorem run_st {w : World} {base s : Nat} {ok : Nat → Prop} {P : List Past} {ids : List Int} (h : St w base ok s P ids) (id : Int) :
    Calls Try.prog 41 #[.pointer (some ⟨s, 0, none⟩), .int .i64 id] w fun e w' => e = .returned (.agg (runCs (runP P id))) ∧ Below w.heap.size w w' := by
  obtain ⟨m, A, c, h0, h1, hm, hc, hC⟩ := h.reads
  exact run_any s m P id w h0 hm
theorem total_st {w : World} {base s : Nat} {ok : Nat → Prop} {P : List Past} {ids : List Int} (h : St w base ok s P ids) (hl : ids.length ≤ 4096) (k : Nat) (acc : ByteArray) (fr tt n : Int) (o : Bool) (hsum : account_Sum.f k (usedL P acc fr tt ids) = some (n, o)) :
    Calls Try.prog 39 #[.pointer (some ⟨s, 0, none⟩), .string acc, .int .i64 fr, .int .i64 tt] w fun e w' => e = .returned (.tuple #[.int .i64 n, .bool o]) ∧ Below w.heap.size w w' := by
  obtain ⟨m, A, c, h0, h1, hm, hc, hC⟩ := h.reads
  exact total_any k s m P A c ids acc fr tt n o w h0 h1 hm hC hl hsum
theorem wrong_st {w : World} {base s : Nat} {ok : Nat → Prop} {P : List Past} {ids : List Int} (h : St w base ok s P ids) (fr tt : Int) :
    Calls Try.prog 38 #[.pointer (some ⟨s, 0, none⟩), .int .i64 fr, .int .i64 tt] w fun e w' => e = .returned (.int .i64 (wrongP fr tt)) ∧ Below w.heap.size w w' := by
  obtain ⟨m, A, c, h0, h1, hm, hc, hC⟩ := h.reads
  exact wrong_any s m fr tt w h0
/-- What Used tells. -/
def usedR (n : Int) (o : Bool) (fr tt : Int) : Value := if wrongP fr tt = 0 then .tuple #[.int .i64 n, .bool o, .int .i64 0] else .tuple #[.int .i64 0, .bool false, .int .i64 (wrongP fr tt)]
set_option maxHeartbeats 400000 in
theorem used_st {w : World} {base s : Nat} {ok : Nat → Prop} {P : List Past} {ids : List Int} (h : St w base ok s P ids) (hl : ids.length ≤ 4096) (k : Nat) (acc : ByteArray) (fr tt n : Int) (o : Bool) (hsum : account_Sum.f k (usedL P acc fr tt ids) = some (n, o)) :
    Calls Try.prog 18 #[.pointer (some ⟨s, 0, none⟩), .string acc, .int .i64 fr, .int .i64 tt] w fun e w' => e = .returned (usedR n o fr tt) ∧ Below w.heap.size w w' := by
  have H := hd h
  have HS := hd hsum
  clear h hsum
  obtain ⟨q, hq⟩ : ∃ q, wrongP fr tt = q := ⟨_, rfl⟩
  have HQ := hd hq
  unfold usedR
  rw [hq]
  clear hq
  by_cases hz : q = 0
  · subst hz
    rw [if_pos rfl]
    go_enter Try.func18, Try.ntmps18
    go_wp2_with fail
    refine (wrong_st H.out fr tt).mono ?_
    rintro e w1 ⟨rfl, b1⟩
    have HB1 := hd b1
    have H1 := hd (H.out.below b1)
    clear b1
    rw [HQ.out]
    go_wp2_with fail
    refine (total_st H1.out hl k acc fr tt n o HS.out).mono ?_
    rintro e w2 ⟨rfl, b2⟩
    have HB2 : Hd (Below w.heap.size w w2) := hd (below_then HB1.out HB1.out.size b2)
    clear b2
    go_wp2
    refine bodyPost_ret (results_list (rs := [.tmp 8, .tmp 9, .tmp 10]) rfl (by simp) (.tmp (.tmp (.tmp .nil)))) rfl ?_
    exact ⟨rfl, HB2.out⟩
  · rw [if_neg hz]
    go_enter Try.func18, Try.ntmps18
    go_wp2_with fail
    refine (wrong_st H.out fr tt).mono ?_
    rintro e w1 ⟨rfl, b1⟩
    have HB1 := hd b1
    clear b1
    rw [HQ.out]
    go_wp2
    refine bodyPost_ret (results_list (rs := [.tmp 8, .tmp 9, .tmp 10]) rfl (by simp) (.tmp (.tmp (.tmp .nil)))) rfl ?_
    exact ⟨rfl, HB1.out⟩
end Go.Proofs.Ytinpgejkkfpckaa.Pr
