-- MINIFIED by wip/tools/minify.py
/-
 account's store: Copy.
-/
import Derived.Test.YtinpgejkkfpckaaHTake
import Derived.Test.YtinpgejkkfpckaaHClone
import Derived.Maps.RangeRun
import Derived.Maps.RangeWalk
namespace Go.Proofs.Ytinpgejkkfpckaa.Pr
open Go.RowKit Go.ChangeMaps Go.Proofs.YtinpgejkkfpckaaW.PrintWords Go.Proofs.YtinpgejkkfpckaaW.PrintLast Go.Proofs.YtinpgejkkfpckaaW.PrintMore Go.Proofs.YtinpgejkkfpckaaG
set_option linter.unusedVariables false
set_option linter.unusedSimpArgs false
/-- No two events of one id and one kind. -/
def KeyND (P : List Past) : Prop := P.Pairwise fun p q => ¬ (p.id = q.id ∧ p.what = q.what)
def SameP (P Q : List Past) : Prop := KeyND Q ∧ ∀ p, p ∈ Q ↔ p ∈ P
theorem key_inj {P : List Past} (h : KeyND P) {p q : Past} (hp : p ∈ P) (hq : q ∈ P) (hi : p.id = q.id) (hw : p.what = q.what) : p = q := by
 obtain ⟨i, hi', rfl⟩ := List.mem_iff_getElem.1 hp
 obtain ⟨j, hj', rfl⟩ := List.mem_iff_getElem.1 hq
 rcases Nat.lt_trichotomy i j with hij | rfl | hij
 ·exact absurd ⟨hi, hw⟩ (List.pairwise_iff_getElem.1 h i j hi' hj' hij)
 ·rfl
 ·exact absurd ⟨hi.symm, hw.symm⟩ (List.pairwise_iff_getElem.1 h j i hj' hi' hij)
theorem getP_some {P : List Past} {a b : Int} {p : Past} (h : getP P a b = some p) : p ∈ P ∧ p.id = a ∧ p.what = b := by
 refine ⟨List.mem_of_find?_eq_some h, ?_⟩
 have := List.find?_some h
 simp at this
 exact ⟨this.1.symm, this.2.symm⟩
theorem getP_none {P : List Past} {a b : Int} : getP P a b = none ↔ ∀ p ∈ P, ¬ (p.id = a ∧ p.what = b) := by
 unfold getP
 rw [List.find?_eq_none]
 constructor
 ·rintro h p hp ⟨h1, h2⟩
  have := h p hp
  simp [h1, h2] at this
 ·intro h p hp
  simp
  intro h1 h2
  exact h p hp ⟨h1.symm, h2.symm⟩
theorem getP_is {P : List Past} (h : KeyND P) {p : Past} (hp : p ∈ P) : getP P p.id p.what = some p := by
 cases hg : getP P p.id p.what with
 | none => exact absurd ⟨rfl, rfl⟩ (getP_none.1 hg p hp)
 | some q =>
  obtain ⟨h1, h2, h3⟩ := getP_some hg
  rw [key_inj h h1 hp h2 h3]
theorem SameP.get {P Q : List Past} (hP : KeyND P) (h : SameP P Q) (a b : Int) : getP Q a b = getP P a b := by
 cases hg : getP P a b with
 | none => exact getP_none.2 fun p hp => getP_none.1 hg p ((h.2 p).1 hp)
 | some p =>
  obtain ⟨h1, rfl, rfl⟩ := getP_some hg
  exact getP_is h.1 ((h.2 p).2 h1)
/-- How far a copy is: the events that have been seen are those that are in it. -/
def Half (es : Array MapEntry) (P : List Past) (seen : Array Nat) (Q : List Past) : Prop := KeyND Q ∧ (∀ p ∈ Q, p ∈ P) ∧ ∀ (i : Nat) (e : MapEntry) (p : Past), es.toList[i]? = some e → P[i]? = some p → (seen.contains e.born = true ↔ p ∈ Q)
theorem half_start (es : Array MapEntry) (P : List Past) : Half es P #[] [] := ⟨List.Pairwise.nil, by simp, by simp⟩
theorem half_entry {es : Array MapEntry} {P : List Past} (he : es.toList.map (fun e => (e.key, e.val)) = (P.map ent).map (fun p => (entK p, p.2))) {e : MapEntry} (hm : e ∈ es.toList) :
  ∃ (i : Nat) (p : Past), es.toList[i]? = some e ∧ P[i]? = some p ∧ e.key = keyV p.id p.what ∧ e.val = pastV p := by
 obtain ⟨i, hi⟩ := List.mem_iff_getElem?.1 hm
 have hl := congrArg (fun l => l[i]?) he
 simp only [List.getElem?_map, hi, Option.map_some] at hl
 cases hp : P[i]? with
 | none => rw [hp] at hl; simp at hl
 | some p =>
  rw [hp] at hl
  simp only [Option.map_some, Option.some.injEq, Prod.mk.injEq] at hl
  exact ⟨i, p, hi, hp, hl.1, hl.2⟩
theorem half_step {es : Array MapEntry} {P Q : List Past} {seen : Array Nat} (hP : KeyND P) (hn : (es.toList.map (·.born)).Nodup) (h : Half es P seen Q) {i : Nat} {e : MapEntry} {p : Past} (hi : es.toList[i]? = some e) (hp : P[i]? = some p) (hs : seen.contains e.born = false) :
  Half es P (seen.push e.born) (Q ++ [p]) ∧ getP Q p.id p.what = none := by
 obtain ⟨h1, h2, h3⟩ := h
 have hpm : p ∈ P := List.mem_of_getElem? hp
 have hnot : p ∉ Q := fun hq => by rw [(h3 i e p hi hp).2 hq] at hs; cases hs
 have hno : ∀ q ∈ Q, ¬ (q.id = p.id ∧ q.what = p.what) := fun q hq hk => hnot (by rw [← key_inj hP (h2 q hq) hpm hk.1 hk.2]; exact hq)
 refine ⟨⟨?_, ?_, ?_⟩, getP_none.2 hno⟩
 ·unfold KeyND
  rw [List.pairwise_append]
  exact ⟨h1, by simp, fun q hq r hr => by rw [List.mem_singleton.1 hr]; exact hno q hq⟩
 ·intro q hq
  rcases List.mem_append.1 hq with hq | hq
  ·exact h2 q hq
  ·rw [List.mem_singleton.1 hq]; exact hpm
 ·intro j e' p' hj hp'
  have h4 := h3 j e' p' hj hp'
  rw [List.mem_append, List.mem_singleton]
  have hc : (seen.push e.born).contains e'.born = true ↔ seen.contains e'.born = true ∨ e'.born = e.born := by
   simp only [Array.contains_eq_mem, decide_eq_true_eq, Array.mem_push]
  rw [hc, h4]
  have hij : e'.born = e.born ↔ p' = p := by
   constructor
   ·intro hb
    have h5 : (es.toList.map (·.born))[j]? = some e.born := by rw [List.getElem?_map, hj, Option.map_some, hb]
    have h6 : (es.toList.map (·.born))[i]? = some e.born := by rw [List.getElem?_map, hi]; rfl
    have hji : j = i := by
     obtain ⟨a1, a2⟩ := List.getElem?_eq_some_iff.1 h5
     obtain ⟨b1, b2⟩ := List.getElem?_eq_some_iff.1 h6
     rcases Nat.lt_trichotomy j i with hlt | heq | hgt
     ·exact absurd (a2.trans b2.symm) (List.pairwise_iff_getElem.1 hn j i a1 b1 hlt)
     ·exact heq
     ·exact absurd (b2.trans a2.symm) (List.pairwise_iff_getElem.1 hn i j b1 a1 hgt)
    subst hji
    rw [hp'] at hp
    exact Option.some.inj hp
   ·intro hb
    subst hb
    obtain ⟨a1, a2⟩ := List.getElem?_eq_some_iff.1 hp'
    obtain ⟨b1, b2⟩ := List.getElem?_eq_some_iff.1 hp
    have hji : j = i := by
     rcases Nat.lt_trichotomy j i with hlt | heq | hgt
     ·exact absurd (by rw [a2, b2]; exact ⟨rfl, rfl⟩) (List.pairwise_iff_getElem.1 hP j i a1 b1 hlt)
     ·exact heq
     ·exact absurd (by rw [a2, b2]; exact ⟨rfl, rfl⟩) (List.pairwise_iff_getElem.1 hP i j b1 a1 hgt)
    subst hji
    rw [hj] at hi
    rw [Option.some.inj hi]
  rw [hij]
theorem half_end {es : Array MapEntry} {P Q : List Past} {seen : Array Nat} (he : es.toList.map (fun e => (e.key, e.val)) = (P.map ent).map (fun p => (entK p, p.2))) (h : Half es P seen Q) (h0 : (leftOf es seen).size = 0) : SameP P Q := by
 refine ⟨h.1, fun p => ⟨h.2.1 p, fun hp => ?_⟩⟩
 obtain ⟨i, hi⟩ := List.mem_iff_getElem?.1 hp
 have hl := congrArg (fun l => l[i]?) he
 simp only [List.getElem?_map, hi, Option.map_some] at hl
 cases hq : es.toList[i]? with
 | none => rw [hq] at hl; simp at hl
 | some e => exact (h.2.2 i e p hq hi).1 (all_seen es seen h0 e (List.mem_of_getElem? hq))
/-- One block has turned, and nothing else. -/
structure Turned (w w2 : World) (r : Nat) (o : Obj) : Prop where
 at_ : w2.heap[r]? = some o
 os : w2.os = w.os
 tape : w2.tape = w.tape
 output : w2.output = w.output
 size : w2.heap.size = w.heap.size
 block : ∀ k, k ≠ r → w2.heap[k]? = w.heap[k]?
theorem Turned.below {w0 w w2 : World} {base r : Nat} {o : Obj} (h : Turned w w2 r o) (hb : Below base w0 w) (hr : base ≤ r) : Below base w0 w2 := hb.trans ⟨h.os, h.tape, h.output, by rw [h.size]; exact Nat.le_refl _, fun k hk => h.block k (by omega)⟩
theorem turned_set {w w1 : World} {r : Nat} {o o' : Obj} (hw : w1 = w ∨ w1 = w.drew) (hr : w.heap[r]? = some o) : Turned w (setBlock w1 r o') r o' := by
 have e1 : w1.heap = w.heap ∧ w1.os = w.os ∧ w1.tape = w.tape ∧ w1.output = w.output := by rcases hw with rfl | rfl <;> exact ⟨rfl, rfl, rfl, rfl⟩
 obtain ⟨e1, e2, e3, e4⟩ := e1
 have hr' : w1.heap[r]? = some o := by rw [e1]; exact hr
 have hlt := (Array.getElem?_eq_some_iff.1 hr').1
 exact ⟨by simp [setBlock, Array.getElem?_setIfInBounds, hlt], e2, e3, e4, by simp [setBlock, e1], fun k hk => by rw [← e1]; simp [setBlock, Array.getElem?_setIfInBounds, Ne.symm hk]⟩
/-- The step of a range over a map. -/
theorem wpList_next_at {P : Program} {ops : Array Oper} {rest : List Oper} {o : Oper} {a : Act} {Q : Exit → Act → World → Prop} (w : World) (hg : o.guard = none) (it : Operand) (hop : o.op = Op.next it false) (r bm since c0 : Nat) (seen : Array Nat) (es : Array MapEntry) (clock : Nat)
  (hit : a.eval it = .pointer (some ⟨r, 0, none⟩)) (hr : w.heap[r]? = some (.mapIter (some bm) since seen c0)) (hb : w.heap[bm]? = some (.map es clock)) (hold : ∀ x ∈ es.toList, x.born < since) (hsc : since ≤ c0)
  (hDone : (leftOf es seen).size = 0 → wpList P ops Q rest (a.put o.dst (.tuple #[.bool false])) w)
  (hMore : ∀ (e : MapEntry) (w2 : World), e ∈ (leftOf es seen).toList → Turned w w2 r (.mapIter (some bm) since (seen.push e.born) clock) → wpList P ops Q rest (a.put o.dst (.tuple #[.bool true, e.key, e.val])) w2) : wpList P ops Q (o :: rest) a w := by
 refine wpList_plain hg fun K' hK' => ?_
 unfold Oper.wp
 rcases run_next_at (P := P) w o.type r bm since c0 seen es clock hr hb hold hsc with ⟨h0, hrun⟩ | ⟨e, he, w1, hw, hrun⟩
 ·simp [execOp, hop, hit, hrun, Result.andThen]
  exact hK' _ _ (hDone h0)
 ·simp [execOp, hop, hit, hrun, Result.andThen]
  exact hK' _ _ (hMore e _ he (turned_set hw hr))
def seenOf (w : World) (r : Nat) : Array Nat := match w.heap[r]? with | some (.mapIter _ _ seen _) => seen | _ => #[]
def account_Copy.T7 : Bool × List (List Nat × List Nat) := (true, [([], []), ([0], [0]), ([1], [1]), ([2], [2]), ([], []), ([], []), ([3, 4, 5, 0, 1, 2, 3, 4, 5], [3, 4, 5])])
def account_Copy.B7 : List Nat := [0, 1, 3, 7, 0, 0, 63]
theorem account_Copy.tab7 : rtab .any (opsOf Try.f28 7) = account_Copy.T7 := by kernel_rfl
theorem account_Copy.bits7 : waitsOk account_Copy.T7.2 account_Copy.B7 = true := by kernel_rfl
set_option maxRecDepth 100000 in
set_option maxHeartbeats 4000000 in
theorem copy_st {w : World} {base s : Nat} {ok : Nat → Prop} {P : List Past} {ids : List Int} (h : St w base ok s P ids) (hP : KeyND P) (hl : ids.length ≤ 4096) :
  Calls Try.prog 28 #[.pointer (some ⟨s, 0, none⟩)] w fun e w' => ∃ s' Q, e = .returned (.pointer (some ⟨s', 0, none⟩)) ∧ w.heap.size ≤ s' ∧ St w' w.heap.size (fun k => w.heap.size ≤ k) s' Q ids ∧ SameP P Q ∧ Below w.heap.size w w' := by
 have hu36 := Try.underlying36
 have hu74 := Try.underlying74
 obtain ⟨m, A, c, h0, h1, hm, hc, hC⟩ := h.reads
 obtain ⟨es, clock, hes, hse, hnd, hlt⟩ := hm
 have HKP := hd hP
 have HES := hd hes
 have HSE := hd hse
 have HND := hd hnd
 have HLT := hd hlt
 have HC := hd hC
 have HCC := hd hc
 have hml := blk_lt hes
 have hsl := h.lt
 clear h hP hes hse hnd hlt hC hc
 go_enter Try.func28, Try.ntmps28
 go_wp2_with fail
 refine (none_any s m _ h0).mono ?_
 rintro e w1 ⟨rfl, b1⟩
 have HB1 := hd b1
 clear b1
 go_wp2_with fail
 refine (new_any w1).mono ?_
 rintro e w2 ⟨rfl, hm2, hs2, hz2, b2⟩
 have HB2 : Hd (Below w.heap.size w w2) := hd (below_then HB1.out HB1.out.size b2)
 have HM2 := hd hm2
 have HS2 := hd hs2
 have hq1 : w.heap.size ≤ w1.heap.size := HB1.out.size
 generalize w1.heap.size = m2 at HM2 HS2 hq1 hz2 ⊢
 clear b2 hm2 hs2 HB1
 have g0 : w2.cell? ⟨s, 0, none⟩ = some (.map (some m)) := pw_cell_below HB2.out h0
 have hrng := run_range_map (P := Try.prog) w2 68 74 36 m es clock u68 ((HB2.out.block m hml).trans HES.out)
 go_wp2
 clear hrng g0
 have HI0 := hd (blk_new w2 (.mapIter (some m) clock #[] clock))
 have hz3 : w2.heap.size = m2 + 2 := hz2
 rw [hz3] at HI0
 go_loopw [] (fun wr => ∃ seen cc Q, Hd (wr.heap[m2 + 2]? = some (.mapIter (some m) clock seen cc)) ∧ clock ≤ cc ∧ Hd (Half es P seen Q) ∧ Hd (MapP wr m2 Q) ∧ Hd (wr.heap[m2 + 1]? = some (.cells #[.map (some m2), .slice none 0 0] 70 (0, 0))) ∧ Hd (Below w.heap.size w wr) ∧ m2 + 2 < wr.heap.size) (fun wr => (leftOf es (seenOf wr (m2 + 2))).size)
 case atStart => exact ⟨#[], clock, [], HI0, Nat.le_refl _, hd (half_start es P), hd (HM2.out.below (below_alloc (Below.refl _ w2) _)), hd (blk_alloc HS2.out _), hd (below_alloc HB2.out _), by simp; omega⟩
 case round =>
  obtain ⟨seen, cc, Q, HI, hcc, HH, HMQ, HS, HB, hsz⟩ := hrel
  go_wp2_with (first
   | (at_next; refine wpList_next_at _ rfl _ rfl (m2 + 2) m clock cc seen es clock rfl HI.out ((HB.out.block m hml).trans HES.out) HLT.out hcc ?_ ?_))
  ·intro hleft
   have HSQ := hd (half_end HSE.out HH.out (by rw [hleft]; rfl))
   clear hleft
   have g1 : wr.cell? ⟨s, 1, none⟩ = some (.slice A ids.length c) := pw_cell_below HB.out h1
   have c1 := (blk_cell HS.out 1).trans rfl
   have f1 := blk_frozen HS.out 1
   go_wp2_with fail
   refine (clone_ints_any A c ids wr (Kd.C_below HC.out HB.out) (by omega)).mono ?_
   rintro e w4 ⟨v, rfl, hR, b4⟩
   have HR := hd hR
   have HS4 := hd (blk_below HS.out b4)
   have HM4 := hd (HMQ.out.below b4)
   have HB4 : Hd (Below w.heap.size w w4) := hd (below_then HB.out HB.out.size b4)
   have hsw : m2 + 2 < w4.heap.size ∧ wr.heap.size ≤ w4.heap.size := ⟨by have := b4.size; omega, b4.size⟩
   clear hR b4 g1 c1 f1 HS HMQ
   obtain ⟨Av, cv, rfl⟩ := Kd.R_slice HR.out
   have c1 := (blk_cell HS4.out 1).trans rfl
   have f1 := blk_frozen HS4.out 1
   go_wp2
   go_ret
   have hsz' := hsz
   have hne : ∀ k, wr.heap.size ≤ k → k ≠ m2 + 1 := fun k hk => by omega
   refine ⟨m2 + 1, Q, rfl, by omega, ⟨m2, _, by show w.heap.size ≤ m2 + 1; omega, hq1, by omega, by omega, hq1, blk_put HS4.out 1 _ rfl, HM4.out.same (Below.heap_setCell w4 _ _ m2 (by show m2 ≠ m2 + 1; omega)), ?_⟩, HSQ.out, HB4.out.setCell (p := ⟨m2 + 1, 1, none⟩) (by show w.heap.size ≤ m2 + 1; omega) _⟩
   refine Kd.R_far (p := ⟨m2 + 1, 1, none⟩) (Kd.R_mono (Kd.R_lower (Kd.R_bound HR.out) (by have := HB.out.size; omega)) (fun k hk => ?_)) (fun k hk => hk.2.1) _
   have h2 := hk.2.1
   have h3 := HB.out.size
   exact ⟨by omega, by omega, by omega⟩
  ·intro e w3 he0 ht
   have he := Array.mem_toList_iff.2 he0
   clear he0
   obtain ⟨i, p, hi, hp, hk, hv⟩ := half_entry HSE.out (mem_left he).1
   obtain ⟨hst, hno⟩ := half_step HKP.out HND.out HH.out hi hp (mem_left he).2
   have hen := run_entry_at (P := Try.prog) w3 (m2 + 2) m clock seen es clock e ht.at_ ((ht.block m (by omega)).trans ((HB.out.block m hml).trans HES.out)) (mem_left he).1 HND.out
   have HLE := hd (left_shrinks es seen e he)
   have HST := hd hst
   have HNO := hd hno
   have HI3 := hd ht.at_
   have HM3 := hd (HMQ.out.same (ht.block m2 (by omega)))
   have HS3 : Hd (w3.heap[m2 + 1]? = some (.cells #[.map (some m2), .slice none 0 0] 70 (0, 0))) := hd ((ht.block (m2 + 1) (by omega)).trans HS.out)
   have HB3 : Hd (Below w.heap.size w w3) := hd (ht.below HB.out (by omega))
   have hsz3 : m2 + 2 < w3.heap.size := by rw [ht.size]; exact hsz
   have HSN : Hd (seenOf wr (m2 + 2) = seen) := hd (by unfold seenOf; rw [HI.out])
   rw [hk, hv] at hen ⊢
   simp only [keyV, pastV, pastCs] at hen ⊢
   obtain ⟨bn, hbn⟩ : ∃ b, e.born = b := ⟨_, rfl⟩
   rw [hbn] at HLE HST HI3
   clear hst hno ht he hi hp hk hv hbn HI HMQ HS HB hsz HH
   go_wp2_with fail
   have HK5 := hd (blk_alloc (blk_new w3 (.cells #[.int .i64 p.id, .int .u8 p.what] 74)) (.cells (pastCs p) 36))
   have HP5 : Hd (((w3.alloc (.cells #[.int .i64 p.id, .int .u8 p.what] 74)).alloc (.cells (pastCs p) 36)).heap[w3.heap.size + 1]? = some (.cells (pastCs p) 36 (0, 0))) := hd (by have h_ := blk_new (w3.alloc (.cells #[.int .i64 p.id, .int .u8 p.what] 74)) (.cells (pastCs p) 36); rwa [show (w3.alloc (.cells #[.int .i64 p.id, .int .u8 p.what] 74)).heap.size = w3.heap.size + 1 by simp] at h_)
   have hba := below_alloc (below_alloc (Below.refl _ w3) (.cells #[.int .i64 p.id, .int .u8 p.what] 74)) (.cells (pastCs p) 36)
   have HI5 := hd (blk_below HI3.out hba)
   have HM5 := hd (HM3.out.below hba)
   have HS5 := hd (blk_below HS3.out hba)
   have HB5 : Hd (Below w.heap.size w ((w3.alloc (.cells #[.int .i64 p.id, .int .u8 p.what] 74)).alloc (.cells (pastCs p) 36))) := hd (below_then HB3.out HB3.out.size hba)
   have hsz5 : m2 + 2 < ((w3.alloc (.cells #[.int .i64 p.id, .int .u8 p.what] 74)).alloc (.cells (pastCs p) 36)).heap.size := by simp; omega
   have hne1 : w3.heap.size ≠ m2 + 1 := by omega
   clear hba HI3 HM3 HS3 HB3 hsz3 hen
   simp only [pastCs] at HK5 HP5 HI5 HM5 HS5 HB5 hsz5
   generalize w3.heap.size = kb at HK5 HP5 hne1 ⊢
   generalize (w3.alloc _).alloc _ = w5 at HK5 HP5 HI5 HM5 HS5 HB5 hsz5 ⊢
   refine start_ (n := 7) (S := fun w' => w'.cell? ⟨m2 + 1, 0, none⟩ = some (.map (some m2)) ∧ w'.cell? ⟨kb, 0, none⟩ = some (.int .i64 p.id) ∧ w'.cell? ⟨kb, 1, none⟩ = some (.int .u8 p.what) ∧ w'.cell? ⟨kb + 1, 0, none⟩ = some (.int .i64 p.id) ∧ w'.cell? ⟨kb + 1, 1, none⟩ = some (.int .u8 p.what) ∧ w'.cell? ⟨kb + 1, 2, none⟩ = some (.int .i64 p.at_) ∧ w'.cell? ⟨kb + 1, 3, none⟩ = some (.string p.acc) ∧ w'.cell? ⟨kb + 1, 4, none⟩ = some (.string p.usr) ∧ w'.cell? ⟨kb + 1, 5, none⟩ = some (.int .i64 p.nodes) ∧ w'.cell? ⟨kb + 1, 6, none⟩ = some (.int .i64 p.cores) ∧ w'.cell? ⟨kb + 1, 7, none⟩ = some (.int .u8 p.st)) (ds := [6]) #[false, false, false, false, false, false, false] (by kernel_rfl) rfl rfl ⟨(blk_cell HS5.out 0).trans rfl, (blk_cell HK5.out 0).trans rfl, (blk_cell HK5.out 1).trans rfl, (blk_cell HP5.out 0).trans rfl, (blk_cell HP5.out 1).trans rfl, (blk_cell HP5.out 2).trans rfl, (blk_cell HP5.out 3).trans rfl, (blk_cell HP5.out 4).trans rfl, (blk_cell HP5.out 5).trans rfl, (blk_cell HP5.out 6).trans rfl, (blk_cell HP5.out 7).trans rfl⟩ (fun hHeld => ?_)
   refine with_tabW account_Copy.tab7 account_Copy.bits7 (fun HT_ HW_ => ?_)
   have HI6 : Hd (w5.drew.heap[m2 + 2]? = _) := hd (HI5.out)
   have HM6 : Hd (MapP w5.drew m2 Q) := hd (HM5.out.below (below_drew1 (Below.refl _ _)))
   have HS6 : Hd (w5.drew.heap[m2 + 1]? = _) := hd (HS5.out)
   have HB6 : Hd (Below w.heap.size w w5.drew) := hd (below_drew1 HB5.out)
   have hsz6 : m2 + 2 < w5.drew.heap.size := hsz5
   generalize w5.drew = w6 at HI6 HM6 HS6 HB6 hsz6 hHeld ⊢
   refine pure_ (i := 0) (N := (some 19)) (v := ?_) (a' := ?_) #[true, false, false, false, false, false, false] rfl rfl (any_of HT_.out (by kernel_rfl)) (fun _ _ _ h => h) (Or.inl ⟨by rfl, ?_⟩) ?_ ?_
   rotate_left
   ·intro w'
    go_simp
    with_reducible rfl
   rotate_left
   ·simp only [Act.put, List.setIfInBounds_toArray, List.set_cons_zero, List.set_cons_succ, i64_w, i32_w]
    rfl
   refine pure_ (i := 1) (N := (some 20)) (v := ?_) (a' := ?_) #[true, true, false, false, false, false, false] rfl rfl (any_of HT_.out (by kernel_rfl)) (fun _ _ _ h => h) (Or.inl ⟨by rfl, ?_⟩) ?_ ?_
   rotate_left
   ·intro w'
    go_simp
    with_reducible rfl
   rotate_left
   ·simp only [Act.put, List.setIfInBounds_toArray, List.set_cons_zero, List.set_cons_succ, i64_w, i32_w]
    rfl
   refine pure_ (i := 2) (N := (some 21)) (v := ?_) (a' := ?_) #[true, true, true, false, false, false, false] rfl rfl (any_of HT_.out (by kernel_rfl)) (fun _ _ _ h => h) (Or.inl ⟨by rfl, ?_⟩) ?_ ?_
   rotate_left
   ·intro w'
    go_simp
    with_reducible rfl
   rotate_left
   ·simp only [Act.put, List.setIfInBounds_toArray, List.set_cons_zero, List.set_cons_succ, i64_w, i32_w]
    rfl
   refine take_ (i := 3) (N := (some 22)) (v := ?_) (a' := ?_) #[true, true, true, true, false, false, false] rfl rfl (take_ofW HT_.out HW_.out (by kernel_rfl)) (fun _ _ _ h => h) (Or.inl ⟨by rfl, ?_⟩) hHeld ?_ ?_
   rotate_left
   ·rintro w' ⟨s0, s1, s2, s3, s4, s5, s6, s7, s8, s9, s10⟩
    go_simp
    with_reducible rfl
   rotate_left
   ·simp only [Act.put, List.setIfInBounds_toArray, List.set_cons_zero, List.set_cons_succ, i64_w, i32_w]
    rfl
   refine take_ (i := 4) (N := (some 23)) (v := ?_) (a' := ?_) #[true, true, true, true, true, false, false] rfl rfl (take_ofW HT_.out HW_.out (by kernel_rfl)) (fun _ _ _ h => h) (Or.inl ⟨by rfl, ?_⟩) hHeld ?_ ?_
   rotate_left
   ·rintro w' ⟨s0, s1, s2, s3, s4, s5, s6, s7, s8, s9, s10⟩
    go_simp
    with_reducible rfl
   rotate_left
   ·simp only [Act.put, List.setIfInBounds_toArray, List.set_cons_zero, List.set_cons_succ, i64_w, i32_w]
    rfl
   refine take_ (i := 5) (N := (some 24)) (v := ?_) (a' := ?_) #[true, true, true, true, true, true, false] rfl rfl (take_ofW HT_.out HW_.out (by kernel_rfl)) (fun _ _ _ h => h) (Or.inl ⟨by rfl, ?_⟩) hHeld ?_ ?_
   rotate_left
   ·rintro w' ⟨s0, s1, s2, s3, s4, s5, s6, s7, s8, s9, s10⟩
    go_simp
    with_reducible rfl
   rotate_left
   ·simp only [Act.put, List.setIfInBounds_toArray, List.set_cons_zero, List.set_cons_succ, i64_w, i32_w]
    rfl
   refine last_ (i := 6) (N := none) #[true, true, true, true, true, true, true] rfl rfl (one_of HT_.out (by kernel_rfl)) (by decide) (fun K hK => ?_)
   obtain ⟨w9, hrun, hm9, hg9⟩ := put_run HM6.out p.id p.what (by have h_ := (findL_getP p.id p.what Q 0).2; rw [HNO.out] at h_; cases hf : findL p.id p.what (Q.map ent) 0 with | none => rfl | some _ => rw [hf] at h_; cases h_) (pastV p)
   simp only [keyV, pastV, pastCs] at hrun
   refine skip_ (w1 := w9) (by rfl) rfl ?_ ?_
   ·go_simp
   refine hK.out _ _ ?_
   clear hK K hrun
   have HM9 : Hd (MapP w9 m2 (Q ++ [p])) := hd (by unfold MapP; rw [List.map_append]; exact hm9)
   have HI9 := hd (blk_grown HI6.out hg9 (fun e => by have := Option.some.inj e; omega))
   have HS9 := hd (blk_grown HS6.out hg9 (fun e => by have := Option.some.inj e; omega))
   have HB9 : Hd (Below w.heap.size w w9) := hd (HB6.out.grown hg9 HB6.out.size (fun k hk => by have := Option.some.inj hk; omega))
   have hsz9 : m2 + 2 < w9.heap.size := Nat.lt_of_lt_of_le hsz6 hg9.size
   clear hm9 hg9
   refine done_ (done_of HT_.out (by kernel_rfl)) ?_
   clear HT_ HW_
   go_wp2
   go_roundw
   case rel => exact ⟨_, clock, Q ++ [p], HI9, Nat.le_refl _, HST, HM9, HS9, HB9, hsz9⟩
   case measure =>
    have e9 : seenOf w9 (m2 + 2) = seen.push bn := by unfold seenOf; rw [HI9.out]
    rw [e9, HSN.out]
    exact HLE.out
end Go.Proofs.Ytinpgejkkfpckaa.Pr
