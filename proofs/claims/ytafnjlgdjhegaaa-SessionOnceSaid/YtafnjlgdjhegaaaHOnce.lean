-- MINIFIED by wip/tools/minify.py
/-
 Texts of this session, laid together by wip/tools/merge.py: HOnceS, HOnceW, HOnce.
-/
import Derived.Test.YtafnjlgdjhegaaaHOnceA
import Derived.Laws.OwnMore
import Derived.Test.YtafnjlgdjhegaaaPr7
import Derived.Test.YtafnjlgdjhegaaaHAwake
import Derived.Test.YtafnjlgdjhegaaaHLook
import Derived.Test.YtafnjlgdjhegaaaHAsker
import Derived.Deep.CutBlock
import Derived.Deep.DeepCutAuto
section
namespace Go.Proofs.Ytafnjlgdjhegaaa.Pr
open Go.RowKit Go.Proofs.YtafnjlgdjhegaaaW.PrintWords Go.Proofs.YtafnjlgdjhegaaaW.PrintLast Go.Proofs.YtafnjlgdjhegaaaW.PrintMore Go.Proofs.YtafnjlgdjhegaaaG
set_option linter.unusedVariables false
set_option linter.unusedSimpArgs false
abbrev kOnce2 : Array Bool := #[true, true, true, true, true, true, true, true, true, true, true, true, false, false]
abbrev kOnce3 : Array Bool := #[true, true, true, true, true, true, true, true, true, false, true, true, false, false]
abbrev kOnce18 : Array Bool := #[true, true, true, true, true, true, true, true, true, true, true, true, true, true, true, true, true, true, true]
abbrev kOnce19 : Array Bool := #[true, true, true, true, true, true, true, true, true, true, true, true, true, true, true, true, true, true, false]
abbrev kOnce20 : Array Bool := #[true, true, true, true, true, true, true, true, true, true, true, true, true, true, true, true, true, false, false]
abbrev kOnce21 : Array Bool := #[true, true, true, true, true, true, true, true, true, true, true, true, true, true, true, true, false, false, false]
abbrev kOnce22 : Array Bool := #[true, true, true, true, true, true, true, true, true, true, true, true, true, true, true, false, false, false, false]
abbrev kOnce23 : Array Bool := #[true, true, true, true, true, true, true, true, true, true, true, true, true, true, false, false, false, false, false]
abbrev kOnce24 : Array Bool := #[true, true, true, true, true, true, true, true, true, true, true, true, true, false, false, false, false, false, false]
abbrev kOnce25 : Array Bool := #[true, true, true, true, true, true, true, true, true, true, true, true, false, false, false, false, false, false, false]
abbrev kOnce26 : Array Bool := #[true, true, true, true, true, true, true, true, true, true, true, false, false, false, false, false, false, false, false]
abbrev kOnce27 : Array Bool := #[true, true, true, true, true, true, true, true, true, true, false, false, false, false, false, false, false, false, false]
abbrev kOnce28 : Array Bool := #[true, true, true, true, true, true, true, true, true, false, false, false, false, false, false, false, false, false, false]
abbrev kOnce29 : Array Bool := #[true, true, true, true, true, true, true, true, false, false, false, false, false, false, false, false, false, false, false]
abbrev kOnce30 : Array Bool := #[true, true, true, true, true, true, true, false, false, false, false, false, false, false, false, false, false, false, false]
abbrev kOnce31 : Array Bool := #[true, true, true, true, true, true, false, false, false, false, false, false, false, false, false, false, false, false, false]
abbrev kOnce32 : Array Bool := #[true, true, true, true, true, false, false, false, false, false, false, false, false, false, false, false, false, false, false]
abbrev kOnce33 : Array Bool := #[true, true, true, true, false, false, false, false, false, false, false, false, false, false, false, false, false, false, false]
abbrev kOnce34 : Array Bool := #[true, true, true, false, false, false, false, false, false, false, false, false, false, false, false, false, false, false, false]
abbrev kOnce35 : Array Bool := #[true, true, false, false, false, false, false, false, false, false, false, false, false, false, false, false, false, false, false]
abbrev kOnce36 : Array Bool := #[true, false, false, false, false, false, false, false, false, false, false, false, false, false, false, false, false, false, false]
abbrev kOnce37 : Array Bool := #[false, false, false, false, false, false, false, false, false, false, false, false, false, false, false, false, false, false, false]
theorem Turn.trans {q base : Nat} {a b c : World} (h : Turn q base a b) (h' : Turn q base b c) : Turn q base a c :=
 ⟨h.below.trans h'.below, fun k cells t hk ht => h'.keep k cells t (h.keep k cells t hk ht) ht⟩
def row0 : Array Value := row250 (fun _ => 0)
theorem info3S : (Try.prog.info? 3).map (fun i => (i.zero, i.size, i.bytes)) = some (some (.int .i64 0), 1, 8) := by kernel_rfl
theorem make250 (W : World) : (Instr.makeSlice 37 (.int .i64 250) (.int .i64 250)).run Try.prog W = .ok (arrC W.heap.size) (W.alloc (.cells row0 3)) := by
 obtain ⟨i0, hi, hzz⟩ := Option.map_eq_some_iff.1 info3S
 simp only [Prod.mk.injEq] at hzz
 obtain ⟨hz0, hz1, hz2⟩ := hzz
 have h := run_make (P := Try.prog) W 37 3 i0 _ Try.underlying37 hi hz0 .i64 .i64 250 250 (by omega) (by omega) (by rw [hz2]; decide) (by omega)
 rw [hz1] at h
 have e : madeCells (Value.int .i64 0).cells ((250 : Int).toNat * 1) = row0 := by kernel_rfl
 rw [e] at h
 exact h
section
variable {ops : Array Oper} {Q : Exit → Act → World → Prop}
theorem make_ {oi : Oper} {N : Option Tmp} {a : Act} {w : World} {K : Act → World → Prop} (hw : Region.wanted oi (yielded ops a.tmps) = true) (hN : oi.dst = N) (hop : oi.op = .makeSlice 37 (.const (.int .i64 250)) (.const (.int .i64 250)))
  (h : K (a.put N (arrC w.heap.size)) (w.alloc (.cells row0 3))) : if Region.wanted oi (yielded ops a.tmps) = true then Oper.wp Try.prog oi a w K Q else K (a.put N undef) w := by
 refine value_ hw hN ?_ h
 have e : a.eval (.const (.int .i64 250)) = .int .i64 250 := rfl
 simp [execOp, hop, e, make250]
end
structure Start (base g : Nat) (w : World) (cs : Array Value) (K : Nat) (vw : Nat → Value) (bd bf : Nat → Nat) : Prop where
 hg : w.heap[g]? = some (.cells cs 67 (0, 0))
 gb : base ≤ g
 bs : base ≤ w.heap.size
 sz : cs.size = 28
 c0 : cs[0]? = some (.slice none 0 0)
 ct : cs[17]? = some (.slice none 0 0)
 cb : cs[18]? = some (.slice none 0 0)
 cc : cs[27]? = some (.int .i64 0)
 ca : ∀ k : Nat, k < K → cs[1 + k * 4]? = some (.int .i64 ((k : Int) + 1)) ∧ cs[1 + k * 4 + 1]? = some (.int .i64 1) ∧ cs[1 + k * 4 + 2]? = some (.int .i64 0) ∧ cs[1 + k * 4 + 3]? = some (vw k)
 cd : ∀ k, k < K → cs[19 + k]? = some (arrC (bd k))
 cf : ∀ k, k < K → cs[23 + k]? = some (arrC (bf k))
 ow : ∀ k, k < K → Own k70 70 base w (vw k) []
 od : ∀ k, k < K → base ≤ bd k ∧ w.heap[bd k]? = some (.cells row0 3 (0, 0))
 og : ∀ k, k < K → base ≤ bf k ∧ w.heap[bf k]? = some (.cells row0 3 (0, 0))
 nd : ∀ i j, i < K → j < K → bd i ≠ bf j ∧ (i ≠ j → bd i ≠ bd j ∧ bf i ≠ bf j)
section
variable {base g K : Nat} {w w' : World} {cs : Array Value} {vw : Nat → Value} {bd bf : Nat → Nat}
theorem Start.turn {q : Nat} (h : Start base g w cs K vw bd bf) (T : Turn q base w w') (h1 : 67 ≠ q) (h2 : ∀ x, x ∈ (70 : Nat) :: k70.E → x ≠ q) (h3 : 3 ≠ q) : Start base g w' cs K vw bd bf := by
 have hz := T.below.size
 exact ⟨T.keep _ _ _ h.hg h1, h.gb, by have := h.bs; omega, h.sz, h.c0, h.ct, h.cb, h.cc, h.ca, h.cd, h.cf, fun k hk => (h.ow k hk).turn T h2, fun k hk => ⟨(h.od k hk).1, T.keep _ _ _ (h.od k hk).2 h3⟩, fun k hk => ⟨(h.og k hk).1, T.keep _ _ _ (h.og k hk).2 h3⟩, h.nd⟩
theorem Start.below (h : Start base g w cs K vw bd bf) (hb : Below w.heap.size w w') : Start base g w' cs K vw bd bf :=
 h.turn (turn_below (e := 99) h.bs hb) (by decide) (fun x hx => by have := k70_E x hx; omega) (by decide)
theorem Start.add (h : Start base g w cs K vw bd bf) (hK : K < 4) (T : Turn 67 base w w') {v : Value} (hv : Own k70 70 base w' v []) {b1 b2 : Nat} (h1 : w'.heap[b1]? = some (.cells row0 3 (0, 0))) (h2 : w'.heap[b2]? = some (.cells row0 3 (0, 0)))
  (h12 : b1 ≠ b2) (hs1 : w.heap.size ≤ b1) (hs2 : w.heap.size ≤ b2) (hg' : w'.heap[g]? = some (.cells (((set4 cs (1 + K * 4) ⟨(K : Int) + 1, 1, 0, []⟩ v).setIfInBounds (19 + K) (arrC b1)).setIfInBounds (23 + K) (arrC b2)) 67 (0, 0))) :
  Start base g w' (((set4 cs (1 + K * 4) ⟨(K : Int) + 1, 1, 0, []⟩ v).setIfInBounds (19 + K) (arrC b1)).setIfInBounds (23 + K) (arrC b2)) (K + 1) (fun j => if j = K then v else vw j) (fun j => if j = K then b1 else bd j) (fun j => if j = K then b2 else bf j) := by
 have hz := T.below.size
 have hs := h.sz
 have hb := h.bs
 have hx := k70_67
 have hs4 : (set4 cs (1 + K * 4) ⟨(K : Int) + 1, 1, 0, []⟩ v).size = 28 := by simp [set4, hs]
 have low : ∀ i, i = 0 ∨ i = 17 ∨ i = 18 ∨ i = 27 → (((set4 cs (1 + K * 4) ⟨(K : Int) + 1, 1, 0, []⟩ v).setIfInBounds (19 + K) (arrC b1)).setIfInBounds (23 + K) (arrC b2))[i]? = cs[i]? := fun i hi => by
  rw [set_ne _ (by omega), set_ne _ (by omega), set4_ne _ _ (by omega)]
 have hd : ∀ k, k < K → bd k < w.heap.size := fun k hk => blk_lt (h.od k hk).2
 have hf : ∀ k, k < K → bf k < w.heap.size := fun k hk => blk_lt (h.og k hk).2
 refine ⟨hg', h.gb, by omega, by simp [set4, hs], (low 0 (by omega)).trans h.c0, (low 17 (by omega)).trans h.ct, (low 18 (by omega)).trans h.cb, (low 27 (by omega)).trans h.cc, fun k hk => ?_, fun k hk => ?_, fun k hk => ?_, fun k hk => ?_, fun k hk => ?_, fun k hk => ?_, fun i j hi hj => ?_⟩
 ·rw [set_ne _ (by omega), set_ne _ (by omega), set_ne _ (by omega), set_ne _ (by omega), set_ne _ (by omega), set_ne _ (by omega), set_ne _ (by omega), set_ne _ (by omega)]
  by_cases e : k = K
  ·subst e
   simp only [if_true]
   exact set4_eq (⟨(k : Int) + 1, 1, 0, []⟩ : Ak) v (by omega)
  ·rw [if_neg e, set4_ne _ _ (by omega), set4_ne _ _ (by omega), set4_ne _ _ (by omega), set4_ne _ _ (by omega)]
   exact h.ca k (by omega)
 ·rw [set_ne _ (by omega)]
  by_cases e : k = K
  ·subst e
   simp only [if_true]
   exact set_eq _ (by omega)
  ·rw [if_neg e, set_ne _ (by omega), set4_ne _ _ (by omega)]
   exact h.cd k (by omega)
 ·by_cases e : k = K
  ·subst e
   simp only [if_true]
   exact set_eq _ (by simp; omega)
  ·rw [if_neg e, set_ne _ (by omega), set_ne _ (by omega), set4_ne _ _ (by omega)]
   exact h.cf k (by omega)
 ·by_cases e : k = K
  ·rw [if_pos e]
   exact hv
  ·rw [if_neg e]
   exact (h.ow k (by omega)).turn T hx
 ·by_cases e : k = K
  ·rw [if_pos e]
   exact ⟨by omega, h1⟩
  ·rw [if_neg e]
   exact ⟨(h.od k (by omega)).1, T.keep _ _ _ (h.od k (by omega)).2 (by decide)⟩
 ·by_cases e : k = K
  ·rw [if_pos e]
   exact ⟨by omega, h2⟩
  ·rw [if_neg e]
   exact ⟨(h.og k (by omega)).1, T.keep _ _ _ (h.og k (by omega)).2 (by decide)⟩
 ·by_cases e : i = K
  ·by_cases e' : j = K
   ·rw [if_pos e, if_pos e']
    exact ⟨h12, fun hh => absurd (e.trans e'.symm) hh⟩
   ·have := hd j (by omega)
    have := hf j (by omega)
    rw [if_pos e, if_pos e, if_neg e', if_neg e']
    exact ⟨by omega, fun _ => ⟨by omega, by omega⟩⟩
  ·have := hd i (by omega)
   have := hf i (by omega)
   by_cases e' : j = K
   ·rw [if_neg e, if_neg e, if_pos e', if_pos e']
    exact ⟨by omega, fun _ => ⟨by omega, by omega⟩⟩
   ·rw [if_neg e, if_neg e, if_neg e', if_neg e']
    exact h.nd i j (by omega) (by omega)
theorem own_nil (base : Nat) (w : World) : Own k44 44 base w (.slice none 0 0) [] := ⟨0, Kd.R_nil _ _ _ _ _⟩
theorem Start.lay (h : Start base g w cs 4 vw bd bf) : LayM base g w startO :=
 ⟨cs, _, _, _, vw, bd, bf, h.hg, h.gb, h.bs, ⟨h.sz, h.c0, h.ca, h.ct, h.cb, h.cd, h.cf, h.cc⟩, own_nil base w, h.ow, .inl ⟨rfl, rfl⟩, .inl ⟨rfl, rfl⟩, h.od, h.og, h.nd⟩
end
theorem good_start : Good startO 0 := ⟨start_law, fun k hk x hx => (by cases hx), by show (0 : Nat) ≤ _; omega, by show (0 : Nat) ≤ _; omega⟩
section
variable {sl e : TypeId}
theorem cut3_kk (hu : Try.prog.underlying sl = some (.slice e)) (hi : (Try.prog.info? e).map (fun i => (i.zero, i.size, i.bytes)) = some (some (.agg #[(.int .i64 0), (.int .i64 0), (.int .i64 0)]), 3, 24)) (A : Option Addr) (n c k : Nat) (h : k ≤ c) :
  ∀ W : World, (Instr.slice sl (.slice A n c) none (some (.int .i64 (k : Int))) (some (.int .i64 (k : Int)))).run Try.prog W = .ok (.slice A k k) W := by
 intro W
 obtain ⟨i0, hi, hzz⟩ := Option.map_eq_some_iff.1 hi
 have hel : Try.prog.elem sl = e := by simp [Program.elem, hu]
 have hu' : Try.prog.underlying sl = some (.slice (Try.prog.elem sl)) := by rw [hel]; exact hu
 have ha : (A.map fun x => x.add 0) = A := by cases A <;> simp [Addr.add]
 rw [run_slice_hm W sl A n c hu' .i64 .i64 (k : Int) (k : Int) (by omega) (by omega) (by omega), hel]
 simp [sizeOf, typeInfo, hi, sliced, Result.andThen, ha]
theorem cut3_after (hu : Try.prog.underlying sl = some (.slice e)) (hi : (Try.prog.info? e).map (fun i => (i.zero, i.size, i.bytes)) = some (some (.agg #[(.int .i64 0), (.int .i64 0), (.int .i64 0)]), 3, 24)) (A : Option Addr) (n c k : Nat) (h : k + 1 ≤ n) :
  ∀ W : World, (Instr.slice sl (.slice A n c) (some (.int .i64 ((k : Int) + 1))) none none).run Try.prog W = .ok (.slice (if c = k + 1 then A else A.map (·.add ((k + 1) * 3))) (n - (k + 1)) (c - (k + 1))) W := by
 obtain ⟨i0, hi, hzz⟩ := Option.map_eq_some_iff.1 hi
 simp only [Prod.mk.injEq] at hzz
 have := cut_from (P := Try.prog) sl e .i64 hu hi 3 hzz.2.1 A n c ((k : Int) + 1) (by omega) (by omega)
 have e : ((k : Int) + 1).toNat = k + 1 := by omega
 rw [e] at this
 exact this
end
theorem pick_some (a : Int) (n : Int) (hn : 0 < n) (hn2 : n ≤ 2000000) (ha : (Lit.int .i64 a).wf = true) : ∃ r, musterlow_Pick.f a n = some r ∧ 0 ≤ r ∧ r < n := by
 unfold musterlow_Pick.f
 rw [if_neg (by omega), if_neg (by omega)]
 have h1 : Int.tmod a n < n := Int.tmod_lt_of_pos a hn
 have h2 : -n < Int.tmod a n := by
  rcases Int.le_total 0 a with h | h
  ·have := Int.tmod_nonneg n h
   omega
  ·have := Int.tmod_lt_of_pos (-a) hn
   rw [Int.neg_tmod] at this
   omega
 by_cases h : Int.tmod a n < 0
 ·rw [if_pos h]
  refine ⟨_, rfl, ?_⟩
  have e : wrap64 (Int.tmod a n + n) = Int.tmod a n + n := by
   obtain ⟨m, hm⟩ : ∃ m, Int.tmod a n = m := ⟨_, rfl⟩
   rw [hm] at h h1 h2 ⊢
   unfold wrap64
   omega
  rw [e]
  omega
 ·rw [if_neg h]
  exact ⟨_, rfl, by omega, h1⟩
theorem byte_C {w : World} {g : Nat} {x : Int} (h : w.heap[g]? = some (.cells #[.int .u8 x] 5 (0, 0))) : Kd.C (Kd.int .u8) w (some ⟨g, 0, none⟩) [x].length [x] := by
 refine ⟨rfl, by simp, fun _ => ⟨⟨g, 0, none⟩, rfl, fun j p hj => ?_⟩⟩
 have hl := (List.getElem?_eq_some_iff.1 hj).1
 refine ⟨[.int .u8 p], rfl, rfl, fun i u hu => ?_⟩
 have hi : i = 0 := by
  have := (List.getElem?_eq_some_iff.1 hu).1
  simp at this
  exact this
 subst hi
 simp at hu
 subst hu
 rw [Addr.add_lit, blk_cell h]
 have hj0 : j = 0 := by simp at hl; exact hl
 subst hj0
 simpa using hj
theorem setA_same (f : Nat → Ak) (k : Nat) (x : Ak) : setA f k x k = x := by simp [setA]
def asked1 (s : Ws) (k : Nat) (b : Int) : Ws := { s with a := setA s.a k ⟨(s.a k).id, (s.a k).nx + 1, (s.a k).ak, (s.a k).ws ++ [⟨(s.a k).nx, [b]⟩]⟩ }
theorem asker_of0 {s : Ws} {n : Nat} (h : Good s n) {k : Nat} (hk : k < 4) : (s.a k).ak < (s.a k).nx := by
 obtain ⟨c, hc⟩ := h.inv.each k hk
 obtain ⟨a1, a2, a3, a4, a5, a6⟩ := asker_iff.1 hc.asker
 have := (acked_eq (s.a k).id (s.a k).nx (s.a k).ak (s.a k).ws a2.1 a2.2 a3).2
 cases hw : (s.a k).ws with
 | nil =>
  rw [hw] at a5
  simp only [ackP] at a5
  omega
 | cons x l =>
  have := a4 x (by rw [hw]; simp)
  rw [hw] at a5
  simp only [ackP] at a5
  omega
theorem ask_good {s : Ws} {n : Nat} (h : Good s n) (hn : n ≤ 199) {k : Nat} (hk : k < 4) (b : Int) (hw : ¬ (s.a k).nx - 1 - (s.a k).ak ≥ 8) :
  Good { asked1 s k b with tos := (asked1 s k b).tos ++ [(((asked1 s k b).a k).id, (s.a k).nx, ((asked1 s k b).a k).ak)] } (n + 1) := by
 have h1 := ask_law h.inv (by omega) hk [b] hw
 have e : (asked1 s k b).a k = ⟨(s.a k).id, (s.a k).nx + 1, (s.a k).ak, (s.a k).ws ++ [⟨(s.a k).nx, [b]⟩]⟩ := setA_same _ _ _
 have hlt := asker_of0 h hk
 have h2 := send_law (s := asked1 s k b) (n := (n : Int) + 1) h1 hk (r := (s.a k).nx) (by rw [e]; exact hlt) (by rw [e]; show (s.a k).nx < (s.a k).nx + 1; omega)
 have hlt := h.lt
 have hlb := h.lb
 refine ⟨by exact_mod_cast h2, fun j hj x hx => ?_, by show (s.tos ++ _).length ≤ _; rw [List.length_append]; simp; omega, by show s.bks.length ≤ _; omega⟩
 have hx' : x ∈ (setA s.a k ⟨(s.a k).id, (s.a k).nx + 1, (s.a k).ak, (s.a k).ws ++ [⟨(s.a k).nx, [b]⟩]⟩ j).ws := hx
 by_cases hjk : j = k
 ·subst hjk
  rw [setA_same] at hx'
  rcases List.mem_append.1 hx' with hx' | hx'
  ·exact h.bods j hj x hx'
  ·have : x = ⟨(s.a j).nx, [b]⟩ := by simpa using hx'
   subst this
   exact Nat.le_refl _
 ·simp only [setA, if_neg hjk] at hx'
  exact h.bods j hj x hx'
theorem again_good {s : Ws} {n : Nat} (h : Good s n) {k : Nat} (hk : k < 4) (x : S70) (hx : x ∈ (s.a k).ws) (hl : s.tos.length < 60) : Good { s with tos := s.tos ++ [((s.a k).id, x.f0, (s.a k).ak)] } n := by
 obtain ⟨h1, h2⟩ := wait_law h.inv hk x hx
 have hlb := h.lb
 exact ⟨send_law h.inv hk h1 h2, h.bods, by show (s.tos ++ _).length ≤ _; rw [List.length_append]; simp; omega, hlb⟩
theorem sub_good {s : Ws} {n : Nat} (h : Good s n) {t b : List (Int × Int × Int)} (ht : ∀ p ∈ t, p ∈ s.tos) (hb : ∀ p ∈ b, p ∈ s.bks) (h1 : t.length ≤ s.tos.length) (h2 : b.length ≤ s.bks.length) : Good { s with tos := t, bks := b } n :=
 ⟨inv_sub h.inv ht hb, h.bods, by show t.length ≤ _; have := h.lt; omega, by show b.length ≤ _; have := h.lb; omega⟩
theorem asker_of {s : Ws} {n : Nat} (h : Good s n) (hn : n ≤ 200) {k : Nat} (hk : k < 4) : askerB (s.a k).id (s.a k).nx (s.a k).ak (s.a k).ws = true ∧ i64 (s.a k).ak ∧ small70 (s.a k).ws ∧ (s.a k).nx ≤ 201 := by
 obtain ⟨c, hc⟩ := h.inv.each k hk
 have hnx := h.inv.nxs k hk
 have hm := asker_more hc.asker
 exact ⟨hc.asker, by constructor <;> omega, small_ws h.inv (by omega) hk (h.bods k hk), by omega⟩
theorem ask_ok {s : Ws} {n : Nat} (h : Good s n) (hn : n ≤ 200) {k : Nat} (hk : k < 4) (b : Int) (hw : ¬ (s.a k).nx - 1 - (s.a k).ak ≥ 8) :
  ∃ kq, session_Ask.f kq (s.a k).id (s.a k).nx (s.a k).ak (s.a k).ws [b] = some ((s.a k).id, (s.a k).nx + 1, (s.a k).ak, (s.a k).ws ++ [⟨(s.a k).nx, [b]⟩], (s.a k).nx, 0) := by
 obtain ⟨h1, h2, h3, h4⟩ := asker_of h hn hk
 obtain ⟨kq, hkq⟩ := ask_ev (s.a k).id (s.a k).nx (s.a k).ak (s.a k).ws [b] h3 h2 (by simp)
 refine ⟨kq, (hkq kq (Nat.le_refl _)).trans ?_⟩
 unfold askS
 rw [if_pos h1, if_neg (by simp), if_neg hw, if_neg (by omega)]
theorem ask_busy {s : Ws} {n : Nat} (h : Good s n) (hn : n ≤ 200) {k : Nat} (hk : k < 4) (b : Int) (hw : (s.a k).nx - 1 - (s.a k).ak ≥ 8) :
  ∃ kq, session_Ask.f kq (s.a k).id (s.a k).nx (s.a k).ak (s.a k).ws [b] = some (0, 0, 0, [], 0, 7) := by
 obtain ⟨h1, h2, h3, h4⟩ := asker_of h hn hk
 obtain ⟨kq, hkq⟩ := ask_ev (s.a k).id (s.a k).nx (s.a k).ak (s.a k).ws [b] h3 h2 (by simp)
 refine ⟨kq, (hkq kq (Nat.le_refl _)).trans ?_⟩
 unfold askS
 rw [if_pos h1, if_neg (by simp), if_pos hw]
theorem mem_cut {α : Type} (l : List α) (k : Nat) : ∀ x ∈ l.take k ++ l.drop (k + 1), x ∈ l := fun x hx => by
 rcases List.mem_append.1 hx with hx | hx
 ·exact List.mem_of_mem_take hx
 ·exact List.mem_of_mem_drop hx
end Go.Proofs.Ytafnjlgdjhegaaa.Pr
end
section
namespace Go.Proofs.Ytafnjlgdjhegaaa.Pr
open Go.RowKit Go.Proofs.YtafnjlgdjhegaaaW.PrintWords Go.Proofs.YtafnjlgdjhegaaaW.PrintLast Go.Proofs.YtafnjlgdjhegaaaW.PrintMore Go.Proofs.YtafnjlgdjhegaaaG
set_option linter.unusedVariables false
set_option linter.unusedSimpArgs false
def once.T8 : Bool × List (List Nat × List Nat) := (true, [([], []), ([], []), ([], []), ([0], [0]), ([3], [3]), ([4, 1, 0, 1, 2], [1, 4]), ([5, 2, 0, 1, 2], [2, 5])])
def once.B8 : List Nat := [0, 0, 0, 1, 9, 31, 63]
theorem once.tab8 : rtab .any (opsOf Try.f7 8) = once.T8 := by kernel_rfl
theorem once.bits8 : waitsOk once.T8.2 once.B8 = true := by kernel_rfl
def once.T9 : Bool × List (List Nat × List Nat) := (true, [([], []), ([], []), ([], []), ([], []), ([], []), ([], []), ([0], [0]), ([6], [6]), ([7, 1, 0, 1, 4], [1, 7]), ([8, 4, 0, 1, 4], [4, 8]), ([2], [2]), ([10], [10]), ([11, 3, 0, 1, 2, 3, 4, 5, 6, 7, 8, 9], [3, 11]), ([12, 5, 9, 0, 1, 2, 3, 4, 5, 6, 7, 8, 9], [5, 12])])
def once.B9 : List Nat := [0, 0, 0, 0, 0, 0, 1, 65, 211, 467, 4, 1028, 4095, 8191]
theorem once.tab9 : rtab .any (opsOf Try.f7 9) = once.T9 := by kernel_rfl
theorem once.bits9 : waitsOk once.T9.2 once.B9 = true := by kernel_rfl
def once.T20 : Bool × List (List Nat × List Nat) := (true, [([], []), ([], []), ([1], [1]), ([2], [2]), ([3], [3]), ([], []), ([], []), ([4, 5, 6], [4, 5, 6]), ([], []), ([8], [8]), ([9], [9]), ([10], [10]), ([], []), ([12], [12]), ([11, 13], [11, 13]), ([7, 14], [7, 14]), ([0, 0, 1, 2, 3, 4, 5, 6, 7, 8, 9, 10, 11, 12, 13, 14, 15], [0]), ([16, 0, 1, 2, 3, 4, 5, 6, 7, 8, 9, 10, 11, 12, 13, 14, 15], [16]), ([17, 15, 15, 0, 1, 2, 3, 4, 5, 6, 7, 8, 9, 10, 11, 12, 13, 14, 15], [15, 17])])
def once.B20 : List Nat := [0, 0, 2, 6, 14, 0, 0, 126, 0, 256, 768, 1792, 0, 4096, 16128, 32766, 65535, 131071, 262143]
theorem once.tab20 : rtab .any (opsOf Try.f7 20) = once.T20 := by kernel_rfl
theorem once.bits20 : waitsOk once.T20.2 once.B20 = true := by kernel_rfl
def once.T27 : Bool × List (List Nat × List Nat) := (true, [([], []), ([], []), ([], []), ([0], [0]), ([3], [3]), ([4, 1, 0, 1, 2], [1, 4]), ([5, 2, 0, 1, 2], [2, 5])])
def once.B27 : List Nat := [0, 0, 0, 1, 9, 31, 63]
theorem once.tab27 : rtab .any (opsOf Try.f7 27) = once.T27 := by kernel_rfl
theorem once.bits27 : waitsOk once.T27.2 once.B27 = true := by kernel_rfl
def once.T42 : Bool × List (List Nat × List Nat) := (true, [([], []), ([], []), ([1], [1]), ([2], [2]), ([3], [3]), ([], []), ([], []), ([4, 5, 6], [4, 5, 6]), ([], []), ([8], [8]), ([9], [9]), ([10], [10]), ([], []), ([12], [12]), ([11, 13], [11, 13]), ([7, 14], [7, 14]), ([0, 0, 1, 2, 3, 4, 5, 6, 7, 8, 9, 10, 11, 12, 13, 14, 15], [0]), ([16, 0, 1, 2, 3, 4, 5, 6, 7, 8, 9, 10, 11, 12, 13, 14, 15], [16]), ([17, 15, 15, 0, 1, 2, 3, 4, 5, 6, 7, 8, 9, 10, 11, 12, 13, 14, 15], [15, 17])])
def once.B42 : List Nat := [0, 0, 2, 6, 14, 0, 0, 126, 0, 256, 768, 1792, 0, 4096, 16128, 32766, 65535, 131071, 262143]
theorem once.tab42 : rtab .any (opsOf Try.f7 42) = once.T42 := by kernel_rfl
theorem once.bits42 : waitsOk once.T42.2 once.B42 = true := by kernel_rfl
theorem holdW {p} (h : Hd p) : p := h.out
set_option maxRecDepth 100000 in
set_option maxHeartbeats 8000000 in
theorem once_walk (base : Nat) (A0 : Option Addr) (c0 : Nat) (l0 : List Int) (w : World) (hbase : w.heap.size = base) (hr : Kd.C (Kd.int .i64) w A0 l0.length l0) (hc0 : l0.length ≤ c0) (hwf : ∀ y ∈ l0, (Lit.int .i64 y).wf = true) :
  Calls Try.prog 7 #[.slice A0 l0.length c0] w fun e w' => e = .returned (.bool true) ∧ Below base w w' := by
 have HR := hd hr
 have HWF := hd hwf
 have hlen : l0.length ≤ 9223372036854775807 := hr.2.1
 have hu62 := Try.underlying62
 have hu65 := Try.underlying65
 have hu67 := Try.underlying67
 have hu50 := Try.underlying50
 have hu72 := Try.underlying72
 have hu75 := Try.underlying75
 have HBASE := hd hbase
 clear hr hwf hbase
 go_enter Try.func7, Try.ntmps7
 go_wp2_with ((with_reducible refine gate_dst (N := 19) rfl ?_); refine box_event ?hg (N := 19) ?hd (cs := #[.slice none 0 0, .int .i64 0, .int .i64 0, .int .i64 0, .slice none 0 0, .int .i64 0, .int .i64 0, .int .i64 0, .slice none 0 0, .int .i64 0, .int .i64 0, .int .i64 0, .slice none 0 0, .int .i64 0, .int .i64 0, .int .i64 0, .slice none 0 0, .slice none 0 0, .slice none 0 0, .slice none 0 0, .slice none 0 0, .slice none 0 0, .slice none 0 0, .slice none 0 0, .slice none 0 0, .slice none 0 0, .slice none 0 0, .int .i64 0]) (t := 67) ?hr ?_; (case hd => rfl); (case hg => rfl); (case hr => first | (go_simp; done) | (go_simp; rfl)); intro g hg_ w1 hbox_ b_; have HN19 := hd hbox_; have HGE19 : Hd (w.heap.size ≤ g) := hd (by omega); have HB : Hd (Below base w w1) := hd (by rw [← HBASE.out]; exact b_); have HGB : Hd (base ≤ g) := hd (by rw [← HBASE.out]; exact HGE19.out); clear HGE19; clear hg_ hbox_ b_; refine holdW ?_)
 refine ⟨?_⟩
 have HS : Hd (Start base g w1 #[.slice none 0 0, .int .i64 0, .int .i64 0, .int .i64 0, .slice none 0 0, .int .i64 0, .int .i64 0, .int .i64 0, .slice none 0 0, .int .i64 0, .int .i64 0, .int .i64 0, .slice none 0 0, .int .i64 0, .int .i64 0, .int .i64 0, .slice none 0 0, .slice none 0 0, .slice none 0 0, .slice none 0 0, .slice none 0 0, .slice none 0 0, .slice none 0 0, .slice none 0 0, .slice none 0 0, .slice none 0 0, .slice none 0 0, .int .i64 0] 0 (fun _ => undef) (fun _ => 0) (fun _ => 0)) := hd ⟨HN19.out, HGB.out, by have := HB.out.size; have := HBASE.out; omega, rfl, rfl, rfl, rfl, rfl, fun k hk => absurd hk (by omega), fun k hk => absurd hk (by omega), fun k hk => absurd hk (by omega), fun k hk => absurd hk (by omega), fun k hk => absurd hk (by omega), fun k hk => absurd hk (by omega), fun i j hi => absurd hi (by omega)⟩
 clear HN19 HGB
 go_wp2
 go_loopw [4] (fun iv wr => ∃ (kn : Nat) (cs : Array Value) (vw : Nat → Value) (bd bf : Nat → Nat), kn ≤ 4 ∧ iv = .int .i64 (kn : Int) ∧ Hd (Start base g wr cs kn vw bd bf) ∧ Hd (Below base w wr)) (fun iv _ => 4 - (intOf iv).toNat)
 case atStart => exact ⟨0, _, _, _, _, by omega, rfl, HS, HB⟩
 clear HS HB
 case round =>
  obtain ⟨kn, cs, vw, bd, bf, hK4, rfl, HS, HB⟩ := hrel
  by_cases hlt : kn < 4
  ·have hlt4 : (kn : Int) < 4 := by omega
   have hBeg : session_Begin.f ((kn : Int) + 1) = some ((kn : Int) + 1, 1, 0, [], 0) := by
    unfold session_Begin.f
    rw [if_neg (by omega), if_neg (by omega)]
   have HBEG := hd hBeg
   clear hBeg
   go_wp2_with fail
   refine (session_Begin.calls ((kn : Int) + 1) _ _ _ _ _ wr HBEG.out).mono ?_
   rintro e w2 ⟨v3, rfl, hV, b⟩
   obtain ⟨A3, c3, rfl, _, _⟩ := Kd.R_reads (Kd.S_R hV)
   have HV : Hd (Own k70 70 base w2 (.slice A3 0 c3) []) := hd (Own.of (Kd.S_R hV) HS.out.bs)
   replace HB := hd (below_then HB.out HS.out.bs b)
   replace HS := hd (HS.out.below b)
   clear hV b HBEG
   go_wp2_with (first | ((with_reducible refine gate_dst (N := 5) rfl ?_); refine box_event ?hg (N := 5) ?hd (cs := #[.int .i64 0, .int .i64 0, .int .i64 0, .slice none 0 0]) (t := 50) ?hr ?_; (case hd => rfl); (case hg => rfl); (case hr => first | (go_simp; done) | (go_simp; rfl)); intro g5 hg_ w3 hbox_ b_; have HN5 := hd hbox_; have HGE5 : Hd (w2.heap.size ≤ g5) := hd (by omega); have hge5 : base ≤ g5 := (by have := HS.out.bs; omega); replace HV := hd (HV.out.turn (turn_below (e := 99) HS.out.bs b_) (fun _ hq => (by have := k70_E _ hq; omega))); replace HB := hd (below_then HB.out HS.out.bs b_); replace HS := hd (HS.out.below b_); clear hg_ hbox_ b_) | ((with_reducible refine gate_store (t := 50) (p := 5) rfl ?_); refine wpList_store_row rfl 50 (.tmp 5) (.tmp 28) rfl g5 #[.int .i64 ((kn : Int) + 1), .int .i64 1, .int .i64 0, .slice A3 0 c3] rfl rfl 50 _ HN5.out (by kernel_rfl) rfl (by simp [Value.oneCell']) ?_; refine holdW ?_))
   refine ⟨?_⟩
   have T4 := turn_row HN5.out hge5 #[.int .i64 ((kn : Int) + 1), .int .i64 1, .int .i64 0, .slice A3 0 c3]
   have hg4 := setRow_heap w3 g5 _ #[.int .i64 ((kn : Int) + 1), .int .i64 1, .int .i64 0, .slice A3 0 c3] 50 (0, 0) HN5.out
   replace HV := hd (HV.out.turn T4 (fun _ hq => (by have := k70_E _ hq; omega)))
   replace HB := hd (HB.out.trans T4.below)
   replace HS := hd (HS.out.turn T4 (by decide) (fun x hx => by have := k70_E x hx; omega) (by decide))
   clear HN5 T4 hge5 HGE5
   have HN5 := hd hg4
   clear hg4
   generalize w3.setRow g5 #[.int .i64 ((kn : Int) + 1), .int .i64 1, .int .i64 0, .slice A3 0 c3] = w4 at HV HB HS HN5 ⊢
   go_wp2_with fail
   refine start_ (n := 7) (S := fun w' => w'.heap[g]? = some (.cells cs 67 (0, 0)) ∧ w'.heap[g5]? = some (.cells #[.int .i64 ((kn : Int) + 1), .int .i64 1, .int .i64 0, .slice A3 0 c3] 50 (0, 0))) (ds := [6]) #[false, false, false, false, false, false, false] (by kernel_rfl) rfl rfl ⟨HS.out.hg, HN5.out⟩ (fun hHeld => ?_)
   refine with_tabW once.tab8 once.bits8 (fun HT_ HW_ => ?_)
   have HS0 := HS
   have HS : Hd (Start base g w4.drew cs kn vw bd bf) := hd (HS0.out.below (below_drew1 (Below.refl _ _)))
   have HB0 := HB
   have HB : Hd (Below base w w4.drew) := hd (below_drew1 HB0.out)
   have HN50 := HN5
   have HN5 : Hd (w4.drew.heap[g5]? = _) := hd HN50.out
   have HV0 := HV
   have HV : Hd (Own k70 70 base w4.drew _ _) := hd (HV0.out.turn (turn_below (e := 99) HS0.out.bs (below_drew1 (Below.refl _ _))) (fun _ hq => (by have := k70_E _ hq; omega)))
   clear HS0 HB0 HN50 HV0
   generalize w4.drew = w5 at HS HB HN5 HV hHeld ⊢
   refine pure_ (i := 0) (N := (some 32)) (v := ?_) (a' := ?_) #[true, false, false, false, false, false, false] rfl rfl (any_of HT_.out (by kernel_rfl)) (fun _ _ _ h => h) (Or.inl ⟨by rfl, ?_⟩) ?_ ?_
   rotate_left
   ·intro w'
    go_simp
    with_reducible rfl
   rotate_left
   ·simp only [Act.put, List.setIfInBounds_toArray, List.set_cons_zero, List.set_cons_succ, i64_w, i32_w]
    rfl
   refine pure_ (i := 1) (N := (some 33)) (v := ?_) (a' := ?_) #[true, true, false, false, false, false, false] rfl rfl (any_of HT_.out (by kernel_rfl)) (fun _ _ _ h => h) (Or.inl ⟨by rfl, ?_⟩) ?_ ?_
   rotate_left
   ·intro w'
    go_simp
    with_reducible rfl
   rotate_left
   ·simp only [Act.put, List.setIfInBounds_toArray, List.set_cons_zero, List.set_cons_succ, i64_w, i32_w]
    rfl
   refine take_ (i := 2) (N := (some 34)) (v := ?_) (a' := ?_) #[true, true, true, false, false, false, false] rfl rfl (take_ofW HT_.out HW_.out (by kernel_rfl)) (fun _ _ _ h => h) (Or.inl ⟨by rfl, ?_⟩) hHeld ?_ ?_
   rotate_left
   ·rintro w' ⟨s0, s1⟩
    have b0 := (blk_cell s1 0).trans rfl
    have b1 := (blk_cell s1 1).trans rfl
    have b2 := (blk_cell s1 2).trans rfl
    have b3 := (blk_cell s1 3).trans rfl
    go_simp
    with_reducible rfl
   rotate_left
   ·simp only [Act.put, List.setIfInBounds_toArray, List.set_cons_zero, List.set_cons_succ, i64_w, i32_w]
    rfl
   refine pure_ (i := 3) (N := (some 35)) (v := ?_) (a' := ?_) #[true, true, true, true, false, false, false] rfl rfl (any_of HT_.out (by kernel_rfl)) (fun _ _ _ h => h) (Or.inl ⟨by rfl, ?_⟩) ?_ ?_
   rotate_left
   ·intro w'
    go_simp
    with_reducible rfl
   rotate_left
   ·simp only [Act.put, List.setIfInBounds_toArray, List.set_cons_zero, List.set_cons_succ, i64_w, i32_w]
    rfl
   refine pure_ (i := 4) (N := (some 36)) (v := ?_) (a' := ?_) #[true, true, true, true, true, false, false] rfl rfl (any_of HT_.out (by kernel_rfl)) (fun _ _ _ h => h) (Or.inl ⟨by rfl, ?_⟩) ?_ ?_
   rotate_left
   ·intro w'
    go_simp
    with_reducible rfl
   rotate_left
   ·simp only [Act.put, List.setIfInBounds_toArray, List.set_cons_zero, List.set_cons_succ, i64_w, i32_w]
    rfl
   refine pure_ (i := 5) (N := (some 37)) (v := ?_) (a' := ?_) #[true, true, true, true, true, true, false] rfl rfl (any_of HT_.out (by kernel_rfl)) (fun _ _ _ h => h) (Or.inl ⟨by rfl, ?_⟩) ?_ ?_
   rotate_left
   ·intro w'
    go_simp
    with_reducible rfl
   rotate_left
   ·simp only [Act.put, List.setIfInBounds_toArray, List.set_cons_zero, List.set_cons_succ, i64_w, i32_w]
    rfl
   refine last_ (i := 6) (N := none) #[true, true, true, true, true, true, true] rfl rfl (one_of HT_.out (by kernel_rfl)) (by decide) (fun K hK => ?_)
   refine store_mid_ 50 (.tmp 37) (.tmp 34) rfl (by rfl) rfl g (1 + kn * 4) #[.int .i64 ((kn : Int) + 1), .int .i64 1, .int .i64 0, .slice A3 0 c3] rfl rfl (there_blk HS.out.hg (by rw [HS.out.sz]; show 1 + kn * 4 + 4 ≤ 28; omega)) (by kernel_rfl) (by simp [Value.oneCell']) ?_
   have T6 := hd (turn_cells HS.out.hg HS.out.gb (1 + kn * 4) (cells4 ⟨(kn : Int) + 1, 1, 0, []⟩ (.slice A3 0 c3)))
   have HG6 : Hd ((w5.setCells g (1 + kn * 4) (cells4 ⟨(kn : Int) + 1, 1, 0, []⟩ (.slice A3 0 c3))).heap[g]? = some (.cells (set4 cs (1 + kn * 4) ⟨(kn : Int) + 1, 1, 0, []⟩ (.slice A3 0 c3)) 67 (0, 0))) := hd (blk_set (blk_set (blk_set (blk_set HS.out.hg _ _) _ _) _ _) _ _)
   refine hK.out _ _ ?_
   clear hK hHeld HN5
   unfold cells4 at T6 HG6
   dsimp only at T6 HG6
   generalize World.setCells _ _ _ _ = w6 at T6 HG6 ⊢
   refine done_ (done_of HT_.out (by kernel_rfl)) ?_
   clear HT_ HW_
   go_wp2_with fail
   refine start_ (n := 14) (S := fun w' => True) (ds := []) #[false, false, false, false, false, false, false, false, false, false, false, false, false, false] (by kernel_rfl) rfl rfl trivial (fun hHeld => ?_)
   refine with_tabW once.tab9 once.bits9 (fun HT_ HW_ => ?_)
   have T7 : Hd (Turn 67 base w5 w6.drew) := hd (T6.out.trans (turn_below (Nat.le_trans HS.out.bs T6.out.below.size) (below_drew1 (Below.refl _ _))))
   have HG7 : Hd (w6.drew.heap[g]? = _) := hd HG6.out
   clear T6 HG6
   generalize w6.drew = w7 at T7 HG7 hHeld ⊢
   refine pure_ (i := 0) (N := (some 38)) (v := ?_) (a' := ?_) #[true, false, false, false, false, false, false, false, false, false, false, false, false, false] rfl rfl (any_of HT_.out (by kernel_rfl)) (fun _ _ _ h => h) (Or.inl ⟨by rfl, ?_⟩) ?_ ?_
   rotate_left
   ·intro w'
    go_simp
    with_reducible rfl
   rotate_left
   ·simp only [Act.put, List.setIfInBounds_toArray, List.set_cons_zero, List.set_cons_succ, i64_w, i32_w]
    rfl
   refine pure_ (i := 1) (N := (some 39)) (v := ?_) (a' := ?_) #[true, true, false, false, false, false, false, false, false, false, false, false, false, false] rfl rfl (any_of HT_.out (by kernel_rfl)) (fun _ _ _ h => h) (Or.inl ⟨by rfl, ?_⟩) ?_ ?_
   rotate_left
   ·intro w'
    go_simp
    with_reducible rfl
   rotate_left
   ·simp only [Act.put, List.setIfInBounds_toArray, List.set_cons_zero, List.set_cons_succ, i64_w, i32_w]
    rfl
   refine pure_ (i := 2) (N := (some 40)) (v := ?_) (a' := ?_) #[true, true, true, false, false, false, false, false, false, false, false, false, false, false] rfl rfl (any_of HT_.out (by kernel_rfl)) (fun _ _ _ h => h) (Or.inl ⟨by rfl, ?_⟩) ?_ ?_
   rotate_left
   ·intro w'
    go_simp
    with_reducible rfl
   rotate_left
   ·simp only [Act.put, List.setIfInBounds_toArray, List.set_cons_zero, List.set_cons_succ, i64_w, i32_w]
    rfl
   refine pure_ (i := 3) (N := (some 41)) (v := ?_) (a' := ?_) #[true, true, true, true, false, false, false, false, false, false, false, false, false, false] rfl rfl (any_of HT_.out (by kernel_rfl)) (fun _ _ _ h => h) (Or.inl ⟨by rfl, ?_⟩) ?_ ?_
   rotate_left
   ·intro w'
    go_simp
    with_reducible rfl
   rotate_left
   ·simp only [Act.put, List.setIfInBounds_toArray, List.set_cons_zero, List.set_cons_succ, i64_w, i32_w]
    rfl
   refine pure_ (i := 6) (N := (some 44)) (v := ?_) (a' := ?_) #[true, true, true, true, false, false, true, false, false, false, false, false, false, false] rfl rfl (any_of HT_.out (by kernel_rfl)) (fun _ _ _ h => h) (Or.inl ⟨by rfl, ?_⟩) ?_ ?_
   rotate_left
   ·intro w'
    go_simp
    with_reducible rfl
   rotate_left
   ·simp only [Act.put, List.setIfInBounds_toArray, List.set_cons_zero, List.set_cons_succ, i64_w, i32_w]
    rfl
   refine pure_ (i := 7) (N := (some 45)) (v := ?_) (a' := ?_) #[true, true, true, true, false, false, true, true, false, false, false, false, false, false] rfl rfl (any_of HT_.out (by kernel_rfl)) (fun _ _ _ h => h) (Or.inl ⟨by rfl, ?_⟩) ?_ ?_
   rotate_left
   ·intro w'
    go_simp
    with_reducible rfl
   rotate_left
   ·simp only [Act.put, List.setIfInBounds_toArray, List.set_cons_zero, List.set_cons_succ, i64_w, i32_w]
    rfl
   refine pure_ (i := 10) (N := (some 47)) (v := ?_) (a' := ?_) #[true, true, true, true, false, false, true, true, false, false, true, false, false, false] rfl rfl (any_of HT_.out (by kernel_rfl)) (fun _ _ _ h => h) (Or.inl ⟨by rfl, ?_⟩) ?_ ?_
   rotate_left
   ·intro w'
    go_simp
    with_reducible rfl
   rotate_left
   ·simp only [Act.put, List.setIfInBounds_toArray, List.set_cons_zero, List.set_cons_succ, i64_w, i32_w]
    rfl
   refine pure_ (i := 11) (N := (some 48)) (v := ?_) (a' := ?_) #[true, true, true, true, false, false, true, true, false, false, true, true, false, false] rfl rfl (any_of HT_.out (by kernel_rfl)) (fun _ _ _ h => h) (Or.inl ⟨by rfl, ?_⟩) ?_ ?_
   rotate_left
   ·intro w'
    go_simp
    with_reducible rfl
   rotate_left
   ·simp only [Act.put, List.setIfInBounds_toArray, List.set_cons_zero, List.set_cons_succ, i64_w, i32_w]
    rfl
   refine join_ (fuel' := 2) kOnce2 (fun p : Nat × Nat => [(42, arrC p.1), (43, arrC p.2), (46, .pointer (some ⟨g, 19 + kn, none⟩))]) (fun p w' => w'.heap[p.1]? = some (.cells row0 3 (0, 0)) ∧ w'.heap[p.2]? = some (.cells row0 3 (0, 0)) ∧ p.1 ≠ p.2 ∧ w5.heap.size ≤ p.1 ∧ w5.heap.size ≤ p.2 ∧ w'.heap[g]? = some (.cells ((set4 cs (1 + kn * 4) ⟨(kn : Int) + 1, 1, 0, []⟩ (.slice A3 0 c3)).setIfInBounds (19 + kn) (arrC p.1)) 67 (0, 0)) ∧ Turn 67 base w5 w') (fun p w10 hF => ?_) (fun hcont => ?_)
   rotate_left
   ·have HZ : Hd (w5.heap.size ≤ w7.heap.size) := hd T7.out.below.size
    have hbb : base ≤ w7.heap.size := Nat.le_trans HS.out.bs HZ.out
    have hz7 := HZ.out
    refine two_ (i := 4) (j := 5) (Ni := some 42) (Nj := some 43) #[true, true, true, true, true, false, true, true, false, false, true, true, false, false] #[true, true, true, true, false, true, true, true, false, false, true, true, false, false] rfl rfl rfl rfl (two_of HT_.out (by kernel_rfl)) (by decide) (by decide) (fun K' hK => ?_) (fun K' hK => ?_)
    ·refine make_ (w := w7) (by rfl) rfl rfl ?_
     have b1 := (below_alloc (Below.refl w7.heap.size w7) (.cells row0 3))
     have N1 := blk_new w7 (.cells row0 3)
     have HG8 := blk_below HG7.out b1
     have T8 : Turn 67 base w5 (w7.alloc (.cells row0 3)) := T7.out.trans (turn_below hbb b1)
     have hz8 := b1.size
     refine hK.out _ _ trivial (fun _ => ?_)
     clear hK K'
     refine norm_ (a' := ?_) ?_ ?_
     rotate_left
     ·show Act.put _ (some 42) _ = _
      simp only [Act.put, List.setIfInBounds_toArray, List.set_cons_zero, List.set_cons_succ, i64_w, i32_w]
      rfl
     refine pure_ (i := 8) (N := some 46) (v := ?_) (a' := ?_) #[true, true, true, true, true, false, true, true, true, false, true, true, false, false] rfl rfl (any_of HT_.out (by kernel_rfl)) (fun _ _ _ h => h) (Or.inl ⟨by rfl, ?_⟩) ?_ ?_
     rotate_left
     ·intro w'
      go_simp
      with_reducible rfl
     rotate_left
     ·simp only [Act.put, List.setIfInBounds_toArray, List.set_cons_zero, List.set_cons_succ, i64_w, i32_w]
      rfl
     generalize hm1 : w7.heap.size = m1 at *
     have hl1 : m1 < (w7.alloc (.cells row0 3)).heap.size := blk_lt N1
     generalize w7.alloc _ = w8 at N1 HG8 T8 hz8 hl1 ⊢
     refine two_ (i := 5) (j := 9) (Ni := some 43) (Nj := none) kOnce3 #[true, true, true, true, true, false, true, true, true, true, true, true, false, false] rfl rfl rfl rfl (two_of HT_.out (by kernel_rfl)) (by decide) (by decide) (fun K' hK => ?_) (fun K' hK => ?_)
     ·refine make_ (w := w8) (by rfl) rfl rfl ?_
      have b2 := (below_alloc (Below.refl w8.heap.size w8) (.cells row0 3))
      have N2 := blk_new w8 (.cells row0 3)
      have N1' := blk_below N1 b2
      have HG9 := blk_below HG8 b2
      have T9 := T8.trans (turn_below (Nat.le_trans HS.out.bs T8.below.size) b2)
      refine hK.out _ _ trivial (fun _ => ?_)
      clear hK K'
      refine norm_ (a' := ?_) ?_ ?_
      rotate_left
      ·show Act.put _ (some 43) _ = _
       simp only [Act.put, List.setIfInBounds_toArray, List.set_cons_zero, List.set_cons_succ, i64_w, i32_w]
       rfl
      refine one_ (i := 9) (N := none) kOnce2 rfl rfl (one_of HT_.out (by kernel_rfl)) (by decide) (fun K' hK => ?_)
      have cf := (blk_cell HG9 (19 + kn)).trans (Array.getElem?_eq_getElem (by simp [set4, HS.out.sz]; omega))
      have ff := blk_frozen HG9 (19 + kn)
      refine skip_ (w1 := (w8.alloc (.cells row0 3)).setCell ⟨g, 19 + kn, none⟩ (arrC m1)) (by rfl) rfl ?_ ?_
      ·unfold arrC
       go_simp
      have TS := turn_set (j := 19 + kn) HG9 HS.out.gb (arrC m1)
      refine hK.out _ _ trivial (fun _ => ?_)
      refine norm_ ?_ (hcont ⟨m1, w8.heap.size⟩ _ ⟨TS.keep _ _ _ N1' (by decide), TS.keep _ _ _ N2 (by decide), by show m1 ≠ w8.heap.size; omega, by show w5.heap.size ≤ m1; omega, by show w5.heap.size ≤ w8.heap.size; omega, blk_set HG9 _ _, T9.trans TS⟩)
      simp only [putAll, Act.put, List.setIfInBounds_toArray, List.set_cons_zero, List.set_cons_succ]
     ·have cf := (blk_cell HG8 (19 + kn)).trans (Array.getElem?_eq_getElem (by simp [set4, HS.out.sz]; omega))
      have ff := blk_frozen HG8 (19 + kn)
      refine skip_ (w1 := w8.setCell ⟨g, 19 + kn, none⟩ (arrC m1)) (by rfl) rfl ?_ ?_
      ·unfold arrC
       go_simp
      have TS := turn_set (j := 19 + kn) HG8 HS.out.gb (arrC m1)
      have N1' := TS.keep _ _ _ N1 (by decide)
      have HG9 := blk_set HG8 (19 + kn) (arrC m1)
      have T9 := T8.trans TS
      have hz9 : w8.heap.size = (w8.setCell ⟨g, 19 + kn, none⟩ (arrC m1)).heap.size := by simp
      refine hK.out _ _ trivial (fun _ => ?_)
      clear hK K'
      generalize w8.setCell _ _ = w9 at TS N1' HG9 T9 hz9 ⊢
      refine one_ (i := 5) (N := some 43) kOnce2 rfl rfl (one_of HT_.out (by kernel_rfl)) (by decide) (fun K' hK => ?_)
      refine make_ (w := w9) (by rfl) rfl rfl ?_
      have b2 := (below_alloc (Below.refl w9.heap.size w9) (.cells row0 3))
      have N2 := blk_new w9 (.cells row0 3)
      refine hK.out _ _ trivial (fun _ => ?_)
      refine norm_ ?_ (hcont ⟨m1, w9.heap.size⟩ _ ⟨blk_below N1' b2, N2, by show m1 ≠ w9.heap.size; omega, by show w5.heap.size ≤ m1; omega, by show w5.heap.size ≤ w9.heap.size; omega, blk_below HG9 b2, T9.trans (turn_below (Nat.le_trans HS.out.bs T9.below.size) b2)⟩)
      simp only [putAll, Act.put, List.setIfInBounds_toArray, List.set_cons_zero, List.set_cons_succ]
    ·refine make_ (w := w7) (by rfl) rfl rfl ?_
     have b1 := (below_alloc (Below.refl w7.heap.size w7) (.cells row0 3))
     have N1 := blk_new w7 (.cells row0 3)
     have HG8 := blk_below HG7.out b1
     have T8 : Turn 67 base w5 (w7.alloc (.cells row0 3)) := T7.out.trans (turn_below hbb b1)
     have hz8 := b1.size
     refine hK.out _ _ trivial (fun _ => ?_)
     clear hK K'
     generalize hm1 : w7.heap.size = m1 at *
     have hl1 : m1 < (w7.alloc (.cells row0 3)).heap.size := blk_lt N1
     generalize w7.alloc _ = w8 at N1 HG8 T8 hz8 hl1 ⊢
     refine norm_ (a' := ?_) ?_ ?_
     rotate_left
     ·show Act.put _ (some 43) _ = _
      simp only [Act.put, List.setIfInBounds_toArray, List.set_cons_zero, List.set_cons_succ, i64_w, i32_w]
      rfl
     refine one_ (i := 4) (N := some 42) #[true, true, true, true, true, true, true, true, false, false, true, true, false, false] rfl rfl (one_of HT_.out (by kernel_rfl)) (by decide) (fun K' hK => ?_)
     refine make_ (w := w8) (by rfl) rfl rfl ?_
     have b2 := (below_alloc (Below.refl w8.heap.size w8) (.cells row0 3))
     have N2 := blk_new w8 (.cells row0 3)
     have N1' := blk_below N1 b2
     have HG9 := blk_below HG8 b2
     have T9 := T8.trans (turn_below (Nat.le_trans HS.out.bs T8.below.size) b2)
     refine hK.out _ _ trivial (fun _ => ?_)
     clear hK K'
     refine norm_ (a' := ?_) ?_ ?_
     rotate_left
     ·show Act.put _ (some 42) _ = _
      simp only [Act.put, List.setIfInBounds_toArray, List.set_cons_zero, List.set_cons_succ, i64_w, i32_w]
      rfl
     refine pure_ (i := 8) (N := some 46) (v := ?_) (a' := ?_) kOnce3 rfl rfl (any_of HT_.out (by kernel_rfl)) (fun _ _ _ h => h) (Or.inl ⟨by rfl, ?_⟩) ?_ ?_
     rotate_left
     ·intro w'
      go_simp
      with_reducible rfl
     rotate_left
     ·simp only [Act.put, List.setIfInBounds_toArray, List.set_cons_zero, List.set_cons_succ, i64_w, i32_w]
      rfl
     refine one_ (i := 9) (N := none) kOnce2 rfl rfl (one_of HT_.out (by kernel_rfl)) (by decide) (fun K' hK => ?_)
     have cf := (blk_cell HG9 (19 + kn)).trans (Array.getElem?_eq_getElem (by simp [set4, HS.out.sz]; omega))
     have ff := blk_frozen HG9 (19 + kn)
     refine skip_ (w1 := (w8.alloc (.cells row0 3)).setCell ⟨g, 19 + kn, none⟩ (arrC w8.heap.size)) (by rfl) rfl ?_ ?_
     ·unfold arrC
      go_simp
     have TS := turn_set (j := 19 + kn) HG9 HS.out.gb (arrC w8.heap.size)
     refine hK.out _ _ trivial (fun _ => ?_)
     refine norm_ ?_ (hcont ⟨w8.heap.size, m1⟩ _ ⟨TS.keep _ _ _ N2 (by decide), TS.keep _ _ _ N1' (by decide), by show w8.heap.size ≠ m1; omega, by show w5.heap.size ≤ w8.heap.size; omega, by show w5.heap.size ≤ m1; omega, blk_set HG9 _ _, T9.trans TS⟩)
     simp only [putAll, Act.put, List.setIfInBounds_toArray, List.set_cons_zero, List.set_cons_succ]
   obtain ⟨b1, b2⟩ := p
   obtain ⟨N1, N2, h12, hs1, hs2, HGA, TA⟩ := hF
   simp only at N1 N2 h12 hs1 hs2 HGA
   refine norm_ (a' := ?_) ?_ ?_
   rotate_left
   ·simp only [putAll, Act.put, List.setIfInBounds_toArray, List.set_cons_zero, List.set_cons_succ]
    rfl
   refine pure_ (i := 12) (N := some 49) (v := ?_) (a' := ?_) #[true, true, true, true, true, true, true, true, true, true, true, true, true, false] rfl rfl (any_of HT_.out (by kernel_rfl)) (fun _ _ _ h => h) (Or.inl ⟨by rfl, ?_⟩) ?_ ?_
   rotate_left
   ·intro w'
    go_simp
    with_reducible rfl
   rotate_left
   ·simp only [Act.put, List.setIfInBounds_toArray, List.set_cons_zero, List.set_cons_succ, i64_w, i32_w]
    rfl
   refine one_ (i := 13) (N := none) #[true, true, true, true, true, true, true, true, true, true, true, true, true, true] rfl rfl (one_of HT_.out (by kernel_rfl)) (by decide) (fun K' hK => ?_)
   have cf := (blk_cell HGA (23 + kn)).trans (Array.getElem?_eq_getElem (by simp [set4, HS.out.sz]; omega))
   have ff := blk_frozen HGA (23 + kn)
   refine skip_ (w1 := w10.setCell ⟨g, 23 + kn, none⟩ (arrC b2)) (by rfl) rfl ?_ ?_
   ·unfold arrC
    go_simp
   have TS := turn_set (j := 23 + kn) HGA HS.out.gb (arrC b2)
   have TZ := TA.trans TS
   have HSN := hd (HS.out.add hlt TZ (HV.out.turn TZ k70_67) (TS.keep _ _ _ N1 (by decide)) (TS.keep _ _ _ N2 (by decide)) h12 hs1 hs2 (blk_set HGA _ _))
   have HBN := hd (HB.out.trans TZ.below)
   refine hK.out _ _ trivial (fun _ => ?_)
   clear hK cf ff TS TZ HGA TA N1 N2 h12 hs1 hs2 HS HB HV T7 HG7 hHeld
   generalize World.setCell _ _ _ = w11 at HSN HBN ⊢
   refine done_ (done_of HT_.out (by kernel_rfl)) ?_
   clear HT_ HW_
   go_wp2
   go_roundw
   case rel => exact ⟨kn + 1, _, _, _, _, by omega, by go_num, HSN, HBN⟩
   case measure => simp [intOf]; omega
  ·have hKK : kn = 4 := by omega
   subst hKK
   have HM := hd HS.out.lay
   have HG := hd good_start
   clear HS hlt hK4 cs vw bd bf
   go_wp2
   go_loopw [7] (fun iv wr => ∃ (i : Nat) (s : Ws), i ≤ 200 ∧ i ≤ l0.length ∧ iv = .int .i64 (i : Int) ∧ Hd (LayM base g wr s) ∧ Hd (Good s i) ∧ Hd (Below base w wr)) (fun iv _ => l0.length - (intOf iv).toNat)
   case atStart => exact ⟨0, startO, by omega, by omega, rfl, HM, HG, HB⟩
   clear HM HG HB
   case round =>
    obtain ⟨i, s, hi200, hil, rfl, HM, HG, HB⟩ := hrel
    by_cases hmore : i < l0.length ∧ i < 200
    ·obtain ⟨hlt, hlt2⟩ := hmore
     have hi1 : (i : Int) < (l0.length : Int) := by omega
     have hi2 : (i : Int) < 200 := by omega
     obtain ⟨ad, rfl, hx⟩ := Kd.at_int (Kd.C_below HR.out (by rw [HBASE.out]; exact HB.out)) (i : Int) (by omega) (by omega)
     obtain ⟨x, hxx⟩ : ∃ x, rd l0 (i : Int) = x := ⟨_, rfl⟩
     have hwx : (Lit.int .i64 x).wf = true := by
      rw [← hxx]
      refine HWF.out _ ?_
      have hg_ : l0[i]? = some l0[i] := List.getElem?_eq_getElem hlt
      simp only [rd, Int.toNat_natCast, List.getD_eq_getElem?_getD, hg_, Option.getD_some]
      exact List.getElem_mem _
     rw [hxx, Int.toNat_natCast] at hx
     clear hxx
     obtain ⟨n, hn, hn0, hn1⟩ := pick_some x 1000003 (by omega) (by omega) hwx
     have HN := hd hn
     clear hn hwx
     go_wp2_with fail
     refine (musterlow_Pick.calls x 1000003 n wr HN.out).mono ?_
     rintro e w3 ⟨rfl, nd, rfl⟩
     clear HN hx
     have b_ : Below wr.heap.size wr (wr.drewN nd) := pw_below_drewN (Below.refl _ wr) nd
     obtain ⟨cs, vl, vt, vb, vw, bd, bf, HL⟩ := HM.out
     have HM3 : Hd (LayM base g (wr.drewN nd) s) := hd ⟨_, _, _, _, _, _, _, HL.below b_⟩
     have HB3 : Hd (Below base w (wr.drewN nd)) := hd (below_then HB.out HL.bs b_)
     clear HM HB b_ HL cs vl vt vb vw bd bf
     generalize wr.drewN nd = w3 at HM3 HB3 ⊢
     have HM := HM3
     have HB := HB3
     clear HM3 HB3
     go_upto_region 15 with (fail)
     obtain ⟨k, hk, hke⟩ : ∃ k : Nat, k < 4 ∧ n / 7 % 4 = (k : Int) := ⟨(n / 7 % 4).toNat, by omega, by omega⟩
     rw [hke]
     clear hke
     have hk4 : (k : Int) < 4 := by omega
     go_upto_block 4 with fail
     obtain ⟨m, hm, hme⟩ : ∃ m : Int, (0 ≤ m ∧ m < 7) ∧ n % 7 = m := ⟨_, by omega, rfl⟩
     rw [hme]
     clear hme
     go_cut [10, 11, 12, 13, 14, 15, 16, 17] from 69 to 245 (fun a b c d e f q r wc => ∃ s', Hd (LayM base g wc s') ∧ Hd (Good s' (i + 1)) ∧ Hd (Below base w wc))
     case first =>
      have HG0 := HG
      rcases (show m = 0 ∨ m = 1 ∨ m = 2 ∨ m = 3 ∨ m = 4 ∨ m = 5 ∨ m = 6 by omega) with rfl | rfl | rfl | rfl | rfl | rfl | rfl
      ·as_aux_lemma =>
        obtain ⟨cs, vl, vt, vb, vw, bd, bf, hL⟩ := HM.out
        have HL := hd hL
        clear hL HM
        obtain ⟨A, c, hvw, hcc, hC⟩ := (HL.out.ow k hk).reads
        have HC := hd hC
        have HCC := hd hcc
        have d0 := (blk_cell HL.out.hg (1 + k * 4)).trans (HL.out.cells.ca k hk).1
        have d1 := (blk_cell HL.out.hg (1 + k * 4 + 1)).trans (HL.out.cells.ca k hk).2.1
        have d2 := (blk_cell HL.out.hg (1 + k * 4 + 2)).trans (HL.out.cells.ca k hk).2.2.1
        have d3 := (blk_cell HL.out.hg (1 + k * 4 + 3)).trans ((HL.out.cells.ca k hk).2.2.2.trans (congrArg some hvw))
        clear hC hvw hcc
        go_wp2_with fail
        have b1 := below_alloc (Below.refl w3.heap.size w3) (.cells #[.int .u8 (i : Int)] 5)
        by_cases hbz : (s.a k).nx - 1 - (s.a k).ak ≥ 8
        ·obtain ⟨kq, hq⟩ := ask_busy HG0.out (by omega) hk (i : Int) hbz
         refine (session_Ask.calls kq _ _ _ A c _ (some ⟨w3.heap.size, 0, none⟩) 1 [(i : Int)] _ _ _ _ _ _ (w3.alloc (.cells #[.int .u8 (i : Int)] 5)) (Kd.C_below HC.out b1) HCC.out (byte_C (blk_new w3 _)) (by simp) hq).mono ?_
         rintro e w4 ⟨v3, rfl, hS, b2⟩
         have hbsA := Nat.le_trans HL.out.bs b1.size
         obtain ⟨A5, c5, rfl, _, _⟩ := Kd.R_reads (Kd.S_R hS)
         clear hS
         have b_ := below_then b1 b1.size b2
         replace HB := hd (below_then HB.out HL.out.bs b_)
         replace HL := hd (HL.out.below b_)
         clear b_ b1 b2 hq HC HCC d0 d1 d2 d3 hbsA
         go_wp2_with (first | ((with_reducible refine gate_dst (N := 10) rfl ?_); refine box_event ?hg (N := 10) ?hd (cs := #[.int .i64 0, .int .i64 0, .int .i64 0, .slice none 0 0]) (t := 50) ?hr ?_; (case hd => rfl); (case hg => rfl); (case hr => first | (go_simp; done) | (go_simp; rfl)); intro g10 hg_ w5 hbox_ b_; have HN10 := hd hbox_; have HGE10 : Hd (w4.heap.size ≤ g10) := hd (by omega); have hge10 : base ≤ g10 := (by have := HL.out.bs; omega); replace HB := hd (below_then HB.out HL.out.bs b_); replace HL := hd (HL.out.below b_); clear hg_ hbox_ b_) | ((with_reducible refine gate_store (t := 50) (p := 10) rfl ?_); refine wpList_store_row rfl 50 (.tmp 10) (.tmp 135) rfl g10 #[.int .i64 0, .int .i64 0, .int .i64 0, .slice A5 0 c5] rfl rfl 50 _ HN10.out (by kernel_rfl) rfl (by simp [Value.oneCell']) ?_; refine holdW ?_))
         refine ⟨?_⟩
         have T6 := turn_row HN10.out hge10 #[.int .i64 0, .int .i64 0, .int .i64 0, .slice A5 0 c5]
         replace HB := hd (HB.out.trans T6.below)
         replace HL := hd (HL.out.turn50 T6)
         clear HN10 HGE10 hge10 T6
         generalize World.setRow _ _ _ = w6 at HB HL ⊢
         have HM : Hd (LayM base g w6 s) := hd ⟨_, _, _, _, _, _, _, HL.out⟩
         go_wp2
         go_meet
         case rel => exact ⟨s, HM, hd (HG0.out.more (by omega)), HB⟩
        ·obtain ⟨kq, hq⟩ := ask_ok HG0.out (by omega) hk (i : Int) hbz
         refine (session_Ask.calls kq _ _ _ A c _ (some ⟨w3.heap.size, 0, none⟩) 1 [(i : Int)] _ _ _ _ _ _ (w3.alloc (.cells #[.int .u8 (i : Int)] 5)) (Kd.C_below HC.out b1) HCC.out (byte_C (blk_new w3 _)) (by simp) hq).mono ?_
         rintro e w4 ⟨v3, rfl, hS, b2⟩
         have hbsA := Nat.le_trans HL.out.bs b1.size
         obtain ⟨A5, c5, rfl, _, _⟩ := Kd.R_reads (Kd.S_R hS)
         have hV : Own k70 70 base w4 (.slice A5 ((s.a k).ws ++ [(⟨(s.a k).nx, [(i : Int)]⟩ : S70)]).length c5) ((s.a k).ws ++ [(⟨(s.a k).nx, [(i : Int)]⟩ : S70)]) := Own.of (Kd.S_R hS) hbsA
         obtain ⟨L5, hL5⟩ : ∃ L, ((s.a k).ws ++ [(⟨(s.a k).nx, [(i : Int)]⟩ : S70)]).length = L := ⟨_, rfl⟩
         rw [hL5] at hV ⊢
         have HV := hd hV
         clear hS hV hL5
         have b_ := below_then b1 b1.size b2
         replace HB := hd (below_then HB.out HL.out.bs b_)
         replace HL := hd (HL.out.below b_)
         clear b_ b1 b2 hq HC HCC d0 d1 d2 d3 hbsA
         go_wp2_with (first | ((with_reducible refine gate_dst (N := 10) rfl ?_); refine box_event ?hg (N := 10) ?hd (cs := #[.int .i64 0, .int .i64 0, .int .i64 0, .slice none 0 0]) (t := 50) ?hr ?_; (case hd => rfl); (case hg => rfl); (case hr => first | (go_simp; done) | (go_simp; rfl)); intro g10 hg_ w5 hbox_ b_; have HN10 := hd hbox_; have HGE10 : Hd (w4.heap.size ≤ g10) := hd (by omega); have hge10 : base ≤ g10 := (by have := HL.out.bs; omega); replace HV := hd (HV.out.turn (turn_below (e := 99) HL.out.bs b_) (fun _ hq => (by have := k70_E _ hq; omega))); replace HB := hd (below_then HB.out HL.out.bs b_); replace HL := hd (HL.out.below b_); clear hg_ hbox_ b_) | ((with_reducible refine gate_store (t := 50) (p := 10) rfl ?_); refine wpList_store_row rfl 50 (.tmp 10) (.tmp 135) rfl g10 #[.int .i64 (s.a k).id, .int .i64 ((s.a k).nx + 1), .int .i64 (s.a k).ak, .slice A5 L5 c5] rfl rfl 50 _ HN10.out (by kernel_rfl) rfl (by simp [Value.oneCell']) ?_; refine holdW ?_))
         refine ⟨?_⟩
         have T6 := turn_row HN10.out hge10 #[.int .i64 (s.a k).id, .int .i64 ((s.a k).nx + 1), .int .i64 (s.a k).ak, .slice A5 L5 c5]
         have hg6 := setRow_heap w5 g10 _ #[.int .i64 (s.a k).id, .int .i64 ((s.a k).nx + 1), .int .i64 (s.a k).ak, .slice A5 L5 c5] 50 (0, 0) HN10.out
         replace HB := hd (HB.out.trans T6.below)
         replace HL := hd (HL.out.turn50 T6)
         replace HV := hd (HV.out.turn T6 (fun _ hq => (by have := k70_E _ hq; omega)))
         clear HN10 HGE10 hge10 T6
         have HN10 := hd hg6
         clear hg6
         generalize World.setRow _ _ _ = w6 at HB HL HV HN10 ⊢
         go_wp2_with fail
         refine start_ (n := 7) (S := fun w' => w'.heap[g]? = some (.cells cs 67 (0, 0)) ∧ w'.heap[g10]? = some (.cells #[.int .i64 (s.a k).id, .int .i64 ((s.a k).nx + 1), .int .i64 (s.a k).ak, .slice A5 L5 c5] 50 (0, 0))) (ds := [6]) #[false, false, false, false, false, false, false] (by kernel_rfl) rfl rfl ⟨HL.out.hg, HN10.out⟩ (fun hHeld => ?_)
         refine with_tabW once.tab27 once.bits27 (fun HT_ HW_ => ?_)
         have HL0 := HL
         have HL : Hd (Lay base g w6.drew _ _ _ _ _ _ _ _) := hd (HL0.out.below (below_drew1 (Below.refl _ _)))
         have HB0 := HB
         have HB : Hd (Below base w w6.drew) := hd (below_drew1 HB0.out)
         have HN0 := HN10
         have HN10 : Hd (w6.drew.heap[g10]? = _) := hd HN0.out
         have HV0 := HV
         have HV : Hd (Own k70 70 base w6.drew _ _) := hd (HV0.out.turn (turn_below (e := 99) HL0.out.bs (below_drew1 (Below.refl _ _))) (fun _ hq => (by have := k70_E _ hq; omega)))
         clear HL0 HB0 HN0 HV0
         generalize w6.drew = w7 at HL HB HN10 HV hHeld ⊢
         refine pure_ (i := 0) (N := (some 140)) (v := ?_) (a' := ?_) #[true, false, false, false, false, false, false] rfl rfl (any_of HT_.out (by kernel_rfl)) (fun _ _ _ h => h) (Or.inl ⟨by rfl, ?_⟩) ?_ ?_
         rotate_left
         ·intro w'
          go_simp
          with_reducible rfl
         rotate_left
         ·simp only [Act.put, List.setIfInBounds_toArray, List.set_cons_zero, List.set_cons_succ, i64_w, i32_w]
          rfl
         refine pure_ (i := 1) (N := (some 141)) (v := ?_) (a' := ?_) #[true, true, false, false, false, false, false] rfl rfl (any_of HT_.out (by kernel_rfl)) (fun _ _ _ h => h) (Or.inl ⟨by rfl, ?_⟩) ?_ ?_
         rotate_left
         ·intro w'
          go_simp
          with_reducible rfl
         rotate_left
         ·simp only [Act.put, List.setIfInBounds_toArray, List.set_cons_zero, List.set_cons_succ, i64_w, i32_w]
          rfl
         refine take_ (i := 2) (N := (some 142)) (v := ?_) (a' := ?_) #[true, true, true, false, false, false, false] rfl rfl (take_ofW HT_.out HW_.out (by kernel_rfl)) (fun _ _ _ h => h) (Or.inl ⟨by rfl, ?_⟩) hHeld ?_ ?_
         rotate_left
         ·rintro w' ⟨s0, s1⟩
          have b0 := (blk_cell s1 0).trans rfl
          have b1 := (blk_cell s1 1).trans rfl
          have b2 := (blk_cell s1 2).trans rfl
          have b3 := (blk_cell s1 3).trans rfl
          go_simp
          with_reducible rfl
         rotate_left
         ·simp only [Act.put, List.setIfInBounds_toArray, List.set_cons_zero, List.set_cons_succ, i64_w, i32_w]
          rfl
         refine pure_ (i := 3) (N := (some 143)) (v := ?_) (a' := ?_) #[true, true, true, true, false, false, false] rfl rfl (any_of HT_.out (by kernel_rfl)) (fun _ _ _ h => h) (Or.inl ⟨by rfl, ?_⟩) ?_ ?_
         rotate_left
         ·intro w'
          go_simp
          with_reducible rfl
         rotate_left
         ·simp only [Act.put, List.setIfInBounds_toArray, List.set_cons_zero, List.set_cons_succ, i64_w, i32_w]
          rfl
         refine pure_ (i := 4) (N := (some 144)) (v := ?_) (a' := ?_) #[true, true, true, true, true, false, false] rfl rfl (any_of HT_.out (by kernel_rfl)) (fun _ _ _ h => h) (Or.inl ⟨by rfl, ?_⟩) ?_ ?_
         rotate_left
         ·intro w'
          go_simp
          with_reducible rfl
         rotate_left
         ·simp only [Act.put, List.setIfInBounds_toArray, List.set_cons_zero, List.set_cons_succ, i64_w, i32_w]
          rfl
         refine pure_ (i := 5) (N := (some 145)) (v := ?_) (a' := ?_) #[true, true, true, true, true, true, false] rfl rfl (any_of HT_.out (by kernel_rfl)) (fun _ _ _ h => h) (Or.inl ⟨by rfl, ?_⟩) ?_ ?_
         rotate_left
         ·intro w'
          go_simp
          with_reducible rfl
         rotate_left
         ·simp only [Act.put, List.setIfInBounds_toArray, List.set_cons_zero, List.set_cons_succ, i64_w, i32_w]
          rfl
         refine last_ (i := 6) (N := none) #[true, true, true, true, true, true, true] rfl rfl (one_of HT_.out (by kernel_rfl)) (by decide) (fun K hK => ?_)
         refine store_mid_ 50 (.tmp 145) (.tmp 142) rfl (by rfl) rfl g (1 + k * 4) #[.int .i64 (s.a k).id, .int .i64 ((s.a k).nx + 1), .int .i64 (s.a k).ak, .slice A5 L5 c5] rfl rfl (there_blk HL.out.hg (by rw [HL.out.cells.sz]; show 1 + k * 4 + 4 ≤ 28; omega)) (by kernel_rfl) (by simp [Value.oneCell']) ?_
         have HL8 := hd (HL.out.put_a (v := .slice A5 L5 c5) (x := (⟨(s.a k).id, (s.a k).nx + 1, (s.a k).ak, ((s.a k).ws ++ [(⟨(s.a k).nx, [(i : Int)]⟩ : S70)])⟩ : Ak)) hk HV.out)
         have T8 := turn_cells HL.out.hg HL.out.gb (1 + k * 4) (cells4 (⟨(s.a k).id, (s.a k).nx + 1, (s.a k).ak, ((s.a k).ws ++ [(⟨(s.a k).nx, [(i : Int)]⟩ : S70)])⟩ : Ak) (.slice A5 L5 c5))
         replace HB := hd (HB.out.trans T8.below)
         refine hK.out _ _ ?_
         clear hK K T8 HV HN10 HL hHeld
         have HL := HL8
         clear HL8
         unfold cells4 at HL HB
         dsimp only at HL HB
         generalize World.setCells _ _ _ _ = w8 at HL HB ⊢
         refine done_ (done_of HT_.out (by kernel_rfl)) ?_
         clear HT_ HW_
         have hlen : (asked1 s k (i : Int)).tos.length ≤ 1000000 := by have := HG0.out.lt; show s.tos.length ≤ _; omega
         have HLEN := hd hlen
         clear hlen
         go_wp2_with fail
         refine (send_walk base g w _ _ (asked1 s k (i : Int)) _ _ _ _ _ _ k (s.a k).nx hk HL.out HB.out HLEN.out).mono ?_
         rintro e w9 ⟨rfl, hM, hB9⟩
         clear HL HB HLEN
         have HM := hd hM
         have HB := hd hB9
         clear hM hB9
         go_wp2
         go_meet
         case rel => exact ⟨_, HM, hd (ask_good HG0.out (by omega) hk (i : Int) (by omega)), HB⟩
      ·as_aux_lemma =>
        obtain ⟨cs, vl, vt, vb, vw, bd, bf, hL⟩ := HM.out
        have HL := hd hL
        clear hL HM
        obtain ⟨A, c, hvw, hcc, hC⟩ := (HL.out.ow k hk).reads
        have HC := hd hC
        have HCC := hd hcc
        have d0 := (blk_cell HL.out.hg (1 + k * 4)).trans (HL.out.cells.ca k hk).1
        have d1 := (blk_cell HL.out.hg (1 + k * 4 + 1)).trans (HL.out.cells.ca k hk).2.1
        have d2 := (blk_cell HL.out.hg (1 + k * 4 + 2)).trans (HL.out.cells.ca k hk).2.2.1
        have d3 := (blk_cell HL.out.hg (1 + k * 4 + 3)).trans ((HL.out.cells.ca k hk).2.2.2.trans (congrArg some hvw))
        clear hC hvw hcc
        go_wp2_with fail
        have b1 := below_alloc (Below.refl w3.heap.size w3) (.cells #[.int .u8 (i : Int)] 5)
        by_cases hbz : (s.a k).nx - 1 - (s.a k).ak ≥ 8
        ·obtain ⟨kq, hq⟩ := ask_busy HG0.out (by omega) hk (i : Int) hbz
         refine (session_Ask.calls kq _ _ _ A c _ (some ⟨w3.heap.size, 0, none⟩) 1 [(i : Int)] _ _ _ _ _ _ (w3.alloc (.cells #[.int .u8 (i : Int)] 5)) (Kd.C_below HC.out b1) HCC.out (byte_C (blk_new w3 _)) (by simp) hq).mono ?_
         rintro e w4 ⟨v3, rfl, hS, b2⟩
         have hbsA := Nat.le_trans HL.out.bs b1.size
         obtain ⟨A5, c5, rfl, _, _⟩ := Kd.R_reads (Kd.S_R hS)
         clear hS
         have b_ := below_then b1 b1.size b2
         replace HB := hd (below_then HB.out HL.out.bs b_)
         replace HL := hd (HL.out.below b_)
         clear b_ b1 b2 hq HC HCC d0 d1 d2 d3 hbsA
         go_wp2_with (first | ((with_reducible refine gate_dst (N := 10) rfl ?_); refine box_event ?hg (N := 10) ?hd (cs := #[.int .i64 0, .int .i64 0, .int .i64 0, .slice none 0 0]) (t := 50) ?hr ?_; (case hd => rfl); (case hg => rfl); (case hr => first | (go_simp; done) | (go_simp; rfl)); intro g10 hg_ w5 hbox_ b_; have HN10 := hd hbox_; have HGE10 : Hd (w4.heap.size ≤ g10) := hd (by omega); have hge10 : base ≤ g10 := (by have := HL.out.bs; omega); replace HB := hd (below_then HB.out HL.out.bs b_); replace HL := hd (HL.out.below b_); clear hg_ hbox_ b_) | ((with_reducible refine gate_store (t := 50) (p := 10) rfl ?_); refine wpList_store_row rfl 50 (.tmp 10) (.tmp 135) rfl g10 #[.int .i64 0, .int .i64 0, .int .i64 0, .slice A5 0 c5] rfl rfl 50 _ HN10.out (by kernel_rfl) rfl (by simp [Value.oneCell']) ?_; refine holdW ?_))
         refine ⟨?_⟩
         have T6 := turn_row HN10.out hge10 #[.int .i64 0, .int .i64 0, .int .i64 0, .slice A5 0 c5]
         replace HB := hd (HB.out.trans T6.below)
         replace HL := hd (HL.out.turn50 T6)
         clear HN10 HGE10 hge10 T6
         generalize World.setRow _ _ _ = w6 at HB HL ⊢
         have HM : Hd (LayM base g w6 s) := hd ⟨_, _, _, _, _, _, _, HL.out⟩
         go_wp2
         go_meet
         case rel => exact ⟨s, HM, hd (HG0.out.more (by omega)), HB⟩
        ·obtain ⟨kq, hq⟩ := ask_ok HG0.out (by omega) hk (i : Int) hbz
         refine (session_Ask.calls kq _ _ _ A c _ (some ⟨w3.heap.size, 0, none⟩) 1 [(i : Int)] _ _ _ _ _ _ (w3.alloc (.cells #[.int .u8 (i : Int)] 5)) (Kd.C_below HC.out b1) HCC.out (byte_C (blk_new w3 _)) (by simp) hq).mono ?_
         rintro e w4 ⟨v3, rfl, hS, b2⟩
         have hbsA := Nat.le_trans HL.out.bs b1.size
         obtain ⟨A5, c5, rfl, _, _⟩ := Kd.R_reads (Kd.S_R hS)
         have hV : Own k70 70 base w4 (.slice A5 ((s.a k).ws ++ [(⟨(s.a k).nx, [(i : Int)]⟩ : S70)]).length c5) ((s.a k).ws ++ [(⟨(s.a k).nx, [(i : Int)]⟩ : S70)]) := Own.of (Kd.S_R hS) hbsA
         obtain ⟨L5, hL5⟩ : ∃ L, ((s.a k).ws ++ [(⟨(s.a k).nx, [(i : Int)]⟩ : S70)]).length = L := ⟨_, rfl⟩
         rw [hL5] at hV ⊢
         have HV := hd hV
         clear hS hV hL5
         have b_ := below_then b1 b1.size b2
         replace HB := hd (below_then HB.out HL.out.bs b_)
         replace HL := hd (HL.out.below b_)
         clear b_ b1 b2 hq HC HCC d0 d1 d2 d3 hbsA
         go_wp2_with (first | ((with_reducible refine gate_dst (N := 10) rfl ?_); refine box_event ?hg (N := 10) ?hd (cs := #[.int .i64 0, .int .i64 0, .int .i64 0, .slice none 0 0]) (t := 50) ?hr ?_; (case hd => rfl); (case hg => rfl); (case hr => first | (go_simp; done) | (go_simp; rfl)); intro g10 hg_ w5 hbox_ b_; have HN10 := hd hbox_; have HGE10 : Hd (w4.heap.size ≤ g10) := hd (by omega); have hge10 : base ≤ g10 := (by have := HL.out.bs; omega); replace HV := hd (HV.out.turn (turn_below (e := 99) HL.out.bs b_) (fun _ hq => (by have := k70_E _ hq; omega))); replace HB := hd (below_then HB.out HL.out.bs b_); replace HL := hd (HL.out.below b_); clear hg_ hbox_ b_) | ((with_reducible refine gate_store (t := 50) (p := 10) rfl ?_); refine wpList_store_row rfl 50 (.tmp 10) (.tmp 135) rfl g10 #[.int .i64 (s.a k).id, .int .i64 ((s.a k).nx + 1), .int .i64 (s.a k).ak, .slice A5 L5 c5] rfl rfl 50 _ HN10.out (by kernel_rfl) rfl (by simp [Value.oneCell']) ?_; refine holdW ?_))
         refine ⟨?_⟩
         have T6 := turn_row HN10.out hge10 #[.int .i64 (s.a k).id, .int .i64 ((s.a k).nx + 1), .int .i64 (s.a k).ak, .slice A5 L5 c5]
         have hg6 := setRow_heap w5 g10 _ #[.int .i64 (s.a k).id, .int .i64 ((s.a k).nx + 1), .int .i64 (s.a k).ak, .slice A5 L5 c5] 50 (0, 0) HN10.out
         replace HB := hd (HB.out.trans T6.below)
         replace HL := hd (HL.out.turn50 T6)
         replace HV := hd (HV.out.turn T6 (fun _ hq => (by have := k70_E _ hq; omega)))
         clear HN10 HGE10 hge10 T6
         have HN10 := hd hg6
         clear hg6
         generalize World.setRow _ _ _ = w6 at HB HL HV HN10 ⊢
         go_wp2_with fail
         refine start_ (n := 7) (S := fun w' => w'.heap[g]? = some (.cells cs 67 (0, 0)) ∧ w'.heap[g10]? = some (.cells #[.int .i64 (s.a k).id, .int .i64 ((s.a k).nx + 1), .int .i64 (s.a k).ak, .slice A5 L5 c5] 50 (0, 0))) (ds := [6]) #[false, false, false, false, false, false, false] (by kernel_rfl) rfl rfl ⟨HL.out.hg, HN10.out⟩ (fun hHeld => ?_)
         refine with_tabW once.tab27 once.bits27 (fun HT_ HW_ => ?_)
         have HL0 := HL
         have HL : Hd (Lay base g w6.drew _ _ _ _ _ _ _ _) := hd (HL0.out.below (below_drew1 (Below.refl _ _)))
         have HB0 := HB
         have HB : Hd (Below base w w6.drew) := hd (below_drew1 HB0.out)
         have HN0 := HN10
         have HN10 : Hd (w6.drew.heap[g10]? = _) := hd HN0.out
         have HV0 := HV
         have HV : Hd (Own k70 70 base w6.drew _ _) := hd (HV0.out.turn (turn_below (e := 99) HL0.out.bs (below_drew1 (Below.refl _ _))) (fun _ hq => (by have := k70_E _ hq; omega)))
         clear HL0 HB0 HN0 HV0
         generalize w6.drew = w7 at HL HB HN10 HV hHeld ⊢
         refine pure_ (i := 0) (N := (some 140)) (v := ?_) (a' := ?_) #[true, false, false, false, false, false, false] rfl rfl (any_of HT_.out (by kernel_rfl)) (fun _ _ _ h => h) (Or.inl ⟨by rfl, ?_⟩) ?_ ?_
         rotate_left
         ·intro w'
          go_simp
          with_reducible rfl
         rotate_left
         ·simp only [Act.put, List.setIfInBounds_toArray, List.set_cons_zero, List.set_cons_succ, i64_w, i32_w]
          rfl
         refine pure_ (i := 1) (N := (some 141)) (v := ?_) (a' := ?_) #[true, true, false, false, false, false, false] rfl rfl (any_of HT_.out (by kernel_rfl)) (fun _ _ _ h => h) (Or.inl ⟨by rfl, ?_⟩) ?_ ?_
         rotate_left
         ·intro w'
          go_simp
          with_reducible rfl
         rotate_left
         ·simp only [Act.put, List.setIfInBounds_toArray, List.set_cons_zero, List.set_cons_succ, i64_w, i32_w]
          rfl
         refine take_ (i := 2) (N := (some 142)) (v := ?_) (a' := ?_) #[true, true, true, false, false, false, false] rfl rfl (take_ofW HT_.out HW_.out (by kernel_rfl)) (fun _ _ _ h => h) (Or.inl ⟨by rfl, ?_⟩) hHeld ?_ ?_
         rotate_left
         ·rintro w' ⟨s0, s1⟩
          have b0 := (blk_cell s1 0).trans rfl
          have b1 := (blk_cell s1 1).trans rfl
          have b2 := (blk_cell s1 2).trans rfl
          have b3 := (blk_cell s1 3).trans rfl
          go_simp
          with_reducible rfl
         rotate_left
         ·simp only [Act.put, List.setIfInBounds_toArray, List.set_cons_zero, List.set_cons_succ, i64_w, i32_w]
          rfl
         refine pure_ (i := 3) (N := (some 143)) (v := ?_) (a' := ?_) #[true, true, true, true, false, false, false] rfl rfl (any_of HT_.out (by kernel_rfl)) (fun _ _ _ h => h) (Or.inl ⟨by rfl, ?_⟩) ?_ ?_
         rotate_left
         ·intro w'
          go_simp
          with_reducible rfl
         rotate_left
         ·simp only [Act.put, List.setIfInBounds_toArray, List.set_cons_zero, List.set_cons_succ, i64_w, i32_w]
          rfl
         refine pure_ (i := 4) (N := (some 144)) (v := ?_) (a' := ?_) #[true, true, true, true, true, false, false] rfl rfl (any_of HT_.out (by kernel_rfl)) (fun _ _ _ h => h) (Or.inl ⟨by rfl, ?_⟩) ?_ ?_
         rotate_left
         ·intro w'
          go_simp
          with_reducible rfl
         rotate_left
         ·simp only [Act.put, List.setIfInBounds_toArray, List.set_cons_zero, List.set_cons_succ, i64_w, i32_w]
          rfl
         refine pure_ (i := 5) (N := (some 145)) (v := ?_) (a' := ?_) #[true, true, true, true, true, true, false] rfl rfl (any_of HT_.out (by kernel_rfl)) (fun _ _ _ h => h) (Or.inl ⟨by rfl, ?_⟩) ?_ ?_
         rotate_left
         ·intro w'
          go_simp
          with_reducible rfl
         rotate_left
         ·simp only [Act.put, List.setIfInBounds_toArray, List.set_cons_zero, List.set_cons_succ, i64_w, i32_w]
          rfl
         refine last_ (i := 6) (N := none) #[true, true, true, true, true, true, true] rfl rfl (one_of HT_.out (by kernel_rfl)) (by decide) (fun K hK => ?_)
         refine store_mid_ 50 (.tmp 145) (.tmp 142) rfl (by rfl) rfl g (1 + k * 4) #[.int .i64 (s.a k).id, .int .i64 ((s.a k).nx + 1), .int .i64 (s.a k).ak, .slice A5 L5 c5] rfl rfl (there_blk HL.out.hg (by rw [HL.out.cells.sz]; show 1 + k * 4 + 4 ≤ 28; omega)) (by kernel_rfl) (by simp [Value.oneCell']) ?_
         have HL8 := hd (HL.out.put_a (v := .slice A5 L5 c5) (x := (⟨(s.a k).id, (s.a k).nx + 1, (s.a k).ak, ((s.a k).ws ++ [(⟨(s.a k).nx, [(i : Int)]⟩ : S70)])⟩ : Ak)) hk HV.out)
         have T8 := turn_cells HL.out.hg HL.out.gb (1 + k * 4) (cells4 (⟨(s.a k).id, (s.a k).nx + 1, (s.a k).ak, ((s.a k).ws ++ [(⟨(s.a k).nx, [(i : Int)]⟩ : S70)])⟩ : Ak) (.slice A5 L5 c5))
         replace HB := hd (HB.out.trans T8.below)
         refine hK.out _ _ ?_
         clear hK K T8 HV HN10 HL hHeld
         have HL := HL8
         clear HL8
         unfold cells4 at HL HB
         dsimp only at HL HB
         generalize World.setCells _ _ _ _ = w8 at HL HB ⊢
         refine done_ (done_of HT_.out (by kernel_rfl)) ?_
         clear HT_ HW_
         have hlen : (asked1 s k (i : Int)).tos.length ≤ 1000000 := by have := HG0.out.lt; show s.tos.length ≤ _; omega
         have HLEN := hd hlen
         clear hlen
         go_wp2_with fail
         refine (send_walk base g w _ _ (asked1 s k (i : Int)) _ _ _ _ _ _ k (s.a k).nx hk HL.out HB.out HLEN.out).mono ?_
         rintro e w9 ⟨rfl, hM, hB9⟩
         clear HL HB HLEN
         have HM := hd hM
         have HB := hd hB9
         clear hM hB9
         go_wp2
         go_meet
         case rel => exact ⟨_, HM, hd (ask_good HG0.out (by omega) hk (i : Int) (by omega)), HB⟩
      ·as_aux_lemma =>
        have HWS := hd (asker_of HG0.out (by omega) hk).2.2.1.1
        go_wp2
        go_loopw [13] (fun jv wr => ∃ (j : Nat) (s' : Ws), j ≤ (s.a k).ws.length ∧ jv = .int .i64 (j : Int) ∧ Hd (s'.a = s.a) ∧ Hd (LayM base g wr s') ∧ Hd (Good s' (i + 1)) ∧ Hd (Below base w wr)) (fun jv _ => (s.a k).ws.length - (intOf jv).toNat)
        case atStart => exact ⟨0, s, by omega, rfl, hd rfl, HM, hd (HG0.out.more (by omega)), HB⟩
        clear HM HB
        case round =>
         obtain ⟨j, s', hj, rfl, HEA, HM, HGs, HB⟩ := hrel
         have HWL : Hd ((s'.a k).ws.length = (s.a k).ws.length) := hd (by rw [HEA.out])
         obtain ⟨cs, vl, vt, vb, vw, bd, bf, hL⟩ := HM.out
         have HL := hd hL
         clear hL HM
         obtain ⟨A, c, hvw, hcc, hC⟩ := (HL.out.ow k hk).reads
         have HC := hd hC
         obtain ⟨At, ct, hvt, hct⟩ := HL.out.ot.slice
         have d3 := (blk_cell HL.out.hg (1 + k * 4 + 3)).trans ((HL.out.cells.ca k hk).2.2.2.trans (congrArg some hvw))
         have d17 := (blk_cell HL.out.hg 17).trans (HL.out.cells.ct.trans (congrArg some hvt))
         clear hC hvw hcc hvt hct
         by_cases hjl : j < (s.a k).ws.length
         ·have hj1 : (j : Int) < ((s'.a k).ws.length : Int) := by rw [HWL.out]; omega
          have hj5 : (j : Int) < 4398046511104 := by have := HWS.out; omega
          by_cases h60 : s'.tos.length < 60
          ·have hj2 : (s'.tos.length : Int) < 60 := by omega
           obtain ⟨ad, A6, c6, rfl, q0, _, _, _⟩ := at_T70 HC.out (j : Int) (by omega) (by rw [HWL.out]; omega)
           rw [Int.toNat_natCast] at q0
           have hin : rd_T70 (s'.a k).ws (j : Int) ∈ (s'.a k).ws := by
            have hjn : j < (s'.a k).ws.length := by rw [HWL.out]; exact hjl
            have hg_ : (s'.a k).ws[j]? = some (s'.a k).ws[j] := List.getElem?_eq_getElem hjn
            simp only [rd_T70, Int.toNat_natCast, List.getD_eq_getElem?_getD, hg_, Option.getD_some]
            exact List.getElem_mem _
           have HIN := hd hin
           clear hin
           obtain ⟨x, hx⟩ : ∃ x, rd_T70 (s'.a k).ws (j : Int) = x := ⟨_, rfl⟩
           rw [hx] at q0 HIN
           clear hx
           have HLEN : Hd (s'.tos.length ≤ 1000000) := hd (by omega)
           have H60 := hd h60
           have HJL := hd hjl
           go_wp2_with fail
           refine (send_walk base g w _ _ s' _ _ _ _ _ _ k x.f0 hk HL.out HB.out HLEN.out).mono ?_
           rintro e w9 ⟨rfl, hM, hB9⟩
           clear HL HB HLEN q0 d3 d17 HC
           have HM := hd hM
           have HB := hd hB9
           clear hM hB9
           go_wp2
           go_roundw
           case rel => exact ⟨j + 1, { s' with tos := s'.tos ++ [((s'.a k).id, x.f0, (s'.a k).ak)] }, by have := HJL.out; omega, by go_num, hd HEA.out, HM, hd (again_good HGs.out hk x HIN.out H60.out), HB⟩
           case measure => have := HJL.out; simp [intOf]; omega
          ·have hj2 : ¬ (s'.tos.length : Int) < 60 := by omega
           go_wp2
           go_meet
           case rel => exact ⟨s', hd ⟨_, _, _, _, _, _, _, HL.out⟩, HGs, HB⟩
         ·have hj1 : ¬ (j : Int) < ((s'.a k).ws.length : Int) := by rw [HWL.out]; omega
          go_wp2
          go_meet
          case rel => exact ⟨s', hd ⟨_, _, _, _, _, _, _, HL.out⟩, HGs, HB⟩
      ·as_aux_lemma =>
        obtain ⟨cs, vl, vt, vb, vw, bd, bf, hL⟩ := HM.out
        have HL := hd hL
        clear hL HM
        by_cases hz : s.tos.length = 0
        ·obtain ⟨A, c, hvt, hct⟩ := HL.out.ot.slice
         rw [hz] at hvt
         have d17 := (blk_cell HL.out.hg 17).trans (HL.out.cells.ct.trans (congrArg some hvt))
         have HM : Hd (LayM base g w3 s) := hd ⟨_, _, _, _, _, _, _, HL.out⟩
         clear hvt hct HL
         go_wp2
         go_roundw
         case rel => (repeat apply Exists.intro); exact ⟨⟨i + 1, s, by omega, by omega, by go_num, HM, hd (HG0.out.more (by omega)), HB⟩, rfl⟩
         case measure => simp [intOf]; omega
        ·have hlp : (0 : Int) < (s.tos.length : Int) := by omega
         obtain ⟨j, hj, hje⟩ : ∃ j : Nat, j < s.tos.length ∧ n / 28 % (s.tos.length : Int) = (j : Int) := by
          have h1 := Int.emod_nonneg (n / 28) (show (s.tos.length : Int) ≠ 0 by omega)
          have h2 := Int.emod_lt_of_pos (n / 28) hlp
          exact ⟨(n / 28 % (s.tos.length : Int)).toNat, by omega, by omega⟩
         obtain ⟨p, hp⟩ : ∃ p, s.tos[j]? = some p := ⟨_, List.getElem?_eq_getElem hj⟩
         have HOK := hd (HG0.out.inv.tok p (List.mem_of_getElem? hp))
         obtain ⟨bb, c, hvt, hlc, q0, q1, q2⟩ := HL.out.ot.at hp
         have d17 := (blk_cell HL.out.hg 17).trans (HL.out.cells.ct.trans (congrArg some hvt))
         have hj1 : (j : Int) < (s.tos.length : Int) := by omega
         have HLT : Hd (s.tos.length ≤ 1000) := hd (by have := HG0.out.lt; have := HG0.out.lb; omega)
         have hl3 : (s.tos.length : Int) ≤ 1000 := by have := HLT.out; omega
         have HVT := hd hvt
         have HJ := hd hj
         clear hvt hp
         go_upto_region 40 with (fail)
         rw [hje]
         clear hje
         go_wp2_with (first | ((with_reducible refine gate_dst (N := 15) rfl ?_); refine box_event ?hg (N := 15) ?hd (cs := #[.int .i64 0, .int .i64 0, .int .i64 0]) (t := 72) ?hr ?_; (case hd => rfl); (case hg => rfl); (case hr => first | (go_simp; done) | (go_simp; rfl)); intro gp hg_ w4 hbox_ b_; have HN15 := hd hbox_; have HGE15 : Hd (w3.heap.size ≤ gp) := hd (by omega); have HB4 := hd b_; clear hg_ hbox_ b_) | ((with_reducible refine gate_store (t := 72) (p := 15) rfl ?_); refine wpList_store_row rfl 72 (.tmp 15) (.tmp 215) rfl gp #[.int .i64 p.1, .int .i64 p.2.1, .int .i64 p.2.2] rfl rfl 72 _ HN15.out (by kernel_rfl) rfl (by simp [Value.oneCell']) ?_; refine holdW ?_))
         refine ⟨?_⟩
         have b5 : Below w3.heap.size w3 (w4.setRow gp #[.int .i64 p.1, .int .i64 p.2.1, .int .i64 p.2.2]) := below_setRow HB4.out HGE15.out _
         have hg5 := setRow_heap w4 gp _ #[.int .i64 p.1, .int .i64 p.2.1, .int .i64 p.2.2] 72 (0, 0) HN15.out
         replace HB := hd (below_then HB.out HL.out.bs b5)
         replace HL := hd (HL.out.below b5)
         clear q0 q1 q2 d17 HN15 HGE15 HB4 b5
         have HX := hd hg5
         clear hg5
         generalize w4.setRow gp #[.int .i64 p.1, .int .i64 p.2.1, .int .i64 p.2.2] = w5 at HB HL HX ⊢
         by_cases h0 : n % 5 = 0
         ·have e0 := (blk_cell HX.out 0).trans rfl
          have e1 := (blk_cell HX.out 1).trans rfl
          have e2 := (blk_cell HX.out 2).trans rfl
          have HM : Hd (LayM base g w5 s) := hd ⟨_, _, _, _, _, _, _, HL.out⟩
          clear HL HX
          go_wp2_with fail
          refine (arrives_calls base g w w5 s i p HM.out HG0.out (by omega) HOK.out HB.out).mono ?_
          rintro e w9 ⟨rfl, s', hM, hG, hB9⟩
          clear HM HB e0 e1 e2
          have HM := hd hM
          have HG9 := hd hG
          have HB := hd hB9
          clear hM hG hB9
          go_wp2
          go_meet
          case rel => exact ⟨s', HM, HG9, HB⟩
         ·have hq0 : 0 < n % 5 := by omega
          have hs1 := cut3_kk (sl := 63) Try.underlying63 info72 (some ⟨bb, 0, none⟩) s.tos.length c j (by omega)
          have hs2 := cut3_after (sl := 63) Try.underlying63 info72 (some ⟨bb, 0, none⟩) s.tos.length c j (by omega)
          obtain ⟨X2, hX2⟩ : ∃ X : Option Addr, (if c = j + 1 then some (⟨bb, 0, none⟩ : Addr) else (some (⟨bb, 0, none⟩ : Addr)).map (·.add ((j + 1) * 3))) = X := ⟨_, rfl⟩
          rw [hX2] at hs2
          have HX2 := hd hX2
          clear hX2
          go_wp2_with fail
          refine start_ (n := 19) (S := fun w' => w'.heap[g]? = some (.cells cs 67 (0, 0))) (ds := [15, 16, 17, 18]) kOnce37 (by kernel_rfl) rfl rfl HL.out.hg (fun hHeld => ?_)
          refine with_tabW once.tab42 once.bits42 (fun HT_ HW_ => ?_)
          have HL0 := HL
          have HL : Hd (Lay base g w5.drew _ _ _ _ _ _ _ _) := hd (HL0.out.below (below_drew1 (Below.refl _ _)))
          have HB0 := HB
          have HB : Hd (Below base w w5.drew) := hd (below_drew1 HB0.out)
          have HX0 := HX
          have HX : Hd (w5.drew.heap[gp]? = _) := hd HX0.out
          clear HL0 HB0 HX0
          generalize w5.drew = w6 at HL HB HX hHeld ⊢
          refine pure_ (i := 0) (N := (some 219)) (v := ?_) (a' := ?_) kOnce36 rfl rfl (any_of HT_.out (by kernel_rfl)) (fun _ _ _ h => h) (Or.inl ⟨by rfl, ?_⟩) ?_ ?_
          rotate_left
          ·intro w'
           go_simp
           with_reducible rfl
          rotate_left
          ·simp only [Act.put, List.setIfInBounds_toArray, List.set_cons_zero, List.set_cons_succ, i64_w, i32_w]
           rfl
          refine pure_ (i := 1) (N := (some 220)) (v := ?_) (a' := ?_) kOnce35 rfl rfl (any_of HT_.out (by kernel_rfl)) (fun _ _ _ h => h) (Or.inl ⟨by rfl, ?_⟩) ?_ ?_
          rotate_left
          ·intro w'
           go_simp
           with_reducible rfl
          rotate_left
          ·simp only [Act.put, List.setIfInBounds_toArray, List.set_cons_zero, List.set_cons_succ, i64_w, i32_w]
           rfl
          refine pure_ (i := 2) (N := (some 221)) (v := ?_) (a' := ?_) kOnce34 rfl rfl (any_of HT_.out (by kernel_rfl)) (fun _ _ _ h => h) (Or.inl ⟨by rfl, ?_⟩) ?_ ?_
          rotate_left
          ·intro w'
           go_simp
           with_reducible rfl
          rotate_left
          ·simp only [Act.put, List.setIfInBounds_toArray, List.set_cons_zero, List.set_cons_succ, i64_w, i32_w]
           rfl
          refine pure_ (i := 3) (N := (some 222)) (v := ?_) (a' := ?_) kOnce33 rfl rfl (any_of HT_.out (by kernel_rfl)) (fun _ _ _ h => h) (Or.inl ⟨by rfl, ?_⟩) ?_ ?_
          rotate_left
          ·intro w'
           go_simp
           with_reducible rfl
          rotate_left
          ·simp only [Act.put, List.setIfInBounds_toArray, List.set_cons_zero, List.set_cons_succ, i64_w, i32_w]
           rfl
          refine take_ (i := 4) (N := (some 223)) (v := ?_) (a' := ?_) kOnce32 rfl rfl (take_ofW HT_.out HW_.out (by kernel_rfl)) (fun _ _ _ h => h) (Or.inl ⟨by rfl, ?_⟩) hHeld ?_ ?_
          rotate_left
          ·rintro w' s0
           have d17 := (blk_cell s0 17).trans (HL.out.cells.ct.trans (congrArg some HVT.out))
           go_simp
           with_reducible rfl
          rotate_left
          ·simp only [Act.put, List.setIfInBounds_toArray, List.set_cons_zero, List.set_cons_succ, i64_w, i32_w]
           rfl
          refine pure_ (i := 5) (N := (some 224)) (v := ?_) (a' := ?_) kOnce31 rfl rfl (any_of HT_.out (by kernel_rfl)) (fun _ _ _ h => h) (Or.inl ⟨by rfl, ?_⟩) ?_ ?_
          rotate_left
          ·intro w'
           go_simp
           with_reducible rfl
          rotate_left
          ·simp only [Act.put, List.setIfInBounds_toArray, List.set_cons_zero, List.set_cons_succ, i64_w, i32_w]
           rfl
          refine pure_ (i := 6) (N := (some 225)) (v := ?_) (a' := ?_) kOnce30 rfl rfl (any_of HT_.out (by kernel_rfl)) (fun _ _ _ h => h) (Or.inl ⟨by rfl, ?_⟩) ?_ ?_
          rotate_left
          ·intro w'
           go_simp
           with_reducible rfl
          rotate_left
          ·simp only [Act.put, List.setIfInBounds_toArray, List.set_cons_zero, List.set_cons_succ, i64_w, i32_w]
           rfl
          refine pure_ (i := 7) (N := (some 226)) (v := ?_) (a' := ?_) kOnce29 rfl rfl (any_of HT_.out (by kernel_rfl)) (fun _ _ _ h => h) (Or.inl ⟨by rfl, ?_⟩) ?_ ?_
          rotate_left
          ·intro w'
           go_simp
           with_reducible rfl
          rotate_left
          ·simp only [Act.put, List.setIfInBounds_toArray, List.set_cons_zero, List.set_cons_succ, i64_w, i32_w]
           rfl
          refine pure_ (i := 8) (N := (some 227)) (v := ?_) (a' := ?_) kOnce28 rfl rfl (any_of HT_.out (by kernel_rfl)) (fun _ _ _ h => h) (Or.inl ⟨by rfl, ?_⟩) ?_ ?_
          rotate_left
          ·intro w'
           go_simp
           with_reducible rfl
          rotate_left
          ·simp only [Act.put, List.setIfInBounds_toArray, List.set_cons_zero, List.set_cons_succ, i64_w, i32_w]
           rfl
          refine pure_ (i := 9) (N := (some 228)) (v := ?_) (a' := ?_) kOnce27 rfl rfl (any_of HT_.out (by kernel_rfl)) (fun _ _ _ h => h) (Or.inl ⟨by rfl, ?_⟩) ?_ ?_
          rotate_left
          ·intro w'
           go_simp
           with_reducible rfl
          rotate_left
          ·simp only [Act.put, List.setIfInBounds_toArray, List.set_cons_zero, List.set_cons_succ, i64_w, i32_w]
           rfl
          refine pure_ (i := 10) (N := (some 229)) (v := ?_) (a' := ?_) kOnce26 rfl rfl (any_of HT_.out (by kernel_rfl)) (fun _ _ _ h => h) (Or.inl ⟨by rfl, ?_⟩) ?_ ?_
          rotate_left
          ·intro w'
           go_simp
           with_reducible rfl
          rotate_left
          ·simp only [Act.put, List.setIfInBounds_toArray, List.set_cons_zero, List.set_cons_succ, i64_w, i32_w]
           rfl
          refine take_ (i := 11) (N := (some 230)) (v := ?_) (a' := ?_) kOnce25 rfl rfl (take_ofW HT_.out HW_.out (by kernel_rfl)) (fun _ _ _ h => h) (Or.inl ⟨by rfl, ?_⟩) hHeld ?_ ?_
          rotate_left
          ·rintro w' s0
           have d17 := (blk_cell s0 17).trans (HL.out.cells.ct.trans (congrArg some HVT.out))
           go_simp
           with_reducible rfl
          rotate_left
          ·simp only [Act.put, List.setIfInBounds_toArray, List.set_cons_zero, List.set_cons_succ, i64_w, i32_w]
           rfl
          refine pure_ (i := 12) (N := (some 231)) (v := ?_) (a' := ?_) kOnce24 rfl rfl (any_of HT_.out (by kernel_rfl)) (fun _ _ _ h => h) (Or.inl ⟨by rfl, ?_⟩) ?_ ?_
          rotate_left
          ·intro w'
           go_simp
           with_reducible rfl
          rotate_left
          ·simp only [Act.put, List.setIfInBounds_toArray, List.set_cons_zero, List.set_cons_succ, i64_w, i32_w]
           rfl
          refine pure_ (i := 13) (N := (some 232)) (v := ?_) (a' := ?_) kOnce23 rfl rfl (any_of HT_.out (by kernel_rfl)) (fun _ _ _ h => h) (Or.inl ⟨by rfl, ?_⟩) ?_ ?_
          rotate_left
          ·intro w'
           go_simp
           first | rw [wrap64_id (by omega)] | rw [wrap_id (by omega)]
           first | done | with_reducible rfl
          rotate_left
          ·simp only [Act.put, List.setIfInBounds_toArray, List.set_cons_zero, List.set_cons_succ, i64_w, i32_w]
           rfl
          refine pure_ (i := 14) (N := (some 233)) (v := ?_) (a' := ?_) kOnce22 rfl rfl (any_of HT_.out (by kernel_rfl)) (fun _ _ _ h => h) (Or.inl ⟨by rfl, ?_⟩) ?_ ?_
          rotate_left
          ·intro w'
           go_simp
           with_reducible rfl
          rotate_left
          ·simp only [Act.put, List.setIfInBounds_toArray, List.set_cons_zero, List.set_cons_succ, i64_w, i32_w]
           rfl
          refine last_ (i := 15) (N := (some 234)) kOnce21 rfl rfl (one_of HT_.out (by kernel_rfl)) (by decide) (fun K hK => ?_)
          have hrow : Row3 72 base w6 (.slice (some ⟨bb, 0, none⟩) s.tos.length c) s.tos := by rw [← HVT.out]; exact HL.out.ot
          obtain ⟨v8, w8, hr, hv8, b8⟩ := Row3.cut (sl := 63) Try.underlying63 info72 hrow HL.out.bs j HJ.out (by have := HLT.out; omega) 63
          rw [HX2.out] at hr
          refine value_ (w1 := w8) (v := v8) (by rfl) rfl ?_ ?_
          ·unfold execOp
           simp [Deferred.ofValue, invoke, resolve, Act.eval, builtin, hr]
          have HL9 := hd (HL.out.put_t (turn_below HL.out.bs b8) hv8)
          have hg9 := hd (blk_below HL.out.hg b8)
          have HX8 := hd (blk_below HX.out b8)
          have HB9 := hd ((below_then HB.out HL.out.bs b8).trans (turn_set (j := 17) hg9.out HL.out.gb v8).below)
          have HX9 := hd (blk_far (p := ⟨g, 17, none⟩) HX8.out (blk_ne HX8.out hg9.out (by decide)) v8)
          refine hK.out _ _ ?_
          clear hK K hr hrow b8
          refine norm_ (a' := ?_) ?_ ?_
          rotate_left
          ·show Act.put _ (some 234) _ = _
           simp only [Act.put, List.setIfInBounds_toArray, List.set_cons_zero, List.set_cons_succ, i64_w, i32_w]
           rfl
          refine pure_ (i := 16) (N := (some 235)) (v := ?_) (a' := ?_) kOnce20 rfl rfl (any_of HT_.out (by kernel_rfl)) (fun _ _ _ h => h) (Or.inl ⟨by rfl, ?_⟩) ?_ ?_
          rotate_left
          ·intro w'
           go_simp
           with_reducible rfl
          rotate_left
          ·simp only [Act.put, List.setIfInBounds_toArray, List.set_cons_zero, List.set_cons_succ, i64_w, i32_w]
           rfl
          refine pure_ (i := 17) (N := (some 236)) (v := ?_) (a' := ?_) kOnce19 rfl rfl (any_of HT_.out (by kernel_rfl)) (fun _ _ _ h => h) (Or.inl ⟨by rfl, ?_⟩) ?_ ?_
          rotate_left
          ·intro w'
           go_simp
           with_reducible rfl
          rotate_left
          ·simp only [Act.put, List.setIfInBounds_toArray, List.set_cons_zero, List.set_cons_succ, i64_w, i32_w]
           rfl
          refine last_ (i := 18) (N := none) kOnce18 rfl rfl (one_of HT_.out (by kernel_rfl)) (by decide) (fun K hK => ?_)
          have cf := (blk_cell hg9.out 17).trans HL.out.cells.ct
          have ff := blk_frozen hg9.out 17
          refine skip_ (w1 := w8.setCell ⟨g, 17, none⟩ v8) (by rfl) rfl ?_ ?_
          ·obtain ⟨A8, c8, hv, _⟩ := hv8.slice
           subst hv
           go_simp
          refine hK.out _ _ ?_
          clear hK K cf ff hv8 hg9 HX8 HL HB HX hHeld
          have HL := HL9
          have HB := HB9
          have HX := HX9
          clear HL9 HB9 HX9
          generalize World.setCell _ _ _ = w9a at HL HB HX ⊢
          refine done_ (done_of HT_.out (by kernel_rfl)) ?_
          clear HT_ HW_
          clear hs1 hs2 HX2
          have HG1 : Hd (Good ({ s with tos := (s.tos.take j ++ s.tos.drop (j + 1)) } : Ws) i) := hd (sub_good (t := (s.tos.take j ++ s.tos.drop (j + 1))) (b := s.bks) HG0.out (mem_cut s.tos j) (fun p hp => hp) (by rw [List.length_append, List.length_take, List.length_drop]; omega) (Nat.le_refl _))
          by_cases h4 : n % 5 = 4
          ·have HM : Hd (LayM base g w9a ({ s with tos := (s.tos.take j ++ s.tos.drop (j + 1)) } : Ws)) := hd ⟨_, _, _, _, _, _, _, HL.out⟩
           clear HL HX
           go_wp2
           go_meet
           case rel => exact ⟨({ s with tos := (s.tos.take j ++ s.tos.drop (j + 1)) } : Ws), HM, hd (HG1.out.more (by omega)), HB⟩
          ·have hq4 : n % 5 < 4 := by omega
           have e0 := (blk_cell HX.out 0).trans rfl
           have e1 := (blk_cell HX.out 1).trans rfl
           have e2 := (blk_cell HX.out 2).trans rfl
           have HM : Hd (LayM base g w9a ({ s with tos := (s.tos.take j ++ s.tos.drop (j + 1)) } : Ws)) := hd ⟨_, _, _, _, _, _, _, HL.out⟩
           clear HL HX
           go_wp2_with fail
           refine (arrives_calls base g w w9a ({ s with tos := (s.tos.take j ++ s.tos.drop (j + 1)) } : Ws) i p HM.out HG1.out (by omega) HOK.out HB.out).mono ?_
           rintro e w9 ⟨rfl, s', hM, hG, hB9⟩
           clear HM HB e0 e1 e2
           have HM := hd hM
           have HG9 := hd hG
           have HB := hd hB9
           clear hM hG hB9
           go_wp2
           go_meet
           case rel => exact ⟨s', HM, HG9, HB⟩
      ·as_aux_lemma =>
        obtain ⟨cs, vl, vt, vb, vw, bd, bf, hL⟩ := HM.out
        have HL := hd hL
        clear hL HM
        by_cases hz : s.tos.length = 0
        ·obtain ⟨A, c, hvt, hct⟩ := HL.out.ot.slice
         rw [hz] at hvt
         have d17 := (blk_cell HL.out.hg 17).trans (HL.out.cells.ct.trans (congrArg some hvt))
         have HM : Hd (LayM base g w3 s) := hd ⟨_, _, _, _, _, _, _, HL.out⟩
         clear hvt hct HL
         go_wp2
         go_roundw
         case rel => (repeat apply Exists.intro); exact ⟨⟨i + 1, s, by omega, by omega, by go_num, HM, hd (HG0.out.more (by omega)), HB⟩, rfl⟩
         case measure => simp [intOf]; omega
        ·have hlp : (0 : Int) < (s.tos.length : Int) := by omega
         obtain ⟨j, hj, hje⟩ : ∃ j : Nat, j < s.tos.length ∧ n / 28 % (s.tos.length : Int) = (j : Int) := by
          have h1 := Int.emod_nonneg (n / 28) (show (s.tos.length : Int) ≠ 0 by omega)
          have h2 := Int.emod_lt_of_pos (n / 28) hlp
          exact ⟨(n / 28 % (s.tos.length : Int)).toNat, by omega, by omega⟩
         obtain ⟨p, hp⟩ : ∃ p, s.tos[j]? = some p := ⟨_, List.getElem?_eq_getElem hj⟩
         have HOK := hd (HG0.out.inv.tok p (List.mem_of_getElem? hp))
         obtain ⟨bb, c, hvt, hlc, q0, q1, q2⟩ := HL.out.ot.at hp
         have d17 := (blk_cell HL.out.hg 17).trans (HL.out.cells.ct.trans (congrArg some hvt))
         have hj1 : (j : Int) < (s.tos.length : Int) := by omega
         have HLT : Hd (s.tos.length ≤ 1000) := hd (by have := HG0.out.lt; have := HG0.out.lb; omega)
         have hl3 : (s.tos.length : Int) ≤ 1000 := by have := HLT.out; omega
         have HVT := hd hvt
         have HJ := hd hj
         clear hvt hp
         go_upto_region 40 with (fail)
         rw [hje]
         clear hje
         go_wp2_with (first | ((with_reducible refine gate_dst (N := 15) rfl ?_); refine box_event ?hg (N := 15) ?hd (cs := #[.int .i64 0, .int .i64 0, .int .i64 0]) (t := 72) ?hr ?_; (case hd => rfl); (case hg => rfl); (case hr => first | (go_simp; done) | (go_simp; rfl)); intro gp hg_ w4 hbox_ b_; have HN15 := hd hbox_; have HGE15 : Hd (w3.heap.size ≤ gp) := hd (by omega); have HB4 := hd b_; clear hg_ hbox_ b_) | ((with_reducible refine gate_store (t := 72) (p := 15) rfl ?_); refine wpList_store_row rfl 72 (.tmp 15) (.tmp 215) rfl gp #[.int .i64 p.1, .int .i64 p.2.1, .int .i64 p.2.2] rfl rfl 72 _ HN15.out (by kernel_rfl) rfl (by simp [Value.oneCell']) ?_; refine holdW ?_))
         refine ⟨?_⟩
         have b5 : Below w3.heap.size w3 (w4.setRow gp #[.int .i64 p.1, .int .i64 p.2.1, .int .i64 p.2.2]) := below_setRow HB4.out HGE15.out _
         have hg5 := setRow_heap w4 gp _ #[.int .i64 p.1, .int .i64 p.2.1, .int .i64 p.2.2] 72 (0, 0) HN15.out
         replace HB := hd (below_then HB.out HL.out.bs b5)
         replace HL := hd (HL.out.below b5)
         clear q0 q1 q2 d17 HN15 HGE15 HB4 b5
         have HX := hd hg5
         clear hg5
         generalize w4.setRow gp #[.int .i64 p.1, .int .i64 p.2.1, .int .i64 p.2.2] = w5 at HB HL HX ⊢
         by_cases h0 : n % 5 = 0
         ·have e0 := (blk_cell HX.out 0).trans rfl
          have e1 := (blk_cell HX.out 1).trans rfl
          have e2 := (blk_cell HX.out 2).trans rfl
          have HM : Hd (LayM base g w5 s) := hd ⟨_, _, _, _, _, _, _, HL.out⟩
          clear HL HX
          go_wp2_with fail
          refine (arrives_calls base g w w5 s i p HM.out HG0.out (by omega) HOK.out HB.out).mono ?_
          rintro e w9 ⟨rfl, s', hM, hG, hB9⟩
          clear HM HB e0 e1 e2
          have HM := hd hM
          have HG9 := hd hG
          have HB := hd hB9
          clear hM hG hB9
          go_wp2
          go_meet
          case rel => exact ⟨s', HM, HG9, HB⟩
         ·have hq0 : 0 < n % 5 := by omega
          have hs1 := cut3_kk (sl := 63) Try.underlying63 info72 (some ⟨bb, 0, none⟩) s.tos.length c j (by omega)
          have hs2 := cut3_after (sl := 63) Try.underlying63 info72 (some ⟨bb, 0, none⟩) s.tos.length c j (by omega)
          obtain ⟨X2, hX2⟩ : ∃ X : Option Addr, (if c = j + 1 then some (⟨bb, 0, none⟩ : Addr) else (some (⟨bb, 0, none⟩ : Addr)).map (·.add ((j + 1) * 3))) = X := ⟨_, rfl⟩
          rw [hX2] at hs2
          have HX2 := hd hX2
          clear hX2
          go_wp2_with fail
          refine start_ (n := 19) (S := fun w' => w'.heap[g]? = some (.cells cs 67 (0, 0))) (ds := [15, 16, 17, 18]) kOnce37 (by kernel_rfl) rfl rfl HL.out.hg (fun hHeld => ?_)
          refine with_tabW once.tab42 once.bits42 (fun HT_ HW_ => ?_)
          have HL0 := HL
          have HL : Hd (Lay base g w5.drew _ _ _ _ _ _ _ _) := hd (HL0.out.below (below_drew1 (Below.refl _ _)))
          have HB0 := HB
          have HB : Hd (Below base w w5.drew) := hd (below_drew1 HB0.out)
          have HX0 := HX
          have HX : Hd (w5.drew.heap[gp]? = _) := hd HX0.out
          clear HL0 HB0 HX0
          generalize w5.drew = w6 at HL HB HX hHeld ⊢
          refine pure_ (i := 0) (N := (some 219)) (v := ?_) (a' := ?_) kOnce36 rfl rfl (any_of HT_.out (by kernel_rfl)) (fun _ _ _ h => h) (Or.inl ⟨by rfl, ?_⟩) ?_ ?_
          rotate_left
          ·intro w'
           go_simp
           with_reducible rfl
          rotate_left
          ·simp only [Act.put, List.setIfInBounds_toArray, List.set_cons_zero, List.set_cons_succ, i64_w, i32_w]
           rfl
          refine pure_ (i := 1) (N := (some 220)) (v := ?_) (a' := ?_) kOnce35 rfl rfl (any_of HT_.out (by kernel_rfl)) (fun _ _ _ h => h) (Or.inl ⟨by rfl, ?_⟩) ?_ ?_
          rotate_left
          ·intro w'
           go_simp
           with_reducible rfl
          rotate_left
          ·simp only [Act.put, List.setIfInBounds_toArray, List.set_cons_zero, List.set_cons_succ, i64_w, i32_w]
           rfl
          refine pure_ (i := 2) (N := (some 221)) (v := ?_) (a' := ?_) kOnce34 rfl rfl (any_of HT_.out (by kernel_rfl)) (fun _ _ _ h => h) (Or.inl ⟨by rfl, ?_⟩) ?_ ?_
          rotate_left
          ·intro w'
           go_simp
           with_reducible rfl
          rotate_left
          ·simp only [Act.put, List.setIfInBounds_toArray, List.set_cons_zero, List.set_cons_succ, i64_w, i32_w]
           rfl
          refine pure_ (i := 3) (N := (some 222)) (v := ?_) (a' := ?_) kOnce33 rfl rfl (any_of HT_.out (by kernel_rfl)) (fun _ _ _ h => h) (Or.inl ⟨by rfl, ?_⟩) ?_ ?_
          rotate_left
          ·intro w'
           go_simp
           with_reducible rfl
          rotate_left
          ·simp only [Act.put, List.setIfInBounds_toArray, List.set_cons_zero, List.set_cons_succ, i64_w, i32_w]
           rfl
          refine take_ (i := 4) (N := (some 223)) (v := ?_) (a' := ?_) kOnce32 rfl rfl (take_ofW HT_.out HW_.out (by kernel_rfl)) (fun _ _ _ h => h) (Or.inl ⟨by rfl, ?_⟩) hHeld ?_ ?_
          rotate_left
          ·rintro w' s0
           have d17 := (blk_cell s0 17).trans (HL.out.cells.ct.trans (congrArg some HVT.out))
           go_simp
           with_reducible rfl
          rotate_left
          ·simp only [Act.put, List.setIfInBounds_toArray, List.set_cons_zero, List.set_cons_succ, i64_w, i32_w]
           rfl
          refine pure_ (i := 5) (N := (some 224)) (v := ?_) (a' := ?_) kOnce31 rfl rfl (any_of HT_.out (by kernel_rfl)) (fun _ _ _ h => h) (Or.inl ⟨by rfl, ?_⟩) ?_ ?_
          rotate_left
          ·intro w'
           go_simp
           with_reducible rfl
          rotate_left
          ·simp only [Act.put, List.setIfInBounds_toArray, List.set_cons_zero, List.set_cons_succ, i64_w, i32_w]
           rfl
          refine pure_ (i := 6) (N := (some 225)) (v := ?_) (a' := ?_) kOnce30 rfl rfl (any_of HT_.out (by kernel_rfl)) (fun _ _ _ h => h) (Or.inl ⟨by rfl, ?_⟩) ?_ ?_
          rotate_left
          ·intro w'
           go_simp
           with_reducible rfl
          rotate_left
          ·simp only [Act.put, List.setIfInBounds_toArray, List.set_cons_zero, List.set_cons_succ, i64_w, i32_w]
           rfl
          refine pure_ (i := 7) (N := (some 226)) (v := ?_) (a' := ?_) kOnce29 rfl rfl (any_of HT_.out (by kernel_rfl)) (fun _ _ _ h => h) (Or.inl ⟨by rfl, ?_⟩) ?_ ?_
          rotate_left
          ·intro w'
           go_simp
           with_reducible rfl
          rotate_left
          ·simp only [Act.put, List.setIfInBounds_toArray, List.set_cons_zero, List.set_cons_succ, i64_w, i32_w]
           rfl
          refine pure_ (i := 8) (N := (some 227)) (v := ?_) (a' := ?_) kOnce28 rfl rfl (any_of HT_.out (by kernel_rfl)) (fun _ _ _ h => h) (Or.inl ⟨by rfl, ?_⟩) ?_ ?_
          rotate_left
          ·intro w'
           go_simp
           with_reducible rfl
          rotate_left
          ·simp only [Act.put, List.setIfInBounds_toArray, List.set_cons_zero, List.set_cons_succ, i64_w, i32_w]
           rfl
          refine pure_ (i := 9) (N := (some 228)) (v := ?_) (a' := ?_) kOnce27 rfl rfl (any_of HT_.out (by kernel_rfl)) (fun _ _ _ h => h) (Or.inl ⟨by rfl, ?_⟩) ?_ ?_
          rotate_left
          ·intro w'
           go_simp
           with_reducible rfl
          rotate_left
          ·simp only [Act.put, List.setIfInBounds_toArray, List.set_cons_zero, List.set_cons_succ, i64_w, i32_w]
           rfl
          refine pure_ (i := 10) (N := (some 229)) (v := ?_) (a' := ?_) kOnce26 rfl rfl (any_of HT_.out (by kernel_rfl)) (fun _ _ _ h => h) (Or.inl ⟨by rfl, ?_⟩) ?_ ?_
          rotate_left
          ·intro w'
           go_simp
           with_reducible rfl
          rotate_left
          ·simp only [Act.put, List.setIfInBounds_toArray, List.set_cons_zero, List.set_cons_succ, i64_w, i32_w]
           rfl
          refine take_ (i := 11) (N := (some 230)) (v := ?_) (a' := ?_) kOnce25 rfl rfl (take_ofW HT_.out HW_.out (by kernel_rfl)) (fun _ _ _ h => h) (Or.inl ⟨by rfl, ?_⟩) hHeld ?_ ?_
          rotate_left
          ·rintro w' s0
           have d17 := (blk_cell s0 17).trans (HL.out.cells.ct.trans (congrArg some HVT.out))
           go_simp
           with_reducible rfl
          rotate_left
          ·simp only [Act.put, List.setIfInBounds_toArray, List.set_cons_zero, List.set_cons_succ, i64_w, i32_w]
           rfl
          refine pure_ (i := 12) (N := (some 231)) (v := ?_) (a' := ?_) kOnce24 rfl rfl (any_of HT_.out (by kernel_rfl)) (fun _ _ _ h => h) (Or.inl ⟨by rfl, ?_⟩) ?_ ?_
          rotate_left
          ·intro w'
           go_simp
           with_reducible rfl
          rotate_left
          ·simp only [Act.put, List.setIfInBounds_toArray, List.set_cons_zero, List.set_cons_succ, i64_w, i32_w]
           rfl
          refine pure_ (i := 13) (N := (some 232)) (v := ?_) (a' := ?_) kOnce23 rfl rfl (any_of HT_.out (by kernel_rfl)) (fun _ _ _ h => h) (Or.inl ⟨by rfl, ?_⟩) ?_ ?_
          rotate_left
          ·intro w'
           go_simp
           first | rw [wrap64_id (by omega)] | rw [wrap_id (by omega)]
           first | done | with_reducible rfl
          rotate_left
          ·simp only [Act.put, List.setIfInBounds_toArray, List.set_cons_zero, List.set_cons_succ, i64_w, i32_w]
           rfl
          refine pure_ (i := 14) (N := (some 233)) (v := ?_) (a' := ?_) kOnce22 rfl rfl (any_of HT_.out (by kernel_rfl)) (fun _ _ _ h => h) (Or.inl ⟨by rfl, ?_⟩) ?_ ?_
          rotate_left
          ·intro w'
           go_simp
           with_reducible rfl
          rotate_left
          ·simp only [Act.put, List.setIfInBounds_toArray, List.set_cons_zero, List.set_cons_succ, i64_w, i32_w]
           rfl
          refine last_ (i := 15) (N := (some 234)) kOnce21 rfl rfl (one_of HT_.out (by kernel_rfl)) (by decide) (fun K hK => ?_)
          have hrow : Row3 72 base w6 (.slice (some ⟨bb, 0, none⟩) s.tos.length c) s.tos := by rw [← HVT.out]; exact HL.out.ot
          obtain ⟨v8, w8, hr, hv8, b8⟩ := Row3.cut (sl := 63) Try.underlying63 info72 hrow HL.out.bs j HJ.out (by have := HLT.out; omega) 63
          rw [HX2.out] at hr
          refine value_ (w1 := w8) (v := v8) (by rfl) rfl ?_ ?_
          ·unfold execOp
           simp [Deferred.ofValue, invoke, resolve, Act.eval, builtin, hr]
          have HL9 := hd (HL.out.put_t (turn_below HL.out.bs b8) hv8)
          have hg9 := hd (blk_below HL.out.hg b8)
          have HX8 := hd (blk_below HX.out b8)
          have HB9 := hd ((below_then HB.out HL.out.bs b8).trans (turn_set (j := 17) hg9.out HL.out.gb v8).below)
          have HX9 := hd (blk_far (p := ⟨g, 17, none⟩) HX8.out (blk_ne HX8.out hg9.out (by decide)) v8)
          refine hK.out _ _ ?_
          clear hK K hr hrow b8
          refine norm_ (a' := ?_) ?_ ?_
          rotate_left
          ·show Act.put _ (some 234) _ = _
           simp only [Act.put, List.setIfInBounds_toArray, List.set_cons_zero, List.set_cons_succ, i64_w, i32_w]
           rfl
          refine pure_ (i := 16) (N := (some 235)) (v := ?_) (a' := ?_) kOnce20 rfl rfl (any_of HT_.out (by kernel_rfl)) (fun _ _ _ h => h) (Or.inl ⟨by rfl, ?_⟩) ?_ ?_
          rotate_left
          ·intro w'
           go_simp
           with_reducible rfl
          rotate_left
          ·simp only [Act.put, List.setIfInBounds_toArray, List.set_cons_zero, List.set_cons_succ, i64_w, i32_w]
           rfl
          refine pure_ (i := 17) (N := (some 236)) (v := ?_) (a' := ?_) kOnce19 rfl rfl (any_of HT_.out (by kernel_rfl)) (fun _ _ _ h => h) (Or.inl ⟨by rfl, ?_⟩) ?_ ?_
          rotate_left
          ·intro w'
           go_simp
           with_reducible rfl
          rotate_left
          ·simp only [Act.put, List.setIfInBounds_toArray, List.set_cons_zero, List.set_cons_succ, i64_w, i32_w]
           rfl
          refine last_ (i := 18) (N := none) kOnce18 rfl rfl (one_of HT_.out (by kernel_rfl)) (by decide) (fun K hK => ?_)
          have cf := (blk_cell hg9.out 17).trans HL.out.cells.ct
          have ff := blk_frozen hg9.out 17
          refine skip_ (w1 := w8.setCell ⟨g, 17, none⟩ v8) (by rfl) rfl ?_ ?_
          ·obtain ⟨A8, c8, hv, _⟩ := hv8.slice
           subst hv
           go_simp
          refine hK.out _ _ ?_
          clear hK K cf ff hv8 hg9 HX8 HL HB HX hHeld
          have HL := HL9
          have HB := HB9
          have HX := HX9
          clear HL9 HB9 HX9
          generalize World.setCell _ _ _ = w9a at HL HB HX ⊢
          refine done_ (done_of HT_.out (by kernel_rfl)) ?_
          clear HT_ HW_
          clear hs1 hs2 HX2
          have HG1 : Hd (Good ({ s with tos := (s.tos.take j ++ s.tos.drop (j + 1)) } : Ws) i) := hd (sub_good (t := (s.tos.take j ++ s.tos.drop (j + 1))) (b := s.bks) HG0.out (mem_cut s.tos j) (fun p hp => hp) (by rw [List.length_append, List.length_take, List.length_drop]; omega) (Nat.le_refl _))
          by_cases h4 : n % 5 = 4
          ·have HM : Hd (LayM base g w9a ({ s with tos := (s.tos.take j ++ s.tos.drop (j + 1)) } : Ws)) := hd ⟨_, _, _, _, _, _, _, HL.out⟩
           clear HL HX
           go_wp2
           go_meet
           case rel => exact ⟨({ s with tos := (s.tos.take j ++ s.tos.drop (j + 1)) } : Ws), HM, hd (HG1.out.more (by omega)), HB⟩
          ·have hq4 : n % 5 < 4 := by omega
           have e0 := (blk_cell HX.out 0).trans rfl
           have e1 := (blk_cell HX.out 1).trans rfl
           have e2 := (blk_cell HX.out 2).trans rfl
           have HM : Hd (LayM base g w9a ({ s with tos := (s.tos.take j ++ s.tos.drop (j + 1)) } : Ws)) := hd ⟨_, _, _, _, _, _, _, HL.out⟩
           clear HL HX
           go_wp2_with fail
           refine (arrives_calls base g w w9a ({ s with tos := (s.tos.take j ++ s.tos.drop (j + 1)) } : Ws) i p HM.out HG1.out (by omega) HOK.out HB.out).mono ?_
           rintro e w9 ⟨rfl, s', hM, hG, hB9⟩
           clear HM HB e0 e1 e2
           have HM := hd hM
           have HG9 := hd hG
           have HB := hd hB9
           clear hM hG hB9
           go_wp2
           go_meet
           case rel => exact ⟨s', HM, HG9, HB⟩
      ·as_aux_lemma =>
        obtain ⟨cs, vl, vt, vb, vw, bd, bf, hL⟩ := HM.out
        have HL := hd hL
        clear hL HM
        by_cases hz : s.bks.length = 0
        ·obtain ⟨A, c, hvt, hct⟩ := HL.out.ob.slice
         rw [hz] at hvt
         have d17 := (blk_cell HL.out.hg 18).trans (HL.out.cells.cb.trans (congrArg some hvt))
         have HM : Hd (LayM base g w3 s) := hd ⟨_, _, _, _, _, _, _, HL.out⟩
         clear hvt hct HL
         go_wp2
         go_roundw
         case rel => (repeat apply Exists.intro); exact ⟨⟨i + 1, s, by omega, by omega, by go_num, HM, hd (HG0.out.more (by omega)), HB⟩, rfl⟩
         case measure => simp [intOf]; omega
        ·have hlp : (0 : Int) < (s.bks.length : Int) := by omega
         obtain ⟨j, hj, hje⟩ : ∃ j : Nat, j < s.bks.length ∧ n / 28 % (s.bks.length : Int) = (j : Int) := by
          have h1 := Int.emod_nonneg (n / 28) (show (s.bks.length : Int) ≠ 0 by omega)
          have h2 := Int.emod_lt_of_pos (n / 28) hlp
          exact ⟨(n / 28 % (s.bks.length : Int)).toNat, by omega, by omega⟩
         obtain ⟨p, hp⟩ : ∃ p, s.bks[j]? = some p := ⟨_, List.getElem?_eq_getElem hj⟩
         have HOK := hd (HG0.out.inv.bok p (List.mem_of_getElem? hp))
         obtain ⟨bb, c, hvt, hlc, q0, q1, q2⟩ := HL.out.ob.at hp
         have d17 := (blk_cell HL.out.hg 18).trans (HL.out.cells.cb.trans (congrArg some hvt))
         have hj1 : (j : Int) < (s.bks.length : Int) := by omega
         have HLT : Hd (s.bks.length ≤ 1000) := hd (by have := HG0.out.lt; have := HG0.out.lb; omega)
         have hl3 : (s.bks.length : Int) ≤ 1000 := by have := HLT.out; omega
         have HVT := hd hvt
         have HJ := hd hj
         clear hvt hp
         go_upto_region 18 with (fail)
         rw [hje]
         clear hje
         go_wp2_with (first | ((with_reducible refine gate_dst (N := 17) rfl ?_); refine box_event ?hg (N := 17) ?hd (cs := #[.int .i64 0, .int .i64 0, .int .i64 0]) (t := 75) ?hr ?_; (case hd => rfl); (case hg => rfl); (case hr => first | (go_simp; done) | (go_simp; rfl)); intro gp hg_ w4 hbox_ b_; have HN17 := hd hbox_; have HGE17 : Hd (w3.heap.size ≤ gp) := hd (by omega); have HB4 := hd b_; clear hg_ hbox_ b_) | ((with_reducible refine gate_store (t := 75) (p := 17) rfl ?_); refine wpList_store_row rfl 75 (.tmp 17) (.tmp 90) rfl gp #[.int .i64 p.1, .int .i64 p.2.1, .int .i64 p.2.2] rfl rfl 75 _ HN17.out (by kernel_rfl) rfl (by simp [Value.oneCell']) ?_; refine holdW ?_))
         refine ⟨?_⟩
         have b5 : Below w3.heap.size w3 (w4.setRow gp #[.int .i64 p.1, .int .i64 p.2.1, .int .i64 p.2.2]) := below_setRow HB4.out HGE17.out _
         have hg5 := setRow_heap w4 gp _ #[.int .i64 p.1, .int .i64 p.2.1, .int .i64 p.2.2] 75 (0, 0) HN17.out
         replace HB := hd (below_then HB.out HL.out.bs b5)
         replace HL := hd (HL.out.below b5)
         clear q0 q1 q2 d17 HN17 HGE17 HB4 b5
         have HX := hd hg5
         clear hg5
         generalize w4.setRow gp #[.int .i64 p.1, .int .i64 p.2.1, .int .i64 p.2.2] = w5 at HB HL HX ⊢
         by_cases h0 : n % 5 = 0
         ·have e0 := (blk_cell HX.out 0).trans rfl
          have e1 := (blk_cell HX.out 1).trans rfl
          have e2 := (blk_cell HX.out 2).trans rfl
          have HM : Hd (LayM base g w5 s) := hd ⟨_, _, _, _, _, _, _, HL.out⟩
          clear HL HX
          go_wp2_with fail
          refine (takes_calls base g w w5 s i p HM.out HG0.out (by omega) HOK.out HB.out).mono ?_
          rintro e w9 ⟨rfl, s', hM, hG, hB9⟩
          clear HM HB e0 e1 e2
          have HM := hd hM
          have HG9 := hd hG
          have HB := hd hB9
          clear hM hG hB9
          go_wp2
          go_meet
          case rel => exact ⟨s', HM, HG9, HB⟩
         ·have hq0 : 0 < n % 5 := by omega
          have hs1 := cut3_kk (sl := 64) Try.underlying64 info75 (some ⟨bb, 0, none⟩) s.bks.length c j (by omega)
          have hs2 := cut3_after (sl := 64) Try.underlying64 info75 (some ⟨bb, 0, none⟩) s.bks.length c j (by omega)
          obtain ⟨X2, hX2⟩ : ∃ X : Option Addr, (if c = j + 1 then some (⟨bb, 0, none⟩ : Addr) else (some (⟨bb, 0, none⟩ : Addr)).map (·.add ((j + 1) * 3))) = X := ⟨_, rfl⟩
          rw [hX2] at hs2
          have HX2 := hd hX2
          clear hX2
          go_wp2_with fail
          refine start_ (n := 19) (S := fun w' => w'.heap[g]? = some (.cells cs 67 (0, 0))) (ds := [15, 16, 17, 18]) kOnce37 (by kernel_rfl) rfl rfl HL.out.hg (fun hHeld => ?_)
          refine with_tabW once.tab20 once.bits20 (fun HT_ HW_ => ?_)
          have HL0 := HL
          have HL : Hd (Lay base g w5.drew _ _ _ _ _ _ _ _) := hd (HL0.out.below (below_drew1 (Below.refl _ _)))
          have HB0 := HB
          have HB : Hd (Below base w w5.drew) := hd (below_drew1 HB0.out)
          have HX0 := HX
          have HX : Hd (w5.drew.heap[gp]? = _) := hd HX0.out
          clear HL0 HB0 HX0
          generalize w5.drew = w6 at HL HB HX hHeld ⊢
          refine pure_ (i := 0) (N := (some 94)) (v := ?_) (a' := ?_) kOnce36 rfl rfl (any_of HT_.out (by kernel_rfl)) (fun _ _ _ h => h) (Or.inl ⟨by rfl, ?_⟩) ?_ ?_
          rotate_left
          ·intro w'
           go_simp
           with_reducible rfl
          rotate_left
          ·simp only [Act.put, List.setIfInBounds_toArray, List.set_cons_zero, List.set_cons_succ, i64_w, i32_w]
           rfl
          refine pure_ (i := 1) (N := (some 95)) (v := ?_) (a' := ?_) kOnce35 rfl rfl (any_of HT_.out (by kernel_rfl)) (fun _ _ _ h => h) (Or.inl ⟨by rfl, ?_⟩) ?_ ?_
          rotate_left
          ·intro w'
           go_simp
           with_reducible rfl
          rotate_left
          ·simp only [Act.put, List.setIfInBounds_toArray, List.set_cons_zero, List.set_cons_succ, i64_w, i32_w]
           rfl
          refine pure_ (i := 2) (N := (some 96)) (v := ?_) (a' := ?_) kOnce34 rfl rfl (any_of HT_.out (by kernel_rfl)) (fun _ _ _ h => h) (Or.inl ⟨by rfl, ?_⟩) ?_ ?_
          rotate_left
          ·intro w'
           go_simp
           with_reducible rfl
          rotate_left
          ·simp only [Act.put, List.setIfInBounds_toArray, List.set_cons_zero, List.set_cons_succ, i64_w, i32_w]
           rfl
          refine pure_ (i := 3) (N := (some 97)) (v := ?_) (a' := ?_) kOnce33 rfl rfl (any_of HT_.out (by kernel_rfl)) (fun _ _ _ h => h) (Or.inl ⟨by rfl, ?_⟩) ?_ ?_
          rotate_left
          ·intro w'
           go_simp
           with_reducible rfl
          rotate_left
          ·simp only [Act.put, List.setIfInBounds_toArray, List.set_cons_zero, List.set_cons_succ, i64_w, i32_w]
           rfl
          refine take_ (i := 4) (N := (some 98)) (v := ?_) (a' := ?_) kOnce32 rfl rfl (take_ofW HT_.out HW_.out (by kernel_rfl)) (fun _ _ _ h => h) (Or.inl ⟨by rfl, ?_⟩) hHeld ?_ ?_
          rotate_left
          ·rintro w' s0
           have d17 := (blk_cell s0 18).trans (HL.out.cells.cb.trans (congrArg some HVT.out))
           go_simp
           with_reducible rfl
          rotate_left
          ·simp only [Act.put, List.setIfInBounds_toArray, List.set_cons_zero, List.set_cons_succ, i64_w, i32_w]
           rfl
          refine pure_ (i := 5) (N := (some 99)) (v := ?_) (a' := ?_) kOnce31 rfl rfl (any_of HT_.out (by kernel_rfl)) (fun _ _ _ h => h) (Or.inl ⟨by rfl, ?_⟩) ?_ ?_
          rotate_left
          ·intro w'
           go_simp
           with_reducible rfl
          rotate_left
          ·simp only [Act.put, List.setIfInBounds_toArray, List.set_cons_zero, List.set_cons_succ, i64_w, i32_w]
           rfl
          refine pure_ (i := 6) (N := (some 100)) (v := ?_) (a' := ?_) kOnce30 rfl rfl (any_of HT_.out (by kernel_rfl)) (fun _ _ _ h => h) (Or.inl ⟨by rfl, ?_⟩) ?_ ?_
          rotate_left
          ·intro w'
           go_simp
           with_reducible rfl
          rotate_left
          ·simp only [Act.put, List.setIfInBounds_toArray, List.set_cons_zero, List.set_cons_succ, i64_w, i32_w]
           rfl
          refine pure_ (i := 7) (N := (some 101)) (v := ?_) (a' := ?_) kOnce29 rfl rfl (any_of HT_.out (by kernel_rfl)) (fun _ _ _ h => h) (Or.inl ⟨by rfl, ?_⟩) ?_ ?_
          rotate_left
          ·intro w'
           go_simp
           with_reducible rfl
          rotate_left
          ·simp only [Act.put, List.setIfInBounds_toArray, List.set_cons_zero, List.set_cons_succ, i64_w, i32_w]
           rfl
          refine pure_ (i := 8) (N := (some 102)) (v := ?_) (a' := ?_) kOnce28 rfl rfl (any_of HT_.out (by kernel_rfl)) (fun _ _ _ h => h) (Or.inl ⟨by rfl, ?_⟩) ?_ ?_
          rotate_left
          ·intro w'
           go_simp
           with_reducible rfl
          rotate_left
          ·simp only [Act.put, List.setIfInBounds_toArray, List.set_cons_zero, List.set_cons_succ, i64_w, i32_w]
           rfl
          refine pure_ (i := 9) (N := (some 103)) (v := ?_) (a' := ?_) kOnce27 rfl rfl (any_of HT_.out (by kernel_rfl)) (fun _ _ _ h => h) (Or.inl ⟨by rfl, ?_⟩) ?_ ?_
          rotate_left
          ·intro w'
           go_simp
           with_reducible rfl
          rotate_left
          ·simp only [Act.put, List.setIfInBounds_toArray, List.set_cons_zero, List.set_cons_succ, i64_w, i32_w]
           rfl
          refine pure_ (i := 10) (N := (some 104)) (v := ?_) (a' := ?_) kOnce26 rfl rfl (any_of HT_.out (by kernel_rfl)) (fun _ _ _ h => h) (Or.inl ⟨by rfl, ?_⟩) ?_ ?_
          rotate_left
          ·intro w'
           go_simp
           with_reducible rfl
          rotate_left
          ·simp only [Act.put, List.setIfInBounds_toArray, List.set_cons_zero, List.set_cons_succ, i64_w, i32_w]
           rfl
          refine take_ (i := 11) (N := (some 105)) (v := ?_) (a' := ?_) kOnce25 rfl rfl (take_ofW HT_.out HW_.out (by kernel_rfl)) (fun _ _ _ h => h) (Or.inl ⟨by rfl, ?_⟩) hHeld ?_ ?_
          rotate_left
          ·rintro w' s0
           have d17 := (blk_cell s0 18).trans (HL.out.cells.cb.trans (congrArg some HVT.out))
           go_simp
           with_reducible rfl
          rotate_left
          ·simp only [Act.put, List.setIfInBounds_toArray, List.set_cons_zero, List.set_cons_succ, i64_w, i32_w]
           rfl
          refine pure_ (i := 12) (N := (some 106)) (v := ?_) (a' := ?_) kOnce24 rfl rfl (any_of HT_.out (by kernel_rfl)) (fun _ _ _ h => h) (Or.inl ⟨by rfl, ?_⟩) ?_ ?_
          rotate_left
          ·intro w'
           go_simp
           with_reducible rfl
          rotate_left
          ·simp only [Act.put, List.setIfInBounds_toArray, List.set_cons_zero, List.set_cons_succ, i64_w, i32_w]
           rfl
          refine pure_ (i := 13) (N := (some 107)) (v := ?_) (a' := ?_) kOnce23 rfl rfl (any_of HT_.out (by kernel_rfl)) (fun _ _ _ h => h) (Or.inl ⟨by rfl, ?_⟩) ?_ ?_
          rotate_left
          ·intro w'
           go_simp
           first | rw [wrap64_id (by omega)] | rw [wrap_id (by omega)]
           first | done | with_reducible rfl
          rotate_left
          ·simp only [Act.put, List.setIfInBounds_toArray, List.set_cons_zero, List.set_cons_succ, i64_w, i32_w]
           rfl
          refine pure_ (i := 14) (N := (some 108)) (v := ?_) (a' := ?_) kOnce22 rfl rfl (any_of HT_.out (by kernel_rfl)) (fun _ _ _ h => h) (Or.inl ⟨by rfl, ?_⟩) ?_ ?_
          rotate_left
          ·intro w'
           go_simp
           with_reducible rfl
          rotate_left
          ·simp only [Act.put, List.setIfInBounds_toArray, List.set_cons_zero, List.set_cons_succ, i64_w, i32_w]
           rfl
          refine last_ (i := 15) (N := (some 109)) kOnce21 rfl rfl (one_of HT_.out (by kernel_rfl)) (by decide) (fun K hK => ?_)
          have hrow : Row3 75 base w6 (.slice (some ⟨bb, 0, none⟩) s.bks.length c) s.bks := by rw [← HVT.out]; exact HL.out.ob
          obtain ⟨v8, w8, hr, hv8, b8⟩ := Row3.cut (sl := 64) Try.underlying64 info75 hrow HL.out.bs j HJ.out (by have := HLT.out; omega) 64
          rw [HX2.out] at hr
          refine value_ (w1 := w8) (v := v8) (by rfl) rfl ?_ ?_
          ·unfold execOp
           simp [Deferred.ofValue, invoke, resolve, Act.eval, builtin, hr]
          have HL9 := hd (HL.out.put_b (turn_below HL.out.bs b8) hv8)
          have hg9 := hd (blk_below HL.out.hg b8)
          have HX8 := hd (blk_below HX.out b8)
          have HB9 := hd ((below_then HB.out HL.out.bs b8).trans (turn_set (j := 18) hg9.out HL.out.gb v8).below)
          have HX9 := hd (blk_far (p := ⟨g, 18, none⟩) HX8.out (blk_ne HX8.out hg9.out (by decide)) v8)
          refine hK.out _ _ ?_
          clear hK K hr hrow b8
          refine norm_ (a' := ?_) ?_ ?_
          rotate_left
          ·show Act.put _ (some 109) _ = _
           simp only [Act.put, List.setIfInBounds_toArray, List.set_cons_zero, List.set_cons_succ, i64_w, i32_w]
           rfl
          refine pure_ (i := 16) (N := (some 110)) (v := ?_) (a' := ?_) kOnce20 rfl rfl (any_of HT_.out (by kernel_rfl)) (fun _ _ _ h => h) (Or.inl ⟨by rfl, ?_⟩) ?_ ?_
          rotate_left
          ·intro w'
           go_simp
           with_reducible rfl
          rotate_left
          ·simp only [Act.put, List.setIfInBounds_toArray, List.set_cons_zero, List.set_cons_succ, i64_w, i32_w]
           rfl
          refine pure_ (i := 17) (N := (some 111)) (v := ?_) (a' := ?_) kOnce19 rfl rfl (any_of HT_.out (by kernel_rfl)) (fun _ _ _ h => h) (Or.inl ⟨by rfl, ?_⟩) ?_ ?_
          rotate_left
          ·intro w'
           go_simp
           with_reducible rfl
          rotate_left
          ·simp only [Act.put, List.setIfInBounds_toArray, List.set_cons_zero, List.set_cons_succ, i64_w, i32_w]
           rfl
          refine last_ (i := 18) (N := none) kOnce18 rfl rfl (one_of HT_.out (by kernel_rfl)) (by decide) (fun K hK => ?_)
          have cf := (blk_cell hg9.out 18).trans HL.out.cells.cb
          have ff := blk_frozen hg9.out 18
          refine skip_ (w1 := w8.setCell ⟨g, 18, none⟩ v8) (by rfl) rfl ?_ ?_
          ·obtain ⟨A8, c8, hv, _⟩ := hv8.slice
           subst hv
           go_simp
          refine hK.out _ _ ?_
          clear hK K cf ff hv8 hg9 HX8 HL HB HX hHeld
          have HL := HL9
          have HB := HB9
          have HX := HX9
          clear HL9 HB9 HX9
          generalize World.setCell _ _ _ = w9a at HL HB HX ⊢
          refine done_ (done_of HT_.out (by kernel_rfl)) ?_
          clear HT_ HW_
          clear hs1 hs2 HX2
          have HG1 : Hd (Good ({ s with bks := (s.bks.take j ++ s.bks.drop (j + 1)) } : Ws) i) := hd (sub_good (t := s.tos) (b := (s.bks.take j ++ s.bks.drop (j + 1))) HG0.out (fun p hp => hp) (mem_cut s.bks j) (Nat.le_refl _) (by rw [List.length_append, List.length_take, List.length_drop]; omega))
          by_cases h4 : n % 5 = 4
          ·have HM : Hd (LayM base g w9a ({ s with bks := (s.bks.take j ++ s.bks.drop (j + 1)) } : Ws)) := hd ⟨_, _, _, _, _, _, _, HL.out⟩
           clear HL HX
           go_wp2
           go_meet
           case rel => exact ⟨({ s with bks := (s.bks.take j ++ s.bks.drop (j + 1)) } : Ws), HM, hd (HG1.out.more (by omega)), HB⟩
          ·have hq4 : n % 5 < 4 := by omega
           have e0 := (blk_cell HX.out 0).trans rfl
           have e1 := (blk_cell HX.out 1).trans rfl
           have e2 := (blk_cell HX.out 2).trans rfl
           have HM : Hd (LayM base g w9a ({ s with bks := (s.bks.take j ++ s.bks.drop (j + 1)) } : Ws)) := hd ⟨_, _, _, _, _, _, _, HL.out⟩
           clear HL HX
           go_wp2_with fail
           refine (takes_calls base g w w9a ({ s with bks := (s.bks.take j ++ s.bks.drop (j + 1)) } : Ws) i p HM.out HG1.out (by omega) HOK.out HB.out).mono ?_
           rintro e w9 ⟨rfl, s', hM, hG, hB9⟩
           clear HM HB e0 e1 e2
           have HM := hd hM
           have HG9 := hd hG
           have HB := hd hB9
           clear hM hG hB9
           go_wp2
           go_meet
           case rel => exact ⟨s', HM, HG9, HB⟩
      ·as_aux_lemma =>
        obtain ⟨cs, vl, vt, vb, vw, bd, bf, hL⟩ := HM.out
        have HL := hd hL
        clear hL HM
        by_cases hz : s.bks.length = 0
        ·obtain ⟨A, c, hvt, hct⟩ := HL.out.ob.slice
         rw [hz] at hvt
         have d17 := (blk_cell HL.out.hg 18).trans (HL.out.cells.cb.trans (congrArg some hvt))
         have HM : Hd (LayM base g w3 s) := hd ⟨_, _, _, _, _, _, _, HL.out⟩
         clear hvt hct HL
         go_wp2
         go_roundw
         case rel => (repeat apply Exists.intro); exact ⟨⟨i + 1, s, by omega, by omega, by go_num, HM, hd (HG0.out.more (by omega)), HB⟩, rfl⟩
         case measure => simp [intOf]; omega
        ·have hlp : (0 : Int) < (s.bks.length : Int) := by omega
         obtain ⟨j, hj, hje⟩ : ∃ j : Nat, j < s.bks.length ∧ n / 28 % (s.bks.length : Int) = (j : Int) := by
          have h1 := Int.emod_nonneg (n / 28) (show (s.bks.length : Int) ≠ 0 by omega)
          have h2 := Int.emod_lt_of_pos (n / 28) hlp
          exact ⟨(n / 28 % (s.bks.length : Int)).toNat, by omega, by omega⟩
         obtain ⟨p, hp⟩ : ∃ p, s.bks[j]? = some p := ⟨_, List.getElem?_eq_getElem hj⟩
         have HOK := hd (HG0.out.inv.bok p (List.mem_of_getElem? hp))
         obtain ⟨bb, c, hvt, hlc, q0, q1, q2⟩ := HL.out.ob.at hp
         have d17 := (blk_cell HL.out.hg 18).trans (HL.out.cells.cb.trans (congrArg some hvt))
         have hj1 : (j : Int) < (s.bks.length : Int) := by omega
         have HLT : Hd (s.bks.length ≤ 1000) := hd (by have := HG0.out.lt; have := HG0.out.lb; omega)
         have hl3 : (s.bks.length : Int) ≤ 1000 := by have := HLT.out; omega
         have HVT := hd hvt
         have HJ := hd hj
         clear hvt hp
         go_upto_region 18 with (fail)
         rw [hje]
         clear hje
         go_wp2_with (first | ((with_reducible refine gate_dst (N := 17) rfl ?_); refine box_event ?hg (N := 17) ?hd (cs := #[.int .i64 0, .int .i64 0, .int .i64 0]) (t := 75) ?hr ?_; (case hd => rfl); (case hg => rfl); (case hr => first | (go_simp; done) | (go_simp; rfl)); intro gp hg_ w4 hbox_ b_; have HN17 := hd hbox_; have HGE17 : Hd (w3.heap.size ≤ gp) := hd (by omega); have HB4 := hd b_; clear hg_ hbox_ b_) | ((with_reducible refine gate_store (t := 75) (p := 17) rfl ?_); refine wpList_store_row rfl 75 (.tmp 17) (.tmp 90) rfl gp #[.int .i64 p.1, .int .i64 p.2.1, .int .i64 p.2.2] rfl rfl 75 _ HN17.out (by kernel_rfl) rfl (by simp [Value.oneCell']) ?_; refine holdW ?_))
         refine ⟨?_⟩
         have b5 : Below w3.heap.size w3 (w4.setRow gp #[.int .i64 p.1, .int .i64 p.2.1, .int .i64 p.2.2]) := below_setRow HB4.out HGE17.out _
         have hg5 := setRow_heap w4 gp _ #[.int .i64 p.1, .int .i64 p.2.1, .int .i64 p.2.2] 75 (0, 0) HN17.out
         replace HB := hd (below_then HB.out HL.out.bs b5)
         replace HL := hd (HL.out.below b5)
         clear q0 q1 q2 d17 HN17 HGE17 HB4 b5
         have HX := hd hg5
         clear hg5
         generalize w4.setRow gp #[.int .i64 p.1, .int .i64 p.2.1, .int .i64 p.2.2] = w5 at HB HL HX ⊢
         by_cases h0 : n % 5 = 0
         ·have e0 := (blk_cell HX.out 0).trans rfl
          have e1 := (blk_cell HX.out 1).trans rfl
          have e2 := (blk_cell HX.out 2).trans rfl
          have HM : Hd (LayM base g w5 s) := hd ⟨_, _, _, _, _, _, _, HL.out⟩
          clear HL HX
          go_wp2_with fail
          refine (takes_calls base g w w5 s i p HM.out HG0.out (by omega) HOK.out HB.out).mono ?_
          rintro e w9 ⟨rfl, s', hM, hG, hB9⟩
          clear HM HB e0 e1 e2
          have HM := hd hM
          have HG9 := hd hG
          have HB := hd hB9
          clear hM hG hB9
          go_wp2
          go_meet
          case rel => exact ⟨s', HM, HG9, HB⟩
         ·have hq0 : 0 < n % 5 := by omega
          have hs1 := cut3_kk (sl := 64) Try.underlying64 info75 (some ⟨bb, 0, none⟩) s.bks.length c j (by omega)
          have hs2 := cut3_after (sl := 64) Try.underlying64 info75 (some ⟨bb, 0, none⟩) s.bks.length c j (by omega)
          obtain ⟨X2, hX2⟩ : ∃ X : Option Addr, (if c = j + 1 then some (⟨bb, 0, none⟩ : Addr) else (some (⟨bb, 0, none⟩ : Addr)).map (·.add ((j + 1) * 3))) = X := ⟨_, rfl⟩
          rw [hX2] at hs2
          have HX2 := hd hX2
          clear hX2
          go_wp2_with fail
          refine start_ (n := 19) (S := fun w' => w'.heap[g]? = some (.cells cs 67 (0, 0))) (ds := [15, 16, 17, 18]) kOnce37 (by kernel_rfl) rfl rfl HL.out.hg (fun hHeld => ?_)
          refine with_tabW once.tab20 once.bits20 (fun HT_ HW_ => ?_)
          have HL0 := HL
          have HL : Hd (Lay base g w5.drew _ _ _ _ _ _ _ _) := hd (HL0.out.below (below_drew1 (Below.refl _ _)))
          have HB0 := HB
          have HB : Hd (Below base w w5.drew) := hd (below_drew1 HB0.out)
          have HX0 := HX
          have HX : Hd (w5.drew.heap[gp]? = _) := hd HX0.out
          clear HL0 HB0 HX0
          generalize w5.drew = w6 at HL HB HX hHeld ⊢
          refine pure_ (i := 0) (N := (some 94)) (v := ?_) (a' := ?_) kOnce36 rfl rfl (any_of HT_.out (by kernel_rfl)) (fun _ _ _ h => h) (Or.inl ⟨by rfl, ?_⟩) ?_ ?_
          rotate_left
          ·intro w'
           go_simp
           with_reducible rfl
          rotate_left
          ·simp only [Act.put, List.setIfInBounds_toArray, List.set_cons_zero, List.set_cons_succ, i64_w, i32_w]
           rfl
          refine pure_ (i := 1) (N := (some 95)) (v := ?_) (a' := ?_) kOnce35 rfl rfl (any_of HT_.out (by kernel_rfl)) (fun _ _ _ h => h) (Or.inl ⟨by rfl, ?_⟩) ?_ ?_
          rotate_left
          ·intro w'
           go_simp
           with_reducible rfl
          rotate_left
          ·simp only [Act.put, List.setIfInBounds_toArray, List.set_cons_zero, List.set_cons_succ, i64_w, i32_w]
           rfl
          refine pure_ (i := 2) (N := (some 96)) (v := ?_) (a' := ?_) kOnce34 rfl rfl (any_of HT_.out (by kernel_rfl)) (fun _ _ _ h => h) (Or.inl ⟨by rfl, ?_⟩) ?_ ?_
          rotate_left
          ·intro w'
           go_simp
           with_reducible rfl
          rotate_left
          ·simp only [Act.put, List.setIfInBounds_toArray, List.set_cons_zero, List.set_cons_succ, i64_w, i32_w]
           rfl
          refine pure_ (i := 3) (N := (some 97)) (v := ?_) (a' := ?_) kOnce33 rfl rfl (any_of HT_.out (by kernel_rfl)) (fun _ _ _ h => h) (Or.inl ⟨by rfl, ?_⟩) ?_ ?_
          rotate_left
          ·intro w'
           go_simp
           with_reducible rfl
          rotate_left
          ·simp only [Act.put, List.setIfInBounds_toArray, List.set_cons_zero, List.set_cons_succ, i64_w, i32_w]
           rfl
          refine take_ (i := 4) (N := (some 98)) (v := ?_) (a' := ?_) kOnce32 rfl rfl (take_ofW HT_.out HW_.out (by kernel_rfl)) (fun _ _ _ h => h) (Or.inl ⟨by rfl, ?_⟩) hHeld ?_ ?_
          rotate_left
          ·rintro w' s0
           have d17 := (blk_cell s0 18).trans (HL.out.cells.cb.trans (congrArg some HVT.out))
           go_simp
           with_reducible rfl
          rotate_left
          ·simp only [Act.put, List.setIfInBounds_toArray, List.set_cons_zero, List.set_cons_succ, i64_w, i32_w]
           rfl
          refine pure_ (i := 5) (N := (some 99)) (v := ?_) (a' := ?_) kOnce31 rfl rfl (any_of HT_.out (by kernel_rfl)) (fun _ _ _ h => h) (Or.inl ⟨by rfl, ?_⟩) ?_ ?_
          rotate_left
          ·intro w'
           go_simp
           with_reducible rfl
          rotate_left
          ·simp only [Act.put, List.setIfInBounds_toArray, List.set_cons_zero, List.set_cons_succ, i64_w, i32_w]
           rfl
          refine pure_ (i := 6) (N := (some 100)) (v := ?_) (a' := ?_) kOnce30 rfl rfl (any_of HT_.out (by kernel_rfl)) (fun _ _ _ h => h) (Or.inl ⟨by rfl, ?_⟩) ?_ ?_
          rotate_left
          ·intro w'
           go_simp
           with_reducible rfl
          rotate_left
          ·simp only [Act.put, List.setIfInBounds_toArray, List.set_cons_zero, List.set_cons_succ, i64_w, i32_w]
           rfl
          refine pure_ (i := 7) (N := (some 101)) (v := ?_) (a' := ?_) kOnce29 rfl rfl (any_of HT_.out (by kernel_rfl)) (fun _ _ _ h => h) (Or.inl ⟨by rfl, ?_⟩) ?_ ?_
          rotate_left
          ·intro w'
           go_simp
           with_reducible rfl
          rotate_left
          ·simp only [Act.put, List.setIfInBounds_toArray, List.set_cons_zero, List.set_cons_succ, i64_w, i32_w]
           rfl
          refine pure_ (i := 8) (N := (some 102)) (v := ?_) (a' := ?_) kOnce28 rfl rfl (any_of HT_.out (by kernel_rfl)) (fun _ _ _ h => h) (Or.inl ⟨by rfl, ?_⟩) ?_ ?_
          rotate_left
          ·intro w'
           go_simp
           with_reducible rfl
          rotate_left
          ·simp only [Act.put, List.setIfInBounds_toArray, List.set_cons_zero, List.set_cons_succ, i64_w, i32_w]
           rfl
          refine pure_ (i := 9) (N := (some 103)) (v := ?_) (a' := ?_) kOnce27 rfl rfl (any_of HT_.out (by kernel_rfl)) (fun _ _ _ h => h) (Or.inl ⟨by rfl, ?_⟩) ?_ ?_
          rotate_left
          ·intro w'
           go_simp
           with_reducible rfl
          rotate_left
          ·simp only [Act.put, List.setIfInBounds_toArray, List.set_cons_zero, List.set_cons_succ, i64_w, i32_w]
           rfl
          refine pure_ (i := 10) (N := (some 104)) (v := ?_) (a' := ?_) kOnce26 rfl rfl (any_of HT_.out (by kernel_rfl)) (fun _ _ _ h => h) (Or.inl ⟨by rfl, ?_⟩) ?_ ?_
          rotate_left
          ·intro w'
           go_simp
           with_reducible rfl
          rotate_left
          ·simp only [Act.put, List.setIfInBounds_toArray, List.set_cons_zero, List.set_cons_succ, i64_w, i32_w]
           rfl
          refine take_ (i := 11) (N := (some 105)) (v := ?_) (a' := ?_) kOnce25 rfl rfl (take_ofW HT_.out HW_.out (by kernel_rfl)) (fun _ _ _ h => h) (Or.inl ⟨by rfl, ?_⟩) hHeld ?_ ?_
          rotate_left
          ·rintro w' s0
           have d17 := (blk_cell s0 18).trans (HL.out.cells.cb.trans (congrArg some HVT.out))
           go_simp
           with_reducible rfl
          rotate_left
          ·simp only [Act.put, List.setIfInBounds_toArray, List.set_cons_zero, List.set_cons_succ, i64_w, i32_w]
           rfl
          refine pure_ (i := 12) (N := (some 106)) (v := ?_) (a' := ?_) kOnce24 rfl rfl (any_of HT_.out (by kernel_rfl)) (fun _ _ _ h => h) (Or.inl ⟨by rfl, ?_⟩) ?_ ?_
          rotate_left
          ·intro w'
           go_simp
           with_reducible rfl
          rotate_left
          ·simp only [Act.put, List.setIfInBounds_toArray, List.set_cons_zero, List.set_cons_succ, i64_w, i32_w]
           rfl
          refine pure_ (i := 13) (N := (some 107)) (v := ?_) (a' := ?_) kOnce23 rfl rfl (any_of HT_.out (by kernel_rfl)) (fun _ _ _ h => h) (Or.inl ⟨by rfl, ?_⟩) ?_ ?_
          rotate_left
          ·intro w'
           go_simp
           first | rw [wrap64_id (by omega)] | rw [wrap_id (by omega)]
           first | done | with_reducible rfl
          rotate_left
          ·simp only [Act.put, List.setIfInBounds_toArray, List.set_cons_zero, List.set_cons_succ, i64_w, i32_w]
           rfl
          refine pure_ (i := 14) (N := (some 108)) (v := ?_) (a' := ?_) kOnce22 rfl rfl (any_of HT_.out (by kernel_rfl)) (fun _ _ _ h => h) (Or.inl ⟨by rfl, ?_⟩) ?_ ?_
          rotate_left
          ·intro w'
           go_simp
           with_reducible rfl
          rotate_left
          ·simp only [Act.put, List.setIfInBounds_toArray, List.set_cons_zero, List.set_cons_succ, i64_w, i32_w]
           rfl
          refine last_ (i := 15) (N := (some 109)) kOnce21 rfl rfl (one_of HT_.out (by kernel_rfl)) (by decide) (fun K hK => ?_)
          have hrow : Row3 75 base w6 (.slice (some ⟨bb, 0, none⟩) s.bks.length c) s.bks := by rw [← HVT.out]; exact HL.out.ob
          obtain ⟨v8, w8, hr, hv8, b8⟩ := Row3.cut (sl := 64) Try.underlying64 info75 hrow HL.out.bs j HJ.out (by have := HLT.out; omega) 64
          rw [HX2.out] at hr
          refine value_ (w1 := w8) (v := v8) (by rfl) rfl ?_ ?_
          ·unfold execOp
           simp [Deferred.ofValue, invoke, resolve, Act.eval, builtin, hr]
          have HL9 := hd (HL.out.put_b (turn_below HL.out.bs b8) hv8)
          have hg9 := hd (blk_below HL.out.hg b8)
          have HX8 := hd (blk_below HX.out b8)
          have HB9 := hd ((below_then HB.out HL.out.bs b8).trans (turn_set (j := 18) hg9.out HL.out.gb v8).below)
          have HX9 := hd (blk_far (p := ⟨g, 18, none⟩) HX8.out (blk_ne HX8.out hg9.out (by decide)) v8)
          refine hK.out _ _ ?_
          clear hK K hr hrow b8
          refine norm_ (a' := ?_) ?_ ?_
          rotate_left
          ·show Act.put _ (some 109) _ = _
           simp only [Act.put, List.setIfInBounds_toArray, List.set_cons_zero, List.set_cons_succ, i64_w, i32_w]
           rfl
          refine pure_ (i := 16) (N := (some 110)) (v := ?_) (a' := ?_) kOnce20 rfl rfl (any_of HT_.out (by kernel_rfl)) (fun _ _ _ h => h) (Or.inl ⟨by rfl, ?_⟩) ?_ ?_
          rotate_left
          ·intro w'
           go_simp
           with_reducible rfl
          rotate_left
          ·simp only [Act.put, List.setIfInBounds_toArray, List.set_cons_zero, List.set_cons_succ, i64_w, i32_w]
           rfl
          refine pure_ (i := 17) (N := (some 111)) (v := ?_) (a' := ?_) kOnce19 rfl rfl (any_of HT_.out (by kernel_rfl)) (fun _ _ _ h => h) (Or.inl ⟨by rfl, ?_⟩) ?_ ?_
          rotate_left
          ·intro w'
           go_simp
           with_reducible rfl
          rotate_left
          ·simp only [Act.put, List.setIfInBounds_toArray, List.set_cons_zero, List.set_cons_succ, i64_w, i32_w]
           rfl
          refine last_ (i := 18) (N := none) kOnce18 rfl rfl (one_of HT_.out (by kernel_rfl)) (by decide) (fun K hK => ?_)
          have cf := (blk_cell hg9.out 18).trans HL.out.cells.cb
          have ff := blk_frozen hg9.out 18
          refine skip_ (w1 := w8.setCell ⟨g, 18, none⟩ v8) (by rfl) rfl ?_ ?_
          ·obtain ⟨A8, c8, hv, _⟩ := hv8.slice
           subst hv
           go_simp
          refine hK.out _ _ ?_
          clear hK K cf ff hv8 hg9 HX8 HL HB HX hHeld
          have HL := HL9
          have HB := HB9
          have HX := HX9
          clear HL9 HB9 HX9
          generalize World.setCell _ _ _ = w9a at HL HB HX ⊢
          refine done_ (done_of HT_.out (by kernel_rfl)) ?_
          clear HT_ HW_
          clear hs1 hs2 HX2
          have HG1 : Hd (Good ({ s with bks := (s.bks.take j ++ s.bks.drop (j + 1)) } : Ws) i) := hd (sub_good (t := s.tos) (b := (s.bks.take j ++ s.bks.drop (j + 1))) HG0.out (fun p hp => hp) (mem_cut s.bks j) (Nat.le_refl _) (by rw [List.length_append, List.length_take, List.length_drop]; omega))
          by_cases h4 : n % 5 = 4
          ·have HM : Hd (LayM base g w9a ({ s with bks := (s.bks.take j ++ s.bks.drop (j + 1)) } : Ws)) := hd ⟨_, _, _, _, _, _, _, HL.out⟩
           clear HL HX
           go_wp2
           go_meet
           case rel => exact ⟨({ s with bks := (s.bks.take j ++ s.bks.drop (j + 1)) } : Ws), HM, hd (HG1.out.more (by omega)), HB⟩
          ·have hq4 : n % 5 < 4 := by omega
           have e0 := (blk_cell HX.out 0).trans rfl
           have e1 := (blk_cell HX.out 1).trans rfl
           have e2 := (blk_cell HX.out 2).trans rfl
           have HM : Hd (LayM base g w9a ({ s with bks := (s.bks.take j ++ s.bks.drop (j + 1)) } : Ws)) := hd ⟨_, _, _, _, _, _, _, HL.out⟩
           clear HL HX
           go_wp2_with fail
           refine (takes_calls base g w w9a ({ s with bks := (s.bks.take j ++ s.bks.drop (j + 1)) } : Ws) i p HM.out HG1.out (by omega) HOK.out HB.out).mono ?_
           rintro e w9 ⟨rfl, s', hM, hG, hB9⟩
           clear HM HB e0 e1 e2
           have HM := hd hM
           have HG9 := hd hG
           have HB := hd hB9
           clear hM hG hB9
           go_wp2
           go_meet
           case rel => exact ⟨s', HM, HG9, HB⟩
     case rest =>
      as_aux_lemma =>
       obtain ⟨s', HM, HG', HB⟩ := hcut
       obtain ⟨cs, vl, vt, vb, vw, bd, bf, hL⟩ := HM.out
       have HL := hd hL
       clear hL HM HG
       obtain ⟨A, c, hvl, hcc, hC⟩ := HL.out.ol.reads
       have HC := hd hC
       have HCC := hd hcc
       have d0 := (blk_cell HL.out.hg 0).trans (HL.out.cells.c0.trans (congrArg some hvl))
       clear hC hvl hcc
       go_wp2_with fail
       refine (session_Right.calls A c s'.l true wc HC.out HCC.out (by unfold session_Right.f; rw [HG'.out.inv.right.1])).mono ?_
       rintro e w4 ⟨rfl, b_⟩
       replace HB := hd (below_then HB.out HL.out.bs b_)
       replace HL := hd (HL.out.below b_)
       clear d0 HC HCC b_
       obtain ⟨A2, c2, hvw, hcc, hC⟩ := (HL.out.ow k hk).reads
       have HC := hd hC
       have HCC := hd hcc
       have d0 := (blk_cell HL.out.hg (1 + k * 4)).trans (HL.out.cells.ca k hk).1
       have d1 := (blk_cell HL.out.hg (1 + k * 4 + 1)).trans (HL.out.cells.ca k hk).2.1
       have d2 := (blk_cell HL.out.hg (1 + k * 4 + 2)).trans (HL.out.cells.ca k hk).2.2.1
       have d3 := (blk_cell HL.out.hg (1 + k * 4 + 3)).trans ((HL.out.cells.ca k hk).2.2.2.trans (congrArg some hvw))
       clear hC hvw hcc
       have HAK := hd (asker_of HG'.out (by omega) hk)
       go_wp2_with fail
       refine (session_RightAsker.calls _ _ _ A2 c2 _ true w4 HC.out HCC.out (by rw [rightA_is HAK.out.2.1, HAK.out.1])).mono ?_
       rintro e w5 ⟨rfl, b_⟩
       replace HB := hd (below_then HB.out HL.out.bs b_)
       replace HL := hd (HL.out.below b_)
       clear d0 d1 d2 d3 HC HCC b_ HAK
       have HM : Hd (LayM base g w5 s') := hd ⟨_, _, _, _, _, _, _, HL.out⟩
       clear HL
       go_wp2
       go_roundw
       case rel => (repeat apply Exists.intro); exact ⟨⟨i + 1, s', by omega, by omega, by go_num, HM, HG', HB⟩, rfl⟩
       case measure => simp [intOf]; omega
    ·as_aux_lemma =>
      by_cases hlt : i < l0.length
      ·have hi1 : (i : Int) < (l0.length : Int) := by omega
       have hi2 : ¬ (i : Int) < 200 := by omega
       go_wp2_with fail
       refine (musterlaw09_awake.calls true wr rfl).mono ?_
       rintro e w4 ⟨rfl, b_⟩
       obtain ⟨cs, vl, vt, vb, vw, bd, bf, hL⟩ := HM.out
       replace HB := hd (below_then HB.out hL.bs b_)
       clear hL HM b_
       go_wp2
       go_ret
       exact ⟨rfl, HB.out⟩
      ·have hi1 : ¬ (i : Int) < (l0.length : Int) := by omega
       go_wp2_with fail
       refine (musterlaw09_awake.calls true wr rfl).mono ?_
       rintro e w4 ⟨rfl, b_⟩
       obtain ⟨cs, vl, vt, vb, vw, bd, bf, hL⟩ := HM.out
       replace HB := hd (below_then HB.out hL.bs b_)
       clear hL HM b_
       go_wp2
       go_ret
       exact ⟨rfl, HB.out⟩
end Go.Proofs.Ytafnjlgdjhegaaa.Pr
end
section
namespace Go.Proofs.Ytafnjlgdjhegaaa.Pr
open Go.RowKit Go.Proofs.YtafnjlgdjhegaaaW.PrintWords Go.Proofs.YtafnjlgdjhegaaaW.PrintLast Go.Proofs.YtafnjlgdjhegaaaW.PrintMore Go.Proofs.YtafnjlgdjhegaaaG
def musterlaw09_SessionOnce.f (l0 : List Int) : Option Bool := if (l0.all fun y => (Lit.int .i64 y).wf) = true then some true else none
theorem musterlaw09_SessionOnce.calls (A0 : Option Addr) (c0 : Nat) (l0 : List Int) (r : Bool) (w : World) (hr0 : Kd.C (Kd.int .i64) w A0 l0.length l0) (hc0 : l0.length ≤ c0) (h : musterlaw09_SessionOnce.f l0 = some r) :
  Calls Try.prog 7 #[.slice A0 l0.length c0] w fun e w' => e = .returned (.bool r) ∧ Below w.heap.size w w' := by
 unfold musterlaw09_SessionOnce.f at h
 by_cases hw : (l0.all fun y => (Lit.int .i64 y).wf) = true
 ·rw [if_pos hw] at h
  cases h
  exact once_walk w.heap.size A0 c0 l0 w rfl hr0 hc0 (fun y hy => List.all_eq_true.1 hw y hy)
 ·rw [if_neg hw] at h
  cases h
end Go.Proofs.Ytafnjlgdjhegaaa.Pr
end
