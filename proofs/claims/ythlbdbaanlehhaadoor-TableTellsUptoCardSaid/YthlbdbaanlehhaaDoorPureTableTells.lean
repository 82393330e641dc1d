/-
  Texts of this session, laid together by wip/tools/merge.py: OB, ShapeBTableTells, Q8, PureTableTells.
-/
import Derived.Test.YthlbdbaanlehhaaDoorO
import Derived.Test.YthlbdbaanlehhaaDoorRows
import Derived.Test.YthlbdbaanlehhaaDoorShapeTableTells
import Derived.Test.YthlbdbaanlehhaaDoorPr12
import Derived.Test.YthlbdbaanlehhaaDoorQ5
import Derived.Test.YthlbdbaanlehhaaDoorQ7
section
namespace Go.Proofs.YthlbdbaanlehhaaDoorO
open Go.RowKit Go.Deep Go.Proofs.YthlbdbaanlehhaaDoorW.PrintWords Go.Proofs.YthlbdbaanlehhaaDoor
set_option linter.unusedVariables false
set_option linter.unusedSimpArgs false
variable {P : Program}
theorem bulk_mem {H : Type} {d : DataW H} {l : List (DataW H)} (h : d ∈ l) : Rows.uptoBulk d ≤ Rows.uptoBulkAll l := by
  induction l with
  | nil => cases h
  | cons x r ih =>
    simp only [Rows.uptoBulkAll]
    cases List.mem_cons.1 h with
    | inl e => subst e; omega
    | inr e => have := ih e; omega
theorem bulk_one {H : Type} (d : DataW H) : 1 ≤ Rows.uptoBulk d := by
  cases d with
  | lit l => cases l <;> simp [Rows.uptoBulk]
  | nil => simp [Rows.uptoBulk]
  | ptr d => simp [Rows.uptoBulk]
  | slice elems spare => simp [Rows.uptoBulk]
  | agg parts => simp [Rows.uptoBulk]
  | iface t d => simp [Rows.uptoBulk]
  | map entries => simp [Rows.uptoBulk]
  | held h => simp [Rows.uptoBulk]
theorem bulk_length {H : Type} (l : List (DataW H)) : l.length ≤ Rows.uptoBulkAll l := by
  induction l with
  | nil => simp [Rows.uptoBulkAll]
  | cons x r ih => have := bulk_one x; simp only [Rows.uptoBulkAll, List.length_cons]; omega
theorem bulk_bound {H : Type} {l : List (DataW H)} (hk : Rows.uptoSmall H l = true) : Rows.uptoBulkAll l ≤ 1048576 := of_decide_eq_true hk
/-- What is read as data of type t is read by the kind d, is well made (W), and is no more than its bulk (Wb). -/
def OpnB {α : Type} (P : Program) (t : TypeId) (d : Kd α) (W : α → Prop) (Wb : Nat → α → Prop) : Prop :=
  ∀ (H : Type) (enc : TypeId × Value → H) (w : World) (base : Nat) (spare : Nat → Bool) (held : Bool) (fuel : Nat) (cs : List Value) (x : DataW H × List MemPlace),
    DataW.trod enc P w base spare held fuel t cs = some x → (∀ n ∈ x.1.weights P t, n ≤ reachBytes) → ∃ a, d.K w a cs ∧ W a ∧ ∀ B, Rows.uptoBulk x.1 ≤ B → Wb B a
theorem OpnB.of {α : Type} {t : TypeId} {d : Kd α} {W : α → Prop} (h : Opn P t d W) : OpnB P t d W (fun _ _ => True) := by
  intro H enc w base spare held fuel cs x hx hw
  obtain ⟨a, h1, h2⟩ := h H enc w base spare held fuel cs x hx hw
  exact ⟨a, h1, h2, fun _ _ => trivial⟩
theorem OpnB.string {t : TypeId} (hu : P.underlying t = some .string) : OpnB P t Kd.string (fun s => s.size ≤ 140737488351232) (fun B s => s.size ≤ B) := by
  intro H enc w base spare held fuel cs x h hw
  obtain ⟨s, rfl, hx, _⟩ := DataW.trod_string hu h
  refine ⟨s, rfl, ?_, fun B hB => ?_⟩
  · have := hw s.data.toList.length (by rw [hx]; simp [DataW.weights])
    rw [Array.length_toList] at this
    exact this
  · rw [hx] at hB
    simp only [Rows.uptoBulk] at hB
    rw [Array.length_toList] at hB
    show s.data.size ≤ B
    omega
theorem OpnB.slice {α : Type} {t e : TypeId} {d : Kd α} {W : α → Prop} {Wb : Nat → α → Prop} {B : Nat} (hu : P.underlying t = some (.slice e)) (hz : P.cellsOf e = d.sz) (hB : P.bytesOf e = B) (ho : OpnB P e d W Wb) :
    OpnB P t (Kd.slice e d) (fun l => l.length * B ≤ 140737488351232 ∧ l.length ≤ 9223372036854775807 ∧ ∀ a ∈ l, W a) (fun N l => l.length ≤ N ∧ ∀ a ∈ l, Wb N a) := by
  intro H enc w base spare held fuel cs x h hw
  rcases open_slice hu h with ⟨rfl, _⟩ | ⟨a, len, cap, m, n, D, Pl, rfl, hb, hl, hm, hmm, hx, hel⟩
  · exact ⟨[], ⟨none, 0, rfl, Nat.le_refl _, rfl, by simp, fun h => absurd h (by simp)⟩, ⟨by simp, by simp, by simp⟩, fun _ _ => ⟨by simp, by simp⟩⟩
  · have hx1 : x.1 = .slice ((List.range len).map D) ((List.range (m - len)).map fun j => D (len + j)) := by rw [hx]
    have hlm : len ≤ m := by rw [hmm]; split <;> omega
    have hwt : ∀ i, i < len → ∀ n ∈ (D i).weights P e, n ≤ reachBytes := fun i hi n hn => by
      refine hw n ?_
      rw [hx1, DataW.weights, hu]
      simp only [List.mem_cons, List.mem_append]
      exact .inr (.inl (weightsAll_mem (List.mem_map.2 ⟨i, List.mem_range.2 hi, rfl⟩) n hn))
    have hlen : (len + (m - len)) * B ≤ 140737488351232 := by
      have := hw ((len + (m - len)) * B) (by
        rw [hx1, DataW.weights, hu]
        simp [hB])
      exact this
    have hall : ∀ i, i < len → ∃ p : α × List Value, w.cells? base (a.add (i * P.cellsOf e)) (P.cellsOf e) = some p.2 ∧ d.K w p.1 p.2 ∧ W p.1 ∧ ∀ N, Rows.uptoBulk (D i) ≤ N → Wb N p.1 := fun i hi => by
      obtain ⟨cs', h1, h2⟩ := hel i (by omega)
      obtain ⟨q, h3, h4⟩ := ho H enc w base spare held n cs' _ h2 (hwt i hi)
      exact ⟨(q, cs'), h1, h3, h4.1, h4.2⟩
    rcases Nat.eq_zero_or_pos len with h0 | hp
    · subst h0
      exact ⟨[], ⟨some a, cap, rfl, by simp, rfl, by simp, fun h => absurd h (by simp)⟩, ⟨by simp, by simp, by simp⟩, fun _ _ => ⟨by simp, by simp⟩⟩
    have : Inhabited α := ⟨(hall 0 hp).choose.1⟩
    have : Inhabited (α × List Value) := ⟨(default, [])⟩
    obtain ⟨f, hf⟩ := choose_lt hall
    have hll : ((List.range len).map fun i => (f i).1).length = len := by simp
    refine ⟨(List.range len).map fun i => (f i).1, ⟨some a, cap, by rw [hll], by rw [hll]; exact hl, rfl, ?_, fun _ => ⟨a, rfl, fun j p hp => ?_⟩⟩, ⟨?_, ?_, ?_⟩, fun N hN => ⟨?_, fun p hp => ?_⟩⟩
    · rw [hll]; unfold maxLen at hm; omega
    · have hj : j < len := by have := (List.getElem?_eq_some_iff.1 hp).1; rwa [hll] at this
      have hpf : p = (f j).1 := by simpa [hj] using hp.symm
      subst hpf
      obtain ⟨h1, h2, _⟩ := hf j hj
      obtain ⟨_, hcl, hcc⟩ := World.cells?_some h1
      refine ⟨(f j).2, by rw [hcl, hz], h2, fun i u hi => ?_⟩
      have hi2 := (List.getElem?_eq_some_iff.1 hi).1
      have := hcc i (by omega)
      rw [hi, Deep.add_add, hz] at this
      exact this
    · rw [hll]
      exact Nat.le_trans (Nat.mul_le_mul_right _ (show len ≤ len + (m - len) by omega)) hlen
    · rw [hll]; unfold maxLen at hm; omega
    · intro p hp
      obtain ⟨i, hi, rfl⟩ := List.mem_map.1 hp
      exact (hf i (List.mem_range.1 hi)).2.2.1
    · rw [hx1] at hN
      simp only [Rows.uptoBulk] at hN
      have h1 := bulk_length ((List.range len).map D)
      simp only [List.length_map, List.length_range] at h1
      rw [hll]
      omega
    · obtain ⟨i, hi, rfl⟩ := List.mem_map.1 hp
      refine (hf i (List.mem_range.1 hi)).2.2.2 N ?_
      rw [hx1] at hN
      simp only [Rows.uptoBulk] at hN
      have h1 : Rows.uptoBulk (D i) ≤ Rows.uptoBulkAll ((List.range len).map D) := bulk_mem (List.mem_map.2 ⟨i, hi, rfl⟩)
      omega

/-- Fields that lie one behind the other from a place on. -/
def OpnBF {α : Type} (P : Program) (fs : List Field) (off : Nat) (d : Kd α) (W : α → Prop) (Wb : Nat → α → Prop) : Prop :=
  ∀ (H : Type) (enc : TypeId × Value → H) (w : World) (base : Nat) (spare : Nat → Bool) (held : Bool) (fuel : Nat) (cs : List Value) (xs : List (DataW H × List MemPlace)),
    cs.length = off + d.sz → (∀ (i : Nat) (f : Field), fs[i]? = some f → DataW.trod enc P w base spare held fuel f.type ((cs.drop f.offset).take (P.cellsOf f.type)) = xs[i]?) → xs.length = fs.length →
    (∀ n ∈ DataW.weightsEach P (fs.map (·.type)) (xs.map (·.1)), n ≤ reachBytes) → ∃ a, d.K w a (cs.drop off) ∧ W a ∧ ∀ B, Rows.uptoBulkAll (xs.map (·.1)) ≤ B → Wb B a
theorem OpnBF.one {α : Type} {f : Field} {off : Nat} {d : Kd α} {W : α → Prop} {Wb : Nat → α → Prop} (ho : f.offset = off) (hz : P.cellsOf f.type = d.sz) (h : OpnB P f.type d W Wb) : OpnBF P [f] off d W Wb := by
  intro H enc w base spare held fuel cs xs hl ht hx hw
  obtain ⟨x, rfl⟩ : ∃ x, xs = [x] := by
    match xs, hx with
    | [x], _ => exact ⟨x, rfl⟩
  have h0 := ht 0 f rfl
  rw [ho, List.take_of_length_le (by rw [List.length_drop, hl, hz]; omega)] at h0
  obtain ⟨a, h1, h2, h3⟩ := h H enc w base spare held fuel _ x h0 (fun n hn => hw n (by simp [DataW.weightsEach, hn]))
  exact ⟨a, h1, h2, fun B hB => h3 B (by simpa [Rows.uptoBulkAll] using hB)⟩
theorem OpnBF.cons {α β : Type} {f : Field} {fs : List Field} {off : Nat} {d : Kd α} {d' : Kd β} {W : α → Prop} {W' : β → Prop} {Wb : Nat → α → Prop} {Wb' : Nat → β → Prop} (ho : f.offset = off) (hz : P.cellsOf f.type = d.sz) (h : OpnB P f.type d W Wb) (h' : OpnBF P fs (off + d.sz) d' W' Wb') :
    OpnBF P (f :: fs) off (Kd.pair d d') (fun p => W p.1 ∧ W' p.2) (fun B p => Wb B p.1 ∧ Wb' B p.2) := by
  intro H enc w base spare held fuel cs xs hl ht hx hw
  obtain ⟨x, ys, rfl⟩ : ∃ x ys, xs = x :: ys := by
    match xs, hx with
    | x :: ys, _ => exact ⟨x, ys, rfl⟩
  have hl' : cs.length = off + (d.sz + d'.sz) := hl
  have h0 := ht 0 f rfl
  obtain ⟨a, ha, hwa, hba⟩ := h H enc w base spare held fuel _ x h0 (fun n hn => hw n (by simp [DataW.weightsEach, hn]))
  obtain ⟨b, hb, hwb, hbb⟩ := h' H enc w base spare held fuel cs ys (by omega) (fun i f' hf => by simpa using ht (i + 1) f' (by simpa using hf)) (by simpa using hx) (fun n hn => hw n (by simp [DataW.weightsEach, hn]))
  refine ⟨(a, b), ⟨(cs.drop off).take d.sz, cs.drop (off + d.sz), ?_, ?_, hb⟩, ⟨hwa, hwb⟩, fun B hB => ?_⟩
  · rw [← List.drop_drop, List.take_append_drop]
  · rw [← hz, ← ho]; exact ha
  · simp only [List.map_cons, Rows.uptoBulkAll] at hB
    exact ⟨hba B (by omega), hbb B (by omega)⟩
theorem OpnB.struct {α : Type} {t : TypeId} {fs : Array Field} {d : Kd α} {W : α → Prop} {Wb : Nat → α → Prop} (hu : P.underlying t = some (.struct fs)) (hz : P.cellsOf t = d.sz) (h : OpnBF P fs.toList 0 d W Wb) : OpnB P t d W Wb := by
  intro H enc w base spare held fuel cs x hx hw
  obtain ⟨xs, n, _, rfl, hl, hn, hf⟩ := DataW.trod_struct hu hx
  obtain ⟨a, h1, h2, h3⟩ := h H enc w base spare held n cs xs (by omega) (fun i f hi => hf i f (by simpa using hi)) (by simpa using hn) (fun m hm => hw m (by simpa [DataW.weights, hu] using hm))
  exact ⟨a, by simpa using h1, h2, fun B hB => h3 B (by simp only [Rows.uptoBulk] at hB; omega)⟩
theorem OpnB.iso {α β : Type} {t : TypeId} {d : Kd α} {W : α → Prop} {Wb : Nat → α → Prop} (f : β → α) (g : α → β) (hg : ∀ a, f (g a) = a) (h : OpnB P t d W Wb) : OpnB P t (Kd.iso d f) (fun b => W (f b)) (fun B b => Wb B (f b)) := by
  intro H enc w base spare held fuel cs x hx hw
  obtain ⟨a, h1, h2, h3⟩ := h H enc w base spare held fuel cs x hx hw
  exact ⟨g a, by show d.K w (f (g a)) cs; rw [hg]; exact h1, by show W (f (g a)); rw [hg]; exact h2, fun B hB => by show Wb B (f (g a)); rw [hg]; exact h3 B hB⟩

/-- An argument that is a slice. -/
theorem argB_slice {H : Type} {enc : TypeId × Value → H} {α : Type} {w : World} {r : Reach} {base : Nat} {spare : Nat → Bool} {held : Bool} {t e : TypeId} {d : Kd α} {W : List α → Prop} {Wb : Nat → List α → Prop} {v : Value} {y : DataW H} {p : List MemPlace} {ts : List TypeId} {ds : List (DataW H)} {j b0 : Nat}
    (hu : P.underlying t = some (.slice e)) (ho : OpnB P t (Kd.slice e d) W Wb) (hv : Value.okWide P w r b0 t v) (h : DataW.Trod enc P w base spare held t v y p) (hsz : (DataW.weightsEach P ts ds).all (· ≤ reachBytes) = true) (ht : ts[j]? = some t) (hd : ds[j]? = some y) :
    ∃ A l c, v = .slice A l.length c ∧ l.length ≤ c ∧ Kd.C d w A l.length l ∧ W l ∧ ∀ B, Rows.uptoBulk y ≤ B → Wb B l := by
  obtain ⟨A, len, cap, rfl⟩ := WideShapes.okWide_slice hu hv
  obtain ⟨fuel, hf⟩ := h
  have hw : ∀ n ∈ y.weights P t, n ≤ reachBytes := fun n hn => by
    simpa using List.all_eq_true.1 hsz _ (DataW.weights_mem_each ht hd n hn)
  obtain ⟨l, ⟨A', c, hcs, hlc, hC⟩, hW, hB⟩ := ho H enc w base spare held fuel _ _ hf hw
  simp [Value.cells] at hcs
  obtain ⟨rfl, rfl, rfl⟩ := hcs
  exact ⟨A, l, cap, rfl, hlc, hC, hW, hB⟩
/-- An argument that is a struct. -/
theorem argB_struct {H : Type} {enc : TypeId × Value → H} {α : Type} {w : World} {r : Reach} {base : Nat} {spare : Nat → Bool} {held : Bool} {t : TypeId} {fs : Array Field} {d : Kd α} {W : α → Prop} {Wb : Nat → α → Prop} {v : Value} {y : DataW H} {p : List MemPlace} {ts : List TypeId} {ds : List (DataW H)} {j b0 : Nat}
    (hu : P.underlying t = some (.struct fs)) (ho : OpnB P t d W Wb) (hv : Value.okWide P w r b0 t v) (h : DataW.Trod enc P w base spare held t v y p) (hsz : (DataW.weightsEach P ts ds).all (· ≤ reachBytes) = true) (ht : ts[j]? = some t) (hd : ds[j]? = some y) :
    ∃ a cs, v = .agg cs ∧ d.K w a cs.toList ∧ W a ∧ ∀ B, Rows.uptoBulk y ≤ B → Wb B a := by
  obtain ⟨cs, rfl, _⟩ := WideShapes.okWide_struct hu hv
  obtain ⟨fuel, hf⟩ := h
  have hw : ∀ n ∈ y.weights P t, n ≤ reachBytes := fun n hn => by
    simpa using List.all_eq_true.1 hsz _ (DataW.weights_mem_each ht hd n hn)
  obtain ⟨a, hK, hW, hB⟩ := ho H enc w base spare held fuel _ _ hf hw
  exact ⟨a, cs, rfl, by simpa [Value.cells] using hK, hW, hB⟩
end Go.Proofs.YthlbdbaanlehhaaDoorO
end
section
namespace Go.Proofs.YthlbdbaanlehhaaDoor.Pure
open Go.RowKit Go.Proofs.YthlbdbaanlehhaaDoor.Pr Go.Proofs.YthlbdbaanlehhaaDoorW.PrintWords Go.Proofs.YthlbdbaanlehhaaDoorW.PrintLast Go.Proofs.YthlbdbaanlehhaaDoorO
def wb49 (N : Nat) (x : S49) : Prop := x.f0.size ≤ N ∧ True ∧ True
theorem opnb49 : OpnB Tryd.prog 49 k49 opW49 wb49 :=
  OpnB.iso (fun x : S49 => (x.f0, x.f1, x.f2)) (fun p => ⟨p.1, p.2.1, p.2.2⟩) (fun _ => rfl) (OpnB.struct Tryd.underlying49 (by kernel_rfl) (OpnBF.cons rfl (by kernel_rfl) (OpnB.string Tryd.underlying9) (OpnBF.cons rfl (by kernel_rfl) (OpnB.of (Opn.int Tryd.underlying3)) (OpnBF.one rfl (by kernel_rfl) (OpnB.of (Opn.bool Tryd.underlying4))))))
def wb39 (N : Nat) (l : List (S49)) : Prop := l.length ≤ N ∧ ∀ a ∈ l, wb49 N a
theorem opnb39 : OpnB Tryd.prog 39 (Kd.slice 49 k49) (fun l => (l.length * 32 ≤ 140737488351232 ∧ l.length ≤ 9223372036854775807 ∧ ∀ y ∈ l, opW49 y)) wb39 :=
  OpnB.slice (B := 32) Tryd.underlying39 (by kernel_rfl) (by kernel_rfl) opnb49
def wb46 (N : Nat) (l : List (ByteArray)) : Prop := l.length ≤ N ∧ ∀ a ∈ l, a.size ≤ N
theorem opnb46 : OpnB Tryd.prog 46 (Kd.slice 9 Kd.string) (fun l => (l.length * 16 ≤ 140737488351232 ∧ l.length ≤ 9223372036854775807 ∧ ∀ y ∈ l, y.size ≤ 140737488351232)) wb46 :=
  OpnB.slice (B := 16) Tryd.underlying46 (by kernel_rfl) (by kernel_rfl) (OpnB.string Tryd.underlying9)
def wb40 (N : Nat) (l : List (List (ByteArray))) : Prop := l.length ≤ N ∧ ∀ a ∈ l, wb46 N a
theorem opnb40 : OpnB Tryd.prog 40 (Kd.slice 46 (Kd.slice 9 Kd.string)) (fun l => (l.length * 24 ≤ 140737488351232 ∧ l.length ≤ 9223372036854775807 ∧ ∀ y ∈ l, (y.length * 16 ≤ 140737488351232 ∧ y.length ≤ 9223372036854775807 ∧ ∀ y_ ∈ y, y_.size ≤ 140737488351232))) wb40 :=
  OpnB.slice (B := 24) Tryd.underlying40 (by kernel_rfl) (by kernel_rfl) opnb46
end Go.Proofs.YthlbdbaanlehhaaDoor.Pure
end
section
namespace Go.Proofs.YthlbdbaanlehhaaDoor.Pr
open Go.RowKit Go.Proofs.YthlbdbaanlehhaaDoorW.PrintWords Go.Proofs.YthlbdbaanlehhaaDoorW.PrintLast Go.Proofs.YthlbdbaanlehhaaDoor
set_option linter.unusedVariables false
/-- few: are there few columns and rows, none of them too wide? -/
def fewB (cols : List S49) (n : Int) : Bool := decide (cols.length ≤ 20) && decide (n ≤ 60) && cols.all fun c => decide (c.f1 ≤ 500)
theorem few_ev (cols : List S49) (n : Int) : Ev (fun k => musterlaw31_few.f k cols n) (fewB cols n) := by
  have hno : ∀ b, fewB cols n = false → Ev (fun k => musterlaw31_few.j0 k cols true) b → Ev (fun k => musterlaw31_few.j0 k cols true) b := fun _ _ h => h
  by_cases h1 : (cols.length : Int) > 20
  · have e : fewB cols n = false := by unfold fewB; rw [decide_eq_false (by omega)]; rfl
    rw [e]
    refine Ev.congr (f := fun k => musterlaw31_few.j0 k cols true) (fun k => ?_) (Ev.step (f := fun _ => some false) (fun k => ?_) (Ev.now _))
    · unfold musterlaw31_few.f; rw [if_pos h1]
    · simp only [musterlaw31_few.j0]; rw [if_pos trivial]
  · by_cases h2 : n > 60
    · have e : fewB cols n = false := by unfold fewB; rw [decide_eq_false (p := n ≤ 60) (by omega), Bool.and_false]; rfl
      rw [e]
      refine Ev.congr (f := fun k => musterlaw31_few.j0 k cols true) (fun k => ?_) (Ev.step (f := fun _ => some false) (fun k => ?_) (Ev.now _))
      · unfold musterlaw31_few.f; rw [if_neg h1, decide_eq_true h2]
      · simp only [musterlaw31_few.j0]; rw [if_pos trivial]
    · have e : fewB cols n = cols.all fun c => decide (c.f1 ≤ 500) := by unfold fewB; rw [decide_eq_true (p := cols.length ≤ 20) (by omega), decide_eq_true (p := n ≤ 60) (by omega)]; rfl
      rw [e]
      have key : ∀ (d i : Nat), cols.length - i = d → i ≤ cols.length → Ev (fun k => musterlaw31_few.l0 k cols i) ((cols.drop i).all fun c => decide (c.f1 ≤ 500)) := by
        intro d
        induction d with
        | zero =>
          intro i hd hi
          rw [List.drop_eq_nil_of_le (by omega)]
          refine Ev.step (f := fun _ => some true) (fun k => ?_) (Ev.now _)
          simp only [musterlaw31_few.l0]
          rw [if_neg (by omega)]
        | succ d ih =>
          intro i hd hi
          have h3 := ih (i + 1) (by omega) (by omega)
          have hg : cols.getD i z49 = cols[i]'(by omega) := by rw [List.getD_eq_getElem?_getD, List.getElem?_eq_getElem (by omega)]; rfl
          rw [List.drop_eq_getElem_cons (by omega), List.all_cons, ← hg]
          by_cases h4 : (cols.getD i z49).f1 > 500
          · rw [decide_eq_false (by omega), Bool.false_and]
            refine Ev.step (f := fun _ => some false) (fun k => ?_) (Ev.now _)
            simp only [musterlaw31_few.l0]
            rw [if_pos (by omega), if_pos (by omega), rd49_nat, if_pos h4]
          · rw [decide_eq_true (p := (cols.getD i z49).f1 ≤ 500) (by omega), Bool.true_and]
            refine Ev.step (fun k => ?_) h3
            simp only [musterlaw31_few.l0]
            rw [if_pos (by omega), if_pos (by omega), rd49_nat, if_neg h4, w64_succ i (by omega)]
      refine Ev.congr (f := fun k => musterlaw31_few.j0 k cols false) (fun k => ?_) (Ev.step (fun k => ?_) (key _ 0 rfl (by omega)))
      · unfold musterlaw31_few.f; rw [if_neg h1, decide_eq_false h2]
      · simp only [musterlaw31_few.j0]; rw [if_neg (by simp)]; rfl
theorem few_yes {cols : List S49} {n : Int} (h : fewB cols n = true) : cols.length ≤ 20 ∧ n ≤ 60 ∧ ∀ c ∈ cols, c.f1 ≤ 500 := by
  unfold fewB at h
  simp only [Bool.and_eq_true, decide_eq_true_eq, List.all_eq_true] at h
  exact ⟨h.1.1, h.1.2, h.2⟩
end Go.Proofs.YthlbdbaanlehhaaDoor.Pr
end
section
namespace Go.Proofs.YthlbdbaanlehhaaDoor.Pure
open Go.RowKit Go.Proofs.YthlbdbaanlehhaaDoor.Pr Go.Proofs.YthlbdbaanlehhaaDoorW.PrintWords Go.Proofs.YthlbdbaanlehhaaDoorW.PrintLast Go.Proofs.YthlbdbaanlehhaaDoorO Go.Proofs.YthlbdbaanlehhaaDoor
set_option linter.unusedVariables false
theorem tells_small (s : ByteArray) (w : Int) (r : Bool) (cols : List S49) (rows : List (List ByteArray)) (hs : s.size ≤ 1048576) (hn : ∀ c ∈ cols, c.f0.size ≤ 1048576) (hx : ∀ q ∈ rows, ∀ x ∈ q, x.size ≤ 1048576) (hlen : rows.length ≤ 9223372036854775807) :
    Ev (fun k => musterlaw31_TableTells.f k s w r cols rows) true := by
  have hno : Ev (fun k => musterlaw31_TableTells.j0 k s w r cols rows true) true := by
    refine Ev.step (fun k => ?_) awake_end
    simp only [musterlaw31_TableTells.j0]
    rw [if_pos trivial]
  by_cases h1 : w > 2000
  · refine Ev.congr (fun k => ?_) hno
    unfold musterlaw31_TableTells.f
    rw [if_pos h1]
  · have hf := few_ev cols (rows.length : Int)
    cases hb : fewB cols (rows.length : Int) with
    | false =>
      rw [hb] at hf
      have h2 := Ev.bind (f := fun k (t : Bool) => musterlaw31_TableTells.j0 k s w r cols rows (!t)) hf hno
      refine Ev.congr (fun k => ?_) h2
      unfold musterlaw31_TableTells.f
      rw [if_neg h1]
    | true =>
      rw [hb] at hf
      obtain ⟨f1, f2, f3⟩ := few_yes hb
      have hn' : ∀ c ∈ cols, c.f0.size ≤ 140737488355328 := fun c hc => by have := hn c hc; omega
      have hx' : ∀ q ∈ rows, ∀ x ∈ q, x.size ≤ 140737488355328 := fun q hq x hxm => by have := hx q hq x hxm; omega
      -- the rows, one by one
      have krows : ∀ (d i : Nat), rows.length - i = d → i ≤ rows.length → Ev (fun k => musterlaw31_TableTells.l0 k cols rows i) true := by
        intro d
        induction d with
        | zero =>
          intro i hd hi
          refine Ev.step (fun k => ?_) awake_end
          simp only [musterlaw31_TableTells.l0]
          rw [if_neg (by omega)]
        | succ d ih =>
          intro i hd hi
          have h2 := ih (i + 1) (by omega) (by omega)
          have hg : rows.getD i [] = rows[i]'(by omega) := by rw [List.getD_eq_getElem?_getD, List.getElem?_eq_getElem (by omega)]; rfl
          have hm : rows.getD i [] ∈ rows := by rw [hg]; exact List.getElem_mem _
          have ha := row_ev cols (rows.getD i []) f1 f3 (hx' _ hm)
          have hb := ref_row cols f1 f3 (rows.getD i []) (hx _ hm)
          have hc := Ev.bind (f := fun k (t : ByteArray) => (musterref31_Row.f k cols (rows.getD i [])).bind fun t2 => if t.toList = t2.toList then musterlaw31_TableTells.l0 k cols rows ((i + 1 : Nat) : Int) else some false) ha
            (Ev.bind (f := fun k (t2 : ByteArray) => if (rowB cols (rows.getD i [])).toList = t2.toList then musterlaw31_TableTells.l0 k cols rows ((i + 1 : Nat) : Int) else some false) hb (Ev.congr (fun k => if_pos rfl) h2))
          refine Ev.step (fun k => ?_) hc
          simp only [musterlaw31_TableTells.l0]
          rw [if_pos (by omega), if_pos (by omega), rdL7_nat', w64_succ i (by omega)]
      have hj1 : Ev (fun k => musterlaw31_TableTells.j1 k cols rows false) true := by
        refine Ev.step (fun k => ?_) (krows _ 0 rfl (by omega))
        simp only [musterlaw31_TableTells.j1]
        rw [if_neg (by simp)]
        rfl
      obtain ⟨tb, htb⟩ : ∃ tb, (⟨(lines cols (cols.map S49.f0 :: rows)).toArray⟩ : ByteArray) = tb := ⟨_, rfl⟩
      have ht1 := table_ev cols f1 f3 hn' rows (by omega) hx'
      have ht2 := ref_table cols f1 f3 hn rows (by omega) hx
      rw [htb] at ht1 ht2
      have hfit : table_Fit.f s w r = some (fit s w r) := by unfold table_Fit.f; rw [if_pos ⟨by omega, by omega⟩]
      have hwid : table_Width.f s = some (wid s : Int) := by unfold table_Width.f; rw [if_pos (by omega)]
      have hfr := ref_fit s hs w (by omega) r
      have hlast : Ev (fun k => (table_Table.f k cols rows).bind fun t191 => (musterref31_Table.f k cols rows).bind fun t192 => musterlaw31_TableTells.j1 k cols rows (t191.toList != t192.toList)) true :=
        Ev.bind (f := fun k (t191 : ByteArray) => (musterref31_Table.f k cols rows).bind fun t192 => musterlaw31_TableTells.j1 k cols rows (t191.toList != t192.toList)) ht1
          (Ev.bind (f := fun k (t192 : ByteArray) => musterlaw31_TableTells.j1 k cols rows (tb.toList != t192.toList)) ht2 (Ev.congr (fun k => by simp) hj1))
      have hmid := Ev.bind (f := fun k (t190 : ByteArray) => if (fit s w r).toList = t190.toList then ((table_Table.f k cols rows).bind fun t191 => (musterref31_Table.f k cols rows).bind fun t192 => musterlaw31_TableTells.j1 k cols rows (t191.toList != t192.toList)) else musterlaw31_TableTells.j1 k cols rows true) hfr (Ev.congr (fun k => if_pos rfl) hlast)
      have hj0 : Ev (fun k => musterlaw31_TableTells.j0 k s w r cols rows false) true := by
        refine Ev.step (fun k => ?_) hmid
        simp only [musterlaw31_TableTells.j0]
        rw [if_neg (by simp), hwid, ref_width s hs, hfit]
        simp only [Option.bind_some]
        rw [if_pos trivial]
      have h2 := Ev.bind (f := fun k (t : Bool) => musterlaw31_TableTells.j0 k s w r cols rows (!t)) hf hj0
      refine Ev.congr (fun k => ?_) h2
      unfold musterlaw31_TableTells.f
      rw [if_neg h1]
theorem TableTells (a0 : ByteArray) (a1 : Int) (a2 : Bool) (l3 : List S49) (l4 : List (List ByteArray)) (w0 : a0.size ≤ 140737488351232) (w1 : (Lit.int .i64 a1).wf = true)
    (w3 : l3.length * 32 ≤ 140737488351232 ∧ l3.length ≤ 9223372036854775807 ∧ ∀ y ∈ l3, opW49 y)
    (w4 : l4.length * 24 ≤ 140737488351232 ∧ l4.length ≤ 9223372036854775807 ∧ ∀ y ∈ l4, (y.length * 16 ≤ 140737488351232 ∧ y.length ≤ 9223372036854775807 ∧ ∀ y_ ∈ y, y_.size ≤ 140737488351232))
    (b0 : a0.size ≤ 1048576) (b3 : wb39 1048576 l3) (b4 : wb40 1048576 l4) : ∃ k, musterlaw31_TableTells.f k a0 a1 a2 l3 l4 = some true :=
  (tells_small a0 a1 a2 l3 l4 b0 (fun c hc => (b3.2 c hc).1) (fun q hq x hx => (b4.2 q hq).2 x hx) w4.2.1).rounds
end Go.Proofs.YthlbdbaanlehhaaDoor.Pure
end
