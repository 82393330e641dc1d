/-
  Words of this session: whatever can be read as data of a type is read by the print's kind of that type (slices of structs of slices ..), with the bounds that a row's weights give. For the rows of laws over such arguments.
-/
import Derived.Test.YthlbdbaanlehhaaDoorWWords
import Derived.Deep.Slices
import Derived.ChangeArms
import Derived.SizedLaws
import Derived.ProofKit
import Derived.Lib.SmallJoins
namespace Go.Proofs.YthlbdbaanlehhaaDoorO
open Go.RowKit Go.Deep Go.Proofs.YthlbdbaanlehhaaDoorW.PrintWords
set_option linter.unusedVariables false
set_option linter.unusedSimpArgs false
variable {P : Program}

/-- What is read as data of type t is read by the kind d, and is well made (W). -/
def Opn {α : Type} (P : Program) (t : TypeId) (d : Kd α) (W : α → Prop) : Prop :=
  ∀ (H : Type) (enc : TypeId × Value → H) (w : World) (base : Nat) (spare : Nat → Bool) (held : Bool) (fuel : Nat) (cs : List Value) (x : DataW H × List MemPlace),
    DataW.trod enc P w base spare held fuel t cs = some x → (∀ n ∈ x.1.weights P t, n ≤ reachBytes) → ∃ a, d.K w a cs ∧ W a

theorem Opn.int {t : TypeId} {k : IntKind} (hu : P.underlying t = some (.int k)) : Opn P t (Kd.int k) (fun a => (Lit.int k a).wf = true) := by
  intro H enc w base spare held fuel cs x h _
  obtain ⟨n, rfl, _, hw⟩ := DataW.trod_int hu h
  exact ⟨n, rfl, hw⟩
theorem Opn.bool {t : TypeId} (hu : P.underlying t = some .bool) : Opn P t Kd.bool (fun _ => True) := by
  intro H enc w base spare held fuel cs x h _
  obtain ⟨b, rfl, _⟩ := DataW.trod_bool hu h
  exact ⟨b, rfl, trivial⟩
theorem Opn.string {t : TypeId} (hu : P.underlying t = some .string) : Opn P t Kd.string (fun s => s.size ≤ 140737488351232) := by
  intro H enc w base spare held fuel cs x h hw
  obtain ⟨s, rfl, hx, _⟩ := DataW.trod_string hu h
  refine ⟨s, rfl, ?_⟩
  have := hw s.data.toList.length (by rw [hx]; simp [DataW.weights])
  rw [Array.length_toList] at this
  exact this
theorem Opn.mono {α : Type} {t : TypeId} {d : Kd α} {W W' : α → Prop} (h : Opn P t d W) (hw : ∀ a, W a → W' a) : Opn P t d W' := by
  intro H enc w base spare held fuel cs x hx hn
  obtain ⟨a, h1, h2⟩ := h H enc w base spare held fuel cs x hx hn
  exact ⟨a, h1, hw a h2⟩
theorem weightsAll_mem {H : Type} {e : TypeId} {l : List (DataW H)} {y : DataW H} (hy : y ∈ l) : ∀ n ∈ y.weights P e, n ∈ DataW.weightsAll P e l := by
  induction l with
  | nil => cases hy
  | cons z l ih =>
    intro n hn
    rw [DataW.weightsAll, List.mem_append]
    rcases List.mem_cons.1 hy with rfl | hy
    · exact .inl hn
    · exact .inr (ih hy n hn)
theorem Opn.slice {α : Type} {t e : TypeId} {d : Kd α} {W : α → Prop} {B : Nat} (hu : P.underlying t = some (.slice e)) (hz : P.cellsOf e = d.sz) (hB : P.bytesOf e = B) (ho : Opn P e d W) :
    Opn P t (Kd.slice e d) (fun l => l.length * B ≤ 140737488351232 ∧ l.length ≤ 9223372036854775807 ∧ ∀ a ∈ l, W a) := by
  intro H enc w base spare held fuel cs x h hw
  rcases open_slice hu h with ⟨rfl, _⟩ | ⟨a, len, cap, m, n, D, Pl, rfl, hb, hl, hm, hmm, hx, hel⟩
  · exact ⟨[], ⟨none, 0, rfl, Nat.le_refl _, rfl, by simp, fun h => absurd h (by simp)⟩, by simp, by simp, by simp⟩
  · have hx1 : x.1 = .slice ((List.range len).map D) ((List.range (m - len)).map fun j => D (len + j)) := by rw [hx]
    have hlm : len ≤ m := by rw [hmm]; split <;> omega
    have hwt : ∀ i, i < len → ∀ n ∈ (D i).weights P e, n ≤ reachBytes := fun i hi n hn => by
      refine hw n ?_
      rw [hx1, DataW.weights, hu]
      simp only [List.mem_cons, List.mem_append]
      exact .inr (.inl (weightsAll_mem (List.mem_map.2 ⟨i, List.mem_range.2 hi, rfl⟩) n hn))
    have hlen : (len + (m - len)) * B ≤ 140737488351232 := by
      have := hw ((len + (m - len)) * B) (by
        rw [hx1, DataW.weights, hu]
        simp [hB])
      exact this
    have hall : ∀ i, i < len → ∃ p : α × List Value, w.cells? base (a.add (i * P.cellsOf e)) (P.cellsOf e) = some p.2 ∧ d.K w p.1 p.2 ∧ W p.1 := fun i hi => by
      obtain ⟨cs', h1, h2⟩ := hel i (by omega)
      obtain ⟨q, h3, h4⟩ := ho H enc w base spare held n cs' _ h2 (hwt i hi)
      exact ⟨(q, cs'), h1, h3, h4⟩
    rcases Nat.eq_zero_or_pos len with h0 | hp
    · subst h0
      exact ⟨[], ⟨some a, cap, rfl, by simp, rfl, by simp, fun h => absurd h (by simp)⟩, by simp, by simp, by simp⟩
    have : Inhabited α := ⟨(hall 0 hp).choose.1⟩
    have : Inhabited (α × List Value) := ⟨(default, [])⟩
    obtain ⟨f, hf⟩ := choose_lt hall
    have hll : ((List.range len).map fun i => (f i).1).length = len := by simp
    refine ⟨(List.range len).map fun i => (f i).1, ⟨some a, cap, by rw [hll], by rw [hll]; exact hl, rfl, ?_, fun _ => ⟨a, rfl, fun j p hp => ?_⟩⟩, ?_, ?_, ?_⟩
    · rw [hll]; unfold maxLen at hm; omega
    · have hj : j < len := by have := (List.getElem?_eq_some_iff.1 hp).1; rwa [hll] at this
      have hpf : p = (f j).1 := by simpa [hj] using hp.symm
      subst hpf
      obtain ⟨h1, h2, _⟩ := hf j hj
      obtain ⟨_, hcl, hcc⟩ := World.cells?_some h1
      refine ⟨(f j).2, by rw [hcl, hz], h2, fun i u hi => ?_⟩
      have hi2 := (List.getElem?_eq_some_iff.1 hi).1
      have := hcc i (by omega)
      rw [hi, Deep.add_add, hz] at this
      exact this
    · rw [hll]
      exact Nat.le_trans (Nat.mul_le_mul_right _ (show len ≤ len + (m - len) by omega)) hlen
    · rw [hll]; unfold maxLen at hm; omega
    · intro p hp
      obtain ⟨i, hi, rfl⟩ := List.mem_map.1 hp
      exact (hf i (List.mem_range.1 hi)).2.2

/-- Fields that lie one behind the other from a place on. -/
def OpnF {α : Type} (P : Program) (fs : List Field) (off : Nat) (d : Kd α) (W : α → Prop) : Prop :=
  ∀ (H : Type) (enc : TypeId × Value → H) (w : World) (base : Nat) (spare : Nat → Bool) (held : Bool) (fuel : Nat) (cs : List Value) (xs : List (DataW H × List MemPlace)),
    cs.length = off + d.sz → (∀ (i : Nat) (f : Field), fs[i]? = some f → DataW.trod enc P w base spare held fuel f.type ((cs.drop f.offset).take (P.cellsOf f.type)) = xs[i]?) → xs.length = fs.length →
    (∀ n ∈ DataW.weightsEach P (fs.map (·.type)) (xs.map (·.1)), n ≤ reachBytes) → ∃ a, d.K w a (cs.drop off) ∧ W a
theorem OpnF.one {α : Type} {f : Field} {off : Nat} {d : Kd α} {W : α → Prop} (ho : f.offset = off) (hz : P.cellsOf f.type = d.sz) (h : Opn P f.type d W) : OpnF P [f] off d W := by
  intro H enc w base spare held fuel cs xs hl ht hx hw
  obtain ⟨x, rfl⟩ : ∃ x, xs = [x] := by
    match xs, hx with
    | [x], _ => exact ⟨x, rfl⟩
  have h0 := ht 0 f rfl
  rw [ho, List.take_of_length_le (by rw [List.length_drop, hl, hz]; omega)] at h0
  exact h H enc w base spare held fuel _ x h0 (fun n hn => hw n (by simp [DataW.weightsEach, hn]))
theorem OpnF.cons {α β : Type} {f : Field} {fs : List Field} {off : Nat} {d : Kd α} {d' : Kd β} {W : α → Prop} {W' : β → Prop} (ho : f.offset = off) (hz : P.cellsOf f.type = d.sz) (h : Opn P f.type d W) (h' : OpnF P fs (off + d.sz) d' W') :
    OpnF P (f :: fs) off (Kd.pair d d') (fun p => W p.1 ∧ W' p.2) := by
  intro H enc w base spare held fuel cs xs hl ht hx hw
  obtain ⟨x, ys, rfl⟩ : ∃ x ys, xs = x :: ys := by
    match xs, hx with
    | x :: ys, _ => exact ⟨x, ys, rfl⟩
  have hl' : cs.length = off + (d.sz + d'.sz) := hl
  have h0 := ht 0 f rfl
  obtain ⟨a, ha, hwa⟩ := h H enc w base spare held fuel _ x h0 (fun n hn => hw n (by simp [DataW.weightsEach, hn]))
  obtain ⟨b, hb, hwb⟩ := h' H enc w base spare held fuel cs ys (by omega) (fun i f' hf => by simpa using ht (i + 1) f' (by simpa using hf)) (by simpa using hx) (fun n hn => hw n (by simp [DataW.weightsEach, hn]))
  refine ⟨(a, b), ⟨(cs.drop off).take d.sz, cs.drop (off + d.sz), ?_, ?_, hb⟩, hwa, hwb⟩
  · rw [← List.drop_drop, List.take_append_drop]
  · rw [← hz, ← ho]; exact ha
theorem Opn.struct {α : Type} {t : TypeId} {fs : Array Field} {d : Kd α} {W : α → Prop} (hu : P.underlying t = some (.struct fs)) (hz : P.cellsOf t = d.sz) (h : OpnF P fs.toList 0 d W) : Opn P t d W := by
  intro H enc w base spare held fuel cs x hx hw
  obtain ⟨xs, n, _, rfl, hl, hn, hf⟩ := DataW.trod_struct hu hx
  obtain ⟨a, h1, h2⟩ := h H enc w base spare held n cs xs (by omega) (fun i f hi => hf i f (by simpa using hi)) (by simpa using hn) (fun m hm => hw m (by simpa [DataW.weights, hu] using hm))
  exact ⟨a, by simpa using h1, h2⟩
theorem Opn.iso {α β : Type} {t : TypeId} {d : Kd α} {W : α → Prop} (f : β → α) (g : α → β) (hg : ∀ a, f (g a) = a) (h : Opn P t d W) : Opn P t (Kd.iso d f) (fun b => W (f b)) := by
  intro H enc w base spare held fuel cs x hx hw
  obtain ⟨a, h1, h2⟩ := h H enc w base spare held fuel cs x hx hw
  exact ⟨g a, by show d.K w (f (g a)) cs; rw [hg]; exact h1, by show W (f (g a)); rw [hg]; exact h2⟩

/-- An argument that is a slice. -/
theorem arg_slice {H : Type} {enc : TypeId × Value → H} {α : Type} {w : World} {r : Reach} {base : Nat} {spare : Nat → Bool} {held : Bool} {t e : TypeId} {d : Kd α} {W : List α → Prop} {v : Value} {y : DataW H} {p : List MemPlace} {ts : List TypeId} {ds : List (DataW H)} {j b0 : Nat}
    (hu : P.underlying t = some (.slice e)) (ho : Opn P t (Kd.slice e d) W) (hv : Value.okWide P w r b0 t v) (h : DataW.Trod enc P w base spare held t v y p) (hsz : (DataW.weightsEach P ts ds).all (· ≤ reachBytes) = true) (ht : ts[j]? = some t) (hd : ds[j]? = some y) :
    ∃ A l c, v = .slice A l.length c ∧ l.length ≤ c ∧ Kd.C d w A l.length l ∧ W l := by
  obtain ⟨A, len, cap, rfl⟩ := WideShapes.okWide_slice hu hv
  obtain ⟨fuel, hf⟩ := h
  have hw : ∀ n ∈ y.weights P t, n ≤ reachBytes := fun n hn => by
    simpa using List.all_eq_true.1 hsz _ (DataW.weights_mem_each ht hd n hn)
  obtain ⟨l, ⟨A', c, hcs, hlc, hC⟩, hW⟩ := ho H enc w base spare held fuel _ _ hf hw
  simp [Value.cells] at hcs
  obtain ⟨rfl, rfl, rfl⟩ := hcs
  exact ⟨A, l, cap, rfl, hlc, hC, hW⟩
/-- An argument that is a struct. -/
theorem arg_struct {H : Type} {enc : TypeId × Value → H} {α : Type} {w : World} {r : Reach} {base : Nat} {spare : Nat → Bool} {held : Bool} {t : TypeId} {fs : Array Field} {d : Kd α} {W : α → Prop} {v : Value} {y : DataW H} {p : List MemPlace} {ts : List TypeId} {ds : List (DataW H)} {j b0 : Nat}
    (hu : P.underlying t = some (.struct fs)) (ho : Opn P t d W) (hv : Value.okWide P w r b0 t v) (h : DataW.Trod enc P w base spare held t v y p) (hsz : (DataW.weightsEach P ts ds).all (· ≤ reachBytes) = true) (ht : ts[j]? = some t) (hd : ds[j]? = some y) :
    ∃ a cs, v = .agg cs ∧ d.K w a cs.toList ∧ W a := by
  obtain ⟨cs, rfl, _⟩ := WideShapes.okWide_struct hu hv
  obtain ⟨fuel, hf⟩ := h
  have hw : ∀ n ∈ y.weights P t, n ≤ reachBytes := fun n hn => by
    simpa using List.all_eq_true.1 hsz _ (DataW.weights_mem_each ht hd n hn)
  obtain ⟨a, hK, hW⟩ := ho H enc w base spare held fuel _ _ hf hw
  exact ⟨a, cs, rfl, by simpa [Value.cells] using hK, hW⟩
theorem agg_of {cs : Array Value} {l : List Value} (h : cs.toList = l) : (Value.agg cs) = .agg l.toArray := by
  subst h
  simp
end Go.Proofs.YthlbdbaanlehhaaDoorO
