/-
  Texts of this session, laid together by wip/tools/merge.py: OB, ShapeTableLists, ShapeBTableLists, PureTableLists.
-/
import Derived.Test.YthlbdbaanlehhaaDoorO
import Derived.Test.YthlbdbaanlehhaaDoorRows
import Derived.Test.YthlbdbaanlehhaaDoorPr30
import Derived.Test.YthlbdbaanlehhaaDoorQQue
set_option linter.unusedVariables false
set_option linter.unusedSimpArgs false
section
namespace Go.Proofs.YthlbdbaanlehhaaDoorO
open Go.RowKit Go.Deep Go.Proofs.YthlbdbaanlehhaaDoorW.PrintWords Go.Proofs.YthlbdbaanlehhaaDoor
set_option linter.unusedVariables false
set_option linter.unusedSimpArgs false
variable {P : Program}
theorem bulk_mem {H : Type} {d : DataW H} {l : List (DataW H)} (h : d ∈ l) : Rows.uptoBulk d ≤ Rows.uptoBulkAll l := by
  induction l with
  | nil => cases h
  | cons x r ih =>
    simp only [Rows.uptoBulkAll]
    cases List.mem_cons.1 h with
    | inl e => subst e; omega
    | inr e => have := ih e; omega
theorem bulk_one {H : Type} (d : DataW H) : 1 ≤ Rows.uptoBulk d := by
  cases d with
  | lit l => cases l <;> simp [Rows.uptoBulk]
  | nil => simp [Rows.uptoBulk]
  | ptr d => simp [Rows.uptoBulk]
  | slice elems spare => simp [Rows.uptoBulk]
  | agg parts => simp [Rows.uptoBulk]
  | iface t d => simp [Rows.uptoBulk]
  | map entries => simp [Rows.uptoBulk]
  | held h => simp [Rows.uptoBulk]
theorem bulk_length {H : Type} (l : List (DataW H)) : l.length ≤ Rows.uptoBulkAll l := by
  induction l with
  | nil => simp [Rows.uptoBulkAll]
  | cons x r ih => have := bulk_one x; simp only [Rows.uptoBulkAll, List.length_cons]; omega
theorem bulk_bound {H : Type} {l : List (DataW H)} (hk : Rows.uptoSmall H l = true) : Rows.uptoBulkAll l ≤ 1048576 := of_decide_eq_true hk
/-- What is read as data of type t is read by the kind d, is well made (W), and is no more than its bulk (Wb). -/
def OpnB {α : Type} (P : Program) (t : TypeId) (d : Kd α) (W : α → Prop) (Wb : Nat → α → Prop) : Prop :=
  ∀ (H : Type) (enc : TypeId × Value → H) (w : World) (base : Nat) (spare : Nat → Bool) (held : Bool) (fuel : Nat) (cs : List Value) (x : DataW H × List MemPlace),
    DataW.trod enc P w base spare held fuel t cs = some x → (∀ n ∈ x.1.weights P t, n ≤ reachBytes) → ∃ a, d.K w a cs ∧ W a ∧ ∀ B, Rows.uptoBulk x.1 ≤ B → Wb B a
theorem OpnB.of {α : Type} {t : TypeId} {d : Kd α} {W : α → Prop} (h : Opn P t d W) : OpnB P t d W (fun _ _ => True) := by
  intro H enc w base spare held fuel cs x hx hw
  obtain ⟨a, h1, h2⟩ := h H enc w base spare held fuel cs x hx hw
  exact ⟨a, h1, h2, fun _ _ => trivial⟩
theorem OpnB.string {t : TypeId} (hu : P.underlying t = some .string) : OpnB P t Kd.string (fun s => s.size ≤ 140737488351232) (fun B s => s.size ≤ B) := by
  intro H enc w base spare held fuel cs x h hw
  obtain ⟨s, rfl, hx, _⟩ := DataW.trod_string hu h
  refine ⟨s, rfl, ?_, fun B hB => ?_⟩
  · have := hw s.data.toList.length (by rw [hx]; simp [DataW.weights])
    rw [Array.length_toList] at this
    exact this
  · rw [hx] at hB
    simp only [Rows.uptoBulk] at hB
    rw [Array.length_toList] at hB
    show s.data.size ≤ B
    omega
theorem OpnB.slice {α : Type} {t e : TypeId} {d : Kd α} {W : α → Prop} {Wb : Nat → α → Prop} {B : Nat} (hu : P.underlying t = some (.slice e)) (hz : P.cellsOf e = d.sz) (hB : P.bytesOf e = B) (ho : OpnB P e d W Wb) :
    OpnB P t (Kd.slice e d) (fun l => l.length * B ≤ 140737488351232 ∧ l.length ≤ 9223372036854775807 ∧ ∀ a ∈ l, W a) (fun N l => l.length ≤ N ∧ ∀ a ∈ l, Wb N a) := by
  intro H enc w base spare held fuel cs x h hw
  rcases open_slice hu h with ⟨rfl, _⟩ | ⟨a, len, cap, m, n, D, Pl, rfl, hb, hl, hm, hmm, hx, hel⟩
  · exact ⟨[], ⟨none, 0, rfl, Nat.le_refl _, rfl, by simp, fun h => absurd h (by simp)⟩, ⟨by simp, by simp, by simp⟩, fun _ _ => ⟨by simp, by simp⟩⟩
  · have hx1 : x.1 = .slice ((List.range len).map D) ((List.range (m - len)).map fun j => D (len + j)) := by rw [hx]
    have hlm : len ≤ m := by rw [hmm]; split <;> omega
    have hwt : ∀ i, i < len → ∀ n ∈ (D i).weights P e, n ≤ reachBytes := fun i hi n hn => by
      refine hw n ?_
      rw [hx1, DataW.weights, hu]
      simp only [List.mem_cons, List.mem_append]
      exact .inr (.inl (weightsAll_mem (List.mem_map.2 ⟨i, List.mem_range.2 hi, rfl⟩) n hn))
    have hlen : (len + (m - len)) * B ≤ 140737488351232 := by
      have := hw ((len + (m - len)) * B) (by
        rw [hx1, DataW.weights, hu]
        simp [hB])
      exact this
    have hall : ∀ i, i < len → ∃ p : α × List Value, w.cells? base (a.add (i * P.cellsOf e)) (P.cellsOf e) = some p.2 ∧ d.K w p.1 p.2 ∧ W p.1 ∧ ∀ N, Rows.uptoBulk (D i) ≤ N → Wb N p.1 := fun i hi => by
      obtain ⟨cs', h1, h2⟩ := hel i (by omega)
      obtain ⟨q, h3, h4⟩ := ho H enc w base spare held n cs' _ h2 (hwt i hi)
      exact ⟨(q, cs'), h1, h3, h4.1, h4.2⟩
    rcases Nat.eq_zero_or_pos len with h0 | hp
    · subst h0
      exact ⟨[], ⟨some a, cap, rfl, by simp, rfl, by simp, fun h => absurd h (by simp)⟩, ⟨by simp, by simp, by simp⟩, fun _ _ => ⟨by simp, by simp⟩⟩
    have : Inhabited α := ⟨(hall 0 hp).choose.1⟩
    have : Inhabited (α × List Value) := ⟨(default, [])⟩
    obtain ⟨f, hf⟩ := choose_lt hall
    have hll : ((List.range len).map fun i => (f i).1).length = len := by simp
    refine ⟨(List.range len).map fun i => (f i).1, ⟨some a, cap, by rw [hll], by rw [hll]; exact hl, rfl, ?_, fun _ => ⟨a, rfl, fun j p hp => ?_⟩⟩, ⟨?_, ?_, ?_⟩, fun N hN => ⟨?_, fun p hp => ?_⟩⟩
    · rw [hll]; unfold maxLen at hm; omega
    · have hj : j < len := by have := (List.getElem?_eq_some_iff.1 hp).1; rwa [hll] at this
      have hpf : p = (f j).1 := by simpa [hj] using hp.symm
      subst hpf
      obtain ⟨h1, h2, _⟩ := hf j hj
      obtain ⟨_, hcl, hcc⟩ := World.cells?_some h1
      refine ⟨(f j).2, by rw [hcl, hz], h2, fun i u hi => ?_⟩
      have hi2 := (List.getElem?_eq_some_iff.1 hi).1
      have := hcc i (by omega)
      rw [hi, Deep.add_add, hz] at this
      exact this
    · rw [hll]
      exact Nat.le_trans (Nat.mul_le_mul_right _ (show len ≤ len + (m - len) by omega)) hlen
    · rw [hll]; unfold maxLen at hm; omega
    · intro p hp
      obtain ⟨i, hi, rfl⟩ := List.mem_map.1 hp
      exact (hf i (List.mem_range.1 hi)).2.2.1
    · rw [hx1] at hN
      simp only [Rows.uptoBulk] at hN
      have h1 := bulk_length ((List.range len).map D)
      simp only [List.length_map, List.length_range] at h1
      rw [hll]
      omega
    · obtain ⟨i, hi, rfl⟩ := List.mem_map.1 hp
      refine (hf i (List.mem_range.1 hi)).2.2.2 N ?_
      rw [hx1] at hN
      simp only [Rows.uptoBulk] at hN
      have h1 : Rows.uptoBulk (D i) ≤ Rows.uptoBulkAll ((List.range len).map D) := bulk_mem (List.mem_map.2 ⟨i, hi, rfl⟩)
      omega

/-- Fields that lie one behind the other from a place on. -/
def OpnBF {α : Type} (P : Program) (fs : List Field) (off : Nat) (d : Kd α) (W : α → Prop) (Wb : Nat → α → Prop) : Prop :=
  ∀ (H : Type) (enc : TypeId × Value → H) (w : World) (base : Nat) (spare : Nat → Bool) (held : Bool) (fuel : Nat) (cs : List Value) (xs : List (DataW H × List MemPlace)),
    cs.length = off + d.sz → (∀ (i : Nat) (f : Field), fs[i]? = some f → DataW.trod enc P w base spare held fuel f.type ((cs.drop f.offset).take (P.cellsOf f.type)) = xs[i]?) → xs.length = fs.length →
    (∀ n ∈ DataW.weightsEach P (fs.map (·.type)) (xs.map (·.1)), n ≤ reachBytes) → ∃ a, d.K w a (cs.drop off) ∧ W a ∧ ∀ B, Rows.uptoBulkAll (xs.map (·.1)) ≤ B → Wb B a
theorem OpnBF.one {α : Type} {f : Field} {off : Nat} {d : Kd α} {W : α → Prop} {Wb : Nat → α → Prop} (ho : f.offset = off) (hz : P.cellsOf f.type = d.sz) (h : OpnB P f.type d W Wb) : OpnBF P [f] off d W Wb := by
  intro H enc w base spare held fuel cs xs hl ht hx hw
  obtain ⟨x, rfl⟩ : ∃ x, xs = [x] := by
    match xs, hx with
    | [x], _ => exact ⟨x, rfl⟩
  have h0 := ht 0 f rfl
  rw [ho, List.take_of_length_le (by rw [List.length_drop, hl, hz]; omega)] at h0
  obtain ⟨a, h1, h2, h3⟩ := h H enc w base spare held fuel _ x h0 (fun n hn => hw n (by simp [DataW.weightsEach, hn]))
  exact ⟨a, h1, h2, fun B hB => h3 B (by simpa [Rows.uptoBulkAll] using hB)⟩
theorem OpnBF.cons {α β : Type} {f : Field} {fs : List Field} {off : Nat} {d : Kd α} {d' : Kd β} {W : α → Prop} {W' : β → Prop} {Wb : Nat → α → Prop} {Wb' : Nat → β → Prop} (ho : f.offset = off) (hz : P.cellsOf f.type = d.sz) (h : OpnB P f.type d W Wb) (h' : OpnBF P fs (off + d.sz) d' W' Wb') :
    OpnBF P (f :: fs) off (Kd.pair d d') (fun p => W p.1 ∧ W' p.2) (fun B p => Wb B p.1 ∧ Wb' B p.2) := by
  intro H enc w base spare held fuel cs xs hl ht hx hw
  obtain ⟨x, ys, rfl⟩ : ∃ x ys, xs = x :: ys := by
    match xs, hx with
    | x :: ys, _ => exact ⟨x, ys, rfl⟩
  have hl' : cs.length = off + (d.sz + d'.sz) := hl
  have h0 := ht 0 f rfl
  obtain ⟨a, ha, hwa, hba⟩ := h H enc w base spare held fuel _ x h0 (fun n hn => hw n (by simp [DataW.weightsEach, hn]))
  obtain ⟨b, hb, hwb, hbb⟩ := h' H enc w base spare held fuel cs ys (by omega) (fun i f' hf => by simpa using ht (i + 1) f' (by simpa using hf)) (by simpa using hx) (fun n hn => hw n (by simp [DataW.weightsEach, hn]))
  refine ⟨(a, b), ⟨(cs.drop off).take d.sz, cs.drop (off + d.sz), ?_, ?_, hb⟩, ⟨hwa, hwb⟩, fun B hB => ?_⟩
  · rw [← List.drop_drop, List.take_append_drop]
  · rw [← hz, ← ho]; exact ha
  · simp only [List.map_cons, Rows.uptoBulkAll] at hB
    exact ⟨hba B (by omega), hbb B (by omega)⟩
theorem OpnB.struct {α : Type} {t : TypeId} {fs : Array Field} {d : Kd α} {W : α → Prop} {Wb : Nat → α → Prop} (hu : P.underlying t = some (.struct fs)) (hz : P.cellsOf t = d.sz) (h : OpnBF P fs.toList 0 d W Wb) : OpnB P t d W Wb := by
  intro H enc w base spare held fuel cs x hx hw
  obtain ⟨xs, n, _, rfl, hl, hn, hf⟩ := DataW.trod_struct hu hx
  obtain ⟨a, h1, h2, h3⟩ := h H enc w base spare held n cs xs (by omega) (fun i f hi => hf i f (by simpa using hi)) (by simpa using hn) (fun m hm => hw m (by simpa [DataW.weights, hu] using hm))
  exact ⟨a, by simpa using h1, h2, fun B hB => h3 B (by simp only [Rows.uptoBulk] at hB; omega)⟩
theorem OpnB.iso {α β : Type} {t : TypeId} {d : Kd α} {W : α → Prop} {Wb : Nat → α → Prop} (f : β → α) (g : α → β) (hg : ∀ a, f (g a) = a) (h : OpnB P t d W Wb) : OpnB P t (Kd.iso d f) (fun b => W (f b)) (fun B b => Wb B (f b)) := by
  intro H enc w base spare held fuel cs x hx hw
  obtain ⟨a, h1, h2, h3⟩ := h H enc w base spare held fuel cs x hx hw
  exact ⟨g a, by show d.K w (f (g a)) cs; rw [hg]; exact h1, by show W (f (g a)); rw [hg]; exact h2, fun B hB => by show Wb B (f (g a)); rw [hg]; exact h3 B hB⟩

/-- An argument that is a slice. -/
theorem argB_slice {H : Type} {enc : TypeId × Value → H} {α : Type} {w : World} {r : Reach} {base : Nat} {spare : Nat → Bool} {held : Bool} {t e : TypeId} {d : Kd α} {W : List α → Prop} {Wb : Nat → List α → Prop} {v : Value} {y : DataW H} {p : List MemPlace} {ts : List TypeId} {ds : List (DataW H)} {j b0 : Nat}
    (hu : P.underlying t = some (.slice e)) (ho : OpnB P t (Kd.slice e d) W Wb) (hv : Value.okWide P w r b0 t v) (h : DataW.Trod enc P w base spare held t v y p) (hsz : (DataW.weightsEach P ts ds).all (· ≤ reachBytes) = true) (ht : ts[j]? = some t) (hd : ds[j]? = some y) :
    ∃ A l c, v = .slice A l.length c ∧ l.length ≤ c ∧ Kd.C d w A l.length l ∧ W l ∧ ∀ B, Rows.uptoBulk y ≤ B → Wb B l := by
  obtain ⟨A, len, cap, rfl⟩ := WideShapes.okWide_slice hu hv
  obtain ⟨fuel, hf⟩ := h
  have hw : ∀ n ∈ y.weights P t, n ≤ reachBytes := fun n hn => by
    simpa using List.all_eq_true.1 hsz _ (DataW.weights_mem_each ht hd n hn)
  obtain ⟨l, ⟨A', c, hcs, hlc, hC⟩, hW, hB⟩ := ho H enc w base spare held fuel _ _ hf hw
  simp [Value.cells] at hcs
  obtain ⟨rfl, rfl, rfl⟩ := hcs
  exact ⟨A, l, cap, rfl, hlc, hC, hW, hB⟩
/-- An argument that is a struct. -/
theorem argB_struct {H : Type} {enc : TypeId × Value → H} {α : Type} {w : World} {r : Reach} {base : Nat} {spare : Nat → Bool} {held : Bool} {t : TypeId} {fs : Array Field} {d : Kd α} {W : α → Prop} {Wb : Nat → α → Prop} {v : Value} {y : DataW H} {p : List MemPlace} {ts : List TypeId} {ds : List (DataW H)} {j b0 : Nat}
    (hu : P.underlying t = some (.struct fs)) (ho : OpnB P t d W Wb) (hv : Value.okWide P w r b0 t v) (h : DataW.Trod enc P w base spare held t v y p) (hsz : (DataW.weightsEach P ts ds).all (· ≤ reachBytes) = true) (ht : ts[j]? = some t) (hd : ds[j]? = some y) :
    ∃ a cs, v = .agg cs ∧ d.K w a cs.toList ∧ W a ∧ ∀ B, Rows.uptoBulk y ≤ B → Wb B a := by
  obtain ⟨cs, rfl, _⟩ := WideShapes.okWide_struct hu hv
  obtain ⟨fuel, hf⟩ := h
  have hw : ∀ n ∈ y.weights P t, n ≤ reachBytes := fun n hn => by
    simpa using List.all_eq_true.1 hsz _ (DataW.weights_mem_each ht hd n hn)
  obtain ⟨a, hK, hW, hB⟩ := ho H enc w base spare held fuel _ _ hf hw
  exact ⟨a, cs, rfl, by simpa [Value.cells] using hK, hW, hB⟩
end Go.Proofs.YthlbdbaanlehhaaDoorO
end
section
namespace Go.Proofs.YthlbdbaanlehhaaDoor.Pure
open Go.RowKit Go.Proofs.YthlbdbaanlehhaaDoor.Pr Go.Proofs.YthlbdbaanlehhaaDoorW.PrintWords Go.Proofs.YthlbdbaanlehhaaDoorW.PrintLast Go.Proofs.YthlbdbaanlehhaaDoorO
def opW129 (x : S129) : Prop := (Lit.int .u8 x.f0).wf = true ∧ (Lit.int .i64 x.f1).wf = true
theorem opn129 : Opn Tryd.prog 129 k129 opW129 :=
  Opn.mono (Opn.iso (fun x : S129 => (x.f0, x.f1)) (fun p => ⟨p.1, p.2⟩) (fun _ => rfl) (Opn.struct Tryd.underlying129 (by kernel_rfl) (OpnF.cons rfl (by kernel_rfl) (Opn.int Tryd.underlying127) (OpnF.one rfl (by kernel_rfl) (Opn.int Tryd.underlying3))))) (fun _ h => h)
theorem opn59 : Opn Tryd.prog 59 (Kd.slice 129 k129) (fun l => (l.length * 16 ≤ 140737488351232 ∧ l.length ≤ 9223372036854775807 ∧ ∀ y ∈ l, opW129 y)) :=
  Opn.slice (B := 16) Tryd.underlying59 (by kernel_rfl) (by kernel_rfl) opn129
def opW61 (x : S61) : Prop := x.f0.size ≤ 140737488351232 ∧ x.f1.size ≤ 140737488351232 ∧ x.f2.size ≤ 140737488351232 ∧ x.f3.size ≤ 140737488351232 ∧ (Lit.int .i64 x.f4).wf = true ∧ (Lit.int .i64 x.f5).wf = true ∧ (Lit.int .i64 x.f6).wf = true ∧ (x.f7.length * 16 ≤ 140737488351232 ∧ x.f7.length ≤ 9223372036854775807 ∧ ∀ y ∈ x.f7, opW129 y)
theorem opn61 : Opn Tryd.prog 61 k61 opW61 :=
  Opn.mono (Opn.iso (fun x : S61 => (x.f0, x.f1, x.f2, x.f3, x.f4, x.f5, x.f6, x.f7)) (fun p => ⟨p.1, p.2.1, p.2.2.1, p.2.2.2.1, p.2.2.2.2.1, p.2.2.2.2.2.1, p.2.2.2.2.2.2.1, p.2.2.2.2.2.2.2⟩) (fun _ => rfl) (Opn.struct Tryd.underlying61 (by kernel_rfl) (OpnF.cons rfl (by kernel_rfl) (Opn.string Tryd.underlying9) (OpnF.cons rfl (by kernel_rfl) (Opn.string Tryd.underlying9) (OpnF.cons rfl (by kernel_rfl) (Opn.string Tryd.underlying9) (OpnF.cons rfl (by kernel_rfl) (Opn.string Tryd.underlying9) (OpnF.cons rfl (by kernel_rfl) (Opn.int Tryd.underlying3) (OpnF.cons rfl (by kernel_rfl) (Opn.int Tryd.underlying3) (OpnF.cons rfl (by kernel_rfl) (Opn.int Tryd.underlying2) (OpnF.one rfl (by kernel_rfl) opn59)))))))))) (fun _ h => h)
def opW63 (x : S63) : Prop := (Lit.int .i64 x.f0).wf = true ∧ (Lit.int .i64 x.f1).wf = true ∧ (Lit.int .i64 x.f2).wf = true ∧ opW61 x.f3 ∧ (Lit.int .u8 x.f4).wf = true ∧ (Lit.int .i64 x.f5).wf = true ∧ (Lit.int .i64 x.f6).wf = true ∧ (Lit.int .i64 x.f7).wf = true ∧ (Lit.int .u32 x.f8).wf = true ∧ (Lit.int .i64 x.f9).wf = true
theorem opn63 : Opn Tryd.prog 63 k63 opW63 :=
  Opn.mono (Opn.iso (fun x : S63 => (x.f0, x.f1, x.f2, x.f3, x.f4, x.f5, x.f6, x.f7, x.f8, x.f9)) (fun p => ⟨p.1, p.2.1, p.2.2.1, p.2.2.2.1, p.2.2.2.2.1, p.2.2.2.2.2.1, p.2.2.2.2.2.2.1, p.2.2.2.2.2.2.2.1, p.2.2.2.2.2.2.2.2.1, p.2.2.2.2.2.2.2.2.2⟩) (fun _ => rfl) (Opn.struct Tryd.underlying63 (by kernel_rfl) (OpnF.cons rfl (by kernel_rfl) (Opn.int Tryd.underlying3) (OpnF.cons rfl (by kernel_rfl) (Opn.int Tryd.underlying3) (OpnF.cons rfl (by kernel_rfl) (Opn.int Tryd.underlying3) (OpnF.cons rfl (by kernel_rfl) opn61 (OpnF.cons rfl (by kernel_rfl) (Opn.int Tryd.underlying29) (OpnF.cons rfl (by kernel_rfl) (Opn.int Tryd.underlying2) (OpnF.cons rfl (by kernel_rfl) (Opn.int Tryd.underlying2) (OpnF.cons rfl (by kernel_rfl) (Opn.int Tryd.underlying2) (OpnF.cons rfl (by kernel_rfl) (Opn.int Tryd.underlying34) (OpnF.one rfl (by kernel_rfl) (Opn.int Tryd.underlying3))))))))))))) (fun _ h => h)
theorem opn53 : Opn Tryd.prog 53 (Kd.slice 63 k63) (fun l => (l.length * 184 ≤ 140737488351232 ∧ l.length ≤ 9223372036854775807 ∧ ∀ y ∈ l, opW63 y)) :=
  Opn.slice (B := 184) Tryd.underlying53 (by kernel_rfl) (by kernel_rfl) opn63
def opW65 (x : S65) : Prop := (Lit.int .i64 x.f0).wf = true ∧ x.f1.size ≤ 140737488351232 ∧ x.f2.size ≤ 140737488351232 ∧ (Lit.int .i64 x.f3).wf = true ∧ (Lit.int .i64 x.f4).wf = true ∧ (Lit.int .u8 x.f5).wf = true ∧ (Lit.int .i64 x.f6).wf = true ∧ (Lit.int .i64 x.f7).wf = true ∧ (Lit.int .i64 x.f8).wf = true
theorem opn65 : Opn Tryd.prog 65 k65 opW65 :=
  Opn.mono (Opn.iso (fun x : S65 => (x.f0, x.f1, x.f2, x.f3, x.f4, x.f5, x.f6, x.f7, x.f8)) (fun p => ⟨p.1, p.2.1, p.2.2.1, p.2.2.2.1, p.2.2.2.2.1, p.2.2.2.2.2.1, p.2.2.2.2.2.2.1, p.2.2.2.2.2.2.2.1, p.2.2.2.2.2.2.2.2⟩) (fun _ => rfl) (Opn.struct Tryd.underlying65 (by kernel_rfl) (OpnF.cons rfl (by kernel_rfl) (Opn.int Tryd.underlying3) (OpnF.cons rfl (by kernel_rfl) (Opn.string Tryd.underlying9) (OpnF.cons rfl (by kernel_rfl) (Opn.string Tryd.underlying9) (OpnF.cons rfl (by kernel_rfl) (Opn.int Tryd.underlying3) (OpnF.cons rfl (by kernel_rfl) (Opn.int Tryd.underlying3) (OpnF.cons rfl (by kernel_rfl) (Opn.int Tryd.underlying29) (OpnF.cons rfl (by kernel_rfl) (Opn.int Tryd.underlying2) (OpnF.cons rfl (by kernel_rfl) (Opn.int Tryd.underlying2) (OpnF.one rfl (by kernel_rfl) (Opn.int Tryd.underlying2)))))))))))) (fun _ h => h)
theorem opn54 : Opn Tryd.prog 54 (Kd.slice 65 k65) (fun l => (l.length * 88 ≤ 140737488351232 ∧ l.length ≤ 9223372036854775807 ∧ ∀ y ∈ l, opW65 y)) :=
  Opn.slice (B := 88) Tryd.underlying54 (by kernel_rfl) (by kernel_rfl) opn65
theorem opn23 : Opn Tryd.prog 23 (Kd.slice 3 (Kd.int .i64)) (fun l => (l.length * 8 ≤ 140737488351232 ∧ l.length ≤ 9223372036854775807 ∧ ∀ y ∈ l, (Lit.int .i64 y).wf = true)) :=
  Opn.slice (B := 8) Tryd.underlying23 (by kernel_rfl) (by kernel_rfl) (Opn.int Tryd.underlying3)
def opW31 (x : S31) : Prop := (Lit.int .i64 x.f0).wf = true ∧ (Lit.int .u8 x.f1).wf = true
theorem opn31 : Opn Tryd.prog 31 k31 opW31 :=
  Opn.mono (Opn.iso (fun x : S31 => (x.f0, x.f1)) (fun p => ⟨p.1, p.2⟩) (fun _ => rfl) (Opn.struct Tryd.underlying31 (by kernel_rfl) (OpnF.cons rfl (by kernel_rfl) (Opn.int Tryd.underlying3) (OpnF.one rfl (by kernel_rfl) (Opn.int Tryd.underlying29))))) (fun _ h => h)
theorem opn24 : Opn Tryd.prog 24 (Kd.slice 31 k31) (fun l => (l.length * 16 ≤ 140737488351232 ∧ l.length ≤ 9223372036854775807 ∧ ∀ y ∈ l, opW31 y)) :=
  Opn.slice (B := 16) Tryd.underlying24 (by kernel_rfl) (by kernel_rfl) opn31
def opW36 (x : S36) : Prop := (Lit.int .i64 x.f0).wf = true ∧ (Lit.int .u32 x.f1).wf = true
theorem opn36 : Opn Tryd.prog 36 k36 opW36 :=
  Opn.mono (Opn.iso (fun x : S36 => (x.f0, x.f1)) (fun p => ⟨p.1, p.2⟩) (fun _ => rfl) (Opn.struct Tryd.underlying36 (by kernel_rfl) (OpnF.cons rfl (by kernel_rfl) (Opn.int Tryd.underlying3) (OpnF.one rfl (by kernel_rfl) (Opn.int Tryd.underlying34))))) (fun _ h => h)
theorem opn25 : Opn Tryd.prog 25 (Kd.slice 36 k36) (fun l => (l.length * 16 ≤ 140737488351232 ∧ l.length ≤ 9223372036854775807 ∧ ∀ y ∈ l, opW36 y)) :=
  Opn.slice (B := 16) Tryd.underlying25 (by kernel_rfl) (by kernel_rfl) opn36
def opW27 (x : S27) : Prop := (Lit.int .i64 x.f0).wf = true ∧ (x.f1.length * 8 ≤ 140737488351232 ∧ x.f1.length ≤ 9223372036854775807 ∧ ∀ y ∈ x.f1, (Lit.int .i64 y).wf = true) ∧ (x.f2.length * 16 ≤ 140737488351232 ∧ x.f2.length ≤ 9223372036854775807 ∧ ∀ y ∈ x.f2, opW31 y) ∧ (x.f3.length * 16 ≤ 140737488351232 ∧ x.f3.length ≤ 9223372036854775807 ∧ ∀ y ∈ x.f3, opW36 y)
theorem opn27 : Opn Tryd.prog 27 k27 opW27 :=
  Opn.mono (Opn.iso (fun x : S27 => (x.f0, x.f1, x.f2, x.f3)) (fun p => ⟨p.1, p.2.1, p.2.2.1, p.2.2.2⟩) (fun _ => rfl) (Opn.struct Tryd.underlying27 (by kernel_rfl) (OpnF.cons rfl (by kernel_rfl) (Opn.int Tryd.underlying22) (OpnF.cons rfl (by kernel_rfl) opn23 (OpnF.cons rfl (by kernel_rfl) opn24 (OpnF.one rfl (by kernel_rfl) opn25)))))) (fun _ h => h)
end Go.Proofs.YthlbdbaanlehhaaDoor.Pure
end
section
namespace Go.Proofs.YthlbdbaanlehhaaDoor.Pure
open Go.RowKit Go.Proofs.YthlbdbaanlehhaaDoor.Pr Go.Proofs.YthlbdbaanlehhaaDoorW.PrintWords Go.Proofs.YthlbdbaanlehhaaDoorW.PrintLast Go.Proofs.YthlbdbaanlehhaaDoorO
def wb129 (N : Nat) (x : S129) : Prop := True ∧ True
theorem opnb129 : OpnB Tryd.prog 129 k129 opW129 wb129 :=
  OpnB.iso (fun x : S129 => (x.f0, x.f1)) (fun p => ⟨p.1, p.2⟩) (fun _ => rfl) (OpnB.struct Tryd.underlying129 (by kernel_rfl) (OpnBF.cons rfl (by kernel_rfl) (OpnB.of (Opn.int Tryd.underlying127)) (OpnBF.one rfl (by kernel_rfl) (OpnB.of (Opn.int Tryd.underlying3)))))
def wb59 (N : Nat) (l : List (S129)) : Prop := l.length ≤ N ∧ ∀ a ∈ l, wb129 N a
theorem opnb59 : OpnB Tryd.prog 59 (Kd.slice 129 k129) (fun l => (l.length * 16 ≤ 140737488351232 ∧ l.length ≤ 9223372036854775807 ∧ ∀ y ∈ l, opW129 y)) wb59 :=
  OpnB.slice (B := 16) Tryd.underlying59 (by kernel_rfl) (by kernel_rfl) opnb129
def wb61 (N : Nat) (x : S61) : Prop := x.f0.size ≤ N ∧ x.f1.size ≤ N ∧ x.f2.size ≤ N ∧ x.f3.size ≤ N ∧ True ∧ True ∧ True ∧ wb59 N x.f7
theorem opnb61 : OpnB Tryd.prog 61 k61 opW61 wb61 :=
  OpnB.iso (fun x : S61 => (x.f0, x.f1, x.f2, x.f3, x.f4, x.f5, x.f6, x.f7)) (fun p => ⟨p.1, p.2.1, p.2.2.1, p.2.2.2.1, p.2.2.2.2.1, p.2.2.2.2.2.1, p.2.2.2.2.2.2.1, p.2.2.2.2.2.2.2⟩) (fun _ => rfl) (OpnB.struct Tryd.underlying61 (by kernel_rfl) (OpnBF.cons rfl (by kernel_rfl) (OpnB.string Tryd.underlying9) (OpnBF.cons rfl (by kernel_rfl) (OpnB.string Tryd.underlying9) (OpnBF.cons rfl (by kernel_rfl) (OpnB.string Tryd.underlying9) (OpnBF.cons rfl (by kernel_rfl) (OpnB.string Tryd.underlying9) (OpnBF.cons rfl (by kernel_rfl) (OpnB.of (Opn.int Tryd.underlying3)) (OpnBF.cons rfl (by kernel_rfl) (OpnB.of (Opn.int Tryd.underlying3)) (OpnBF.cons rfl (by kernel_rfl) (OpnB.of (Opn.int Tryd.underlying2)) (OpnBF.one rfl (by kernel_rfl) opnb59)))))))))
def wb63 (N : Nat) (x : S63) : Prop := True ∧ True ∧ True ∧ wb61 N x.f3 ∧ True ∧ True ∧ True ∧ True ∧ True ∧ True
theorem opnb63 : OpnB Tryd.prog 63 k63 opW63 wb63 :=
  OpnB.iso (fun x : S63 => (x.f0, x.f1, x.f2, x.f3, x.f4, x.f5, x.f6, x.f7, x.f8, x.f9)) (fun p => ⟨p.1, p.2.1, p.2.2.1, p.2.2.2.1, p.2.2.2.2.1, p.2.2.2.2.2.1, p.2.2.2.2.2.2.1, p.2.2.2.2.2.2.2.1, p.2.2.2.2.2.2.2.2.1, p.2.2.2.2.2.2.2.2.2⟩) (fun _ => rfl) (OpnB.struct Tryd.underlying63 (by kernel_rfl) (OpnBF.cons rfl (by kernel_rfl) (OpnB.of (Opn.int Tryd.underlying3)) (OpnBF.cons rfl (by kernel_rfl) (OpnB.of (Opn.int Tryd.underlying3)) (OpnBF.cons rfl (by kernel_rfl) (OpnB.of (Opn.int Tryd.underlying3)) (OpnBF.cons rfl (by kernel_rfl) opnb61 (OpnBF.cons rfl (by kernel_rfl) (OpnB.of (Opn.int Tryd.underlying29)) (OpnBF.cons rfl (by kernel_rfl) (OpnB.of (Opn.int Tryd.underlying2)) (OpnBF.cons rfl (by kernel_rfl) (OpnB.of (Opn.int Tryd.underlying2)) (OpnBF.cons rfl (by kernel_rfl) (OpnB.of (Opn.int Tryd.underlying2)) (OpnBF.cons rfl (by kernel_rfl) (OpnB.of (Opn.int Tryd.underlying34)) (OpnBF.one rfl (by kernel_rfl) (OpnB.of (Opn.int Tryd.underlying3)))))))))))))
def wb53 (N : Nat) (l : List (S63)) : Prop := l.length ≤ N ∧ ∀ a ∈ l, wb63 N a
theorem opnb53 : OpnB Tryd.prog 53 (Kd.slice 63 k63) (fun l => (l.length * 184 ≤ 140737488351232 ∧ l.length ≤ 9223372036854775807 ∧ ∀ y ∈ l, opW63 y)) wb53 :=
  OpnB.slice (B := 184) Tryd.underlying53 (by kernel_rfl) (by kernel_rfl) opnb63
def wb65 (N : Nat) (x : S65) : Prop := True ∧ x.f1.size ≤ N ∧ x.f2.size ≤ N ∧ True ∧ True ∧ True ∧ True ∧ True ∧ True
theorem opnb65 : OpnB Tryd.prog 65 k65 opW65 wb65 :=
  OpnB.iso (fun x : S65 => (x.f0, x.f1, x.f2, x.f3, x.f4, x.f5, x.f6, x.f7, x.f8)) (fun p => ⟨p.1, p.2.1, p.2.2.1, p.2.2.2.1, p.2.2.2.2.1, p.2.2.2.2.2.1, p.2.2.2.2.2.2.1, p.2.2.2.2.2.2.2.1, p.2.2.2.2.2.2.2.2⟩) (fun _ => rfl) (OpnB.struct Tryd.underlying65 (by kernel_rfl) (OpnBF.cons rfl (by kernel_rfl) (OpnB.of (Opn.int Tryd.underlying3)) (OpnBF.cons rfl (by kernel_rfl) (OpnB.string Tryd.underlying9) (OpnBF.cons rfl (by kernel_rfl) (OpnB.string Tryd.underlying9) (OpnBF.cons rfl (by kernel_rfl) (OpnB.of (Opn.int Tryd.underlying3)) (OpnBF.cons rfl (by kernel_rfl) (OpnB.of (Opn.int Tryd.underlying3)) (OpnBF.cons rfl (by kernel_rfl) (OpnB.of (Opn.int Tryd.underlying29)) (OpnBF.cons rfl (by kernel_rfl) (OpnB.of (Opn.int Tryd.underlying2)) (OpnBF.cons rfl (by kernel_rfl) (OpnB.of (Opn.int Tryd.underlying2)) (OpnBF.one rfl (by kernel_rfl) (OpnB.of (Opn.int Tryd.underlying2))))))))))))
def wb54 (N : Nat) (l : List (S65)) : Prop := l.length ≤ N ∧ ∀ a ∈ l, wb65 N a
theorem opnb54 : OpnB Tryd.prog 54 (Kd.slice 65 k65) (fun l => (l.length * 88 ≤ 140737488351232 ∧ l.length ≤ 9223372036854775807 ∧ ∀ y ∈ l, opW65 y)) wb54 :=
  OpnB.slice (B := 88) Tryd.underlying54 (by kernel_rfl) (by kernel_rfl) opnb65
def wb23 (N : Nat) (l : List (Int)) : Prop := l.length ≤ N ∧ ∀ a ∈ l, True
theorem opnb23 : OpnB Tryd.prog 23 (Kd.slice 3 (Kd.int .i64)) (fun l => (l.length * 8 ≤ 140737488351232 ∧ l.length ≤ 9223372036854775807 ∧ ∀ y ∈ l, (Lit.int .i64 y).wf = true)) wb23 :=
  OpnB.slice (B := 8) Tryd.underlying23 (by kernel_rfl) (by kernel_rfl) (OpnB.of (Opn.int Tryd.underlying3))
def wb31 (N : Nat) (x : S31) : Prop := True ∧ True
theorem opnb31 : OpnB Tryd.prog 31 k31 opW31 wb31 :=
  OpnB.iso (fun x : S31 => (x.f0, x.f1)) (fun p => ⟨p.1, p.2⟩) (fun _ => rfl) (OpnB.struct Tryd.underlying31 (by kernel_rfl) (OpnBF.cons rfl (by kernel_rfl) (OpnB.of (Opn.int Tryd.underlying3)) (OpnBF.one rfl (by kernel_rfl) (OpnB.of (Opn.int Tryd.underlying29)))))
def wb24 (N : Nat) (l : List (S31)) : Prop := l.length ≤ N ∧ ∀ a ∈ l, wb31 N a
theorem opnb24 : OpnB Tryd.prog 24 (Kd.slice 31 k31) (fun l => (l.length * 16 ≤ 140737488351232 ∧ l.length ≤ 9223372036854775807 ∧ ∀ y ∈ l, opW31 y)) wb24 :=
  OpnB.slice (B := 16) Tryd.underlying24 (by kernel_rfl) (by kernel_rfl) opnb31
def wb36 (N : Nat) (x : S36) : Prop := True ∧ True
theorem opnb36 : OpnB Tryd.prog 36 k36 opW36 wb36 :=
  OpnB.iso (fun x : S36 => (x.f0, x.f1)) (fun p => ⟨p.1, p.2⟩) (fun _ => rfl) (OpnB.struct Tryd.underlying36 (by kernel_rfl) (OpnBF.cons rfl (by kernel_rfl) (OpnB.of (Opn.int Tryd.underlying3)) (OpnBF.one rfl (by kernel_rfl) (OpnB.of (Opn.int Tryd.underlying34)))))
def wb25 (N : Nat) (l : List (S36)) : Prop := l.length ≤ N ∧ ∀ a ∈ l, wb36 N a
theorem opnb25 : OpnB Tryd.prog 25 (Kd.slice 36 k36) (fun l => (l.length * 16 ≤ 140737488351232 ∧ l.length ≤ 9223372036854775807 ∧ ∀ y ∈ l, opW36 y)) wb25 :=
  OpnB.slice (B := 16) Tryd.underlying25 (by kernel_rfl) (by kernel_rfl) opnb36
def wb27 (N : Nat) (x : S27) : Prop := True ∧ wb23 N x.f1 ∧ wb24 N x.f2 ∧ wb25 N x.f3
theorem opnb27 : OpnB Tryd.prog 27 k27 opW27 wb27 :=
  OpnB.iso (fun x : S27 => (x.f0, x.f1, x.f2, x.f3)) (fun p => ⟨p.1, p.2.1, p.2.2.1, p.2.2.2⟩) (fun _ => rfl) (OpnB.struct Tryd.underlying27 (by kernel_rfl) (OpnBF.cons rfl (by kernel_rfl) (OpnB.of (Opn.int Tryd.underlying22)) (OpnBF.cons rfl (by kernel_rfl) opnb23 (OpnBF.cons rfl (by kernel_rfl) opnb24 (OpnBF.one rfl (by kernel_rfl) opnb25)))))
end Go.Proofs.YthlbdbaanlehhaaDoor.Pure
end
section
namespace Go.Proofs.YthlbdbaanlehhaaDoor.Pure
open Go.RowKit Go.Proofs.YthlbdbaanlehhaaDoor.Pr Go.Proofs.YthlbdbaanlehhaaDoorW.PrintWords Go.Proofs.YthlbdbaanlehhaaDoorW.PrintLast Go.Proofs.YthlbdbaanlehhaaDoorO Go.Proofs.YthlbdbaanlehhaaDoor
theorem wfI {x : Int} (h : (Lit.int .i64 x).wf = true) : I64 x := by
  have h' : (decide (-9223372036854775808 ≤ x) && decide (x ≤ 9223372036854775807)) = true := h
  simpa [I64] using h'
theorem wf8 {x : Int} (h : (Lit.int .u8 x).wf = true) : 0 ≤ x ∧ x < 256 := by
  have h' : (decide (0 ≤ x) && decide (x ≤ 255)) = true := h
  simp only [Bool.and_eq_true, decide_eq_true_eq] at h'
  omega
theorem wf32 {x : Int} (h : (Lit.int .u32 x).wf = true) : 0 ≤ x ∧ x < 4294967296 := by
  have h' : (decide (0 ≤ x) && decide (x ≤ 4294967295)) = true := h
  simp only [Bool.and_eq_true, decide_eq_true_eq] at h'
  omega
theorem lists_j0 (a0 : Int) (l1 : List S63) (l2 : List S65) (e : Int) (m1 : List Int) (m2 : List S31) (m3 : List S36) (a4 : Int)
    (ok1 : ∀ j ∈ l1, okJ j) (hL1 : l1.length ≤ 2000000) (ok2 : ∀ j ∈ l2, okU j) (hL2 : l2.length ≤ 2000000)
    (he : I64 e) (oa1 : ∀ n ∈ m1, I64 n) (oa2 : ∀ n ∈ m2, okO n) (oa3 : ∀ n ∈ m3, okS n)
    (hM1 : m1.length ≤ 17592186044416) (hM2 : m2.length ≤ 17592186044416) (hM3 : m3.length ≤ 17592186044416) (h4 : 0 ≤ a4 ∧ a4 < 256) :
    Ev (fun k => musterlaw31_TableLists.j0 k a0 l1 l2 a4 false e m1 m2 m3) true := by
  obtain ⟨T1, ⟨K1, q1⟩, ⟨K2, q2⟩⟩ := queue_both a0 l1 ok1 hL1
  obtain ⟨T2, ⟨K3, q3⟩, ⟨K4, q4⟩⟩ := runs_both l2 ok2 hL2
  obtain ⟨K5, q5⟩ := answer_ev e m1 m2 m3 he oa1 oa2 oa3 hM1 hM2 hM3
  obtain ⟨K6, q6⟩ := refanswer_ev e m1 m2 m3 he oa1 oa2 oa3 hM1 hM2 hM3
  obtain ⟨K7, q7⟩ := awake_end
  obtain ⟨s1, s2, -⟩ := stB_is a4 h4.1 h4.2
  refine ⟨K1 + K2 + K3 + K4 + K5 + K6 + K7 + 1, fun k hk => ?_⟩
  obtain ⟨m, rfl⟩ : ∃ m, k = m + 1 := ⟨k - 1, by omega⟩
  have r1 := q1 m (by omega)
  have r2 := q2 m (by omega)
  have r3 := q3 m (by omega)
  have r4 := q4 m (by omega)
  have r5 := q5 m (by omega)
  have r6 := q6 m (by omega)
  have r7 := q7 m (by omega)
  simp only at r1 r2 r3 r4 r5 r6 r7
  simp only [musterlaw31_TableLists.j0]
  rw [if_neg (by simp), r1, Option.bind_some, r2, Option.bind_some, if_pos rfl, r3, Option.bind_some, r4, Option.bind_some, if_pos rfl, r5, Option.bind_some, r6, Option.bind_some, if_pos rfl, s1, Option.bind_some, s2, Option.bind_some, if_pos rfl]
  exact r7
theorem lists_j1 (a0 : Int) (l1 : List S63) (l2 : List S65) (e : Int) (m1 : List Int) (m2 : List S31) (m3 : List S36) (a4 : Int) : Ev (fun k => musterlaw31_TableLists.j0 k a0 l1 l2 a4 true e m1 m2 m3) true := by
  refine Ev.step (fun k => ?_) awake_end
  simp only [musterlaw31_TableLists.j0]
  rw [if_pos trivial]
theorem TableLists (a0 : Int) (l1 : List (S63)) (l2 : List (S65)) (x3 : S27) (a4 : Int) (w0 : (Lit.int .i64 a0).wf = true) (w1 : l1.length * 184 ≤ 140737488351232 ∧ l1.length ≤ 9223372036854775807 ∧ ∀ y ∈ l1, opW63 y) (w2 : l2.length * 88 ≤ 140737488351232 ∧ l2.length ≤ 9223372036854775807 ∧ ∀ y ∈ l2, opW65 y) (w3 : opW27 x3) (w4 : (Lit.int .u8 a4).wf = true)
    (b1 : wb53 1048576 l1) (b2 : wb54 1048576 l2) (b3 : wb27 1048576 x3) : ∃ k, musterlaw31_TableLists.f k a0 l1 l2 x3.f0 x3.f1 x3.f2 x3.f3 a4 = some true := by
  refine Ev.rounds ?_
  by_cases h1 : (l1.length : Int) > 300
  · refine Ev.congr (fun k => ?_) (lists_j1 a0 l1 l2 x3.f0 x3.f1 x3.f2 x3.f3 a4)
    unfold musterlaw31_TableLists.f
    rw [if_pos h1]
  · by_cases h2 : (l2.length : Int) > 300
    · refine Ev.congr (fun k => ?_) (lists_j1 a0 l1 l2 x3.f0 x3.f1 x3.f2 x3.f3 a4)
      unfold musterlaw31_TableLists.f
      rw [if_neg h1, decide_eq_true h2]
    · refine Ev.congr (fun k => ?_) (lists_j0 a0 l1 l2 x3.f0 x3.f1 x3.f2 x3.f3 a4 (fun j hj => ?_) (by omega) (fun u hu => ?_) (by omega) (wfI w3.1) (fun n hn => wfI (w3.2.1.2.2 n hn)) (fun o ho => ?_) (fun o ho => ?_) (by have := w3.2.1.1; omega) (by have := w3.2.2.1.1; omega) (by have := w3.2.2.2.1; omega) (wf8 w4))
      · unfold musterlaw31_TableLists.f
        rw [if_neg h1, decide_eq_false h2]
      · obtain ⟨y0, y1, y2, y3, y4, y5, y6, y7, y8, y9⟩ := w1.2.2 j hj
        obtain ⟨-, -, -, bj, -⟩ := b1.2 j hj
        exact ⟨wfI y0, wfI y1, wfI y2, wfI y3.2.2.2.2.1, wf8 y4, wf32 y8, bj.1, bj.2.1, bj.2.2.2.1⟩
      · obtain ⟨y0, y1, y2, y3, y4, y5, y6, y7, y8⟩ := w2.2.2 u hu
        obtain ⟨-, bu1, bu2, -⟩ := b2.2 u hu
        exact ⟨wfI y0, wf8 y5, wfI y6, wfI y7, wfI y8, bu1, bu2⟩
      · obtain ⟨y0, y1⟩ := w3.2.2.1.2.2 o ho
        exact ⟨wfI y0, wf8 y1⟩
      · obtain ⟨y0, y1⟩ := w3.2.2.2.2.2 o ho
        exact ⟨wfI y0, wf32 y1⟩
theorem ev_one {α : Type} {g : Nat → Option α} (hg : ∀ k, LeO (g k) (g (k + 1))) {T t : α} (hT : Ev g T) {k : Nat} (h : g k = some t) : t = T := by
  obtain ⟨K, hK⟩ := hT
  obtain ⟨K2, hK2⟩ := Ev.of hg h
  have a := hK (K + K2) (by omega)
  rw [hK2 (K + K2) (by omega)] at a
  exact Option.some.inj a
section
variable (a0 : Int) (l1 : List S63) (l2 : List S65) (x3 : S27) (a4 : Int)
theorem eqs1 (w1 : l1.length * 184 ≤ 140737488351232 ∧ l1.length ≤ 9223372036854775807 ∧ ∀ y ∈ l1, opW63 y) (b1 : wb53 1048576 l1) : ∀ k t u, table_Queue.f k a0 l1 = some t → musterref31_Queue.f k a0 l1 = some u → t.toList = u.toList := fun k t u ht hu => by
  obtain ⟨T, e1, e2⟩ := queue_both a0 l1 (fun j hj => by
    obtain ⟨y0, y1, y2, y3, y4, y5, y6, y7, y8, y9⟩ := w1.2.2 j hj
    obtain ⟨-, -, -, bj, -⟩ := b1.2 j hj
    exact ⟨wfI y0, wfI y1, wfI y2, wfI y3.2.2.2.2.1, wf8 y4, wf32 y8, bj.1, bj.2.1, bj.2.2.2.1⟩) (by have := b1.1; omega)
  rw [ev_one (fun k => table_Queue.mono a0 l1 k) e1 ht, ev_one (fun k => musterref31_Queue.mono a0 l1 k) e2 hu]
theorem eqs2 (w2 : l2.length * 88 ≤ 140737488351232 ∧ l2.length ≤ 9223372036854775807 ∧ ∀ y ∈ l2, opW65 y) (b2 : wb54 1048576 l2) : ∀ k t u, table_Runs.f k l2 = some t → musterref31_Runs.f k l2 = some u → t.toList = u.toList := fun k t u ht hu => by
  obtain ⟨T, e1, e2⟩ := runs_both l2 (fun j hj => by
    obtain ⟨y0, y1, y2, y3, y4, y5, y6, y7, y8⟩ := w2.2.2 j hj
    obtain ⟨-, bu1, bu2, -⟩ := b2.2 j hj
    exact ⟨wfI y0, wf8 y5, wfI y6, wfI y7, wfI y8, bu1, bu2⟩) (by have := b2.1; omega)
  rw [ev_one (fun k => table_Runs.mono l2 k) e1 ht, ev_one (fun k => musterref31_Runs.mono l2 k) e2 hu]
theorem eqs3 (w3 : opW27 x3) : ∀ k t u, table_Answer.f k x3.f0 x3.f1 x3.f2 x3.f3 = some t → musterref31_Answer.f k x3.f0 x3.f1 x3.f2 x3.f3 = some u → t.toList = u.toList := fun k t u ht hu => by
  have o1 : ∀ n ∈ x3.f1, I64 n := fun n hn => wfI (w3.2.1.2.2 n hn)
  have o2 : ∀ o ∈ x3.f2, okO o := fun o ho => by
    obtain ⟨y0, y1⟩ := w3.2.2.1.2.2 o ho
    exact ⟨wfI y0, wf8 y1⟩
  have o3 : ∀ o ∈ x3.f3, okS o := fun o ho => by
    obtain ⟨y0, y1⟩ := w3.2.2.2.2.2 o ho
    exact ⟨wfI y0, wf32 y1⟩
  have z1 : x3.f1.length ≤ 17592186044416 := by have := w3.2.1.1; omega
  have z2 : x3.f2.length ≤ 17592186044416 := by have := w3.2.2.1.1; omega
  have z3 : x3.f3.length ≤ 17592186044416 := by have := w3.2.2.2.1; omega
  rw [ev_one (fun k => table_Answer.mono _ _ _ _ k) (answer_ev x3.f0 x3.f1 x3.f2 x3.f3 (wfI w3.1) o1 o2 o3 z1 z2 z3) ht, ev_one (fun k => musterref31_Answer.mono _ _ _ _ k) (refanswer_ev x3.f0 x3.f1 x3.f2 x3.f3 (wfI w3.1) o1 o2 o3 z1 z2 z3) hu]
theorem eqs4 (w4 : (Lit.int .u8 a4).wf = true) : ∀ t u, table_State.f a4 = some t → musterref31_State.f a4 = some u → t.toList = u.toList := fun t u ht hu => by
  obtain ⟨e1, e2, -⟩ := stB_is a4 (wf8 w4).1 (wf8 w4).2
  rw [← Option.some.inj (e1.symm.trans ht), ← Option.some.inj (e2.symm.trans hu)]
end
end Go.Proofs.YthlbdbaanlehhaaDoor.Pure
end
