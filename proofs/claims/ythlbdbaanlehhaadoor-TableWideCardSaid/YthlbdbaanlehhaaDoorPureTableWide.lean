/-
  Each line of a table has just as many runes as its columns are wide together: in plain lists.
-/
import Derived.Test.YthlbdbaanlehhaaDoorShapeTableWide
import Derived.Test.YthlbdbaanlehhaaDoorQ6
import Derived.Test.YthlbdbaanlehhaaDoorQ3
namespace Go.Proofs.YthlbdbaanlehhaaDoor.Pure
open Go.RowKit Go.Proofs.YthlbdbaanlehhaaDoor.Pr Go.Proofs.YthlbdbaanlehhaaDoorW.PrintWords Go.Proofs.YthlbdbaanlehhaaDoorW.PrintLast Go.Proofs.YthlbdbaanlehhaaDoorO Go.Proofs.YthlbdbaanlehhaaDoor
set_option linter.unusedVariables false
theorem rdL7_nat (l : List (List ByteArray)) (i : Nat) : rd_L7 l (i : Int) = l.getD i [] := by simp [rd_L7]
/-- few: are there few columns and rows, none of them too wide? -/
def fewB (cols : List S49) (n : Int) : Bool := decide (cols.length ≤ 20) && decide (n ≤ 60) && cols.all fun c => decide (c.f1 ≤ 500)
theorem few_ev (cols : List S49) (n : Int) : Ev (fun k => musterlaw31_few.f k cols n) (fewB cols n) := by
  have hno : ∀ b, fewB cols n = false → Ev (fun k => musterlaw31_few.j0 k cols true) b → Ev (fun k => musterlaw31_few.j0 k cols true) b := fun _ _ h => h
  by_cases h1 : (cols.length : Int) > 20
  · have e : fewB cols n = false := by unfold fewB; rw [decide_eq_false (by omega)]; rfl
    rw [e]
    refine Ev.congr (f := fun k => musterlaw31_few.j0 k cols true) (fun k => ?_) (Ev.step (f := fun _ => some false) (fun k => ?_) (Ev.now _))
    · unfold musterlaw31_few.f; rw [if_pos h1]
    · simp only [musterlaw31_few.j0]; rw [if_pos trivial]
  · by_cases h2 : n > 60
    · have e : fewB cols n = false := by unfold fewB; rw [decide_eq_false (p := n ≤ 60) (by omega), Bool.and_false]; rfl
      rw [e]
      refine Ev.congr (f := fun k => musterlaw31_few.j0 k cols true) (fun k => ?_) (Ev.step (f := fun _ => some false) (fun k => ?_) (Ev.now _))
      · unfold musterlaw31_few.f; rw [if_neg h1, decide_eq_true h2]
      · simp only [musterlaw31_few.j0]; rw [if_pos trivial]
    · have e : fewB cols n = cols.all fun c => decide (c.f1 ≤ 500) := by unfold fewB; rw [decide_eq_true (p := cols.length ≤ 20) (by omega), decide_eq_true (p := n ≤ 60) (by omega)]; rfl
      rw [e]
      have key : ∀ (d i : Nat), cols.length - i = d → i ≤ cols.length → Ev (fun k => musterlaw31_few.l0 k cols i) ((cols.drop i).all fun c => decide (c.f1 ≤ 500)) := by
        intro d
        induction d with
        | zero =>
          intro i hd hi
          rw [List.drop_eq_nil_of_le (by omega)]
          refine Ev.step (f := fun _ => some true) (fun k => ?_) (Ev.now _)
          simp only [musterlaw31_few.l0]
          rw [if_neg (by omega)]
        | succ d ih =>
          intro i hd hi
          have h3 := ih (i + 1) (by omega) (by omega)
          have hg : cols.getD i z49 = cols[i]'(by omega) := by rw [List.getD_eq_getElem?_getD, List.getElem?_eq_getElem (by omega)]; rfl
          rw [List.drop_eq_getElem_cons (by omega), List.all_cons, ← hg]
          by_cases h4 : (cols.getD i z49).f1 > 500
          · rw [decide_eq_false (by omega), Bool.false_and]
            refine Ev.step (f := fun _ => some false) (fun k => ?_) (Ev.now _)
            simp only [musterlaw31_few.l0]
            rw [if_pos (by omega), if_pos (by omega), rd49_nat, if_pos h4]
          · rw [decide_eq_true (p := (cols.getD i z49).f1 ≤ 500) (by omega), Bool.true_and]
            refine Ev.step (fun k => ?_) h3
            simp only [musterlaw31_few.l0]
            rw [if_pos (by omega), if_pos (by omega), rd49_nat, if_neg h4, w64_succ i (by omega)]
      refine Ev.congr (f := fun k => musterlaw31_few.j0 k cols false) (fun k => ?_) (Ev.step (fun k => ?_) (key _ 0 rfl (by omega)))
      · unfold musterlaw31_few.f; rw [if_neg h1, decide_eq_false h2]
      · simp only [musterlaw31_few.j0]; rw [if_neg (by simp)]; rfl
theorem few_yes {cols : List S49} {n : Int} (h : fewB cols n = true) : cols.length ≤ 20 ∧ n ≤ 60 ∧ ∀ c ∈ cols, c.f1 ≤ 500 := by
  unfold fewB at h
  simp only [Bool.and_eq_true, decide_eq_true_eq, List.all_eq_true] at h
  exact ⟨h.1.1, h.1.2, h.2⟩
/-- How wide the first columns are together. -/
def wantI (cols : List S49) : Nat → Int
  | 0 => 0
  | i + 1 => wantI cols i + mx (cols.getD i z49).f1 0 + (if 0 < i then 1 else 0)
theorem mx0 (x : Int) : mx x 0 = (x.toNat : Int) := by unfold mx; split <;> omega
theorem wsum_snoc (l : List S49) (c : S49) : wsum (l ++ [c]) = wsum l + c.f1.toNat + (if l = [] then 0 else 1) := by
  have ht : ∀ l : List S49, tsum (l ++ [c]) = tsum l + (1 + c.f1.toNat) := by
    intro l
    induction l with
    | nil => simp [tsum]
    | cons d l ih => simp only [List.cons_append, tsum, ih]; omega
  cases l with
  | nil => simp [wsum, tsum]
  | cons d l => simp only [List.cons_append, wsum, ht]; rw [if_neg (by simp)]; omega
theorem want_is (cols : List S49) : ∀ i, i ≤ cols.length → wantI cols i = (wsum (cols.take i) : Int) := by
  intro i
  induction i with
  | zero => intro _; rfl
  | succ i ih =>
    intro hi
    have hg : cols.getD i z49 = cols[i]'(by omega) := by rw [List.getD_eq_getElem?_getD, List.getElem?_eq_getElem (by omega)]; rfl
    rw [List.take_succ_eq_append_getElem (by omega), wsum_snoc, wantI, ih (by omega), mx0, hg]
    by_cases h : 0 < i
    · rw [if_pos h, if_neg (by intro e; have := congrArg List.length e; rw [List.length_take, List.length_nil] at this; omega)]; omega
    · have : i = 0 := by omega
      subst this
      rw [if_neg h, if_pos (by simp)]; omega
theorem want_bd (cols : List S49) (hw : ∀ c ∈ cols, c.f1 ≤ 500) : ∀ i, i ≤ cols.length → 0 ≤ wantI cols i ∧ wantI cols i ≤ 501 * i := by
  intro i
  induction i with
  | zero => intro _; exact ⟨by simp [wantI], by simp [wantI]⟩
  | succ i ih =>
    intro hi
    have h1 := ih (by omega)
    have h2 := hw _ (getD49_mem cols i (by omega))
    rw [wantI, mx0]
    split <;> omega
theorem getB (l : List UInt8) (pre : List UInt8) (b : UInt8) (post : List UInt8) (h : l = pre ++ b :: post) : l.getD pre.length 0 = b := by
  subst h
  rw [List.getD_eq_getElem?_getD, List.getElem?_append_right (Nat.le_refl _), Nat.sub_self]
  rfl
theorem bt_list (s : ByteArray) (i : Nat) (h : i < s.size) : bt s (i : Int) = ((s.data.toList.getD i 0).toNat : Int) := by
  unfold bt
  rw [dif_pos (by simpa using h)]
  have e : s.data.toList.getD i 0 = s[i]'h := by
    rw [List.getD_eq_getElem?_getD, List.getElem?_eq_getElem (by rw [size_list]; exact h)]
    rfl
  rw [e]
  simp
section
variable {cols : List S49} {rows : List (List ByteArray)} (hc : cols.length ≤ 20) (hr : rows.length ≤ 60) (hw : ∀ c ∈ cols, c.f1 ≤ 500)
include hr
/-- The lines are looked at, one behind another. -/
theorem scan (want : Int) (s : ByteArray) (hs : s.size ≤ 100000000) : ∀ (segs : List ByteArray) (pre : List UInt8) (j : Nat), s.data.toList = pre ++ (segs.map fun b => b.data.toList ++ [10]).flatten → (∀ b ∈ segs, noTen b ∧ (wid b : Int) = want) → j + segs.length = rows.length + 1 →
    Ev (fun k => musterlaw31_TableWide.l3 k rows want s j (pre.length : Int) (pre.length : Int)) true := by
  have hsl := size_list s
  intro segs
  induction segs with
  | nil =>
    intro pre j he hb hj
    have hpl : pre.length = s.size := by have := congrArg List.length he; simp at this; omega
    refine Ev.step (fun k => ?_) awake_end
    simp only [musterlaw31_TableWide.l3]
    simp only [List.length_nil] at hj
    have e1 : wrap64 ((rows.length : Int) + 1) = (j : Int) := by rw [wrap_id (by omega) (by omega)]; omega
    rw [if_neg (by omega), e1, if_pos rfl, if_pos (by omega)]
  | cons b segs ih =>
    intro pre j he hb hj
    simp only [List.length_cons] at hj
    obtain ⟨hb1, hb2⟩ := hb b (by simp)
    have hbl := size_list b
    have he2 : s.data.toList = pre ++ (b.data.toList ++ ([10] ++ (segs.map fun b => b.data.toList ++ [10]).flatten)) := by rw [he]; simp
    have hlen : pre.length + b.size + 1 ≤ s.size := by have := congrArg List.length he2; simp only [List.length_append, List.length_singleton] at this; omega
    have hnext := ih (pre ++ (b.data.toList ++ [10])) (j + 1) (by rw [he]; simp) (fun x hx => hb x (by simp [hx])) (by omega)
    -- from the place i in the line on
    have key : ∀ d i : Nat, b.size - i = d → i ≤ b.size → Ev (fun k => musterlaw31_TableWide.l3 k rows want s j (pre.length : Int) ((pre.length + i : Nat) : Int)) true := by
      intro d
      induction d with
      | zero =>
        intro i hd hi
        have hi' : i = b.size := by omega
        subst hi'
        have hg : s.data.toList.getD (pre.length + b.size) 0 = 10 := by
          have := getB s.data.toList (pre ++ b.data.toList) 10 ((segs.map fun b => b.data.toList ++ [10]).flatten) (by rw [he2]; simp)
          rw [List.length_append, hbl] at this
          exact this
        have hex : (s.extract pre.length (pre.length + b.size)) = b := by
          have e : ∀ a b : ByteArray, a.data.toList = b.data.toList → a = b := fun a b h => by
            obtain ⟨⟨a⟩⟩ := a
            obtain ⟨⟨b⟩⟩ := b
            simp at h
            rw [h]
          apply e
          rw [Lib.extract_data, Nat.add_sub_cancel_left, he2, List.drop_left' rfl, ← hbl, List.take_left' rfl]
        have hwd : table_Width.f b = some (wid b : Int) := by unfold table_Width.f; rw [if_pos (by omega)]
        have e1 : wrap64 ((j : Int) + 1) = ((j + 1 : Nat) : Int) := w64_succ j (by omega)
        have e2 : wrap64 (((pre.length + b.size : Nat) : Int) + 1) = ((pre ++ (b.data.toList ++ [10])).length : Int) := by
          rw [w64_succ _ (by omega)]
          simp only [List.length_append, List.length_singleton]
          omega
        refine Ev.step (fun k => ?_) hnext
        simp only [musterlaw31_TableWide.l3]
        rw [if_pos (by omega), if_pos (by omega), bt_list s _ (by omega), hg, if_pos (by decide), if_pos (by omega), if_pos (by omega), if_pos (by omega), Int.toNat_natCast, Int.toNat_natCast, hex, hwd]
        simp only [Option.bind_some]
        rw [if_pos hb2, e1, e2]
      | succ d ihd =>
        intro i hd hi
        have h2 := ihd (i + 1) (by omega) (by omega)
        have hg : s.data.toList.getD (pre.length + i) 0 = b.data.toList.getD i 0 := by
          rw [he2, List.getD_eq_getElem?_getD, List.getElem?_append_right (by omega), Nat.add_sub_cancel_left, List.getElem?_append_left (by omega), List.getD_eq_getElem?_getD]
        have hne : ¬ (((b.data.toList.getD i 0).toNat : Int) = 10) := by
          intro e
          apply hb1
          have e2 : b.data.toList.getD i 0 = 10 := UInt8.toNat_inj.1 (by show _ = 10; omega)
          rw [← e2, List.getD_eq_getElem?_getD, List.getElem?_eq_getElem (by omega)]
          exact List.getElem_mem _
        refine Ev.step (fun k => ?_) h2
        simp only [musterlaw31_TableWide.l3]
        rw [if_pos (by omega), if_pos (by omega), bt_list s _ (by omega), hg, if_neg hne, w64_succ _ (by omega)]
        rfl
    have := key _ 0 rfl (by omega)
    rwa [Nat.add_zero] at this
include hc hw
theorem wide_end (hn : ∀ c ∈ cols, c.f0.size ≤ 140737488355328) (hs : ∀ r ∈ rows, ∀ x ∈ r, x.size ≤ 140737488355328) (hcb : ∀ c ∈ cols, brokenB c.f0 = false) (hrb : ∀ r ∈ rows, ∀ x ∈ r, brokenB x = false) :
    Ev (fun k => musterlaw31_TableWide.l1 k cols rows (wantI cols cols.length) rows.length) true := by
  have ht := table_ev cols hc hw hn rows hr hs
  have hwt : wantI cols cols.length = (wsum cols : Int) := by rw [want_is cols _ (Nat.le_refl _), List.take_length]
  obtain ⟨segs, hsegs⟩ : ∃ segs, (cols.map S49.f0 :: rows).map (rowB cols) = segs := ⟨_, rfl⟩
  have hlist : lines cols (cols.map S49.f0 :: rows) = (segs.map fun b => b.data.toList ++ [10]).flatten := by rw [← hsegs]; unfold lines; rw [List.map_map]; rfl
  have hsl : segs.length = rows.length + 1 := by rw [← hsegs]; simp
  have hall : ∀ b ∈ segs, noTen b ∧ (wid b : Int) = wantI cols cols.length := fun b hb => by
    rw [← hsegs] at hb
    obtain ⟨r, hrm, rfl⟩ := List.mem_map.1 hb
    refine ⟨ten_row cols r fun x hx => ?_, by rw [wid_row, hwt]⟩
    rcases List.mem_cons.1 hrm with rfl | h
    · obtain ⟨c, hcm, rfl⟩ := List.mem_map.1 hx
      exact broken_ten (hcb c hcm)
    · exact broken_ten (hrb r h x hx)
  obtain ⟨t, ht2⟩ : ∃ t, (⟨(lines cols (cols.map S49.f0 :: rows)).toArray⟩ : ByteArray) = t := ⟨_, rfl⟩
  have htl : t.data.toList = (segs.map fun b => b.data.toList ++ [10]).flatten := by rw [← ht2, hlist]
  rw [ht2] at ht
  have hsz : ∀ l : List ByteArray, (∀ b ∈ l, b.size ≤ 55000) → ((l.map fun b => b.data.toList ++ [10]).flatten).length ≤ 55001 * l.length := by
    intro l
    induction l with
    | nil => intro _; simp
    | cons b l ih =>
      intro h
      have h1 := ih fun x hx => h x (by simp [hx])
      have h2 := h b (by simp)
      have h3 := size_list b
      have e1 : (b.data.toList ++ [(10 : UInt8)]).length = b.size + 1 := by rw [List.length_append, h3]; rfl
      rw [List.map_cons, List.flatten_cons, List.length_append, e1, List.length_cons]
      omega
  have htsz : t.size ≤ 100000000 := by
    have h1 := hsz segs fun b hb => by
      rw [← hsegs] at hb
      obtain ⟨r, hrm, rfl⟩ := List.mem_map.1 hb
      exact row_size cols hc hw r
    have h2 := size_list t
    rw [htl] at h2
    omega
  have hscan := scan hr (wantI cols cols.length) t htsz segs [] 0 (by rw [htl]; rfl) hall (by omega)
  refine Ev.step (fun k => ?_) (Ev.bind ht (f := fun k t => musterlaw31_TableWide.l3 k rows (wantI cols cols.length) t 0 0 0) hscan)
  simp only [musterlaw31_TableWide.l1]
  rw [if_neg (by omega)]
/-- The cells are looked at: one that is broken ends it. -/
theorem wide_rows (hn : ∀ c ∈ cols, c.f0.size ≤ 140737488355328) (hs : ∀ r ∈ rows, ∀ x ∈ r, x.size ≤ 140737488355328) (hll : ∀ r ∈ rows, r.length ≤ 9223372036854775806) (hcb : ∀ c ∈ cols, brokenB c.f0 = false) (d : Nat) :
    ∀ i : Nat, rows.length - i = d → i ≤ rows.length → (∀ r ∈ rows.take i, ∀ x ∈ r, brokenB x = false) → Ev (fun k => musterlaw31_TableWide.l1 k cols rows (wantI cols cols.length) i) true := by
  induction d with
  | zero =>
    intro i hd hi hb
    have : i = rows.length := by omega
    subst this
    exact wide_end hc hr hw hn hs hcb (by rw [List.take_length] at hb; exact hb)
  | succ d ih =>
    intro i hd hi hb
    obtain ⟨row, hrow⟩ : ∃ row, rows.getD i [] = row := ⟨_, rfl⟩
    have hg : rows[i]'(by omega) = row := by rw [← hrow, List.getD_eq_getElem?_getD, List.getElem?_eq_getElem (by omega)]; rfl
    have hlr := hll row (by rw [← hg]; exact List.getElem_mem _)
    have key : ∀ e m : Nat, row.length - m = e → m ≤ row.length → (∀ x ∈ row.take m, brokenB x = false) → Ev (fun k => musterlaw31_TableWide.l2 k cols rows (wantI cols cols.length) i m) true := by
      intro e
      induction e with
      | zero =>
        intro m he hm hx
        refine Ev.step (fun k => ?_) (ih (i + 1) (by omega) (by omega) ?_)
        · simp only [musterlaw31_TableWide.l2]
          rw [if_pos (by omega), if_pos (by omega), rdL7_nat, hrow, if_neg (by omega), w64_succ i (by omega)]
        · rw [List.take_succ_eq_append_getElem (by omega), hg]
          intro r hr2 x hxm
          rcases List.mem_append.1 hr2 with h | h
          · exact hb r h x hxm
          · rw [List.mem_singleton.1 h] at hxm
            rw [List.take_of_length_le (by omega)] at hx
            exact hx x hxm
      | succ e ihe =>
        intro m he hm hx
        have hgm : row[m]'(by omega) = row.getD m ByteArray.empty := by rw [List.getD_eq_getElem?_getD, List.getElem?_eq_getElem (by omega)]; rfl
        have hbf : musterlaw31_broken.f (row.getD m ByteArray.empty) = some (brokenB (row.getD m ByteArray.empty)) := rfl
        cases hbr : brokenB (row.getD m ByteArray.empty) with
        | true =>
          refine Ev.step (fun k => ?_) awake_end
          simp only [musterlaw31_TableWide.l2]
          rw [if_pos (by omega), if_pos (by omega), rdL7_nat, hrow, if_pos (by omega), if_pos (by omega), rdO_nat, hbf, hbr]
          simp only [Option.bind_some]
          rw [if_pos trivial]
        | false =>
          refine Ev.step (fun k => ?_) (ihe (m + 1) (by omega) (by omega) ?_)
          · simp only [musterlaw31_TableWide.l2]
            rw [if_pos (by omega), if_pos (by omega), rdL7_nat, hrow, if_pos (by omega), if_pos (by omega), rdO_nat, hbf, hbr]
            simp only [Option.bind_some]
            rw [if_neg (by simp), w64_succ m (by omega)]
          · rw [List.take_succ_eq_append_getElem (by omega), hgm]
            intro x hxm
            rcases List.mem_append.1 hxm with h | h
            · exact hx x h
            · rw [List.mem_singleton.1 h]; exact hbr
    refine Ev.step (fun k => ?_) (key _ 0 rfl (by omega) (fun x hx => by simp at hx))
    simp only [musterlaw31_TableWide.l1]
    rw [if_pos (by omega)]
    rfl
theorem wide_cols (hn : ∀ c ∈ cols, c.f0.size ≤ 140737488355328) (hs : ∀ r ∈ rows, ∀ x ∈ r, x.size ≤ 140737488355328) (hll : ∀ r ∈ rows, r.length ≤ 9223372036854775806) (d : Nat) :
    ∀ i : Nat, cols.length - i = d → i ≤ cols.length → (∀ c ∈ cols.take i, brokenB c.f0 = false) → Ev (fun k => musterlaw31_TableWide.l0 k cols rows (wantI cols i) i) true := by
  induction d with
  | zero =>
    intro i hd hi hb
    have : i = cols.length := by omega
    subst this
    rw [List.take_length] at hb
    refine Ev.step (fun k => ?_) (wide_rows hc hr hw hn hs hll hb _ 0 rfl (by omega) (fun r hr2 => by simp at hr2))
    simp only [musterlaw31_TableWide.l0]
    rw [if_neg (by omega)]
    rfl
  | succ d ih =>
    intro i hd hi hb
    have hg : cols[i]'(by omega) = cols.getD i z49 := by rw [List.getD_eq_getElem?_getD, List.getElem?_eq_getElem (by omega)]; rfl
    have hwb := want_bd cols hw i (by omega)
    have hcm := hw _ (getD49_mem cols i (by omega))
    have hwn : (if (i : Int) > 0 then wrap64 (wrap64 (wantI cols i + mx (cols.getD i z49).f1 0) + 1) else wrap64 (wantI cols i + mx (cols.getD i z49).f1 0)) = wantI cols (i + 1) := by
      rw [wantI, mx0]
      by_cases h0 : 0 < i
      · rw [if_pos (by omega), if_pos h0, wrap_id (x := wantI cols i + _) (by omega) (by omega), wrap_id (by omega) (by omega)]
      · rw [if_neg (by omega), if_neg h0, wrap_id (by omega) (by omega)]; omega
    have hj : Ev (fun k => musterlaw31_TableWide.j1 k cols rows (wantI cols (i + 1)) i) true := by
      have hbf : musterlaw31_broken.f (cols.getD i z49).f0 = some (brokenB (cols.getD i z49).f0) := rfl
      cases hbr : brokenB (cols.getD i z49).f0 with
      | true =>
        refine Ev.step (fun k => ?_) awake_end
        simp only [musterlaw31_TableWide.j1]
        rw [if_pos (by omega), if_pos (by omega), rd49_nat, hbf, hbr]
        simp only [Option.bind_some]
        rw [if_pos trivial]
      | false =>
        refine Ev.step (fun k => ?_) (ih (i + 1) (by omega) (by omega) ?_)
        · simp only [musterlaw31_TableWide.j1]
          rw [if_pos (by omega), if_pos (by omega), rd49_nat, hbf, hbr]
          simp only [Option.bind_some]
          rw [if_neg (by simp), w64_succ i (by omega)]
        · rw [List.take_succ_eq_append_getElem (by omega), hg]
          intro c hcm2
          rcases List.mem_append.1 hcm2 with h | h
          · exact hb c h
          · rw [List.mem_singleton.1 h]; exact hbr
    refine Ev.step (fun k => ?_) hj
    simp only [musterlaw31_TableWide.l0]
    rw [if_pos (by omega), if_pos (by omega), rd49_nat]
    by_cases h0 : (i : Int) > 0
    · rw [if_pos h0] at hwn ⊢
      rw [hwn]
    · rw [if_neg h0] at hwn ⊢
      rw [hwn]
end
theorem TableWide : ∀ (l0 : List (S49)) (l1 : List (List ByteArray)), (l0.length * 32 ≤ 140737488351232 ∧ l0.length ≤ 9223372036854775807 ∧ ∀ y ∈ l0, opW49 y) → (l1.length * 24 ≤ 140737488351232 ∧ l1.length ≤ 9223372036854775807 ∧ ∀ y ∈ l1, (y.length * 16 ≤ 140737488351232 ∧ y.length ≤ 9223372036854775807 ∧ ∀ y_ ∈ y, y_.size ≤ 140737488351232)) → ∃ k, musterlaw31_TableWide.f k l0 l1 = some true := by
  intro cols rows h0 h1
  refine Ev.rounds (r := true) ?_
  have hf := few_ev cols (rows.length : Int)
  cases hb : fewB cols (rows.length : Int) with
  | false =>
    rw [hb] at hf
    refine Ev.congr (fun k => ?_) (Ev.bind hf (f := fun k t => if t = true then musterlaw31_TableWide.l0 k cols rows 0 0 else (musterlaw31_awake.f k).bind fun t => some t) (Ev.congr (fun k => if_neg (by simp)) awake_end))
    rfl
  | true =>
    rw [hb] at hf
    obtain ⟨f1, f2, f3⟩ := few_yes hb
    have hgo := wide_cols f1 (rows := rows) (by omega) f3 (fun c hc => by have := (h0.2.2 c hc).1; omega) (fun r hr x hx => by have := (h1.2.2 r hr).2.2 x hx; omega) (fun r hr => by have := (h1.2.2 r hr).1; omega) _ 0 rfl (by omega) (fun c hc => by simp at hc)
    refine Ev.congr (fun k => ?_) (Ev.bind hf (f := fun k t => if t = true then musterlaw31_TableWide.l0 k cols rows 0 0 else (musterlaw31_awake.f k).bind fun t => some t) (Ev.congr (fun k => if_pos rfl) hgo))
    rfl
end Go.Proofs.YthlbdbaanlehhaaDoor.Pure
