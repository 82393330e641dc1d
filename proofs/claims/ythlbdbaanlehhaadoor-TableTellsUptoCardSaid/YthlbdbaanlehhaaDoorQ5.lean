/-
  A row of cells, in plain lists: what it tells, how wide it is.
-/
import Derived.Test.YthlbdbaanlehhaaDoorQ4
import Derived.Test.YthlbdbaanlehhaaDoorHTable
namespace Go.Proofs.YthlbdbaanlehhaaDoor.Pr
open Go.RowKit Go.Proofs.YthlbdbaanlehhaaDoorW.PrintWords Go.Proofs.YthlbdbaanlehhaaDoorW.PrintLast Go.Proofs.YthlbdbaanlehhaaDoor
set_option linter.unusedVariables false
def fits : List S49 → List ByteArray → List ByteArray
  | [], _ => []
  | c :: cs, xs => fit (xs.headD ByteArray.empty) c.f1 c.f2 :: fits cs xs.tail
theorem fits_length (cs : List S49) : ∀ xs, (fits cs xs).length = cs.length := by
  induction cs with
  | nil => intro xs; rfl
  | cons c cs ih => intro xs; simp [fits, ih]
theorem fits_get (cs : List S49) : ∀ (xs : List ByteArray) (i : Nat), i < cs.length → (fits cs xs)[i]? = some (fit (xs.getD i ByteArray.empty) (cs.getD i z49).f1 (cs.getD i z49).f2) := by
  induction cs with
  | nil => intro xs i h; simp at h
  | cons c cs ih =>
    intro xs i h
    cases i with
    | zero => cases xs <;> rfl
    | succ i =>
      have := ih xs.tail i (by simpa using h)
      simp only [fits, List.getElem?_cons_succ]
      rw [this]
      cases xs <;> simp
theorem fits_take (cs : List S49) (xs : List ByteArray) (i : Nat) (h : i < cs.length) : (fits cs xs).take (i + 1) = (fits cs xs).take i ++ [fit (xs.getD i ByteArray.empty) (cs.getD i z49).f1 (cs.getD i z49).f2] := by
  have hl := fits_length cs xs
  rw [List.take_succ_eq_append_getElem (by omega)]
  have := fits_get cs xs i h
  rw [List.getElem?_eq_getElem (by omega)] at this
  rw [Option.some.inj this]
def tailB : List ByteArray → ByteArray
  | [] => ByteArray.empty
  | y :: r => blanks 1 ++ (y ++ tailB r)
def rowText : List ByteArray → ByteArray
  | [] => ByteArray.empty
  | x :: r => x ++ tailB r
theorem tail_list (r : List ByteArray) : (tailB r).data.toList = Lib.joinTail [32] (r.map (·.data.toList)) := by
  induction r with
  | nil => rfl
  | cons y r ih =>
    simp only [tailB, append_list, ih, List.map_cons, Lib.joinTail, List.flatten_cons, blanks_list]
    simp
theorem joinB_row (l : List ByteArray) : joinB l (⟨#[32]⟩ : ByteArray) = rowText l := by
  have e : ∀ a b : ByteArray, a.data.toList = b.data.toList → a = b := fun a b h => by
    obtain ⟨⟨a⟩⟩ := a
    obtain ⟨⟨b⟩⟩ := b
    simp at h
    rw [h]
  apply e
  unfold joinB
  cases l with
  | nil => rfl
  | cons x r =>
    show Lib.join ((x :: r).map (·.data.toList)) [32] = _
    rw [List.map_cons, Lib.join_cons]
    simp only [rowText, append_list, tail_list]
theorem tail_ok (r : List ByteArray) : headOk (tailB r) := by
  unfold headOk
  cases r with
  | nil => simp [tailB]
  | cons y r =>
    simp only [tailB, append_list, blanks_list]
    simp
def rowB (cols : List S49) (cells : List ByteArray) : ByteArray := rowText (fits cols cells)
def tsum : List S49 → Nat
  | [] => 0
  | c :: r => 1 + c.f1.toNat + tsum r
def wsum : List S49 → Nat
  | [] => 0
  | c :: r => c.f1.toNat + tsum r
theorem wid_tail (cs : List S49) : ∀ xs, wid (tailB (fits cs xs)) = tsum cs := by
  induction cs with
  | nil => intro xs; rfl
  | cons c cs ih =>
    intro xs
    simp only [fits, tailB, tsum]
    rw [wid_before, wid_append _ _ (tail_ok _), wid_fit, ih]
    omega
theorem wid_row (cs : List S49) (xs : List ByteArray) : wid (rowB cs xs) = wsum cs := by
  unfold rowB
  cases cs with
  | nil => rfl
  | cons c cs =>
    simp only [fits, rowText, wsum]
    rw [wid_append _ _ (tail_ok _), wid_fit, wid_tail]
theorem tail_size (cs : List S49) (hw : ∀ c ∈ cs, c.f1 ≤ 500) : ∀ xs, (tailB (fits cs xs)).size ≤ 2501 * cs.length := by
  induction cs with
  | nil => intro xs; exact Nat.zero_le _
  | cons c cs ih =>
    intro xs
    have h1 := fit_size (xs.headD ByteArray.empty) c.f1 c.f2
    have h2 := hw c (by simp)
    have h3 := ih (fun d hd => hw d (by simp [hd])) xs.tail
    simp only [fits, tailB]
    rw [ByteArray.size_append, ByteArray.size_append, blanks_size, List.length_cons]
    omega
theorem row_size (cs : List S49) (hc : cs.length ≤ 20) (hw : ∀ c ∈ cs, c.f1 ≤ 500) (xs : List ByteArray) : (rowB cs xs).size ≤ 55000 := by
  unfold rowB
  cases cs with
  | nil => exact Nat.zero_le _
  | cons c cs =>
    have h1 := fit_size (xs.headD ByteArray.empty) c.f1 c.f2
    have h2 := hw c (by simp)
    have h3 := tail_size cs (fun d hd => hw d (by simp [hd])) xs.tail
    simp only [List.length_cons] at hc
    simp only [fits, rowText]
    rw [ByteArray.size_append]
    omega
theorem rd49_nat (l : List S49) (i : Nat) : rd_T49 l (i : Int) = l.getD i z49 := by simp [rd_T49]
theorem rdO_nat (l : List ByteArray) (i : Nat) : rdOf ByteArray.empty l (i : Int) = l.getD i ByteArray.empty := by simp [rdOf]
theorem w64_succ (i : Nat) (h : i < 9223372036854775807) : wrap64 ((i : Int) + 1) = ((i + 1 : Nat) : Int) := by unfold wrap64; omega
theorem getD49_mem (l : List S49) (i : Nat) (h : i < l.length) : l.getD i z49 ∈ l := by
  rw [List.getD_eq_getElem?_getD, List.getElem?_eq_getElem h]
  exact List.getElem_mem h
theorem getDO_size (l : List ByteArray) (i : Nat) (hs : ∀ x ∈ l, x.size ≤ 140737488355328) : (l.getD i ByteArray.empty).size ≤ 140737488355328 := by
  rw [List.getD_eq_getElem?_getD]
  by_cases h : i < l.length
  · rw [List.getElem?_eq_getElem h]
    exact hs _ (List.getElem_mem h)
  · rw [List.getElem?_eq_none (by omega)]
    exact Nat.zero_le _
theorem row_ev (cols : List S49) (cells : List ByteArray) (hc : cols.length ≤ 20) (hw : ∀ c ∈ cols, c.f1 ≤ 500) (hs : ∀ x ∈ cells, x.size ≤ 140737488355328) : Ev (fun k => table_Row.f k cols cells) (rowB cols cells) := by
  have key : ∀ (d i : Nat), cols.length - i = d → i ≤ cols.length → Ev (fun k => table_Row.l0 k cells ((fits cols cells).take i) cols (cols.length : Int) i) (rowB cols cells) := by
    have hl := fits_length cols cells
    intro d
    induction d with
    | zero =>
      intro i hd hi
      refine Ev.step (f := fun _ => some (rowB cols cells)) (fun k => ?_) (Ev.now _)
      simp only [table_Row.l0]
      rw [if_neg (by omega), List.take_of_length_le (by omega)]
      have hz := row_size cols hc hw cells
      unfold strings_Join.f
      rw [joinB_row, if_pos ⟨by omega, by unfold rowB at hz; omega⟩]
      rfl
    | succ d ih =>
      intro i hd hi
      have h2 := ih (i + 1) (by omega) (by omega)
      rw [fits_take cols cells i (by omega)] at h2
      have hcm := hw _ (getD49_mem cols i (by omega))
      have hsz := getDO_size cells i hs
      have hf : table_Fit.f (cells.getD i ByteArray.empty) (cols.getD i z49).f1 (cols.getD i z49).f2 = some (fit (cells.getD i ByteArray.empty) (cols.getD i z49).f1 (cols.getD i z49).f2) := by
        unfold table_Fit.f
        rw [if_pos ⟨hsz, by omega⟩]
      refine Ev.step (fun k => ?_) h2
      simp only [table_Row.l0]
      rw [if_pos (by omega), if_pos (by omega), if_pos (by omega), rd49_nat, w64_succ i (by omega)]
      by_cases hx : i < cells.length
      · rw [if_pos (by omega), rdO_nat, hf]
        simp only [Option.bind_some]
        rw [if_pos (by rw [List.length_take]; omega)]
      · have e : cells.getD i ByteArray.empty = (⟨#[]⟩ : ByteArray) := by
          rw [List.getD_eq_getElem?_getD, List.getElem?_eq_none (by omega)]
          rfl
        rw [e] at hf
        rw [if_neg (by omega), hf]
        simp only [Option.bind_some]
        rw [if_pos (by rw [List.length_take]; omega), e]
  exact key _ 0 rfl (by omega)
/-- The lines of a table. -/
def lines (cols : List S49) (rs : List (List ByteArray)) : List UInt8 := (rs.map fun r => (rowB cols r).data.toList ++ [10]).flatten
theorem lines_ev (cols : List S49) (hc : cols.length ≤ 20) (hw : ∀ c ∈ cols, c.f1 ≤ 500) (rs : List (List ByteArray)) (hs : ∀ r ∈ rs, ∀ x ∈ r, x.size ≤ 140737488355328) :
    ∀ acc : List UInt8, acc.length + rs.length * 55001 ≤ 140737488355328 → Ev (fun k => linesF k cols acc rs) (acc ++ lines cols rs) := by
  induction rs with
  | nil => intro acc _; simp only [linesF, lines, List.map_nil, List.flatten_nil, List.append_nil]; exact Ev.now _
  | cons r rs ih =>
    intro acc ha
    have hz := row_size cols hc hw r
    have hrow := row_ev cols r hc hw (hs r (by simp))
    have h2 := ih (fun q hq => hs q (by simp [hq])) (acc ++ ((rowB cols r).data.toList ++ [10])) (by
      have := size_list (rowB cols r)
      simp only [List.length_cons] at ha
      simp only [List.length_append, List.length_singleton]
      omega)
    have e : acc ++ lines cols (r :: rs) = acc ++ ((rowB cols r).data.toList ++ [10]) ++ lines cols rs := by simp [lines]
    rw [e]
    have hle : acc.length + ((rowB cols r).size + 1) ≤ 140737488355328 := by simp only [List.length_cons] at ha; omega
    have hb := Ev.bind (f := fun k (b : ByteArray) => if acc.length + (b.size + 1) ≤ 140737488355328 then linesF k cols (acc ++ (b.data.toList ++ [10])) rs else none) hrow (Ev.congr (fun k => if_pos hle) h2)
    exact hb
theorem table_ev (cols : List S49) (hc : cols.length ≤ 20) (hw : ∀ c ∈ cols, c.f1 ≤ 500) (hn : ∀ c ∈ cols, c.f0.size ≤ 140737488355328) (rows : List (List ByteArray)) (hr : rows.length ≤ 60) (hs : ∀ r ∈ rows, ∀ x ∈ r, x.size ≤ 140737488355328) :
    Ev (fun k => table_Table.f k cols rows) ⟨(lines cols (cols.map S49.f0 :: rows)).toArray⟩ := by
  have h := lines_ev cols hc hw (cols.map S49.f0 :: rows) (fun r hrm x hx => by
    rcases List.mem_cons.1 hrm with rfl | h
    · obtain ⟨c, hcm, rfl⟩ := List.mem_map.1 hx
      exact hn c hcm
    · exact hs r h x hx) [] (by simp; omega)
  rw [List.nil_append] at h
  refine Ev.congr (fun k => ?_) (Ev.bind (f := fun _ t => some (⟨t.toArray⟩ : ByteArray)) h (Ev.now _))
  unfold table_Table.f
  rw [if_pos (by omega)]
end Go.Proofs.YthlbdbaanlehhaaDoor.Pr
