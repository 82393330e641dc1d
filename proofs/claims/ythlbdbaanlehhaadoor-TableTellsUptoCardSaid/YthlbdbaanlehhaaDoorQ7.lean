/-
  The document's Width, Fit, Row and Table tell the same, in plain lists.
-/
import Derived.Test.YthlbdbaanlehhaaDoorPr16
import Derived.Test.YthlbdbaanlehhaaDoorQ5
import Derived.Test.YthlbdbaanlehhaaDoorQ3
namespace Go.Proofs.YthlbdbaanlehhaaDoor.Pr
open Go.RowKit Go.Proofs.YthlbdbaanlehhaaDoorW.PrintWords Go.Proofs.YthlbdbaanlehhaaDoorW.PrintLast Go.Proofs.YthlbdbaanlehhaaDoor
set_option linter.unusedVariables false
theorem ba_ext {a b : ByteArray} (h : a.data.toList = b.data.toList) : a = b := by
  obtain ⟨⟨a⟩⟩ := a
  obtain ⟨⟨b⟩⟩ := b
  simp at h
  rw [h]
theorem places_f (s : ByteArray) (hs : s.size ≤ 1048576) : musterref31_places.f s = some (places s) := by unfold musterref31_places.f; rw [if_pos (by omega)]
theorem places_len (s : ByteArray) : (places s).length = wid s + 1 := by unfold places; rw [List.length_append, starts_length]; rfl
theorem places_at (s : ByteArray) (n : Nat) (h : n < wid s) : rd (places s) (n : Int) = (posOf s n : Int) := by
  unfold rd places
  rw [Int.toNat_natCast, List.getD_eq_getElem?_getD, List.getElem?_append_left (by rw [starts_length]; exact h)]
  unfold starts
  simp [h]
theorem w64_of {x : Int} (h : -9223372036854775808 ≤ x) (h2 : x ≤ 9223372036854775807) : wrap64 x = x := by unfold wrap64; omega
theorem ref_width (s : ByteArray) (hs : s.size ≤ 1048576) : musterref31_Width.f s = some (wid s : Int) := by
  have h1 := wid_le s
  unfold musterref31_Width.f
  rw [places_f s hs]
  simp only [Option.bind_some]
  rw [places_len, w64_of (by omega) (by omega)]
  congr 1
  omega
theorem blanks_nums (c : Nat) : strOfNums (List.replicate c 32) = blanks c := by
  apply ba_ext
  rw [strOfNums_data, blanks_list, List.map_replicate]
  rfl
theorem ref_fit_loop (s : ByteArray) (hs : s.size ≤ 1048576) (r : Bool) (c : Nat) (hc : c ≤ 281474976710656) (d : Nat) : ∀ i : Nat, c - i = d → i ≤ c →
    Ev (fun k => musterref31_Fit.l0 k s r (List.replicate i 32 ++ List.replicate (c - i) 0) i) (if r = true then blanks c ++ s else s ++ blanks c) := by
  induction d with
  | zero =>
    intro i hd hi
    have e : i = c := by omega
    subst e
    refine Ev.step (f := fun _ => some (if r = true then blanks i ++ s else s ++ blanks i)) (fun k => ?_) (Ev.now _)
    simp only [musterref31_Fit.l0]
    rw [Nat.sub_self, List.replicate_zero, List.append_nil, List.length_replicate, if_neg (by omega), strOfNums_size, List.length_replicate, blanks_nums]
    cases r with
    | true => rw [if_pos rfl, if_pos (by omega), if_pos rfl]
    | false => rw [if_neg (by simp), if_pos (by omega), if_neg (by simp)]
  | succ d ih =>
    intro i hd hi
    have h2 := ih (i + 1) (by omega) (by omega)
    have e : (List.replicate i (32 : Int) ++ List.replicate (c - i) 0).set i 32 = List.replicate (i + 1) 32 ++ List.replicate (c - (i + 1)) 0 := by
      rw [List.set_append_right _ _ (by simp), List.length_replicate, Nat.sub_self, show c - i = (c - (i + 1)) + 1 by omega, List.replicate_succ, List.set_cons_zero, List.replicate_succ']
      simp
    refine Ev.step (fun k => ?_) h2
    simp only [musterref31_Fit.l0]
    rw [if_pos (by simp only [List.length_append, List.length_replicate]; omega), if_pos (by omega), Int.toNat_natCast, e, w64_succ i (by omega)]
theorem ref_fit (s : ByteArray) (hs : s.size ≤ 1048576) (w : Int) (hw : w ≤ 2000) (r : Bool) : Ev (fun k => musterref31_Fit.f k s w r) (fit s w r) := by
  have h1 := wid_le s
  by_cases h2 : w < 1
  · refine Ev.congr (f := fun _ => some (fit s w r)) (fun k => ?_) (Ev.now _)
    unfold musterref31_Fit.f fit
    rw [if_pos h2, if_pos h2]
    rfl
  · obtain ⟨n, rfl⟩ : ∃ n : Nat, w = (n : Int) := ⟨w.toNat, by omega⟩
    have hwl : wrap64 (((places s).length : Int) - 1) = (wid s : Int) := by rw [places_len, w64_of (by omega) (by omega)]; omega
    by_cases h3 : n < wid s
    · have hp := posOf_le s n (by omega)
      refine Ev.congr (f := fun _ => some (fit s n r)) (fun k => ?_) (Ev.now _)
      unfold musterref31_Fit.f fit
      rw [if_neg h2, if_neg h2, places_f s hs]
      simp only [Option.bind_some]
      rw [hwl, if_pos (by omega), if_pos (by omega), if_pos (by rw [places_len]; omega), places_at s n h3, if_pos (by omega), if_pos (by omega), Int.toNat_natCast, if_pos (by omega), Int.toNat_natCast]
    · have hwc : wrap64 ((n : Int) - (wid s : Int)) = ((n - wid s : Nat) : Int) := by rw [w64_of (by omega) (by omega)]; omega
      have hl := ref_fit_loop s hs r (n - wid s) (by omega) _ 0 rfl (by omega)
      rw [List.replicate_zero, List.nil_append, Nat.sub_zero] at hl
      have e : fit s n r = if r = true then blanks (n - wid s) ++ s else s ++ blanks (n - wid s) := by unfold fit; rw [if_neg h2, if_neg (by omega), Int.toNat_natCast]
      rw [e]
      refine Ev.congr (fun k => ?_) hl
      unfold musterref31_Fit.f
      rw [if_neg h2, places_f s hs]
      simp only [Option.bind_some]
      rw [hwl, if_neg (by omega), hwc, if_pos (by omega), Int.toNat_natCast, if_pos (by omega)]
      rfl
/-! ### a row, a cell at a time -/
theorem fits_part (cs : List S49) : ∀ (xs : List ByteArray) (i : Nat), (fits cs xs).take i = fits (cs.take i) xs := by
  induction cs with
  | nil => intro xs i; simp [fits]
  | cons c cs ih =>
    intro xs i
    cases i with
    | zero => rfl
    | succ i => simp only [fits, List.take_succ_cons, ih]
theorem tail_snoc (r : List ByteArray) (y : ByteArray) : tailB (r ++ [y]) = tailB r ++ ((⟨#[32]⟩ : ByteArray) ++ y) := by
  apply ba_ext
  rw [append_list, append_list, tail_list, tail_list]
  simp [Lib.joinTail]
theorem text_snoc (l : List ByteArray) (y : ByteArray) : rowText (l ++ [y]) = if l = [] then y else (rowText l ++ (⟨#[32]⟩ : ByteArray)) ++ y := by
  cases l with
  | nil =>
    rw [if_pos rfl]
    apply ba_ext
    simp [rowText, tailB]
  | cons x r =>
    rw [if_neg (by simp)]
    apply ba_ext
    simp only [List.cons_append, rowText, tail_snoc, append_list]
    simp
theorem empty_app (t : ByteArray) : (⟨#[]⟩ : ByteArray) ++ t = t := by
  apply ba_ext
  rw [append_list]
  rfl
theorem ref_row (cols : List S49) (hc : cols.length ≤ 20) (hw : ∀ c ∈ cols, c.f1 ≤ 500) (cells : List ByteArray) (hs : ∀ x ∈ cells, x.size ≤ 1048576) : Ev (fun k => musterref31_Row.f k cols cells) (rowB cols cells) := by
  have hl := fits_length cols cells
  have hgs : ∀ i, (cells.getD i ByteArray.empty).size ≤ 1048576 := fun i => by
    rw [List.getD_eq_getElem?_getD]
    by_cases h : i < cells.length
    · rw [List.getElem?_eq_getElem h]; exact hs _ (List.getElem_mem h)
    · rw [List.getElem?_eq_none (by omega)]; exact Nat.zero_le _
  have key : ∀ (d i : Nat), cols.length - i = d → i ≤ cols.length → Ev (fun k => musterref31_Row.l0 k cols cells (rowText ((fits cols cells).take i)) i) (rowB cols cells) := by
    intro d
    induction d with
    | zero =>
      intro i hd hi
      refine Ev.step (f := fun _ => some (rowB cols cells)) (fun k => ?_) (Ev.now _)
      simp only [musterref31_Row.l0]
      rw [if_neg (by omega), List.take_of_length_le (by omega)]
      rfl
    | succ d ih =>
      intro i hd hi
      have h2 := ih (i + 1) (by omega) (by omega)
      have hcm := hw _ (getD49_mem cols i (by omega))
      obtain ⟨t, ht⟩ : ∃ t, fit (cells.getD i ByteArray.empty) (cols.getD i z49).f1 (cols.getD i z49).f2 = t := ⟨_, rfl⟩
      have hf := ref_fit _ (hgs i) (cols.getD i z49).f1 (by omega) (cols.getD i z49).f2
      have hts := fit_size (cells.getD i ByteArray.empty) (cols.getD i z49).f1 (cols.getD i z49).f2
      rw [ht] at hf hts
      have hxs : (rowText ((fits cols cells).take i)).size ≤ 55000 := by
        rw [fits_part]
        exact row_size (cols.take i) (by rw [List.length_take]; omega) (fun c hcm => hw c (List.mem_of_mem_take hcm)) cells
      rw [fits_take cols cells i (by omega), ht, text_snoc] at h2
      obtain ⟨x5, hx5⟩ : ∃ x5, rowText ((fits cols cells).take i) = x5 := ⟨_, rfl⟩
      rw [hx5] at h2 hxs ⊢
      have hemp : i < cells.length ∨ cells.getD i ByteArray.empty = (⟨#[]⟩ : ByteArray) := by
        by_cases h : i < cells.length
        · exact .inl h
        · refine .inr ?_
          rw [List.getD_eq_getElem?_getD, List.getElem?_eq_none (by omega)]
          rfl
      by_cases h0 : i = 0
      · subst h0
        have hx : x5 = (⟨#[]⟩ : ByteArray) := by rw [← hx5]; rfl
        subst hx
        rw [List.take_zero, if_pos rfl] at h2
        have hb := Ev.bind (f := fun k (t' : ByteArray) => if (⟨#[]⟩ : ByteArray).size + t'.size ≤ 9223372036854775807 then musterref31_Row.l0 k cols cells ((⟨#[]⟩ : ByteArray) ++ t') ((1 : Nat) : Int) else none) hf (Ev.congr (fun k => by rw [if_pos (by have : (⟨#[]⟩ : ByteArray).size = 0 := rfl; omega), empty_app]) h2)
        refine Ev.step (fun k => ?_) hb
        simp only [musterref31_Row.l0]
        rw [if_pos (by omega), rd49_nat, w64_succ 0 (by omega)]
        rcases hemp with h | h
        · rw [if_pos (by omega), if_pos (by omega), if_neg (by omega), rdO_nat]
        · by_cases hc2 : ((0 : Nat) : Int) < (cells.length : Int)
          · rw [if_pos hc2, if_pos (by omega), if_neg (by omega), rdO_nat]
          · rw [if_neg hc2, if_neg (by omega), if_pos (by omega), h]
      · rw [if_neg (by intro e; have := congrArg List.length e; rw [List.length_take, List.length_nil] at this; omega)] at h2
        have h1s : (x5 ++ (⟨#[32]⟩ : ByteArray)).size = x5.size + 1 := by rw [ByteArray.size_append]; rfl
        have hb := Ev.bind (f := fun k (t' : ByteArray) => if (x5 ++ (⟨#[32]⟩ : ByteArray)).size + t'.size ≤ 9223372036854775807 then musterref31_Row.l0 k cols cells ((x5 ++ (⟨#[32]⟩ : ByteArray)) ++ t') ((i + 1 : Nat) : Int) else none) hf (Ev.congr (fun k => if_pos (by rw [h1s]; omega)) h2)
        refine Ev.step (fun k => ?_) hb
        simp only [musterref31_Row.l0]
        rw [if_pos (by omega), rd49_nat, w64_succ i (by omega)]
        rcases hemp with h | h
        · rw [if_pos (by omega), if_pos (by omega), if_pos (by omega), if_pos (by omega), rdO_nat]
        · by_cases hc2 : (i : Int) < (cells.length : Int)
          · rw [if_pos hc2, if_pos (by omega), if_pos (by omega), if_pos (by omega), rdO_nat]
          · rw [if_neg hc2, if_pos (by omega), if_pos (by omega), if_pos (by omega), h]
  exact key _ 0 rfl (by omega)
/-! ### a table -/
theorem lines_snoc (cols : List S49) (l : List (List ByteArray)) (r : List ByteArray) : (⟨(lines cols (l ++ [r])).toArray⟩ : ByteArray) = ((⟨(lines cols l).toArray⟩ : ByteArray) ++ rowB cols r) ++ (⟨#[10]⟩ : ByteArray) := by
  apply ba_ext
  rw [append_list, append_list]
  simp [lines]
theorem lines_len (cols : List S49) (hc : cols.length ≤ 20) (hw : ∀ c ∈ cols, c.f1 ≤ 500) (l : List (List ByteArray)) : (lines cols l).length ≤ 55001 * l.length := by
  induction l with
  | nil => simp [lines]
  | cons r l ih =>
    have h1 := row_size cols hc hw r
    have h2 := size_list (rowB cols r)
    have e : lines cols (r :: l) = ((rowB cols r).data.toList ++ [10]) ++ lines cols l := by simp [lines]
    have e1 : ((rowB cols r).data.toList ++ [(10 : UInt8)]).length = (rowB cols r).size + 1 := by rw [List.length_append, h2]; rfl
    rw [e, List.length_append, e1, List.length_cons]
    omega
theorem rdL7_nat' (l : List (List ByteArray)) (i : Nat) : rd_L7 l (i : Int) = l.getD i [] := by simp [rd_L7]
theorem ref_table (cols : List S49) (hc : cols.length ≤ 20) (hw : ∀ c ∈ cols, c.f1 ≤ 500) (hn : ∀ c ∈ cols, c.f0.size ≤ 1048576) (rows : List (List ByteArray)) (hr : rows.length ≤ 60) (hs : ∀ r ∈ rows, ∀ x ∈ r, x.size ≤ 1048576) :
    Ev (fun k => musterref31_Table.f k cols rows) ⟨(lines cols (cols.map S49.f0 :: rows)).toArray⟩ := by
  obtain ⟨names, hnm⟩ : ∃ names, cols.map S49.f0 = names := ⟨_, rfl⟩
  have hnames : ∀ x ∈ names, x.size ≤ 1048576 := fun x hx => by
    rw [← hnm] at hx
    obtain ⟨c, hcm, rfl⟩ := List.mem_map.1 hx
    exact hn c hcm
  have hsz : ∀ l, l.length ≤ 61 → (⟨(lines cols l).toArray⟩ : ByteArray).size ≤ 5000000 := fun l h => by
    have := lines_len cols hc hw l
    show (lines cols l).toArray.size ≤ _
    rw [List.size_toArray]
    omega
  have krows : ∀ (d i : Nat), rows.length - i = d → i ≤ rows.length → Ev (fun k => musterref31_Table.l1 k cols rows ⟨(lines cols (names :: rows.take i)).toArray⟩ i) ⟨(lines cols (names :: rows)).toArray⟩ := by
    intro d
    induction d with
    | zero =>
      intro i hd hi
      refine Ev.step (f := fun _ => some (⟨(lines cols (names :: rows)).toArray⟩ : ByteArray)) (fun k => ?_) (Ev.now _)
      simp only [musterref31_Table.l1]
      rw [if_neg (by omega), List.take_of_length_le (by omega)]
    | succ d ih =>
      intro i hd hi
      have h2 := ih (i + 1) (by omega) (by omega)
      have hg : rows.getD i [] = rows[i]'(by omega) := by rw [List.getD_eq_getElem?_getD, List.getElem?_eq_getElem (by omega)]; rfl
      have hrow := ref_row cols hc hw (rows.getD i []) (by rw [hg]; exact hs _ (List.getElem_mem _))
      have hz := row_size cols hc hw (rows.getD i [])
      rw [List.take_succ_eq_append_getElem (by omega), ← List.cons_append, lines_snoc, ← hg] at h2
      have hb0 := hsz (names :: rows.take i) (by rw [List.length_cons, List.length_take]; omega)
      obtain ⟨x7, hx7⟩ : ∃ x7, (⟨(lines cols (names :: rows.take i)).toArray⟩ : ByteArray) = x7 := ⟨_, rfl⟩
      rw [hx7] at h2 hb0 ⊢
      have hb := Ev.bind (f := fun k (t : ByteArray) => if x7.size + t.size ≤ 9223372036854775807 then (if (x7 ++ t).size + 1 ≤ 9223372036854775807 then musterref31_Table.l1 k cols rows ((x7 ++ t) ++ (⟨#[10]⟩ : ByteArray)) ((i + 1 : Nat) : Int) else none) else none) hrow
        (Ev.congr (fun k => by rw [if_pos (by omega), if_pos (by rw [ByteArray.size_append]; omega)]) h2)
      refine Ev.step (fun k => ?_) hb
      simp only [musterref31_Table.l1]
      rw [if_pos (by omega), if_pos (by omega), rdL7_nat', w64_succ i (by omega)]
  have kcols : ∀ (d i : Nat), cols.length - i = d → i ≤ cols.length → Ev (fun k => musterref31_Table.l0 k cols rows ((cols.take i).map S49.f0) i) ⟨(lines cols (names :: rows)).toArray⟩ := by
    intro d
    induction d with
    | zero =>
      intro i hd hi
      have hrow := ref_row cols hc hw names hnames
      have hz := row_size cols hc hw names
      have h2 := krows _ 0 rfl (by omega)
      have e : (⟨(lines cols (names :: rows.take 0)).toArray⟩ : ByteArray) = rowB cols names ++ (⟨#[10]⟩ : ByteArray) := by
        apply ba_ext
        rw [append_list]
        simp [lines]
      rw [e] at h2
      have hb := Ev.bind (f := fun k (t : ByteArray) => if t.size + 1 ≤ 9223372036854775807 then musterref31_Table.l1 k cols rows (t ++ (⟨#[10]⟩ : ByteArray)) 0 else none) hrow (Ev.congr (fun k => if_pos (by omega)) h2)
      refine Ev.step (fun k => ?_) hb
      simp only [musterref31_Table.l0]
      rw [if_neg (by omega), List.take_of_length_le (by omega), hnm]
    | succ d ih =>
      intro i hd hi
      have h2 := ih (i + 1) (by omega) (by omega)
      have hg : cols.getD i z49 = cols[i]'(by omega) := by rw [List.getD_eq_getElem?_getD, List.getElem?_eq_getElem (by omega)]; rfl
      rw [List.take_succ_eq_append_getElem (by omega), List.map_append, List.map_cons, List.map_nil, ← hg] at h2
      refine Ev.step (fun k => ?_) h2
      simp only [musterref31_Table.l0]
      rw [if_pos (by omega), if_pos (by omega), if_pos (by rw [List.length_map, List.length_take]; omega), rd49_nat, w64_succ i (by omega)]
  rw [hnm]
  exact kcols _ 0 rfl (by omega)
end Go.Proofs.YthlbdbaanlehhaaDoor.Pr
