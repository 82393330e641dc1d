/-
  The closure of table.Table: a line of cells goes into the builder.
-/
import Derived.Test.YthlbdbaanlehhaaDoorPr7
import Derived.Test.YthlbdbaanlehhaaDoorG
import Derived.Test.YthlbdbaanlehhaaDoorShelf
namespace Go.Proofs.YthlbdbaanlehhaaDoor.Pr
open Go.RowKit Go.Proofs.YthlbdbaanlehhaaDoorW.PrintWords Go.Proofs.YthlbdbaanlehhaaDoorW.PrintLast Go.Proofs.YthlbdbaanlehhaaDoorW.PrintMore Go.Proofs.YthlbdbaanlehhaaDoorG Go.Proofs.YthlbdbaanlehhaaDoor
set_option linter.unusedVariables false
set_option linter.unusedSimpArgs false
theorem builder_at_below {T e : TypeId} {B b : Nat} {p : Value} {bs : List Value} {w w1 : World} (h : Lib.BuilderAtF T e B b p bs w) (hb : Below w.heap.size w w1) : Lib.BuilderAtF T e B b p bs w1 := by
  obtain ⟨h1, v, h2, h3, h4⟩ := h
  refine ⟨h1, v, blk_below h2 hb, ⟨h3.1, ?_⟩, h4⟩
  rcases h3.2 with hn | ⟨g, cap, cur, fz, hv, hbg, hg, rest⟩
  · exact .inl hn
  · exact .inr ⟨g, cap, cur, fz, hv, hbg, blk_below hg hb, rest⟩
theorem builder_below {T e : TypeId} {B b : Nat} {bs : List Value} {w w1 : World} (h : Lib.IsBuilderF T e B b bs w) (hb : Below w.heap.size w w1) : Lib.IsBuilderF T e B b bs w1 :=
  h.elim (fun x => .inl (builder_at_below x hb)) (fun x => .inr (builder_at_below x hb))
theorem others_below {e : TypeId} {b : Option Nat} {w w1 : World} (hb : Below w.heap.size w w1) : Lib.OthersKept e b w w1 := fun k o ho _ _ => blk_below ho hb
theorem write_any (B b : Nat) (bs : List Value) (s : ByteArray) (w : World) (h : Lib.IsBuilderF 73 5 B b bs w) (hlen : bs.length + s.size ≤ 140737488355328) (hBw : B ≤ w.heap.size) :
    Calls Tryd.prog 33 #[.pointer (some ⟨b, 0, none⟩), .string s] w fun e w' => e = .returned (.tuple #[.int .i64 s.size, .nilIface]) ∧ (Lib.BuilderAtF 73 5 B b (.pointer (some ⟨b, 0, none⟩)) (bs ++ Lib.strCells s) w' ∧ Below B w w' ∧ Lib.OthersKept 5 (some b) w w') :=
  Any.Builder_WriteString_k { Tryd.lays105 with } Tryd.Builder_Extra_105 B b bs s w h hlen hBw
def Lined (B b : Nat) (acc : List UInt8) (w w' : World) : Prop := Lib.IsBuilderF 73 5 B b (Lib.byteCells acc) w' ∧ Below B w w' ∧ Lib.OthersKept 5 (some b) w w'
set_option maxHeartbeats 400000 in
theorem line_any (k B b x : Nat) (acc : List UInt8) (A : Option Addr) (c : Nat) (cells : List ByteArray) (Ac : Option Addr) (cc : Nat) (cols : List S49) (r : ByteArray) (w : World) (hI : Lib.IsBuilderF 73 5 B b (Lib.byteCells acc) w) (hx : w.cell? ⟨x, 0, none⟩ = some (.slice Ac cols.length cc))
    (hB : B ≤ w.heap.size) (hc : Kd.C Kd.string w A cells.length cells) (hcc : cells.length ≤ c) (hcols : Kd.C k49 w Ac cols.length cols) (hcols2 : cols.length ≤ cc) (hf : table_Row.f k cols cells = some r) (hlen : acc.length + (r.size + 1) ≤ 140737488355328) :
    Calls Tryd.prog 32 #[.slice A cells.length c, .pointer (some ⟨b, 0, none⟩), .pointer (some ⟨x, 0, none⟩)] w fun e w' => e = .returned (.tuple #[]) ∧ Lined B b (acc ++ (r.data.toList ++ [10])) w w' := by
  have HI := hd hI
  have HC := hd hc
  have HCO := hd hcols
  have HF := hd hf
  have HLEN := hd hlen
  have HBS := hd hB
  clear hI hc hcols hf hlen hB
  go_enter Tryd.func32, Tryd.ntmps32
  go_wp2_with fail
  refine (table_Row.calls k Ac cc cols A c cells r w HCO.out hcols2 HC.out hcc HF.out).mono ?_
  rintro e w1 ⟨rfl, hb1⟩
  have HI1 := hd (builder_below HI.out hb1)
  have HB1 := hd hb1
  have hsz := hb1.size
  have hlr : r.size + 1 ≤ 9223372036854775807 := by have := HLEN.out; omega
  clear hb1 HI
  go_wp2_with fail
  with_reducible refine (write_any B b (Lib.byteCells acc) (r ++ ⟨#[10]⟩) w1 HI1.out ?_ (by have := HBS.out; omega)).mono ?_
  · rw [Lib.byteCells_length, ByteArray.size_append]
    have e1 : (⟨#[10]⟩ : ByteArray).size = 1 := rfl
    rw [e1]
    exact HLEN.out
  · rintro e w2 ⟨rfl, hI2, hb2, ho2⟩
    have HI2 := hd hI2
    have HB2 := hd hb2
    have HO2 := hd ho2
    clear hI2 hb2 ho2
    go_wp2_with fail
    go_end0
    refine ⟨rfl, ?_, HB1.out.mono HBS.out |>.trans HB2.out, (others_below HB1.out).trans HO2.out⟩
    have h2 : Lib.byteCells acc ++ Lib.strCells (r ++ ⟨#[10]⟩) = Lib.byteCells (acc ++ (r.data.toList ++ [10])) := by
      rw [Lib.strCells_eq, Lib.byteCells_append]
      congr 1
    rw [← h2]
    exact Or.inr HI2.out
end Go.Proofs.YthlbdbaanlehhaaDoor.Pr
