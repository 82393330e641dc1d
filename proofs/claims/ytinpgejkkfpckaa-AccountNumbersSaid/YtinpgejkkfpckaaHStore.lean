-- MINIFIED by wip/tools/minify.py
/-
 Texts of this session, laid together by wip/tools/merge.py: HMap, HStore.
-/
import Derived.Test.YtinpgejkkfpckaaChecked
import Derived.Test.YtinpgejkkfpckaaWEqStruct
import Derived.Maps.OwnSet
import Derived.WideKeyRuns
import Derived.MapKept
import Derived.Test.YtinpgejkkfpckaaPr0
import Derived.Test.YtinpgejkkfpckaaG
import Derived.StillTailTactics
section
namespace Go.Proofs.Ytinpgejkkfpckaa.Pr
open Go.RowKit Go.Maps Go.ChangeMaps Go.Proofs.YtinpgejkkfpckaaW.PrintWords
set_option linter.unusedVariables false
set_option linter.unusedSimpArgs false
abbrev ktore0 : Array Bool := #[true, true, true, true, true, true, true, true, true, true, true, true, true, true, true, true]
abbrev ktore1 : Array Bool := #[true, true, true, true, true, true, true, true, true, true, true, true, true, true, true, false]
abbrev ktore2 : Array Bool := #[true, true, true, true, true, true, true, true, true, true, true, true, true, true, false, false]
abbrev ktore3 : Array Bool := #[true, true, true, true, true, true, true, true, true, true, true, true, true, false, false, false]
abbrev ktore4 : Array Bool := #[true, true, true, true, true, true, true, true, true, true, true, true, false, false, false, false]
abbrev ktore5 : Array Bool := #[true, true, true, true, true, true, true, true, true, true, true, false, false, false, false, false]
abbrev ktore6 : Array Bool := #[true, true, true, true, true, true, true, true, true, true, false, false, false, false, false, false]
abbrev ktore7 : Array Bool := #[true, true, true, true, true, true, true, true, true, false, false, false, false, false, false, false]
abbrev ktore8 : Array Bool := #[true, true, true, true, true, true, true, true, false, false, false, false, false, false, false, false]
abbrev ktore9 : Array Bool := #[true, true, true, true, true, true, true, false, false, false, false, false, false, false, false, false]
abbrev ktore10 : Array Bool := #[true, true, true, true, true, true, false, false, false, false, false, false, false, false, false, false]
abbrev ktore11 : Array Bool := #[true, true, true, true, true, false, false, false, false, false, false, false, false, false, false, false]
abbrev ktore12 : Array Bool := #[true, true, true, true, false, false, false, false, false, false, false, false, false, false, false, false]
abbrev ktore13 : Array Bool := #[true, true, true, false, false, false, false, false, false, false, false, false, false, false, false, false]
abbrev ktore14 : Array Bool := #[true, true, false, false, false, false, false, false, false, false, false, false, false, false, false, false]
abbrev ktore15 : Array Bool := #[true, false, false, false, false, false, false, false, false, false, false, false, false, false, false, false]
abbrev ktore16 : Array Bool := #[false, false, false, false, false, false, false, false, false, false, false, false, false, false, false, false]
def keyV (a b : Int) : Value := .agg #[.int .i64 a, .int .u8 b]
theorem u74 : Try.prog.underlying 74 = some (.struct #[{ name := "id", type := 3, offset := 0, embedded := false, tag := "", pkgPath := "muster/account", byteOffset := 0 }, { name := "what", type := 33, offset := 1, embedded := false, tag := "", pkgPath := "muster/account", byteOffset := 8 }]) := by kernel_rfl
theorem u68 : Try.prog.underlying 68 = some (.map 74 36) := by kernel_rfl
theorem u3 : Try.prog.underlying 3 = some (.int .i64) := by kernel_rfl
theorem u33 : Try.prog.underlying 33 = some (.int .u8) := by kernel_rfl
theorem eq_int {d : Nat} {t : TypeId} {q : IntKind} (hu : Try.prog.underlying t = some (.int q)) (a b : Int) (w : World) : (Op.equalIn (d + 1) t (.int q a) (.int q b)).run Try.prog w = .ok (a == b) w := by
 unfold Op.equalIn
 simp [underlying, hu]
theorem equal_key (a b c d : Int) (w : World) : (Op.equal 74 (keyV a b) (keyV c d)).run Try.prog w = .ok ((a == c) && (b == d)) w := by
 unfold Op.equal
 refine eqA_of u74 (by kernel_rfl) ?_
 refine eqf_cons (by rfl) (a := .int .i64 a) (b := .int .i64 c) ?_ ?_ (eq_int u3 a c w) (eqf_last (by rfl) (a := .int .u8 b) (b := .int .u8 d) ?_ ?_ (eq_int u33 b d w))
 all_goals first | rfl | (simp [part, Sem.run_bind]; done) | kernel_rfl
theorem check_int {t : TypeId} {q : IntKind} (hu : Try.prog.underlying t = some (.int q)) (em : Bool) (n : Nat) (a : Int) (w : World) : (Instr.checkKey em (n + 1) t (.int q a)).run Try.prog w = .ok () w := by
 simp [Instr.checkKey, run_underlying hu]
theorem part0 (a b : Int) (w : World) : (part 3 #[.int .i64 a, .int .u8 b] 0).run Try.prog w = .ok (.int .i64 a) w := by first | rfl | (simp [part, Sem.run_bind]; done)
theorem part1 (a b : Int) (w : World) : (part 33 #[.int .i64 a, .int .u8 b] 1).run Try.prog w = .ok (.int .u8 b) w := by first | rfl | (simp [part, Sem.run_bind]; done)
theorem check_key (em : Bool) (a b : Int) (w : World) : (Instr.checkKey em 10000 74 (keyV a b)).run Try.prog w = .ok () w := by
 show (Instr.checkKey em (9999 + 1) 74 (keyV a b)).run Try.prog w = .ok () w
 unfold Instr.checkKey
 simp only [keyV, Sem.run_bind, run_underlying u74, Result.andThen_ok]
 have e1 := check_int u3 em 9998 a w
 have e2 := check_int u33 em 9998 b w
 simp [part0, part1, e1, e2, Sem.run_bind, Result.andThen]
abbrev Ent := (Int × Int) × Value
def entK (p : Ent) : Value := keyV p.1.1 p.1.2
def isK (a b : Int) (p : Ent) : Bool := (a == p.1.1) && (b == p.1.2)
/-- The block is a map that holds these entries, in this order. -/
def MapIs (w : World) (m : Nat) (L : List Ent) : Prop := ∃ es clock, w.heap[m]? = some (.map es clock) ∧ es.toList.map (fun e => (e.key, e.val)) = (L.map fun p => (entK p, p.2)) ∧ (es.toList.map (·.born)).Nodup ∧ ∀ x ∈ es.toList, x.born < clock
def findL (a b : Int) : List Ent → Nat → Option (Nat × Value)
 | [], _ => none
 | p :: t, i => if isK a b p = true then some (i, p.2) else findL a b t (i + 1)
theorem asking (a b : Int) (w : World) : ∀ (es : List MapEntry) (L : List Ent) (i : Nat), es.map (fun e => (e.key, e.val)) = L.map (fun p => (entK p, p.2)) → (Instr.findAsking 74 (keyV a b) es i).run Try.prog w = .ok (findL a b L i) w
 | [], [], i, _ => by simp [Instr.findAsking, findL]
 | [], _ :: _, i, h => by simp at h
 | _ :: _, [], i, h => by simp at h
 | e :: es, p :: L, i, h => by
  simp only [List.map_cons, List.cons.injEq, Prod.mk.injEq] at h
  obtain ⟨⟨h1, h2⟩, h3⟩ := h
  have ih := asking a b w es L (i + 1) h3
  have he : (Op.equal 74 (keyV a b) e.key).run Try.prog w = .ok (isK a b p) w := by rw [h1]; exact equal_key a b p.1.1 p.1.2 w
  rw [findL]
  cases hb : isK a b p
  ·rw [hb] at he
   simp [Instr.findAsking, he, ih]
  ·rw [hb] at he
   simp [Instr.findAsking, he, h2]
theorem found {w : World} {m : Nat} {L : List Ent} (a b : Int) {es : Array MapEntry} (h : es.toList.map (fun e => (e.key, e.val)) = L.map fun p => (entK p, p.2)) : (Instr.findKey 74 (keyV a b) es.toList).run Try.prog w = .ok (findL a b L 0) w := by
 rw [run_findKey_eq w (by rw [u74])]
 exact asking a b w es.toList L 0 h
theorem look_run {w : World} {m : Nat} {L : List Ent} (h : MapIs w m L) {z : Value} (hz : (zeroValue 36).run Try.prog w = .ok z w) (a b : Int) :
  (Instr.lookup 68 (.map (some m)) (keyV a b) true).run Try.prog w = .ok (.tuple #[((findL a b L 0).map (·.2)).getD z, .bool (findL a b L 0).isSome]) w := by
 obtain ⟨es, clock, hb, he, hnd, hlt⟩ := h
 have hf := found (w := w) (m := m) a b he
 cases hL : findL a b L 0 with
 | none =>
  rw [hL] at hf
  simp [Instr.lookup, run_underlying u68, MapKept.run_getObj_map hb, check_key, hf, hz, Result.andThen]
 | some q =>
  rw [hL] at hf
  simp [Instr.lookup, run_underlying u68, MapKept.run_getObj_map hb, check_key, hf, Result.andThen]
theorem put_run {w : World} {m : Nat} {L : List Ent} (h : MapIs w m L) (a b : Int) (hno : findL a b L 0 = none) (v : Value) :
  ∃ w', (Instr.mapUpdate 68 (.map (some m)) (keyV a b) v).run Try.prog w = .ok () w' ∧ MapIs w' m (L ++ [((a, b), v)]) ∧ w.grownBy w' (some m) := by
 obtain ⟨es, clock, hb, he, hnd, hlt⟩ := h
 have hf := found (w := w) (m := m) a b he
 rw [hno] at hf
 refine ⟨setBlock w m (.map (es.push ⟨keyV a b, v, clock⟩) (clock + 1)), ?_, ⟨_, _, heap_setBlock_same hb _, by simp [he, entK], by
  rw [Array.toList_push, List.map_append, List.nodup_append]
  refine ⟨hnd, by simp, fun x hx y hy e => ?_⟩
  obtain ⟨z, hz, rfl⟩ := List.mem_map.1 hx
  have := hlt z hz
  simp at hy
  omega, by
  intro x hx
  rw [Array.toList_push, List.mem_append, List.mem_singleton] at hx
  rcases hx with hx | rfl
  ·have := hlt x hx
   omega
  ·show clock < clock + 1
   omega⟩, ⟨rfl, rfl, rfl, by simp [setBlock], fun i _ hi => heap_setBlock_other hb _ (fun e => hi (by rw [e]))⟩⟩
 simp [Instr.mapUpdate, run_underlying u68, MapKept.run_getObj_map hb, check_key, hf, MapKept.run_setObj_map _ hb, Result.andThen, setBlock]
end Go.Proofs.Ytinpgejkkfpckaa.Pr
end
section
namespace Go.Proofs.Ytinpgejkkfpckaa.Pr
open Go.RowKit Go.Proofs.YtinpgejkkfpckaaW.PrintWords Go.Proofs.YtinpgejkkfpckaaW.PrintLast Go.Proofs.YtinpgejkkfpckaaW.PrintMore Go.Proofs.YtinpgejkkfpckaaG
set_option linter.unusedVariables false
set_option linter.unusedSimpArgs false
structure Past where
 id : Int
 what : Int
 at_ : Int
 acc : ByteArray
 usr : ByteArray
 nodes : Int
 cores : Int
 st : Int
def pastCs (p : Past) : Array Value := #[.int .i64 p.id, .int .u8 p.what, .int .i64 p.at_, .string p.acc, .string p.usr, .int .i64 p.nodes, .int .i64 p.cores, .int .u8 p.st]
def pastV (p : Past) : Value := .agg (pastCs p)
def zeroPast : Past := ⟨0, 0, 0, ByteArray.empty, ByteArray.empty, 0, 0, 0⟩
theorem zero36 (w : World) : (zeroValue 36).run Try.prog w = .ok (pastV zeroPast) w := by kernel_rfl
def ent (p : Past) : Ent := ((p.id, p.what), pastV p)
def MapP (w : World) (m : Nat) (P : List Past) : Prop := MapIs w m (P.map ent)
def getP (P : List Past) (a b : Int) : Option Past := P.find? fun p => (a == p.id) && (b == p.what)
theorem findL_getP (a b : Int) : ∀ (P : List Past) (i : Nat), (findL a b (P.map ent) i).map (·.2) = (getP P a b).map pastV ∧ (findL a b (P.map ent) i).isSome = (getP P a b).isSome
 | [], i => by simp [findL, getP]
 | p :: t, i => by
  have ih := findL_getP a b t (i + 1)
  unfold getP at ih ⊢
  rw [List.map_cons, findL, List.find?_cons]
  have e : isK a b (ent p) = ((a == p.id) && (b == p.what)) := rfl
  rw [e]
  cases hb : ((a == p.id) && (b == p.what))
  ·simpa using ih
  ·simp [ent]
theorem lookP {w : World} {m : Nat} {P : List Past} (h : MapP w m P) (a b : Int) : (Instr.lookup 68 (.map (some m)) (keyV a b) true).run Try.prog w = .ok (.tuple #[pastV ((getP P a b).getD zeroPast), .bool (getP P a b).isSome]) w := by
 rw [look_run h (zero36 w) a b, (findL_getP a b P 0).1, (findL_getP a b P 0).2]
 cases getP P a b <;> rfl
theorem MapP.below {w w' : World} {m : Nat} {P : List Past} (h : MapP w m P) (hb : Below w.heap.size w w') : MapP w' m P := by
 obtain ⟨es, cl, h1, h2⟩ := h
 have hm : m < w.heap.size := by
  rcases Nat.lt_or_ge m w.heap.size with h3 | h3
  ·exact h3
  ·rw [Array.getElem?_eq_none h3] at h1; cases h1
 exact ⟨es, cl, by rw [hb.block m hm]; exact h1, h2⟩
set_option maxHeartbeats 400000 in
theorem new_any (w : World) : Calls Try.prog 15 #[] w fun e w' => e = .returned (.pointer (some ⟨w.heap.size + 1, 0, none⟩)) ∧ MapP w' w.heap.size [] ∧ w'.heap[w.heap.size + 1]? = some (.cells #[.map (some w.heap.size), .slice none 0 0] 70 (0, 0)) ∧ w'.heap.size = w.heap.size + 2 ∧ Below w.heap.size w w' := by
 have hmm := @run_makeMap Try.prog
 go_enter Try.func15, Try.ntmps15
 go_wp2
 go_ret
 exact ⟨rfl, ⟨#[], 0, by show ((w.heap.push (Obj.map #[] 0)).push _)[w.heap.size]? = _; simp [Array.getElem?_push], by simp, by simp, by simp⟩, by show ((w.heap.push (Obj.map #[] 0)).push _)[w.heap.size + 1]? = _; (have e : w.heap.size + 1 = (w.heap.push (Obj.map #[] 0)).size := by simp); rw [e, Array.getElem?_push_size], by simp, below_alloc (below_alloc (Below.refl _ w) _) _⟩
set_option maxHeartbeats 400000 in
theorem none_any (s m : Nat) (w : World) (h : w.cell? ⟨s, 0, none⟩ = some (.map (some m))) : Calls Try.prog 35 #[.pointer (some ⟨s, 0, none⟩)] w fun e w' => e = .returned (.bool false) ∧ Below w.heap.size w w' := by
 have hq := fun w' => run_eql_map_nil (P := Try.prog) w' 68 74 36 (some m) u68
 go_enter Try.func35, Try.ntmps35
 go_wp2
 go_ret
 exact ⟨rfl, Below.refl _ _⟩
structure RunT where
 id : Int
 acc : ByteArray
 usr : ByteArray
 nodes : Int
 cores : Int
 st : Int
 sub : Int
 start : Int
 stop : Int
def runCs (r : RunT) : Array Value := #[.int .i64 r.id, .string r.acc, .string r.usr, .int .i64 r.nodes, .int .i64 r.cores, .int .u8 r.st, .int .i64 r.sub, .int .i64 r.start, .int .i64 r.stop]
def run0 (id : Int) : RunT := ⟨id, ByteArray.empty, ByteArray.empty, 0, 0, 1, -1, -1, -1⟩
def with3 (r : RunT) (p : Past) : RunT := { r with acc := p.acc, usr := p.usr, nodes := p.nodes, cores := p.cores, stop := p.at_, st := p.st }
def with2 (r : RunT) (p : Past) : RunT := { r with acc := p.acc, usr := p.usr, nodes := p.nodes, cores := p.cores, start := p.at_, st := if r.stop < 0 then 2 else r.st }
def with1 (r : RunT) (p : Past) : RunT := { r with acc := p.acc, usr := p.usr, nodes := p.nodes, cores := p.cores, sub := p.at_ }
def upd (P : List Past) (id k : Int) (f : RunT → Past → RunT) (r : RunT) : RunT := match getP P id k with | some p => f r p | none => r
def runP (P : List Past) (id : Int) : RunT := upd P id 1 with1 (upd P id 2 with2 (upd P id 3 with3 (run0 id)))
/-- What the run is with the events from k + 1 on. -/
def runK (P : List Past) (id : Int) : Nat → RunT
 | 0 => runP P id
 | 1 => upd P id 2 with2 (upd P id 3 with3 (run0 id))
 | 2 => upd P id 3 with3 (run0 id)
 | _ => run0 id
theorem u56 : ∃ fs, Try.prog.underlying 56 = some (.struct fs) := ⟨(match Try.prog.underlying 56 with | some (.struct fs) => fs | _ => #[]), by kernel_rfl⟩
theorem run_cells {w : World} {g : Nat} {r : RunT} (h : w.heap[g]? = some (.cells (runCs r) 56 (0, 0))) :
  w.cell? ⟨g, 0, none⟩ = some (.int .i64 r.id) ∧ w.cell? ⟨g, 1, none⟩ = some (.string r.acc) ∧ w.cell? ⟨g, 2, none⟩ = some (.string r.usr) ∧ w.cell? ⟨g, 3, none⟩ = some (.int .i64 r.nodes) ∧ w.cell? ⟨g, 4, none⟩ = some (.int .i64 r.cores) ∧
   w.cell? ⟨g, 5, none⟩ = some (.int .u8 r.st) ∧ w.cell? ⟨g, 6, none⟩ = some (.int .i64 r.sub) ∧ w.cell? ⟨g, 7, none⟩ = some (.int .i64 r.start) ∧ w.cell? ⟨g, 8, none⟩ = some (.int .i64 r.stop) :=
 ⟨(blk_cell h 0).trans rfl, (blk_cell h 1).trans rfl, (blk_cell h 2).trans rfl, (blk_cell h 3).trans rfl, (blk_cell h 4).trans rfl, (blk_cell h 5).trans rfl, (blk_cell h 6).trans rfl, (blk_cell h 7).trans rfl, (blk_cell h 8).trans rfl⟩
def zero56 : Array Value := runCs ⟨0, ByteArray.empty, ByteArray.empty, 0, 0, 0, 0, 0, 0⟩
def account_run.T7 : Bool × List (List Nat × List Nat) := (true, [([], []), ([0], [0]), ([], []), ([2], [2]), ([], []), ([4], [4]), ([], []), ([6], [6]), ([0, 1], []), ([8, 1, 0, 1], [1, 8]), ([0, 1, 2, 3, 8, 9], []), ([10, 3, 9, 0, 1, 2, 3, 8, 9], [3, 10]), ([0, 1, 2, 3, 4, 5, 8, 9, 10, 11], []), ([12, 5, 11, 0, 1, 2, 3, 4, 5, 8, 9, 10, 11], [5, 12]), ([0, 1, 2, 3, 4, 5, 6, 7, 8, 9, 10, 11, 12, 13], []), ([14, 7, 13, 0, 1, 2, 3, 4, 5, 6, 7, 8, 9, 10, 11, 12, 13], [7, 14])])
def account_run.B7 : List Nat := [0, 1, 0, 4, 0, 16, 0, 64, 3, 259, 783, 1807, 3903, 7999, 16383, 32767]
theorem account_run.tab7 : rtab .any (opsOf Try.f41 7) = account_run.T7 := by kernel_rfl
theorem account_run.bits7 : waitsOk account_run.T7.2 account_run.B7 = true := by kernel_rfl
def account_run.T11 : Bool × List (List Nat × List Nat) := (true, [([], []), ([0], [0]), ([], []), ([2], [2]), ([0, 1], []), ([4, 1, 0, 1], [1, 4]), ([0, 1, 2, 3, 4, 5], []), ([6, 3, 5, 0, 1, 2, 3, 4, 5], [3, 6])])
def account_run.B11 : List Nat := [0, 1, 0, 4, 3, 19, 63, 127]
theorem account_run.tab11 : rtab .any (opsOf Try.f41 11) = account_run.T11 := by kernel_rfl
theorem account_run.bits11 : waitsOk account_run.T11.2 account_run.B11 = true := by kernel_rfl
set_option maxRecDepth 100000 in
set_option maxHeartbeats 4000000 in
theorem run_any (s m : Nat) (P : List Past) (id : Int) (w : World) (h : w.cell? ⟨s, 0, none⟩ = some (.map (some m))) (hm : MapP w m P) :
  Calls Try.prog 41 #[.pointer (some ⟨s, 0, none⟩), .int .i64 id] w fun e w' => e = .returned (.agg (runCs (runP P id))) ∧ Below w.heap.size w w' := by
 obtain ⟨fs56, hu56⟩ := u56
 have GE : w.heap.size ≤ w.heap.size := Nat.le_refl _
 have HM := hd hm
 clear hm
 have hsl : s < w.heap.size := World.block_lt_of_cell? w _ h
 go_enter Try.func41, Try.ntmps41
 go_wp2
 go_loopw [6] (fun kv wr => ∃ k : Nat, k ≤ 3 ∧ kv = .int .u8 (k : Int) ∧ Hd (wr.heap[w.heap.size + 1]? = some (.cells (runCs (runK P id k)) 56 (0, 0))) ∧ Hd (wr.heap[w.heap.size]? = some (.cells zero56 56 (0, 0))) ∧ Hd (Below w.heap.size w wr)) (fun kv _ => (intOf kv).toNat)
 case atStart =>
  refine ⟨3, by omega, rfl, hd ?_, hd ?_, hd (below_alloc (below_alloc (Below.refl _ w) _) _)⟩
  ·have h1 := blk_new (w.alloc (.cells zero56 56 (0, 0))) (.cells (runCs (run0 id)) 56 (0, 0))
   have e : (w.alloc (.cells zero56 56 (0, 0))).heap.size = w.heap.size + 1 := by simp
   rw [e] at h1
   exact h1
  ·exact blk_alloc (blk_new w (.cells zero56 56 (0, 0))) _
 case round =>
  obtain ⟨k, hk, rfl, HR, HS, HB⟩ := hrel
  have hmp := HM.out.below HB.out
  obtain ⟨r, hr⟩ : ∃ r, runK P id k = r := ⟨_, rfl⟩
  have HMP := hd hmp
  have hs := (HB.out.block s hsl)
  have h0 : wr.cell? ⟨s, 0, none⟩ = some (.map (some m)) := pw_cell_below HB.out h
  rw [hr] at HR
  have HRR := hd hr
  clear hr hmp hs
  obtain ⟨c0, c1, c2, c3, c4, c5, c6, c7, c8⟩ := run_cells HR.out
  have f0 := blk_frozen HR.out 0
  have f1 := blk_frozen HR.out 1
  have f2 := blk_frozen HR.out 2
  have f3 := blk_frozen HR.out 3
  have f4 := blk_frozen HR.out 4
  have f5 := blk_frozen HR.out 5
  have f6 := blk_frozen HR.out 6
  have f7 := blk_frozen HR.out 7
  have f8 := blk_frozen HR.out 8
  have HSO := HS.out
  unfold zero56 at HSO
  obtain ⟨z0, z1, z2, z3, z4, z5, z6, z7, z8⟩ := run_cells HSO
  have g0 := blk_frozen HSO 0
  have g1 := blk_frozen HSO 1
  have g2 := blk_frozen HSO 2
  have g3 := blk_frozen HSO 3
  have g4 := blk_frozen HSO 4
  have g5 := blk_frozen HSO 5
  have g6 := blk_frozen HSO 6
  have g7 := blk_frozen HSO 7
  have g8 := blk_frozen HSO 8
  clear HSO
  match k, hk with
  | 0, _ =>
   go_wp2
   have hz := HS.out
   unfold zero56 at hz
   refine bodyPost_ret (results_cell_row rfl _ _ w.heap.size 56 (runCs r) (0, 0) _ rfl ?_ hu56 rfl (by kernel_rfl)) rfl ?_
   ·refine blk_put (cs := runCs { r with stop := 0 }) ?_ 8 _ rfl
    refine blk_put (cs := runCs { r with stop := 0, start := 0 }) ?_ 7 _ rfl
    refine blk_put (cs := runCs { r with stop := 0, start := 0, sub := 0 }) ?_ 6 _ rfl
    refine blk_put (cs := runCs { r with stop := 0, start := 0, sub := 0, st := 0 }) ?_ 5 _ rfl
    refine blk_put (cs := runCs { r with stop := 0, start := 0, sub := 0, st := 0, cores := 0 }) ?_ 4 _ rfl
    refine blk_put (cs := runCs { r with stop := 0, start := 0, sub := 0, st := 0, cores := 0, nodes := 0 }) ?_ 3 _ rfl
    refine blk_put (cs := runCs { r with stop := 0, start := 0, sub := 0, st := 0, cores := 0, nodes := 0, usr := ByteArray.empty }) ?_ 2 _ rfl
    refine blk_put (cs := runCs { r with stop := 0, start := 0, sub := 0, st := 0, cores := 0, nodes := 0, usr := ByteArray.empty, acc := ByteArray.empty }) ?_ 1 _ rfl
    exact blk_put hz 0 _ rfl
   ·have e : runP P id = r := HRR.out
    rw [e]
    exact ⟨rfl, by repeat (with_reducible first | exact HB.out | refine below_set ?_ GE)⟩
  | 1, _ =>
   have hl := lookP HMP.out id 1
   simp only [keyV] at hl
   cases hg : getP P id 1 with
   | none =>
    rw [hg] at hl
    simp only [Option.getD_none, Option.isSome_none, pastV, pastCs, zeroPast] at hl
    go_wp2
    have e : runK P id 0 = r := by
     show upd P id 1 with1 (runK P id 1) = r
     rw [HRR.out]
     unfold upd
     rw [hg]
    exact ⟨⟨0, by omega, rfl, hd (by rw [e]; exact blk_alloc HR.out _), hd (blk_alloc HS.out _), hd (below_alloc HB.out _)⟩, by simp [intOf]⟩
   | some p =>
    rw [hg] at hl
    simp only [Option.getD_some, Option.isSome_some, pastV, pastCs] at hl
    go_wp2
    have hlt := blk_lt HR.out
    have K5 : Hd ((wr.alloc (.cells (pastCs p) 36 (0, 0))).heap[w.heap.size + 1]? = some (.cells (runCs r) 56 (0, 0))) := hd (blk_alloc HR.out _)
    have K4 : Hd ((wr.alloc (.cells (pastCs p) 36 (0, 0))).heap[w.heap.size]? = some (.cells zero56 56 (0, 0))) := hd (blk_alloc HS.out _)
    have K7 : Hd ((wr.alloc (.cells (pastCs p) 36 (0, 0))).heap[wr.heap.size]? = some (.cells (pastCs p) 36 (0, 0))) := hd (blk_new _ _)
    have KB : Hd (Below w.heap.size w (wr.alloc (.cells (pastCs p) 36 (0, 0)))) := hd (below_alloc HB.out _)
    have hq5 : wr.heap.size ≠ w.heap.size + 1 := by omega
    simp only [pastCs] at K5 K4 K7 KB
    clear c0 c1 c2 c3 c4 c5 c6 c7 c8 f0 f1 f2 f3 f4 f5 f6 f7 f8 z0 z1 z2 z3 z4 z5 z6 z7 z8 g0 g1 g2 g3 g4 g5 g6 g7 g8 hl h0
    generalize wr.heap.size = q7 at K7 hq5 hlt ⊢
    generalize wr.alloc _ = wy at K5 K4 K7 KB ⊢
    refine start_ (n := 16) (S := fun w' => w'.cell? ⟨q7, 3, none⟩ = some (.string p.acc) ∧ w'.cell? ⟨q7, 4, none⟩ = some (.string p.usr) ∧ w'.cell? ⟨q7, 5, none⟩ = some (.int .i64 p.nodes) ∧ w'.cell? ⟨q7, 6, none⟩ = some (.int .i64 p.cores)) (ds := [15]) ktore16 (by kernel_rfl) rfl rfl ⟨(blk_cell (show wy.drew.heap[q7]? = _ from K7.out) 3).trans rfl, (blk_cell (show wy.drew.heap[q7]? = _ from K7.out) 4).trans rfl, (blk_cell (show wy.drew.heap[q7]? = _ from K7.out) 5).trans rfl, (blk_cell (show wy.drew.heap[q7]? = _ from K7.out) 6).trans rfl⟩ (fun hHeld => ?_)
    have K7d : Hd (wy.drew.heap[q7]? = some (.cells (pastCs p) 36 (0, 0))) := hd K7.out
    have K5d : Hd (wy.drew.heap[w.heap.size + 1]? = some (.cells (runCs (r)) 56 (0, 0))) := hd K5.out
    have K4d : Hd (wy.drew.heap[w.heap.size]? = some (.cells zero56 56 (0, 0))) := hd K4.out
    have KBd : Hd (Below w.heap.size w wy.drew) := hd (below_drew1 KB.out)
    generalize wy.drew = wz at K7d K5d K4d KBd hHeld ⊢
    clear K7 K5 K4 KB
    refine with_tabW account_run.tab7 account_run.bits7 (fun HT_ HW_ => ?_)
    refine pure_ (i := 0) (N := some 28) (v := ?_) (a' := ?_) ktore15 rfl rfl (any_of HT_.out (by kernel_rfl)) (fun _ _ _ h => h) (Or.inl ⟨by rfl, ?_⟩) ?_ ?_
    rotate_left
    ·intro w'
     go_simp
     with_reducible rfl
    rotate_left
    ·simp only [Act.put, List.setIfInBounds_toArray, List.set_cons_zero, List.set_cons_succ, i64_w, i32_w]
     rfl
    refine take_ (i := 1) (N := some 29) (v := ?_) (a' := ?_) ktore14 rfl rfl (take_ofW HT_.out HW_.out (by kernel_rfl)) (fun _ _ _ h => h) (Or.inl ⟨by rfl, ?_⟩) hHeld ?_ ?_
    rotate_left
    ·rintro w' ⟨s3, s4, s5, s6⟩
     go_simp
     with_reducible rfl
    rotate_left
    ·simp only [Act.put, List.setIfInBounds_toArray, List.set_cons_zero, List.set_cons_succ, i64_w, i32_w]
     rfl
    refine pure_ (i := 2) (N := some 30) (v := ?_) (a' := ?_) ktore13 rfl rfl (any_of HT_.out (by kernel_rfl)) (fun _ _ _ h => h) (Or.inl ⟨by rfl, ?_⟩) ?_ ?_
    rotate_left
    ·intro w'
     go_simp
     with_reducible rfl
    rotate_left
    ·simp only [Act.put, List.setIfInBounds_toArray, List.set_cons_zero, List.set_cons_succ, i64_w, i32_w]
     rfl
    refine take_ (i := 3) (N := some 31) (v := ?_) (a' := ?_) ktore12 rfl rfl (take_ofW HT_.out HW_.out (by kernel_rfl)) (fun _ _ _ h => h) (Or.inl ⟨by rfl, ?_⟩) hHeld ?_ ?_
    rotate_left
    ·rintro w' ⟨s3, s4, s5, s6⟩
     go_simp
     with_reducible rfl
    rotate_left
    ·simp only [Act.put, List.setIfInBounds_toArray, List.set_cons_zero, List.set_cons_succ, i64_w, i32_w]
     rfl
    refine pure_ (i := 4) (N := some 32) (v := ?_) (a' := ?_) ktore11 rfl rfl (any_of HT_.out (by kernel_rfl)) (fun _ _ _ h => h) (Or.inl ⟨by rfl, ?_⟩) ?_ ?_
    rotate_left
    ·intro w'
     go_simp
     with_reducible rfl
    rotate_left
    ·simp only [Act.put, List.setIfInBounds_toArray, List.set_cons_zero, List.set_cons_succ, i64_w, i32_w]
     rfl
    refine take_ (i := 5) (N := some 33) (v := ?_) (a' := ?_) ktore10 rfl rfl (take_ofW HT_.out HW_.out (by kernel_rfl)) (fun _ _ _ h => h) (Or.inl ⟨by rfl, ?_⟩) hHeld ?_ ?_
    rotate_left
    ·rintro w' ⟨s3, s4, s5, s6⟩
     go_simp
     with_reducible rfl
    rotate_left
    ·simp only [Act.put, List.setIfInBounds_toArray, List.set_cons_zero, List.set_cons_succ, i64_w, i32_w]
     rfl
    refine pure_ (i := 6) (N := some 34) (v := ?_) (a' := ?_) ktore9 rfl rfl (any_of HT_.out (by kernel_rfl)) (fun _ _ _ h => h) (Or.inl ⟨by rfl, ?_⟩) ?_ ?_
    rotate_left
    ·intro w'
     go_simp
     with_reducible rfl
    rotate_left
    ·simp only [Act.put, List.setIfInBounds_toArray, List.set_cons_zero, List.set_cons_succ, i64_w, i32_w]
     rfl
    refine take_ (i := 7) (N := some 35) (v := ?_) (a' := ?_) ktore8 rfl rfl (take_ofW HT_.out HW_.out (by kernel_rfl)) (fun _ _ _ h => h) (Or.inl ⟨by rfl, ?_⟩) hHeld ?_ ?_
    rotate_left
    ·rintro w' ⟨s3, s4, s5, s6⟩
     go_simp
     with_reducible rfl
    rotate_left
    ·simp only [Act.put, List.setIfInBounds_toArray, List.set_cons_zero, List.set_cons_succ, i64_w, i32_w]
     rfl
    refine pure_ (i := 8) (N := some 36) (v := ?_) (a' := ?_) ktore7 rfl rfl (any_of HT_.out (by kernel_rfl)) (fun _ _ _ h => h) (Or.inl ⟨by rfl, ?_⟩) ?_ ?_
    rotate_left
    ·intro w'
     go_simp
     with_reducible rfl
    rotate_left
    ·simp only [Act.put, List.setIfInBounds_toArray, List.set_cons_zero, List.set_cons_succ, i64_w, i32_w]
     rfl
    have cs9 : wz.cell? ⟨w.heap.size + 1, 1, none⟩ = some (.string r.acc) := (blk_cell K5d.out 1).trans rfl
    have cf9 := blk_frozen K5d.out 1
    refine one_ (i := 9) (N := none) ktore6 rfl rfl (one_of HT_.out (by kernel_rfl)) (by decide) (fun K hK => ?_)
    refine skip_ (w1 := (wz.setCell ⟨w.heap.size + 1, 1, none⟩ (.string p.acc))) (by rfl) rfl ?_ ?_
    ·go_simp
    have K7e : Hd ((wz.setCell ⟨w.heap.size + 1, 1, none⟩ (.string p.acc)).heap[q7]? = some (Obj.cells (pastCs p) 36 (0, 0))) := hd (blk_far K7d.out hq5 _)
    have K5e : Hd ((wz.setCell ⟨w.heap.size + 1, 1, none⟩ (.string p.acc)).heap[w.heap.size + 1]? = some (Obj.cells (runCs ({ r with acc := p.acc })) 56 (0, 0))) := hd (blk_put (cs := runCs (r)) K5d.out 1 _ rfl)
    have K4e : Hd ((wz.setCell ⟨w.heap.size + 1, 1, none⟩ (.string p.acc)).heap[w.heap.size]? = some (Obj.cells zero56 56 (0, 0))) := hd (blk_far K4d.out (by show w.heap.size ≠ w.heap.size + 1; omega) _)
    have KBe : Hd (Below w.heap.size w (wz.setCell ⟨w.heap.size + 1, 1, none⟩ (.string p.acc))) := hd (below_set KBd.out (Nat.le_succ _))
    refine hK.out _ _ ⟨(blk_cell K7e.out 3).trans rfl, (blk_cell K7e.out 4).trans rfl, (blk_cell K7e.out 5).trans rfl, (blk_cell K7e.out 6).trans rfl⟩ (fun hHeld => ?_)
    clear hK K cs9 cf9 K7d K5d K4d KBd
    generalize wz.setCell ⟨w.heap.size + 1, 1, none⟩ (.string p.acc) = wz9 at K7e K5e K4e KBe hHeld ⊢
    have K7d := K7e
    have K5d := K5e
    have K4d := K4e
    have KBd := KBe
    clear K7e K5e K4e KBe
    refine pure_ (i := 10) (N := some 37) (v := ?_) (a' := ?_) ktore5 rfl rfl (any_of HT_.out (by kernel_rfl)) (fun _ _ _ h => h) (Or.inl ⟨by rfl, ?_⟩) ?_ ?_
    rotate_left
    ·intro w'
     go_simp
     with_reducible rfl
    rotate_left
    ·simp only [Act.put, List.setIfInBounds_toArray, List.set_cons_zero, List.set_cons_succ, i64_w, i32_w]
     rfl
    have cs11 : wz9.cell? ⟨w.heap.size + 1, 2, none⟩ = some (.string r.usr) := (blk_cell K5d.out 2).trans rfl
    have cf11 := blk_frozen K5d.out 2
    refine one_ (i := 11) (N := none) ktore4 rfl rfl (one_of HT_.out (by kernel_rfl)) (by decide) (fun K hK => ?_)
    refine skip_ (w1 := (wz9.setCell ⟨w.heap.size + 1, 2, none⟩ (.string p.usr))) (by rfl) rfl ?_ ?_
    ·go_simp
    have K7e : Hd ((wz9.setCell ⟨w.heap.size + 1, 2, none⟩ (.string p.usr)).heap[q7]? = some (Obj.cells (pastCs p) 36 (0, 0))) := hd (blk_far K7d.out hq5 _)
    have K5e : Hd ((wz9.setCell ⟨w.heap.size + 1, 2, none⟩ (.string p.usr)).heap[w.heap.size + 1]? = some (Obj.cells (runCs ({ r with acc := p.acc, usr := p.usr })) 56 (0, 0))) := hd (blk_put (cs := runCs ({ r with acc := p.acc })) K5d.out 2 _ rfl)
    have K4e : Hd ((wz9.setCell ⟨w.heap.size + 1, 2, none⟩ (.string p.usr)).heap[w.heap.size]? = some (Obj.cells zero56 56 (0, 0))) := hd (blk_far K4d.out (by show w.heap.size ≠ w.heap.size + 1; omega) _)
    have KBe : Hd (Below w.heap.size w (wz9.setCell ⟨w.heap.size + 1, 2, none⟩ (.string p.usr))) := hd (below_set KBd.out (Nat.le_succ _))
    refine hK.out _ _ ⟨(blk_cell K7e.out 3).trans rfl, (blk_cell K7e.out 4).trans rfl, (blk_cell K7e.out 5).trans rfl, (blk_cell K7e.out 6).trans rfl⟩ (fun hHeld => ?_)
    clear hK K cs11 cf11 K7d K5d K4d KBd
    generalize wz9.setCell ⟨w.heap.size + 1, 2, none⟩ (.string p.usr) = wz11 at K7e K5e K4e KBe hHeld ⊢
    have K7d := K7e
    have K5d := K5e
    have K4d := K4e
    have KBd := KBe
    clear K7e K5e K4e KBe
    refine pure_ (i := 12) (N := some 38) (v := ?_) (a' := ?_) ktore3 rfl rfl (any_of HT_.out (by kernel_rfl)) (fun _ _ _ h => h) (Or.inl ⟨by rfl, ?_⟩) ?_ ?_
    rotate_left
    ·intro w'
     go_simp
     with_reducible rfl
    rotate_left
    ·simp only [Act.put, List.setIfInBounds_toArray, List.set_cons_zero, List.set_cons_succ, i64_w, i32_w]
     rfl
    have cs13 : wz11.cell? ⟨w.heap.size + 1, 3, none⟩ = some (.int .i64 r.nodes) := (blk_cell K5d.out 3).trans rfl
    have cf13 := blk_frozen K5d.out 3
    refine one_ (i := 13) (N := none) ktore2 rfl rfl (one_of HT_.out (by kernel_rfl)) (by decide) (fun K hK => ?_)
    refine skip_ (w1 := (wz11.setCell ⟨w.heap.size + 1, 3, none⟩ (.int .i64 p.nodes))) (by rfl) rfl ?_ ?_
    ·go_simp
    have K7e : Hd ((wz11.setCell ⟨w.heap.size + 1, 3, none⟩ (.int .i64 p.nodes)).heap[q7]? = some (Obj.cells (pastCs p) 36 (0, 0))) := hd (blk_far K7d.out hq5 _)
    have K5e : Hd ((wz11.setCell ⟨w.heap.size + 1, 3, none⟩ (.int .i64 p.nodes)).heap[w.heap.size + 1]? = some (Obj.cells (runCs ({ r with acc := p.acc, usr := p.usr, nodes := p.nodes })) 56 (0, 0))) := hd (blk_put (cs := runCs ({ r with acc := p.acc, usr := p.usr })) K5d.out 3 _ rfl)
    have K4e : Hd ((wz11.setCell ⟨w.heap.size + 1, 3, none⟩ (.int .i64 p.nodes)).heap[w.heap.size]? = some (Obj.cells zero56 56 (0, 0))) := hd (blk_far K4d.out (by show w.heap.size ≠ w.heap.size + 1; omega) _)
    have KBe : Hd (Below w.heap.size w (wz11.setCell ⟨w.heap.size + 1, 3, none⟩ (.int .i64 p.nodes))) := hd (below_set KBd.out (Nat.le_succ _))
    refine hK.out _ _ ⟨(blk_cell K7e.out 3).trans rfl, (blk_cell K7e.out 4).trans rfl, (blk_cell K7e.out 5).trans rfl, (blk_cell K7e.out 6).trans rfl⟩ (fun hHeld => ?_)
    clear hK K cs13 cf13 K7d K5d K4d KBd
    generalize wz11.setCell ⟨w.heap.size + 1, 3, none⟩ (.int .i64 p.nodes) = wz13 at K7e K5e K4e KBe hHeld ⊢
    have K7d := K7e
    have K5d := K5e
    have K4d := K4e
    have KBd := KBe
    clear K7e K5e K4e KBe
    refine pure_ (i := 14) (N := some 39) (v := ?_) (a' := ?_) ktore1 rfl rfl (any_of HT_.out (by kernel_rfl)) (fun _ _ _ h => h) (Or.inl ⟨by rfl, ?_⟩) ?_ ?_
    rotate_left
    ·intro w'
     go_simp
     with_reducible rfl
    rotate_left
    ·simp only [Act.put, List.setIfInBounds_toArray, List.set_cons_zero, List.set_cons_succ, i64_w, i32_w]
     rfl
    have cs15 : wz13.cell? ⟨w.heap.size + 1, 4, none⟩ = some (.int .i64 r.cores) := (blk_cell K5d.out 4).trans rfl
    have cf15 := blk_frozen K5d.out 4
    refine last_ (i := 15) (N := none) ktore0 rfl rfl (one_of HT_.out (by kernel_rfl)) (by decide) (fun K hK => ?_)
    refine skip_ (w1 := (wz13.setCell ⟨w.heap.size + 1, 4, none⟩ (.int .i64 p.cores))) (by rfl) rfl ?_ ?_
    ·go_simp
    have K7e : Hd ((wz13.setCell ⟨w.heap.size + 1, 4, none⟩ (.int .i64 p.cores)).heap[q7]? = some (Obj.cells (pastCs p) 36 (0, 0))) := hd (blk_far K7d.out hq5 _)
    have K5e : Hd ((wz13.setCell ⟨w.heap.size + 1, 4, none⟩ (.int .i64 p.cores)).heap[w.heap.size + 1]? = some (Obj.cells (runCs ({ r with acc := p.acc, usr := p.usr, nodes := p.nodes, cores := p.cores })) 56 (0, 0))) := hd (blk_put (cs := runCs ({ r with acc := p.acc, usr := p.usr, nodes := p.nodes })) K5d.out 4 _ rfl)
    have K4e : Hd ((wz13.setCell ⟨w.heap.size + 1, 4, none⟩ (.int .i64 p.cores)).heap[w.heap.size]? = some (Obj.cells zero56 56 (0, 0))) := hd (blk_far K4d.out (by show w.heap.size ≠ w.heap.size + 1; omega) _)
    have KBe : Hd (Below w.heap.size w (wz13.setCell ⟨w.heap.size + 1, 4, none⟩ (.int .i64 p.cores))) := hd (below_set KBd.out (Nat.le_succ _))
    refine hK.out _ _ ?_
    clear hK K cs15 cf15 K7d K5d K4d KBd
    generalize wz13.setCell ⟨w.heap.size + 1, 4, none⟩ (.int .i64 p.cores) = wz15 at K7e K5e K4e KBe ⊢
    have K7d := K7e
    have K5d := K5e
    have K4d := K4e
    have KBd := KBe
    clear K7e K5e K4e KBe
    refine done_ (done_of HT_.out (by kernel_rfl)) ?_
    clear HT_ HW_
    obtain ⟨c0, c1, c2, c3, c4, c5, c6, c7, c8⟩ := run_cells K5d.out
    have f5 := blk_frozen K5d.out 5
    have f6 := blk_frozen K5d.out 6
    have f7 := blk_frozen K5d.out 7
    have p2 : wz15.cell? ⟨q7, 2, none⟩ = some (.int .i64 p.at_) := (blk_cell K7d.out 2).trans rfl
    go_wp2
    have e : runK P id 0 = { r with acc := p.acc, usr := p.usr, nodes := p.nodes, cores := p.cores, sub := p.at_ } := by
     show upd P id 1 with1 (runK P id 1) = _
     rw [HRR.out]
     unfold upd
     rw [hg]
     rfl
    exact ⟨⟨0, by omega, rfl, hd (by rw [e]; exact blk_put (cs := runCs ({ r with acc := p.acc, usr := p.usr, nodes := p.nodes, cores := p.cores })) K5d.out 6 _ rfl), hd (blk_far K4d.out (by show w.heap.size ≠ w.heap.size + 1; omega) _), hd (below_set KBd.out (Nat.le_succ _))⟩, by simp [intOf]⟩
  | 2, _ =>
   have hl := lookP HMP.out id 2
   simp only [keyV] at hl
   cases hg : getP P id 2 with
   | none =>
    rw [hg] at hl
    simp only [Option.getD_none, Option.isSome_none, pastV, pastCs, zeroPast] at hl
    go_wp2
    have e : runK P id 1 = r := by
     show upd P id 2 with2 (runK P id 2) = r
     rw [HRR.out]
     unfold upd
     rw [hg]
    exact ⟨⟨1, by omega, rfl, hd (by rw [e]; exact blk_alloc HR.out _), hd (blk_alloc HS.out _), hd (below_alloc HB.out _)⟩, by simp [intOf]⟩
   | some p =>
    rw [hg] at hl
    simp only [Option.getD_some, Option.isSome_some, pastV, pastCs] at hl
    go_wp2
    have hlt := blk_lt HR.out
    have K5 : Hd ((wr.alloc (.cells (pastCs p) 36 (0, 0))).heap[w.heap.size + 1]? = some (.cells (runCs r) 56 (0, 0))) := hd (blk_alloc HR.out _)
    have K4 : Hd ((wr.alloc (.cells (pastCs p) 36 (0, 0))).heap[w.heap.size]? = some (.cells zero56 56 (0, 0))) := hd (blk_alloc HS.out _)
    have K7 : Hd ((wr.alloc (.cells (pastCs p) 36 (0, 0))).heap[wr.heap.size]? = some (.cells (pastCs p) 36 (0, 0))) := hd (blk_new _ _)
    have KB : Hd (Below w.heap.size w (wr.alloc (.cells (pastCs p) 36 (0, 0)))) := hd (below_alloc HB.out _)
    have hq5 : wr.heap.size ≠ w.heap.size + 1 := by omega
    simp only [pastCs] at K5 K4 K7 KB
    clear c0 c1 c2 c3 c4 c5 c6 c7 c8 f0 f1 f2 f3 f4 f5 f6 f7 f8 z0 z1 z2 z3 z4 z5 z6 z7 z8 g0 g1 g2 g3 g4 g5 g6 g7 g8 hl h0
    generalize wr.heap.size = q7 at K7 hq5 hlt ⊢
    generalize wr.alloc _ = wy at K5 K4 K7 KB ⊢
    refine start_ (n := 16) (S := fun w' => w'.cell? ⟨q7, 3, none⟩ = some (.string p.acc) ∧ w'.cell? ⟨q7, 4, none⟩ = some (.string p.usr) ∧ w'.cell? ⟨q7, 5, none⟩ = some (.int .i64 p.nodes) ∧ w'.cell? ⟨q7, 6, none⟩ = some (.int .i64 p.cores)) (ds := [15]) ktore16 (by kernel_rfl) rfl rfl ⟨(blk_cell (show wy.drew.heap[q7]? = _ from K7.out) 3).trans rfl, (blk_cell (show wy.drew.heap[q7]? = _ from K7.out) 4).trans rfl, (blk_cell (show wy.drew.heap[q7]? = _ from K7.out) 5).trans rfl, (blk_cell (show wy.drew.heap[q7]? = _ from K7.out) 6).trans rfl⟩ (fun hHeld => ?_)
    have K7d : Hd (wy.drew.heap[q7]? = some (.cells (pastCs p) 36 (0, 0))) := hd K7.out
    have K5d : Hd (wy.drew.heap[w.heap.size + 1]? = some (.cells (runCs (r)) 56 (0, 0))) := hd K5.out
    have K4d : Hd (wy.drew.heap[w.heap.size]? = some (.cells zero56 56 (0, 0))) := hd K4.out
    have KBd : Hd (Below w.heap.size w wy.drew) := hd (below_drew1 KB.out)
    generalize wy.drew = wz at K7d K5d K4d KBd hHeld ⊢
    clear K7 K5 K4 KB
    refine with_tabW account_run.tab7 account_run.bits7 (fun HT_ HW_ => ?_)
    refine pure_ (i := 0) (N := some 28) (v := ?_) (a' := ?_) ktore15 rfl rfl (any_of HT_.out (by kernel_rfl)) (fun _ _ _ h => h) (Or.inl ⟨by rfl, ?_⟩) ?_ ?_
    rotate_left
    ·intro w'
     go_simp
     with_reducible rfl
    rotate_left
    ·simp only [Act.put, List.setIfInBounds_toArray, List.set_cons_zero, List.set_cons_succ, i64_w, i32_w]
     rfl
    refine take_ (i := 1) (N := some 29) (v := ?_) (a' := ?_) ktore14 rfl rfl (take_ofW HT_.out HW_.out (by kernel_rfl)) (fun _ _ _ h => h) (Or.inl ⟨by rfl, ?_⟩) hHeld ?_ ?_
    rotate_left
    ·rintro w' ⟨s3, s4, s5, s6⟩
     go_simp
     with_reducible rfl
    rotate_left
    ·simp only [Act.put, List.setIfInBounds_toArray, List.set_cons_zero, List.set_cons_succ, i64_w, i32_w]
     rfl
    refine pure_ (i := 2) (N := some 30) (v := ?_) (a' := ?_) ktore13 rfl rfl (any_of HT_.out (by kernel_rfl)) (fun _ _ _ h => h) (Or.inl ⟨by rfl, ?_⟩) ?_ ?_
    rotate_left
    ·intro w'
     go_simp
     with_reducible rfl
    rotate_left
    ·simp only [Act.put, List.setIfInBounds_toArray, List.set_cons_zero, List.set_cons_succ, i64_w, i32_w]
     rfl
    refine take_ (i := 3) (N := some 31) (v := ?_) (a' := ?_) ktore12 rfl rfl (take_ofW HT_.out HW_.out (by kernel_rfl)) (fun _ _ _ h => h) (Or.inl ⟨by rfl, ?_⟩) hHeld ?_ ?_
    rotate_left
    ·rintro w' ⟨s3, s4, s5, s6⟩
     go_simp
     with_reducible rfl
    rotate_left
    ·simp only [Act.put, List.setIfInBounds_toArray, List.set_cons_zero, List.set_cons_succ, i64_w, i32_w]
     rfl
    refine pure_ (i := 4) (N := some 32) (v := ?_) (a' := ?_) ktore11 rfl rfl (any_of HT_.out (by kernel_rfl)) (fun _ _ _ h => h) (Or.inl ⟨by rfl, ?_⟩) ?_ ?_
    rotate_left
    ·intro w'
     go_simp
     with_reducible rfl
    rotate_left
    ·simp only [Act.put, List.setIfInBounds_toArray, List.set_cons_zero, List.set_cons_succ, i64_w, i32_w]
     rfl
    refine take_ (i := 5) (N := some 33) (v := ?_) (a' := ?_) ktore10 rfl rfl (take_ofW HT_.out HW_.out (by kernel_rfl)) (fun _ _ _ h => h) (Or.inl ⟨by rfl, ?_⟩) hHeld ?_ ?_
    rotate_left
    ·rintro w' ⟨s3, s4, s5, s6⟩
     go_simp
     with_reducible rfl
    rotate_left
    ·simp only [Act.put, List.setIfInBounds_toArray, List.set_cons_zero, List.set_cons_succ, i64_w, i32_w]
     rfl
    refine pure_ (i := 6) (N := some 34) (v := ?_) (a' := ?_) ktore9 rfl rfl (any_of HT_.out (by kernel_rfl)) (fun _ _ _ h => h) (Or.inl ⟨by rfl, ?_⟩) ?_ ?_
    rotate_left
    ·intro w'
     go_simp
     with_reducible rfl
    rotate_left
    ·simp only [Act.put, List.setIfInBounds_toArray, List.set_cons_zero, List.set_cons_succ, i64_w, i32_w]
     rfl
    refine take_ (i := 7) (N := some 35) (v := ?_) (a' := ?_) ktore8 rfl rfl (take_ofW HT_.out HW_.out (by kernel_rfl)) (fun _ _ _ h => h) (Or.inl ⟨by rfl, ?_⟩) hHeld ?_ ?_
    rotate_left
    ·rintro w' ⟨s3, s4, s5, s6⟩
     go_simp
     with_reducible rfl
    rotate_left
    ·simp only [Act.put, List.setIfInBounds_toArray, List.set_cons_zero, List.set_cons_succ, i64_w, i32_w]
     rfl
    refine pure_ (i := 8) (N := some 36) (v := ?_) (a' := ?_) ktore7 rfl rfl (any_of HT_.out (by kernel_rfl)) (fun _ _ _ h => h) (Or.inl ⟨by rfl, ?_⟩) ?_ ?_
    rotate_left
    ·intro w'
     go_simp
     with_reducible rfl
    rotate_left
    ·simp only [Act.put, List.setIfInBounds_toArray, List.set_cons_zero, List.set_cons_succ, i64_w, i32_w]
     rfl
    have cs9 : wz.cell? ⟨w.heap.size + 1, 1, none⟩ = some (.string r.acc) := (blk_cell K5d.out 1).trans rfl
    have cf9 := blk_frozen K5d.out 1
    refine one_ (i := 9) (N := none) ktore6 rfl rfl (one_of HT_.out (by kernel_rfl)) (by decide) (fun K hK => ?_)
    refine skip_ (w1 := (wz.setCell ⟨w.heap.size + 1, 1, none⟩ (.string p.acc))) (by rfl) rfl ?_ ?_
    ·go_simp
    have K7e : Hd ((wz.setCell ⟨w.heap.size + 1, 1, none⟩ (.string p.acc)).heap[q7]? = some (Obj.cells (pastCs p) 36 (0, 0))) := hd (blk_far K7d.out hq5 _)
    have K5e : Hd ((wz.setCell ⟨w.heap.size + 1, 1, none⟩ (.string p.acc)).heap[w.heap.size + 1]? = some (Obj.cells (runCs ({ r with acc := p.acc })) 56 (0, 0))) := hd (blk_put (cs := runCs (r)) K5d.out 1 _ rfl)
    have K4e : Hd ((wz.setCell ⟨w.heap.size + 1, 1, none⟩ (.string p.acc)).heap[w.heap.size]? = some (Obj.cells zero56 56 (0, 0))) := hd (blk_far K4d.out (by show w.heap.size ≠ w.heap.size + 1; omega) _)
    have KBe : Hd (Below w.heap.size w (wz.setCell ⟨w.heap.size + 1, 1, none⟩ (.string p.acc))) := hd (below_set KBd.out (Nat.le_succ _))
    refine hK.out _ _ ⟨(blk_cell K7e.out 3).trans rfl, (blk_cell K7e.out 4).trans rfl, (blk_cell K7e.out 5).trans rfl, (blk_cell K7e.out 6).trans rfl⟩ (fun hHeld => ?_)
    clear hK K cs9 cf9 K7d K5d K4d KBd
    generalize wz.setCell ⟨w.heap.size + 1, 1, none⟩ (.string p.acc) = wz9 at K7e K5e K4e KBe hHeld ⊢
    have K7d := K7e
    have K5d := K5e
    have K4d := K4e
    have KBd := KBe
    clear K7e K5e K4e KBe
    refine pure_ (i := 10) (N := some 37) (v := ?_) (a' := ?_) ktore5 rfl rfl (any_of HT_.out (by kernel_rfl)) (fun _ _ _ h => h) (Or.inl ⟨by rfl, ?_⟩) ?_ ?_
    rotate_left
    ·intro w'
     go_simp
     with_reducible rfl
    rotate_left
    ·simp only [Act.put, List.setIfInBounds_toArray, List.set_cons_zero, List.set_cons_succ, i64_w, i32_w]
     rfl
    have cs11 : wz9.cell? ⟨w.heap.size + 1, 2, none⟩ = some (.string r.usr) := (blk_cell K5d.out 2).trans rfl
    have cf11 := blk_frozen K5d.out 2
    refine one_ (i := 11) (N := none) ktore4 rfl rfl (one_of HT_.out (by kernel_rfl)) (by decide) (fun K hK => ?_)
    refine skip_ (w1 := (wz9.setCell ⟨w.heap.size + 1, 2, none⟩ (.string p.usr))) (by rfl) rfl ?_ ?_
    ·go_simp
    have K7e : Hd ((wz9.setCell ⟨w.heap.size + 1, 2, none⟩ (.string p.usr)).heap[q7]? = some (Obj.cells (pastCs p) 36 (0, 0))) := hd (blk_far K7d.out hq5 _)
    have K5e : Hd ((wz9.setCell ⟨w.heap.size + 1, 2, none⟩ (.string p.usr)).heap[w.heap.size + 1]? = some (Obj.cells (runCs ({ r with acc := p.acc, usr := p.usr })) 56 (0, 0))) := hd (blk_put (cs := runCs ({ r with acc := p.acc })) K5d.out 2 _ rfl)
    have K4e : Hd ((wz9.setCell ⟨w.heap.size + 1, 2, none⟩ (.string p.usr)).heap[w.heap.size]? = some (Obj.cells zero56 56 (0, 0))) := hd (blk_far K4d.out (by show w.heap.size ≠ w.heap.size + 1; omega) _)
    have KBe : Hd (Below w.heap.size w (wz9.setCell ⟨w.heap.size + 1, 2, none⟩ (.string p.usr))) := hd (below_set KBd.out (Nat.le_succ _))
    refine hK.out _ _ ⟨(blk_cell K7e.out 3).trans rfl, (blk_cell K7e.out 4).trans rfl, (blk_cell K7e.out 5).trans rfl, (blk_cell K7e.out 6).trans rfl⟩ (fun hHeld => ?_)
    clear hK K cs11 cf11 K7d K5d K4d KBd
    generalize wz9.setCell ⟨w.heap.size + 1, 2, none⟩ (.string p.usr) = wz11 at K7e K5e K4e KBe hHeld ⊢
    have K7d := K7e
    have K5d := K5e
    have K4d := K4e
    have KBd := KBe
    clear K7e K5e K4e KBe
    refine pure_ (i := 12) (N := some 38) (v := ?_) (a' := ?_) ktore3 rfl rfl (any_of HT_.out (by kernel_rfl)) (fun _ _ _ h => h) (Or.inl ⟨by rfl, ?_⟩) ?_ ?_
    rotate_left
    ·intro w'
     go_simp
     with_reducible rfl
    rotate_left
    ·simp only [Act.put, List.setIfInBounds_toArray, List.set_cons_zero, List.set_cons_succ, i64_w, i32_w]
     rfl
    have cs13 : wz11.cell? ⟨w.heap.size + 1, 3, none⟩ = some (.int .i64 r.nodes) := (blk_cell K5d.out 3).trans rfl
    have cf13 := blk_frozen K5d.out 3
    refine one_ (i := 13) (N := none) ktore2 rfl rfl (one_of HT_.out (by kernel_rfl)) (by decide) (fun K hK => ?_)
    refine skip_ (w1 := (wz11.setCell ⟨w.heap.size + 1, 3, none⟩ (.int .i64 p.nodes))) (by rfl) rfl ?_ ?_
    ·go_simp
    have K7e : Hd ((wz11.setCell ⟨w.heap.size + 1, 3, none⟩ (.int .i64 p.nodes)).heap[q7]? = some (Obj.cells (pastCs p) 36 (0, 0))) := hd (blk_far K7d.out hq5 _)
    have K5e : Hd ((wz11.setCell ⟨w.heap.size + 1, 3, none⟩ (.int .i64 p.nodes)).heap[w.heap.size + 1]? = some (Obj.cells (runCs ({ r with acc := p.acc, usr := p.usr, nodes := p.nodes })) 56 (0, 0))) := hd (blk_put (cs := runCs ({ r with acc := p.acc, usr := p.usr })) K5d.out 3 _ rfl)
    have K4e : Hd ((wz11.setCell ⟨w.heap.size + 1, 3, none⟩ (.int .i64 p.nodes)).heap[w.heap.size]? = some (Obj.cells zero56 56 (0, 0))) := hd (blk_far K4d.out (by show w.heap.size ≠ w.heap.size + 1; omega) _)
    have KBe : Hd (Below w.heap.size w (wz11.setCell ⟨w.heap.size + 1, 3, none⟩ (.int .i64 p.nodes))) := hd (below_set KBd.out (Nat.le_succ _))
    refine hK.out _ _ ⟨(blk_cell K7e.out 3).trans rfl, (blk_cell K7e.out 4).trans rfl, (blk_cell K7e.out 5).trans rfl, (blk_cell K7e.out 6).trans rfl⟩ (fun hHeld => ?_)
    clear hK K cs13 cf13 K7d K5d K4d KBd
    generalize wz11.setCell ⟨w.heap.size + 1, 3, none⟩ (.int .i64 p.nodes) = wz13 at K7e K5e K4e KBe hHeld ⊢
    have K7d := K7e
    have K5d := K5e
    have K4d := K4e
    have KBd := KBe
    clear K7e K5e K4e KBe
    refine pure_ (i := 14) (N := some 39) (v := ?_) (a' := ?_) ktore1 rfl rfl (any_of HT_.out (by kernel_rfl)) (fun _ _ _ h => h) (Or.inl ⟨by rfl, ?_⟩) ?_ ?_
    rotate_left
    ·intro w'
     go_simp
     with_reducible rfl
    rotate_left
    ·simp only [Act.put, List.setIfInBounds_toArray, List.set_cons_zero, List.set_cons_succ, i64_w, i32_w]
     rfl
    have cs15 : wz13.cell? ⟨w.heap.size + 1, 4, none⟩ = some (.int .i64 r.cores) := (blk_cell K5d.out 4).trans rfl
    have cf15 := blk_frozen K5d.out 4
    refine last_ (i := 15) (N := none) ktore0 rfl rfl (one_of HT_.out (by kernel_rfl)) (by decide) (fun K hK => ?_)
    refine skip_ (w1 := (wz13.setCell ⟨w.heap.size + 1, 4, none⟩ (.int .i64 p.cores))) (by rfl) rfl ?_ ?_
    ·go_simp
    have K7e : Hd ((wz13.setCell ⟨w.heap.size + 1, 4, none⟩ (.int .i64 p.cores)).heap[q7]? = some (Obj.cells (pastCs p) 36 (0, 0))) := hd (blk_far K7d.out hq5 _)
    have K5e : Hd ((wz13.setCell ⟨w.heap.size + 1, 4, none⟩ (.int .i64 p.cores)).heap[w.heap.size + 1]? = some (Obj.cells (runCs ({ r with acc := p.acc, usr := p.usr, nodes := p.nodes, cores := p.cores })) 56 (0, 0))) := hd (blk_put (cs := runCs ({ r with acc := p.acc, usr := p.usr, nodes := p.nodes })) K5d.out 4 _ rfl)
    have K4e : Hd ((wz13.setCell ⟨w.heap.size + 1, 4, none⟩ (.int .i64 p.cores)).heap[w.heap.size]? = some (Obj.cells zero56 56 (0, 0))) := hd (blk_far K4d.out (by show w.heap.size ≠ w.heap.size + 1; omega) _)
    have KBe : Hd (Below w.heap.size w (wz13.setCell ⟨w.heap.size + 1, 4, none⟩ (.int .i64 p.cores))) := hd (below_set KBd.out (Nat.le_succ _))
    refine hK.out _ _ ?_
    clear hK K cs15 cf15 K7d K5d K4d KBd
    generalize wz13.setCell ⟨w.heap.size + 1, 4, none⟩ (.int .i64 p.cores) = wz15 at K7e K5e K4e KBe ⊢
    have K7d := K7e
    have K5d := K5e
    have K4d := K4e
    have KBd := KBe
    clear K7e K5e K4e KBe
    refine done_ (done_of HT_.out (by kernel_rfl)) ?_
    clear HT_ HW_
    obtain ⟨c0, c1, c2, c3, c4, c5, c6, c7, c8⟩ := run_cells K5d.out
    have f5 := blk_frozen K5d.out 5
    have f6 := blk_frozen K5d.out 6
    have f7 := blk_frozen K5d.out 7
    have p2 : wz15.cell? ⟨q7, 2, none⟩ = some (.int .i64 p.at_) := (blk_cell K7d.out 2).trans rfl
    by_cases hst : r.stop < 0
    ·go_wp2
     have e : runK P id 1 = { r with acc := p.acc, usr := p.usr, nodes := p.nodes, cores := p.cores, start := p.at_, st := 2 } := by
      show upd P id 2 with2 (runK P id 2) = _
      rw [HRR.out]
      unfold upd
      rw [hg]
      show with2 r p = _
      unfold with2
      rw [if_pos hst]
     exact ⟨⟨1, by omega, rfl, hd (by rw [e]; exact blk_put (cs := runCs ({ r with acc := p.acc, usr := p.usr, nodes := p.nodes, cores := p.cores, start := p.at_ })) (blk_put (cs := runCs ({ r with acc := p.acc, usr := p.usr, nodes := p.nodes, cores := p.cores })) K5d.out 7 _ rfl) 5 _ rfl), hd (blk_far (blk_far K4d.out (by show w.heap.size ≠ w.heap.size + 1; omega) _) (by show w.heap.size ≠ w.heap.size + 1; omega) _), hd (below_set (below_set KBd.out (Nat.le_succ _)) (Nat.le_succ _))⟩, by simp [intOf]⟩
    ·go_wp2
     have e : runK P id 1 = { r with acc := p.acc, usr := p.usr, nodes := p.nodes, cores := p.cores, start := p.at_ } := by
      show upd P id 2 with2 (runK P id 2) = _
      rw [HRR.out]
      unfold upd
      rw [hg]
      show with2 r p = _
      unfold with2
      rw [if_neg hst]
     exact ⟨⟨1, by omega, rfl, hd (by rw [e]; exact blk_put (cs := runCs ({ r with acc := p.acc, usr := p.usr, nodes := p.nodes, cores := p.cores })) K5d.out 7 _ rfl), hd (blk_far K4d.out (by show w.heap.size ≠ w.heap.size + 1; omega) _), hd (below_set KBd.out (Nat.le_succ _))⟩, by simp [intOf]⟩
  | 3, _ =>
   have hl := lookP HMP.out id 3
   simp only [keyV] at hl
   cases hg : getP P id 3 with
   | none =>
    rw [hg] at hl
    simp only [Option.getD_none, Option.isSome_none, pastV, pastCs, zeroPast] at hl
    go_wp2
    have e : runK P id 2 = r := by
     show upd P id 3 with3 (runK P id 3) = r
     rw [HRR.out]
     unfold upd
     rw [hg]
    exact ⟨⟨2, by omega, rfl, hd (by rw [e]; exact blk_alloc HR.out _), hd (blk_alloc HS.out _), hd (below_alloc HB.out _)⟩, by simp [intOf]⟩
   | some p =>
    rw [hg] at hl
    simp only [Option.getD_some, Option.isSome_some, pastV, pastCs] at hl
    go_wp2
    have hlt := blk_lt HR.out
    have K5 : Hd ((wr.alloc (.cells (pastCs p) 36 (0, 0))).heap[w.heap.size + 1]? = some (.cells (runCs r) 56 (0, 0))) := hd (blk_alloc HR.out _)
    have K4 : Hd ((wr.alloc (.cells (pastCs p) 36 (0, 0))).heap[w.heap.size]? = some (.cells zero56 56 (0, 0))) := hd (blk_alloc HS.out _)
    have K7 : Hd ((wr.alloc (.cells (pastCs p) 36 (0, 0))).heap[wr.heap.size]? = some (.cells (pastCs p) 36 (0, 0))) := hd (blk_new _ _)
    have KB : Hd (Below w.heap.size w (wr.alloc (.cells (pastCs p) 36 (0, 0)))) := hd (below_alloc HB.out _)
    have hq5 : wr.heap.size ≠ w.heap.size + 1 := by omega
    simp only [pastCs] at K5 K4 K7 KB
    clear c0 c1 c2 c3 c4 c5 c6 c7 c8 f0 f1 f2 f3 f4 f5 f6 f7 f8 z0 z1 z2 z3 z4 z5 z6 z7 z8 g0 g1 g2 g3 g4 g5 g6 g7 g8 hl h0
    generalize wr.heap.size = q7 at K7 hq5 hlt ⊢
    generalize wr.alloc _ = wy at K5 K4 K7 KB ⊢
    refine start_ (n := 16) (S := fun w' => w'.cell? ⟨q7, 3, none⟩ = some (.string p.acc) ∧ w'.cell? ⟨q7, 4, none⟩ = some (.string p.usr) ∧ w'.cell? ⟨q7, 5, none⟩ = some (.int .i64 p.nodes) ∧ w'.cell? ⟨q7, 6, none⟩ = some (.int .i64 p.cores)) (ds := [15]) ktore16 (by kernel_rfl) rfl rfl ⟨(blk_cell (show wy.drew.heap[q7]? = _ from K7.out) 3).trans rfl, (blk_cell (show wy.drew.heap[q7]? = _ from K7.out) 4).trans rfl, (blk_cell (show wy.drew.heap[q7]? = _ from K7.out) 5).trans rfl, (blk_cell (show wy.drew.heap[q7]? = _ from K7.out) 6).trans rfl⟩ (fun hHeld => ?_)
    have K7d : Hd (wy.drew.heap[q7]? = some (.cells (pastCs p) 36 (0, 0))) := hd K7.out
    have K5d : Hd (wy.drew.heap[w.heap.size + 1]? = some (.cells (runCs (r)) 56 (0, 0))) := hd K5.out
    have K4d : Hd (wy.drew.heap[w.heap.size]? = some (.cells zero56 56 (0, 0))) := hd K4.out
    have KBd : Hd (Below w.heap.size w wy.drew) := hd (below_drew1 KB.out)
    generalize wy.drew = wz at K7d K5d K4d KBd hHeld ⊢
    clear K7 K5 K4 KB
    refine with_tabW account_run.tab7 account_run.bits7 (fun HT_ HW_ => ?_)
    refine pure_ (i := 0) (N := some 28) (v := ?_) (a' := ?_) ktore15 rfl rfl (any_of HT_.out (by kernel_rfl)) (fun _ _ _ h => h) (Or.inl ⟨by rfl, ?_⟩) ?_ ?_
    rotate_left
    ·intro w'
     go_simp
     with_reducible rfl
    rotate_left
    ·simp only [Act.put, List.setIfInBounds_toArray, List.set_cons_zero, List.set_cons_succ, i64_w, i32_w]
     rfl
    refine take_ (i := 1) (N := some 29) (v := ?_) (a' := ?_) ktore14 rfl rfl (take_ofW HT_.out HW_.out (by kernel_rfl)) (fun _ _ _ h => h) (Or.inl ⟨by rfl, ?_⟩) hHeld ?_ ?_
    rotate_left
    ·rintro w' ⟨s3, s4, s5, s6⟩
     go_simp
     with_reducible rfl
    rotate_left
    ·simp only [Act.put, List.setIfInBounds_toArray, List.set_cons_zero, List.set_cons_succ, i64_w, i32_w]
     rfl
    refine pure_ (i := 2) (N := some 30) (v := ?_) (a' := ?_) ktore13 rfl rfl (any_of HT_.out (by kernel_rfl)) (fun _ _ _ h => h) (Or.inl ⟨by rfl, ?_⟩) ?_ ?_
    rotate_left
    ·intro w'
     go_simp
     with_reducible rfl
    rotate_left
    ·simp only [Act.put, List.setIfInBounds_toArray, List.set_cons_zero, List.set_cons_succ, i64_w, i32_w]
     rfl
    refine take_ (i := 3) (N := some 31) (v := ?_) (a' := ?_) ktore12 rfl rfl (take_ofW HT_.out HW_.out (by kernel_rfl)) (fun _ _ _ h => h) (Or.inl ⟨by rfl, ?_⟩) hHeld ?_ ?_
    rotate_left
    ·rintro w' ⟨s3, s4, s5, s6⟩
     go_simp
     with_reducible rfl
    rotate_left
    ·simp only [Act.put, List.setIfInBounds_toArray, List.set_cons_zero, List.set_cons_succ, i64_w, i32_w]
     rfl
    refine pure_ (i := 4) (N := some 32) (v := ?_) (a' := ?_) ktore11 rfl rfl (any_of HT_.out (by kernel_rfl)) (fun _ _ _ h => h) (Or.inl ⟨by rfl, ?_⟩) ?_ ?_
    rotate_left
    ·intro w'
     go_simp
     with_reducible rfl
    rotate_left
    ·simp only [Act.put, List.setIfInBounds_toArray, List.set_cons_zero, List.set_cons_succ, i64_w, i32_w]
     rfl
    refine take_ (i := 5) (N := some 33) (v := ?_) (a' := ?_) ktore10 rfl rfl (take_ofW HT_.out HW_.out (by kernel_rfl)) (fun _ _ _ h => h) (Or.inl ⟨by rfl, ?_⟩) hHeld ?_ ?_
    rotate_left
    ·rintro w' ⟨s3, s4, s5, s6⟩
     go_simp
     with_reducible rfl
    rotate_left
    ·simp only [Act.put, List.setIfInBounds_toArray, List.set_cons_zero, List.set_cons_succ, i64_w, i32_w]
     rfl
    refine pure_ (i := 6) (N := some 34) (v := ?_) (a' := ?_) ktore9 rfl rfl (any_of HT_.out (by kernel_rfl)) (fun _ _ _ h => h) (Or.inl ⟨by rfl, ?_⟩) ?_ ?_
    rotate_left
    ·intro w'
     go_simp
     with_reducible rfl
    rotate_left
    ·simp only [Act.put, List.setIfInBounds_toArray, List.set_cons_zero, List.set_cons_succ, i64_w, i32_w]
     rfl
    refine take_ (i := 7) (N := some 35) (v := ?_) (a' := ?_) ktore8 rfl rfl (take_ofW HT_.out HW_.out (by kernel_rfl)) (fun _ _ _ h => h) (Or.inl ⟨by rfl, ?_⟩) hHeld ?_ ?_
    rotate_left
    ·rintro w' ⟨s3, s4, s5, s6⟩
     go_simp
     with_reducible rfl
    rotate_left
    ·simp only [Act.put, List.setIfInBounds_toArray, List.set_cons_zero, List.set_cons_succ, i64_w, i32_w]
     rfl
    refine pure_ (i := 8) (N := some 36) (v := ?_) (a' := ?_) ktore7 rfl rfl (any_of HT_.out (by kernel_rfl)) (fun _ _ _ h => h) (Or.inl ⟨by rfl, ?_⟩) ?_ ?_
    rotate_left
    ·intro w'
     go_simp
     with_reducible rfl
    rotate_left
    ·simp only [Act.put, List.setIfInBounds_toArray, List.set_cons_zero, List.set_cons_succ, i64_w, i32_w]
     rfl
    have cs9 : wz.cell? ⟨w.heap.size + 1, 1, none⟩ = some (.string r.acc) := (blk_cell K5d.out 1).trans rfl
    have cf9 := blk_frozen K5d.out 1
    refine one_ (i := 9) (N := none) ktore6 rfl rfl (one_of HT_.out (by kernel_rfl)) (by decide) (fun K hK => ?_)
    refine skip_ (w1 := (wz.setCell ⟨w.heap.size + 1, 1, none⟩ (.string p.acc))) (by rfl) rfl ?_ ?_
    ·go_simp
    have K7e : Hd ((wz.setCell ⟨w.heap.size + 1, 1, none⟩ (.string p.acc)).heap[q7]? = some (Obj.cells (pastCs p) 36 (0, 0))) := hd (blk_far K7d.out hq5 _)
    have K5e : Hd ((wz.setCell ⟨w.heap.size + 1, 1, none⟩ (.string p.acc)).heap[w.heap.size + 1]? = some (Obj.cells (runCs ({ r with acc := p.acc })) 56 (0, 0))) := hd (blk_put (cs := runCs (r)) K5d.out 1 _ rfl)
    have K4e : Hd ((wz.setCell ⟨w.heap.size + 1, 1, none⟩ (.string p.acc)).heap[w.heap.size]? = some (Obj.cells zero56 56 (0, 0))) := hd (blk_far K4d.out (by show w.heap.size ≠ w.heap.size + 1; omega) _)
    have KBe : Hd (Below w.heap.size w (wz.setCell ⟨w.heap.size + 1, 1, none⟩ (.string p.acc))) := hd (below_set KBd.out (Nat.le_succ _))
    refine hK.out _ _ ⟨(blk_cell K7e.out 3).trans rfl, (blk_cell K7e.out 4).trans rfl, (blk_cell K7e.out 5).trans rfl, (blk_cell K7e.out 6).trans rfl⟩ (fun hHeld => ?_)
    clear hK K cs9 cf9 K7d K5d K4d KBd
    generalize wz.setCell ⟨w.heap.size + 1, 1, none⟩ (.string p.acc) = wz9 at K7e K5e K4e KBe hHeld ⊢
    have K7d := K7e
    have K5d := K5e
    have K4d := K4e
    have KBd := KBe
    clear K7e K5e K4e KBe
    refine pure_ (i := 10) (N := some 37) (v := ?_) (a' := ?_) ktore5 rfl rfl (any_of HT_.out (by kernel_rfl)) (fun _ _ _ h => h) (Or.inl ⟨by rfl, ?_⟩) ?_ ?_
    rotate_left
    ·intro w'
     go_simp
     with_reducible rfl
    rotate_left
    ·simp only [Act.put, List.setIfInBounds_toArray, List.set_cons_zero, List.set_cons_succ, i64_w, i32_w]
     rfl
    have cs11 : wz9.cell? ⟨w.heap.size + 1, 2, none⟩ = some (.string r.usr) := (blk_cell K5d.out 2).trans rfl
    have cf11 := blk_frozen K5d.out 2
    refine one_ (i := 11) (N := none) ktore4 rfl rfl (one_of HT_.out (by kernel_rfl)) (by decide) (fun K hK => ?_)
    refine skip_ (w1 := (wz9.setCell ⟨w.heap.size + 1, 2, none⟩ (.string p.usr))) (by rfl) rfl ?_ ?_
    ·go_simp
    have K7e : Hd ((wz9.setCell ⟨w.heap.size + 1, 2, none⟩ (.string p.usr)).heap[q7]? = some (Obj.cells (pastCs p) 36 (0, 0))) := hd (blk_far K7d.out hq5 _)
    have K5e : Hd ((wz9.setCell ⟨w.heap.size + 1, 2, none⟩ (.string p.usr)).heap[w.heap.size + 1]? = some (Obj.cells (runCs ({ r with acc := p.acc, usr := p.usr })) 56 (0, 0))) := hd (blk_put (cs := runCs ({ r with acc := p.acc })) K5d.out 2 _ rfl)
    have K4e : Hd ((wz9.setCell ⟨w.heap.size + 1, 2, none⟩ (.string p.usr)).heap[w.heap.size]? = some (Obj.cells zero56 56 (0, 0))) := hd (blk_far K4d.out (by show w.heap.size ≠ w.heap.size + 1; omega) _)
    have KBe : Hd (Below w.heap.size w (wz9.setCell ⟨w.heap.size + 1, 2, none⟩ (.string p.usr))) := hd (below_set KBd.out (Nat.le_succ _))
    refine hK.out _ _ ⟨(blk_cell K7e.out 3).trans rfl, (blk_cell K7e.out 4).trans rfl, (blk_cell K7e.out 5).trans rfl, (blk_cell K7e.out 6).trans rfl⟩ (fun hHeld => ?_)
    clear hK K cs11 cf11 K7d K5d K4d KBd
    generalize wz9.setCell ⟨w.heap.size + 1, 2, none⟩ (.string p.usr) = wz11 at K7e K5e K4e KBe hHeld ⊢
    have K7d := K7e
    have K5d := K5e
    have K4d := K4e
    have KBd := KBe
    clear K7e K5e K4e KBe
    refine pure_ (i := 12) (N := some 38) (v := ?_) (a' := ?_) ktore3 rfl rfl (any_of HT_.out (by kernel_rfl)) (fun _ _ _ h => h) (Or.inl ⟨by rfl, ?_⟩) ?_ ?_
    rotate_left
    ·intro w'
     go_simp
     with_reducible rfl
    rotate_left
    ·simp only [Act.put, List.setIfInBounds_toArray, List.set_cons_zero, List.set_cons_succ, i64_w, i32_w]
     rfl
    have cs13 : wz11.cell? ⟨w.heap.size + 1, 3, none⟩ = some (.int .i64 r.nodes) := (blk_cell K5d.out 3).trans rfl
    have cf13 := blk_frozen K5d.out 3
    refine one_ (i := 13) (N := none) ktore2 rfl rfl (one_of HT_.out (by kernel_rfl)) (by decide) (fun K hK => ?_)
    refine skip_ (w1 := (wz11.setCell ⟨w.heap.size + 1, 3, none⟩ (.int .i64 p.nodes))) (by rfl) rfl ?_ ?_
    ·go_simp
    have K7e : Hd ((wz11.setCell ⟨w.heap.size + 1, 3, none⟩ (.int .i64 p.nodes)).heap[q7]? = some (Obj.cells (pastCs p) 36 (0, 0))) := hd (blk_far K7d.out hq5 _)
    have K5e : Hd ((wz11.setCell ⟨w.heap.size + 1, 3, none⟩ (.int .i64 p.nodes)).heap[w.heap.size + 1]? = some (Obj.cells (runCs ({ r with acc := p.acc, usr := p.usr, nodes := p.nodes })) 56 (0, 0))) := hd (blk_put (cs := runCs ({ r with acc := p.acc, usr := p.usr })) K5d.out 3 _ rfl)
    have K4e : Hd ((wz11.setCell ⟨w.heap.size + 1, 3, none⟩ (.int .i64 p.nodes)).heap[w.heap.size]? = some (Obj.cells zero56 56 (0, 0))) := hd (blk_far K4d.out (by show w.heap.size ≠ w.heap.size + 1; omega) _)
    have KBe : Hd (Below w.heap.size w (wz11.setCell ⟨w.heap.size + 1, 3, none⟩ (.int .i64 p.nodes))) := hd (below_set KBd.out (Nat.le_succ _))
    refine hK.out _ _ ⟨(blk_cell K7e.out 3).trans rfl, (blk_cell K7e.out 4).trans rfl, (blk_cell K7e.out 5).trans rfl, (blk_cell K7e.out 6).trans rfl⟩ (fun hHeld => ?_)
    clear hK K cs13 cf13 K7d K5d K4d KBd
    generalize wz11.setCell ⟨w.heap.size + 1, 3, none⟩ (.int .i64 p.nodes) = wz13 at K7e K5e K4e KBe hHeld ⊢
    have K7d := K7e
    have K5d := K5e
    have K4d := K4e
    have KBd := KBe
    clear K7e K5e K4e KBe
    refine pure_ (i := 14) (N := some 39) (v := ?_) (a' := ?_) ktore1 rfl rfl (any_of HT_.out (by kernel_rfl)) (fun _ _ _ h => h) (Or.inl ⟨by rfl, ?_⟩) ?_ ?_
    rotate_left
    ·intro w'
     go_simp
     with_reducible rfl
    rotate_left
    ·simp only [Act.put, List.setIfInBounds_toArray, List.set_cons_zero, List.set_cons_succ, i64_w, i32_w]
     rfl
    have cs15 : wz13.cell? ⟨w.heap.size + 1, 4, none⟩ = some (.int .i64 r.cores) := (blk_cell K5d.out 4).trans rfl
    have cf15 := blk_frozen K5d.out 4
    refine last_ (i := 15) (N := none) ktore0 rfl rfl (one_of HT_.out (by kernel_rfl)) (by decide) (fun K hK => ?_)
    refine skip_ (w1 := (wz13.setCell ⟨w.heap.size + 1, 4, none⟩ (.int .i64 p.cores))) (by rfl) rfl ?_ ?_
    ·go_simp
    have K7e : Hd ((wz13.setCell ⟨w.heap.size + 1, 4, none⟩ (.int .i64 p.cores)).heap[q7]? = some (Obj.cells (pastCs p) 36 (0, 0))) := hd (blk_far K7d.out hq5 _)
    have K5e : Hd ((wz13.setCell ⟨w.heap.size + 1, 4, none⟩ (.int .i64 p.cores)).heap[w.heap.size + 1]? = some (Obj.cells (runCs ({ r with acc := p.acc, usr := p.usr, nodes := p.nodes, cores := p.cores })) 56 (0, 0))) := hd (blk_put (cs := runCs ({ r with acc := p.acc, usr := p.usr, nodes := p.nodes })) K5d.out 4 _ rfl)
    have K4e : Hd ((wz13.setCell ⟨w.heap.size + 1, 4, none⟩ (.int .i64 p.cores)).heap[w.heap.size]? = some (Obj.cells zero56 56 (0, 0))) := hd (blk_far K4d.out (by show w.heap.size ≠ w.heap.size + 1; omega) _)
    have KBe : Hd (Below w.heap.size w (wz13.setCell ⟨w.heap.size + 1, 4, none⟩ (.int .i64 p.cores))) := hd (below_set KBd.out (Nat.le_succ _))
    refine hK.out _ _ ?_
    clear hK K cs15 cf15 K7d K5d K4d KBd
    generalize wz13.setCell ⟨w.heap.size + 1, 4, none⟩ (.int .i64 p.cores) = wz15 at K7e K5e K4e KBe ⊢
    have K7d := K7e
    have K5d := K5e
    have K4d := K4e
    have KBd := KBe
    clear K7e K5e K4e KBe
    refine done_ (done_of HT_.out (by kernel_rfl)) ?_
    clear HT_ HW_
    go_wp2
    have K7 := K7d
    have K5 := K5d
    have K4 := K4d
    have KB := KBd
    clear K7d K5d K4d KBd
    refine start_ (n := 8) (S := fun w' => w'.cell? ⟨q7, 2, none⟩ = some (.int .i64 p.at_) ∧ w'.cell? ⟨q7, 7, none⟩ = some (.int .u8 p.st)) (ds := [7]) #[false, false, false, false, false, false, false, false] (by kernel_rfl) rfl rfl ⟨(blk_cell (show wz15.drew.heap[q7]? = _ from K7.out) 2).trans rfl, (blk_cell (show wz15.drew.heap[q7]? = _ from K7.out) 7).trans rfl⟩ (fun hHeld => ?_)
    have K7d : Hd (wz15.drew.heap[q7]? = some (.cells (pastCs p) 36 (0, 0))) := hd K7.out
    have K5d : Hd (wz15.drew.heap[w.heap.size + 1]? = some (.cells (runCs ({ r with acc := p.acc, usr := p.usr, nodes := p.nodes, cores := p.cores })) 56 (0, 0))) := hd K5.out
    have K4d : Hd (wz15.drew.heap[w.heap.size]? = some (.cells zero56 56 (0, 0))) := hd K4.out
    have KBd : Hd (Below w.heap.size w wz15.drew) := hd (below_drew1 KB.out)
    generalize wz15.drew = wzb at K7d K5d K4d KBd hHeld ⊢
    clear K7 K5 K4 KB
    refine with_tabW account_run.tab11 account_run.bits11 (fun HT_ HW_ => ?_)
    refine pure_ (i := 0) (N := some 46) (v := ?_) (a' := ?_) #[true, false, false, false, false, false, false, false] rfl rfl (any_of HT_.out (by kernel_rfl)) (fun _ _ _ h => h) (Or.inl ⟨by rfl, ?_⟩) ?_ ?_
    rotate_left
    ·intro w'
     go_simp
     with_reducible rfl
    rotate_left
    ·simp only [Act.put, List.setIfInBounds_toArray, List.set_cons_zero, List.set_cons_succ, i64_w, i32_w]
     rfl
    refine take_ (i := 1) (N := some 47) (v := ?_) (a' := ?_) #[true, true, false, false, false, false, false, false] rfl rfl (take_ofW HT_.out HW_.out (by kernel_rfl)) (fun _ _ _ h => h) (Or.inl ⟨by rfl, ?_⟩) hHeld ?_ ?_
    rotate_left
    ·rintro w' ⟨s2, s7⟩
     go_simp
     with_reducible rfl
    rotate_left
    ·simp only [Act.put, List.setIfInBounds_toArray, List.set_cons_zero, List.set_cons_succ, i64_w, i32_w]
     rfl
    refine pure_ (i := 2) (N := some 48) (v := ?_) (a' := ?_) #[true, true, true, false, false, false, false, false] rfl rfl (any_of HT_.out (by kernel_rfl)) (fun _ _ _ h => h) (Or.inl ⟨by rfl, ?_⟩) ?_ ?_
    rotate_left
    ·intro w'
     go_simp
     with_reducible rfl
    rotate_left
    ·simp only [Act.put, List.setIfInBounds_toArray, List.set_cons_zero, List.set_cons_succ, i64_w, i32_w]
     rfl
    refine take_ (i := 3) (N := some 49) (v := ?_) (a' := ?_) #[true, true, true, true, false, false, false, false] rfl rfl (take_ofW HT_.out HW_.out (by kernel_rfl)) (fun _ _ _ h => h) (Or.inl ⟨by rfl, ?_⟩) hHeld ?_ ?_
    rotate_left
    ·rintro w' ⟨s2, s7⟩
     go_simp
     with_reducible rfl
    rotate_left
    ·simp only [Act.put, List.setIfInBounds_toArray, List.set_cons_zero, List.set_cons_succ, i64_w, i32_w]
     rfl
    refine pure_ (i := 4) (N := some 50) (v := ?_) (a' := ?_) #[true, true, true, true, true, false, false, false] rfl rfl (any_of HT_.out (by kernel_rfl)) (fun _ _ _ h => h) (Or.inl ⟨by rfl, ?_⟩) ?_ ?_
    rotate_left
    ·intro w'
     go_simp
     with_reducible rfl
    rotate_left
    ·simp only [Act.put, List.setIfInBounds_toArray, List.set_cons_zero, List.set_cons_succ, i64_w, i32_w]
     rfl
    have cs5 : wzb.cell? ⟨w.heap.size + 1, 8, none⟩ = some (.int .i64 r.stop) := (blk_cell K5d.out 8).trans rfl
    have cf5 := blk_frozen K5d.out 8
    refine one_ (i := 5) (N := none) #[true, true, true, true, true, true, false, false] rfl rfl (one_of HT_.out (by kernel_rfl)) (by decide) (fun K hK => ?_)
    refine skip_ (w1 := (wzb.setCell ⟨w.heap.size + 1, 8, none⟩ (.int .i64 p.at_))) (by rfl) rfl ?_ ?_
    ·go_simp
    have K7e : Hd ((wzb.setCell ⟨w.heap.size + 1, 8, none⟩ (.int .i64 p.at_)).heap[q7]? = some (Obj.cells (pastCs p) 36 (0, 0))) := hd (blk_far K7d.out hq5 _)
    have K5e : Hd ((wzb.setCell ⟨w.heap.size + 1, 8, none⟩ (.int .i64 p.at_)).heap[w.heap.size + 1]? = some (Obj.cells (runCs ({ r with acc := p.acc, usr := p.usr, nodes := p.nodes, cores := p.cores, stop := p.at_ })) 56 (0, 0))) := hd (blk_put (cs := runCs ({ r with acc := p.acc, usr := p.usr, nodes := p.nodes, cores := p.cores })) K5d.out 8 _ rfl)
    have K4e : Hd ((wzb.setCell ⟨w.heap.size + 1, 8, none⟩ (.int .i64 p.at_)).heap[w.heap.size]? = some (Obj.cells zero56 56 (0, 0))) := hd (blk_far K4d.out (by show w.heap.size ≠ w.heap.size + 1; omega) _)
    have KBe : Hd (Below w.heap.size w (wzb.setCell ⟨w.heap.size + 1, 8, none⟩ (.int .i64 p.at_))) := hd (below_set KBd.out (Nat.le_succ _))
    refine hK.out _ _ ⟨(blk_cell K7e.out 2).trans rfl, (blk_cell K7e.out 7).trans rfl⟩ (fun hHeld => ?_)
    clear hK K cs5 cf5 K7d K5d K4d KBd
    generalize wzb.setCell ⟨w.heap.size + 1, 8, none⟩ (.int .i64 p.at_) = wzb5 at K7e K5e K4e KBe hHeld ⊢
    have K7d := K7e
    have K5d := K5e
    have K4d := K4e
    have KBd := KBe
    clear K7e K5e K4e KBe
    refine pure_ (i := 6) (N := some 51) (v := ?_) (a' := ?_) #[true, true, true, true, true, true, true, false] rfl rfl (any_of HT_.out (by kernel_rfl)) (fun _ _ _ h => h) (Or.inl ⟨by rfl, ?_⟩) ?_ ?_
    rotate_left
    ·intro w'
     go_simp
     with_reducible rfl
    rotate_left
    ·simp only [Act.put, List.setIfInBounds_toArray, List.set_cons_zero, List.set_cons_succ, i64_w, i32_w]
     rfl
    have cs7 : wzb5.cell? ⟨w.heap.size + 1, 5, none⟩ = some (.int .u8 r.st) := (blk_cell K5d.out 5).trans rfl
    have cf7 := blk_frozen K5d.out 5
    refine last_ (i := 7) (N := none) #[true, true, true, true, true, true, true, true] rfl rfl (one_of HT_.out (by kernel_rfl)) (by decide) (fun K hK => ?_)
    refine skip_ (w1 := (wzb5.setCell ⟨w.heap.size + 1, 5, none⟩ (.int .u8 p.st))) (by rfl) rfl ?_ ?_
    ·go_simp
    have K7e : Hd ((wzb5.setCell ⟨w.heap.size + 1, 5, none⟩ (.int .u8 p.st)).heap[q7]? = some (Obj.cells (pastCs p) 36 (0, 0))) := hd (blk_far K7d.out hq5 _)
    have K5e : Hd ((wzb5.setCell ⟨w.heap.size + 1, 5, none⟩ (.int .u8 p.st)).heap[w.heap.size + 1]? = some (Obj.cells (runCs ({ r with acc := p.acc, usr := p.usr, nodes := p.nodes, cores := p.cores, stop := p.at_, st := p.st })) 56 (0, 0))) := hd (blk_put (cs := runCs ({ r with acc := p.acc, usr := p.usr, nodes := p.nodes, cores := p.cores, stop := p.at_ })) K5d.out 5 _ rfl)
    have K4e : Hd ((wzb5.setCell ⟨w.heap.size + 1, 5, none⟩ (.int .u8 p.st)).heap[w.heap.size]? = some (Obj.cells zero56 56 (0, 0))) := hd (blk_far K4d.out (by show w.heap.size ≠ w.heap.size + 1; omega) _)
    have KBe : Hd (Below w.heap.size w (wzb5.setCell ⟨w.heap.size + 1, 5, none⟩ (.int .u8 p.st))) := hd (below_set KBd.out (Nat.le_succ _))
    refine hK.out _ _ ?_
    clear hK K cs7 cf7 K7d K5d K4d KBd
    generalize wzb5.setCell ⟨w.heap.size + 1, 5, none⟩ (.int .u8 p.st) = wzb7 at K7e K5e K4e KBe ⊢
    have K7d := K7e
    have K5d := K5e
    have K4d := K4e
    have KBd := KBe
    clear K7e K5e K4e KBe
    refine done_ (done_of HT_.out (by kernel_rfl)) ?_
    clear HT_ HW_
    go_wp2
    have e : runK P id 2 = { r with acc := p.acc, usr := p.usr, nodes := p.nodes, cores := p.cores, stop := p.at_, st := p.st } := by
     show upd P id 3 with3 (runK P id 3) = _
     rw [HRR.out]
     unfold upd
     rw [hg]
     rfl
    exact ⟨⟨2, by omega, rfl, hd (by rw [e]; exact K5d.out), hd (K4d.out), hd (KBd.out)⟩, by simp [intOf]⟩
end Go.Proofs.Ytinpgejkkfpckaa.Pr
end
