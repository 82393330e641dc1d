/-
  Maps with keys of two whole numbers (account's 'key'): what a map holds is a list of entries in the order in which they came; looking up and laying in are the plain ones.
-/
import Derived.Test.YtinpgejkkfpckaaChecked
import Derived.Test.YtinpgejkkfpckaaWEqStruct
import Derived.Maps.OwnSet
import Derived.WideKeyRuns
import Derived.MapKept
namespace Go.Proofs.Ytinpgejkkfpckaa.Pr
open Go.RowKit Go.Maps Go.ChangeMaps Go.Proofs.YtinpgejkkfpckaaW.PrintWords
set_option linter.unusedVariables false
set_option linter.unusedSimpArgs false
def keyV (a b : Int) : Value := .agg #[.int .i64 a, .int .u8 b]
theorem u74 : Try.prog.underlying 74 = some (.struct #[{ name := "id", type := 3, offset := 0, embedded := false, tag := "", pkgPath := "muster/account", byteOffset := 0 }, { name := "what", type := 33, offset := 1, embedded := false, tag := "", pkgPath := "muster/account", byteOffset := 8 }]) := by kernel_rfl
theorem u68 : Try.prog.underlying 68 = some (.map 74 36) := by kernel_rfl
theorem u3 : Try.prog.underlying 3 = some (.int .i64) := by kernel_rfl
theorem u33 : Try.prog.underlying 33 = some (.int .u8) := by kernel_rfl
theorem eq_int {d : Nat} {t : TypeId} {q : IntKind} (hu : Try.prog.underlying t = some (.int q)) (a b : Int) (w : World) : (Op.equalIn (d + 1) t (.int q a) (.int q b)).run Try.prog w = .ok (a == b) w := by
  unfold Op.equalIn
  simp [underlying, hu]
theorem equal_key (a b c d : Int) (w : World) : (Op.equal 74 (keyV a b) (keyV c d)).run Try.prog w = .ok ((a == c) && (b == d)) w := by
  unfold Op.equal
  refine eqA_of u74 (by kernel_rfl) ?_
  refine eqf_cons (by rfl) (a := .int .i64 a) (b := .int .i64 c) ?_ ?_ (eq_int u3 a c w) (eqf_last (by rfl) (a := .int .u8 b) (b := .int .u8 d) ?_ ?_ (eq_int u33 b d w))
  all_goals first | rfl | (simp [part, Sem.run_bind]; done) | kernel_rfl
theorem check_int {t : TypeId} {q : IntKind} (hu : Try.prog.underlying t = some (.int q)) (em : Bool) (n : Nat) (a : Int) (w : World) : (Instr.checkKey em (n + 1) t (.int q a)).run Try.prog w = .ok () w := by
  simp [Instr.checkKey, run_underlying hu]
theorem part0 (a b : Int) (w : World) : (part 3 #[.int .i64 a, .int .u8 b] 0).run Try.prog w = .ok (.int .i64 a) w := by first | rfl | (simp [part, Sem.run_bind]; done)
theorem part1 (a b : Int) (w : World) : (part 33 #[.int .i64 a, .int .u8 b] 1).run Try.prog w = .ok (.int .u8 b) w := by first | rfl | (simp [part, Sem.run_bind]; done)
theorem check_key (em : Bool) (a b : Int) (w : World) : (Instr.checkKey em 10000 74 (keyV a b)).run Try.prog w = .ok () w := by
  show (Instr.checkKey em (9999 + 1) 74 (keyV a b)).run Try.prog w = .ok () w
  unfold Instr.checkKey
  simp only [keyV, Sem.run_bind, run_underlying u74, Result.andThen_ok]
  have e1 := check_int u3 em 9998 a w
  have e2 := check_int u33 em 9998 b w
  simp [part0, part1, e1, e2, Sem.run_bind, Result.andThen]
abbrev Ent := (Int × Int) × Value
def entK (p : Ent) : Value := keyV p.1.1 p.1.2
def isK (a b : Int) (p : Ent) : Bool := (a == p.1.1) && (b == p.1.2)
/-- The block is a map that holds these entries, in this order. -/
def MapIs (w : World) (m : Nat) (L : List Ent) : Prop := ∃ es clock, w.heap[m]? = some (.map es clock) ∧ es.toList.map (fun e => (e.key, e.val)) = (L.map fun p => (entK p, p.2)) ∧ (es.toList.map (·.born)).Nodup ∧ ∀ x ∈ es.toList, x.born < clock
def findL (a b : Int) : List Ent → Nat → Option (Nat × Value)
  | [], _ => none
  | p :: t, i => if isK a b p = true then some (i, p.2) else findL a b t (i + 1)
theorem asking (a b : Int) (w : World) : ∀ (es : List MapEntry) (L : List Ent) (i : Nat), es.map (fun e => (e.key, e.val)) = L.map (fun p => (entK p, p.2)) → (Instr.findAsking 74 (keyV a b) es i).run Try.prog w = .ok (findL a b L i) w
  | [], [], i, _ => by simp [Instr.findAsking, findL]
  | [], _ :: _, i, h => by simp at h
  | _ :: _, [], i, h => by simp at h
  | e :: es, p :: L, i, h => by
    simp only [List.map_cons, List.cons.injEq, Prod.mk.injEq] at h
    obtain ⟨⟨h1, h2⟩, h3⟩ := h
    have ih := asking a b w es L (i + 1) h3
    have he : (Op.equal 74 (keyV a b) e.key).run Try.prog w = .ok (isK a b p) w := by rw [h1]; exact equal_key a b p.1.1 p.1.2 w
    rw [findL]
    cases hb : isK a b p
    · rw [hb] at he
      simp [Instr.findAsking, he, ih]
    · rw [hb] at he
      simp [Instr.findAsking, he, h2]
theorem found {w : World} {m : Nat} {L : List Ent} (a b : Int) {es : Array MapEntry} (h : es.toList.map (fun e => (e.key, e.val)) = L.map fun p => (entK p, p.2)) : (Instr.findKey 74 (keyV a b) es.toList).run Try.prog w = .ok (findL a b L 0) w := by
  rw [run_findKey_eq w (by rw [u74])]
  exact asking a b w es.toList L 0 h
theorem look_run {w : World} {m : Nat} {L : List Ent} (h : MapIs w m L) {z : Value} (hz : (zeroValue 36).run Try.prog w = .ok z w) (a b : Int) :
    (Instr.lookup 68 (.map (some m)) (keyV a b) true).run Try.prog w = .ok (.tuple #[((findL a b L 0).map (·.2)).getD z, .bool (findL a b L 0).isSome]) w := by
  obtain ⟨es, clock, hb, he, hnd, hlt⟩ := h
  have hf := found (w := w) (m := m) a b he
  cases hL : findL a b L 0 with
  | none =>
    rw [hL] at hf
    simp [Instr.lookup, run_underlying u68, MapKept.run_getObj_map hb, check_key, hf, hz, Result.andThen]
  | some q =>
    rw [hL] at hf
    simp [Instr.lookup, run_underlying u68, MapKept.run_getObj_map hb, check_key, hf, Result.andThen]
theorem put_run {w : World} {m : Nat} {L : List Ent} (h : MapIs w m L) (a b : Int) (hno : findL a b L 0 = none) (v : Value) :
    ∃ w', (Instr.mapUpdate 68 (.map (some m)) (keyV a b) v).run Try.prog w = .ok () w' ∧ MapIs w' m (L ++ [((a, b), v)]) ∧ w.grownBy w' (some m) := by
  obtain ⟨es, clock, hb, he, hnd, hlt⟩ := h
  have hf := found (w := w) (m := m) a b he
  rw [hno] at hf
  refine ⟨setBlock w m (.map (es.push ⟨keyV a b, v, clock⟩) (clock + 1)), ?_, ⟨_, _, heap_setBlock_same hb _, by simp [he, entK], by
    rw [Array.toList_push, List.map_append, List.nodup_append]
    refine ⟨hnd, by simp, fun x hx y hy e => ?_⟩
    obtain ⟨z, hz, rfl⟩ := List.mem_map.1 hx
    have := hlt z hz
    simp at hy
    omega, by
    intro x hx
    rw [Array.toList_push, List.mem_append, List.mem_singleton] at hx
    rcases hx with hx | rfl
    · have := hlt x hx
      omega
    · show clock < clock + 1
      omega⟩, ⟨rfl, rfl, rfl, by simp [setBlock], fun i _ hi => heap_setBlock_other hb _ (fun e => hi (by rw [e]))⟩⟩
  simp [Instr.mapUpdate, run_underlying u68, MapKept.run_getObj_map hb, check_key, hf, MapKept.run_setObj_map _ hb, Result.andThen, setBlock]
end Go.Proofs.Ytinpgejkkfpckaa.Pr
