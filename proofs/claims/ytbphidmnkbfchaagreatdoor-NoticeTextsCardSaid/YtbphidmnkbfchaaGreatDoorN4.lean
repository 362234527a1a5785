/-
  The walks of notice's Read, at a notification and a refresh.
-/
import Derived.Test.YtbphidmnkbfchaaGreatDoorN3
import Derived.WideMake
import Derived.MapKept
import Derived.Outline
namespace Go.Proofs.YtbphidmnkbfchaaGreatDoor
open Go.RowKit Go.Proofs.YtbphidmnkbfchaaGreatDoorW.PrintWords Go.Proofs.YtbphidmnkbfchaaGreatDoorW.PrintLast Go.Proofs.YtbphidmnkbfchaaGreatDoorW.PrintMore
set_option linter.unusedVariables false
set_option linter.unusedSimpArgs false

/-- The world with another map at r. -/
def setMap (W : World) (r : Nat) (es : Array MapEntry) (clk : Nat) : World := { W with heap := W.heap.setIfInBounds r (.map es clk) }
theorem setMap_at {W : World} {r : Nat} {o : Obj} (h : W.heap[r]? = some o) (es : Array MapEntry) (clk : Nat) : (setMap W r es clk).heap[r]? = some (.map es clk) := by
  have hlt := blk_lt h
  simp [setMap, Array.getElem?_setIfInBounds, hlt]
theorem setMap_below {B : Nat} {a W : World} {r : Nat} (h : Below B a W) (hr : B ≤ r) (es : Array MapEntry) (clk : Nat) : Below B a (setMap W r es clk) :=
  ⟨h.os, h.tape, h.output, by simp [setMap]; exact h.size, fun k hk => by
    rw [← h.block k hk]
    simp [setMap, Array.getElem?_setIfInBounds]
    intro e
    omega⟩
theorem put_run {W : World} {r t kt et : Nat} {d : TypeDesc} {es : Array MapEntry} {clk : Nat} (hm : Tryz.prog.underlying t = some (.map kt et)) (hd : Tryz.prog.underlying kt = some d) (k v : Value) (hk : MapKept.IsKey d k) (h : W.heap[r]? = some (.map es clk)) (hf : Instr.findNow d k es.toList 0 = some none) :
    (Instr.mapUpdate t (.map (some r)) k v).run Tryz.prog W = .ok () (setMap W r (es.push { key := k, val := v, born := clk }) (clk + 1)) := by
  have hc := MapKept.run_checkKey (P := Tryz.prog) (w := W) hd hk false 9999
  simp [Instr.mapUpdate, run_underlying hm, MapKept.run_getObj_map h, hc, MapKept.run_findKey hd hf, MapKept.run_setObj_map _ h, Result.andThen, setMap]
theorem look_run {W : World} {r t kt et : Nat} {d : TypeDesc} {es : Array MapEntry} {clk : Nat} (hm : Tryz.prog.underlying t = some (.map kt et)) (hd : Tryz.prog.underlying kt = some d) (k v : Value) (i : Nat) (hk : MapKept.IsKey d k) (h : W.heap[r]? = some (.map es clk)) (hf : Instr.findNow d k es.toList 0 = some (some (i, v))) :
    (Instr.lookup t (.map (some r)) k true).run Tryz.prog W = .ok (.tuple #[v, .bool true]) W := by
  have hc := MapKept.run_checkKey (P := Tryz.prog) (w := W) hd hk es.isEmpty 9999
  simp [Instr.lookup, run_underlying hm, MapKept.run_getObj_map h, hc, MapKept.run_findKey hd hf, Result.andThen]
theorem und111 : Tryz.prog.underlying 111 = some (.map 5 109) := by kernel_rfl
def fv (f : Nat) : Value := .func (.func f) #[] #[]
/-- The map of readers: one entry more each. -/
def rdE : Nat → Array MapEntry
  | 0 => #[]
  | 1 => #[⟨.int .u8 1, fv 78, 0⟩]
  | 2 => #[⟨.int .u8 1, fv 78, 0⟩, ⟨.int .u8 2, fv 80, 1⟩]
  | 3 => #[⟨.int .u8 1, fv 78, 0⟩, ⟨.int .u8 2, fv 80, 1⟩, ⟨.int .u8 3, fv 81, 2⟩]
  | 4 => #[⟨.int .u8 1, fv 78, 0⟩, ⟨.int .u8 2, fv 80, 1⟩, ⟨.int .u8 3, fv 81, 2⟩, ⟨.int .u8 4, fv 82, 3⟩]
  | _ => #[⟨.int .u8 1, fv 78, 0⟩, ⟨.int .u8 2, fv 80, 1⟩, ⟨.int .u8 3, fv 81, 2⟩, ⟨.int .u8 4, fv 82, 3⟩, ⟨.int .u8 5, fv 83, 4⟩]
theorem rd_step (W : World) (r : Nat) (k : Int) (f n : Nat) (h : W.heap[r]? = some (.map (rdE n) n)) (hn : rdE (n + 1) = (rdE n).push ⟨.int .u8 k, fv f, n⟩) (hf : Instr.findNow (.int .u8) (.int .u8 k) (rdE n).toList 0 = some none) (B : Nat) (a : World) (hb : Below B a W) (hr : B ≤ r) :
    ∃ W', (Instr.mapUpdate 111 (.map (some r)) (.int .u8 k) (.func (.func f) #[] #[])).run Tryz.prog W = .ok () W' ∧ W'.heap[r]? = some (.map (rdE (n + 1)) (n + 1)) ∧ Below B a W' :=
  ⟨_, put_run und111 Tryz.underlying5 (.int .u8 k) (fv f) (by simp [MapKept.IsKey]) h hf, by rw [hn]; exact setMap_at h _ _, setMap_below hb hr _ _⟩

set_option maxHeartbeats 1600000 in
set_option maxRecDepth 100000 in
theorem reads_calls (w : World) : Calls Tryz.prog 31 #[] w fun e w' => e = .returned (.map (some w.heap.size)) ∧ w'.heap[w.heap.size]? = some (.map (rdE 5) 5) ∧ Below w.heap.size w w' := by
  have h0 : (w.alloc (.map #[] 0)).heap[w.heap.size]? = some (.map (rdE 0) 0) := heap_alloc_new w _
  have b0 := below_alloc (Below.refl w.heap.size w) (.map #[] 0)
  obtain ⟨W1, r1, h1, b1⟩ := rd_step _ w.heap.size 1 78 0 h0 rfl rfl w.heap.size w b0 (Nat.le_refl _)
  obtain ⟨W2, r2, h2, b2⟩ := rd_step _ w.heap.size 2 80 1 h1 rfl rfl w.heap.size w b1 (Nat.le_refl _)
  obtain ⟨W3, r3, h3, b3⟩ := rd_step _ w.heap.size 3 81 2 h2 rfl rfl w.heap.size w b2 (Nat.le_refl _)
  obtain ⟨W4, r4, h4, b4⟩ := rd_step _ w.heap.size 4 82 3 h3 rfl rfl w.heap.size w b3 (Nat.le_refl _)
  obtain ⟨W5, r5, h5, b5⟩ := rd_step _ w.heap.size 5 83 4 h4 rfl rfl w.heap.size w b4 (Nat.le_refl _)
  have H5 := Aside0.mk h5
  have hmm := @run_makeMap_plain Tryz.prog
  clear h0 h1 h2 h3 h4 h5 b0 b1 b2 b3 b4
  go_enter Tryz.func31, Tryz.ntmps31
  go_wp2_with fail
  go_ret
  exact ⟨rfl, H5.out, b5⟩
end Go.Proofs.YtbphidmnkbfchaaGreatDoor
