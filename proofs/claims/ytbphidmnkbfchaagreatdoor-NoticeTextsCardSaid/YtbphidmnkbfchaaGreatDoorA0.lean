/-
  Plain words on worlds for this seat's walks: what a method on a reader or a writer may turn, by the types of blocks.
-/
import Derived.Test.YtbphidmnkbfchaaGreatDoorProg
import Derived.Test.YtbphidmnkbfchaaGreatDoorWNEv
import Derived.Test.YtbphidmnkbfchaaGreatDoorWMore
namespace Go.Proofs.YtbphidmnkbfchaaGreatDoor
open Go.RowKit Go.Proofs.YtbphidmnkbfchaaGreatDoorW.PrintWords Go.Proofs.YtbphidmnkbfchaaGreatDoorW.PrintLast Go.Proofs.YtbphidmnkbfchaaGreatDoorW.PrintMore

/-- Block k has cells of type t. -/
def TyB (w : World) (k t : Nat) : Prop := ∃ cells fr, w.heap[k]? = some (.cells cells t fr)

/-- All blocks below B, and all blocks of other types than ts, are as they were. -/
structure KT (B : Nat) (ts : List Nat) (w w' : World) : Prop where
  os : w'.os = w.os
  tape : w'.tape = w.tape
  output : w'.output = w.output
  size : w.heap.size ≤ w'.heap.size
  block : ∀ k, k < w.heap.size → (k < B ∨ ∀ t, TyB w k t → t ∉ ts) → w'.heap[k]? = w.heap[k]?

theorem KT.refl (B : Nat) (ts : List Nat) (w : World) : KT B ts w w := ⟨rfl, rfl, rfl, Nat.le_refl _, fun _ _ _ => rfl⟩
theorem TyB.lt {w : World} {k t : Nat} (h : TyB w k t) : k < w.heap.size := by
  obtain ⟨c, fr, h⟩ := h
  exact (Array.getElem?_eq_some_iff.1 h).1
theorem TyB.same {w w' : World} {k t : Nat} (h : w'.heap[k]? = w.heap[k]?) (h1 : TyB w k t) : TyB w' k t := by
  obtain ⟨c, fr, h2⟩ := h1
  exact ⟨c, fr, h.trans h2⟩
theorem TyB.uniq {w : World} {k t t' : Nat} (h : TyB w k t) (h' : TyB w k t') : t = t' := by
  obtain ⟨c, fr, h⟩ := h
  obtain ⟨c', fr', h'⟩ := h'
  rw [h] at h'
  injection h' with h'
  injection h' with _ h' _
theorem KT.trans {B : Nat} {ts : List Nat} {a b c : World} (h : KT B ts a b) (k : KT B ts b c) : KT B ts a c :=
  ⟨k.os.trans h.os, k.tape.trans h.tape, k.output.trans h.output, Nat.le_trans h.size k.size, fun i hi hp => by
    rw [k.block i (Nat.lt_of_lt_of_le hi h.size) ?_, h.block i hi hp]
    rcases hp with hp | hp
    · exact .inl hp
    · exact .inr fun t ht => hp t (TyB.same (h.block i hi (.inr hp)).symm ht)⟩
theorem KT.mono {B B' : Nat} {ts ts' : List Nat} {a b : World} (h : KT B ts a b) (hB : B' ≤ B) (ht : ∀ t, t ∈ ts → t ∈ ts') : KT B' ts' a b :=
  ⟨h.os, h.tape, h.output, h.size, fun i hi hp => h.block i hi (by
    rcases hp with hp | hp
    · exact .inl (by omega)
    · exact .inr fun t h1 h2 => hp t h1 (ht t h2))⟩
theorem KT.below {B : Nat} {ts : List Nat} {a b : World} (h : KT B ts a b) (hB : B ≤ a.heap.size) : Below B a b :=
  ⟨h.os, h.tape, h.output, h.size, fun i hi => h.block i (by omega) (.inl hi)⟩
theorem KT.of_below {B : Nat} {ts : List Nat} {a b : World} (h : Below a.heap.size a b) : KT B ts a b :=
  ⟨h.os, h.tape, h.output, h.size, fun i hi _ => h.block i hi⟩
theorem KT.alloc {B : Nat} {ts : List Nat} {a b : World} (h : KT B ts a b) (o : Obj) : KT B ts a (b.alloc o) :=
  h.trans (.of_below (below_alloc (Below.refl _ _) o))
theorem KT.drew {B : Nat} {ts : List Nat} {a b : World} (h : KT B ts a b) : KT B ts a b.drew := h.trans (.of_below (below_drew (Below.refl _ _)))
theorem KT.drewN {B : Nat} {ts : List Nat} {a b : World} (h : KT B ts a b) (n : Nat) : KT B ts a (b.drewN n) := h.trans (.of_below (pw_below_drewN (Below.refl _ _) n))
/-- A store into a block from B on, of a type of ts. -/
theorem KT.setCell {B : Nat} {ts : List Nat} {a b : World} (h : KT B ts a b) {p : Addr} (hp : B ≤ p.block) {t : Nat} (ht : TyB b p.block t) (hm : t ∈ ts) (u : Value) : KT B ts a (b.setCell p u) :=
  h.trans ⟨rfl, rfl, rfl, by simp [World.setCell], fun k hk hq => Below.heap_setCell _ _ _ _ (fun e => by
    subst e
    rcases hq with hq | hq
    · omega
    · exact hq t ht hm)⟩
/-- Behind an append to a row of type t. -/
theorem KT.grown {B : Nat} {ts : List Nat} {a b c : World} (h : KT B ts a b) {row : Option Nat} (hg : b.grownBy c row) (hr : ∀ k, row = some k → B ≤ k ∧ ∃ t, t ∈ ts ∧ TyB b k t) : KT B ts a c :=
  h.trans ⟨hg.os, hg.tape, hg.output, hg.size, fun k hk hq => hg.block k hk (fun e => by
    obtain ⟨h1, t, ht, h2⟩ := hr k e.symm
    rcases hq with hq | hq
    · omega
    · exact hq t h2 ht)⟩

section
variable {α : Type} {d : Kd α} {e B B' n : Nat} {E ts : List Nat} {w w' : World} {v : Value} {xs : List α} {A : Option Addr}
/-- A row of the call's own, deep, that a method does not turn: its blocks are of other types. -/
theorem R_kt {ok : Nat → Prop} (h : d.R e w B ok v xs) (hk : KT B' ts w w') (ht : ∀ q, q ∈ e :: d.E → q ∉ ts) : d.R e w' B ok v xs := by
  refine Kd.R_mono (Kd.R_move (Kd.R_bound h) (fun k hq => hk.block k hq.2.2.1 (.inr fun t hT => ?_))) (fun _ hq => hq.1)
  obtain ⟨_, _, _, q, hq, c, hc⟩ := hq
  rw [TyB.uniq hT ⟨c, _, hc⟩]
  exact ht q hq
theorem R_tyB {ok : Nat → Prop} (h : d.R e w B ok v xs) (k : Nat) (hk : v.ownBlock = some k) : TyB w k e := by
  obtain ⟨inner, ho⟩ := Kd.R_own h
  obtain ⟨c, hc⟩ := own_typed ho k hk
  exact ⟨c, _, hc⟩
/-- Rows of other types are apart. -/
theorem R_apart {α' : Type} {d' : Kd α'} {e' : Nat} {ok ok' : Nat → Prop} {v' : Value} {ys : List α'} (h : d.R e w B ok v xs) (h' : d'.R e' w B' ok' v' ys) (ht : ∀ q, q ∈ e :: d.E → q ≠ e') : d.R e w B (fun k => ok k ∧ some k ≠ v'.ownBlock) v xs := by
  refine Kd.R_mono (Kd.R_bound h) (fun k hq => ⟨hq.1, fun he => ?_⟩)
  obtain ⟨_, _, _, q, hq, c, hc⟩ := hq
  exact ht q hq (TyB.uniq ⟨c, _, hc⟩ (R_tyB h' k he.symm))
/-- What was there ahead of a new block is not that block. -/
theorem R_elder {ok : Nat → Prop} (h : d.R e w B ok v xs) : d.R e w B (fun k => ok k ∧ k < w.heap.size) v xs :=
  Kd.R_mono (Kd.R_bound h) (fun _ hq => ⟨hq.1, hq.2.2.1⟩)
theorem below_kt {w0 : World} (hB : B ≤ w0.heap.size) (hb : Below B w0 w) (hk : KT B ts w w') : Below B w0 w' :=
  hb.trans (hk.below (Nat.le_trans hB hb.size))
theorem blk_kt {g t : Nat} {cs : Array Value} {fr : Nat × Nat} (h : w.heap[g]? = some (.cells cs t fr)) (hk : KT B ts w w') (ht : t ∉ ts) : w'.heap[g]? = some (.cells cs t fr) :=
  (hk.block g (blk_lt h) (.inr fun t' hT => by rw [TyB.uniq hT ⟨_, _, h⟩]; exact ht)).trans h
theorem TyB.alloc {k t : Nat} (h : TyB w k t) (o : Obj) : TyB (w.alloc o) k t := TyB.same (Below.heap_alloc w o k h.lt) h
theorem cell_alloc {a : Addr} {v : Value} (h : w.cell? a = some v) (o : Obj) : (w.alloc o).cell? a = some v := pw_cell_below (below_alloc (Below.refl _ _) o) h
end
end Go.Proofs.YtbphidmnkbfchaaGreatDoor
