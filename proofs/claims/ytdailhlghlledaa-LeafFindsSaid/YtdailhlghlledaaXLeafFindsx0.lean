-- Printed for this claim by a program (wip/printx) that builds on the kit's print. Not trusted: Lean checks it.
import Derived.Test.YtdailhlghlledaaProg
import Derived.Below
import Derived.Deep.Draws
import Derived.Deep.AppendLies
import Derived.Maps.AppendAt
import Derived.OwnWalk
import Derived.Laws.BytesArg
import Derived.Laws.MakeOwn
import Derived.Laws.OwnMore
import Derived.Deep.OwnRows
import Derived.Tactics
import Derived.Lib.ConvBytes
import Derived.Laws.Slices
import Derived.WalkKit
import Derived.KernelRfl
import Derived.RowKit3
import Derived.Deep.LoopGhost
import Derived.Deep.QuietTactic
import Derived.BigQuiet
import Derived.WideLaws
import Derived.Deep.DeepCutAuto
import Derived.Deep.CutBlock
import Derived.Deep.RegionHeld3
import Derived.Laws.Rows
import Derived.Lib.AppendStr
import Derived.ArgAppend
import Derived.Laws.IdiomCopy
import Derived.OrdersHeld
import Derived.Laws.BitsLemmas
import Derived.RowKit
import Derived.LaidEql
import Derived.Laws.CopyOwn
import Derived.Laws.Cover1
import Derived.Test.YtdailhlghlledaaWWords
import Derived.Test.YtdailhlghlledaaWLast
import Derived.Test.YtdailhlghlledaaWTab
import Derived.Test.YtdailhlghlledaaWFour
import Derived.Test.YtdailhlghlledaaWQPut
import Derived.Test.YtdailhlghlledaaWApart
import Derived.Test.YtdailhlghlledaaWArr
import Derived.Test.YtdailhlghlledaaWZeros
import Derived.Test.YtdailhlghlledaaWFoot
import Derived.Test.YtdailhlghlledaaWKept
import Derived.Test.YtdailhlghlledaaWShare
import Derived.Test.YtdailhlghlledaaWN
import Derived.Test.YtdailhlghlledaaWFootNe
import Derived.Test.YtdailhlghlledaaWAt
import Derived.Test.YtdailhlghlledaaWEqStruct
import Derived.Test.YtdailhlghlledaaWRepsOne
import Derived.Test.YtdailhlghlledaaWInv
import Derived.Test.YtdailhlghlledaaWInvWords
import Derived.Test.YtdailhlghlledaaWGuard
import Derived.Test.YtdailhlghlledaaWNEv
import Derived.Test.YtdailhlghlledaaWMore
namespace Go.Proofs.Ytdailhlghlledaa.XLeafFinds
open Go.RowKit Go.Proofs.YtdailhlghlledaaW.PrintWords Go.Proofs.YtdailhlghlledaaW.PrintLast Go.Proofs.YtdailhlghlledaaW.PrintMore
attribute [local go_sem] max2_int min2_int max_two min_two max_three min_three max_four min_four   -- for this text's walks alone
set_option linter.unusedVariables false
set_option linter.unusedSimpArgs false



def errW (E : Int → Addr) : Option Int → Value
  | none => .nilIface
  | some c => .iface 0 (.pointer (some (E c)))
theorem errW_none (E : Int → Addr) : errW E none = .nilIface := rfl
theorem errW_some (E : Int → Addr) (c : Int) : errW E (some c) = .iface 0 (.pointer (some (E c))) := rfl
/-- Where the package-level variables lie, and what they hold. -/
structure Glob (E : Int → Addr) (w : World) : Prop where
  ok : True
theorem Glob.below {E : Int → Addr} {w0 w : World} (h : Glob E w0) (hb : Below w0.heap.size w0 w) : Glob E w where
  ok := trivial
theorem Glob.drewN {E : Int → Addr} {w : World} (h : Glob E w) (n : Nat) : Glob E (w.drewN n) := h.below (pw_below_drewN (Below.refl _ _) n)
theorem Glob.drew {E : Int → Addr} {w : World} (h : Glob E w) : Glob E w.drew := h.below (below_drew (Below.refl _ _))
theorem Glob.alloc {E : Int → Addr} {w : World} (h : Glob E w) (o : Obj) : Glob E (w.alloc o) := h.below (below_alloc (Below.refl _ _) o)

theorem info5 : (Try.prog.info? 5).map (fun i => (i.zero, i.size, i.bytes)) = some (some (.int .u8 0), 1, 1) := by kernel_rfl
theorem info34 : (Try.prog.info? 34).map (fun i => (i.zero, i.size, i.bytes)) = some (some (.agg #[(.string ⟨#[]⟩), (.string ⟨#[]⟩)]), 2, 32) := by kernel_rfl
-- the values' own types
/-! #### struct type 34 -/
structure S34 where
  f0 : ByteArray
  f1 : ByteArray
def z34 : S34 := ⟨(⟨#[]⟩ : ByteArray), (⟨#[]⟩ : ByteArray)⟩
def k34 : Kd S34 := Kd.iso (Kd.pair Kd.string Kd.string) (fun x : S34 => (x.f0, x.f1))
theorem k34_open {w : World} {x : S34} {cs : List Value} (h : k34.K w x cs) : cs = [.string x.f0, .string x.f1] := by
  obtain ⟨_, _, rfl, rfl, rfl⟩ := h
  exact rfl
theorem k34_openM {w : World} {base : Nat} {ok : Nat → Prop} {x : S34} {cs : List Value} (h : k34.M w base ok x cs) : cs = [.string x.f0, .string x.f1] := by
  obtain ⟨_, _, rfl, rfl, rfl⟩ := h
  exact rfl
theorem k34_mk (w : World) (x : S34)  : k34.K w x [.string x.f0, .string x.f1] := ⟨[.string x.f0], [.string x.f1], rfl, rfl, rfl⟩
theorem k34_mkM (w : World) (base : Nat) (ok : Nat → Prop) (x : S34)  : k34.M w base ok x [.string x.f0, .string x.f1] := ⟨[.string x.f0], [.string x.f1], rfl, rfl, rfl⟩
def rd_T34 (xs : List S34) (i : Int) : S34 := xs.getD i.toNat z34
theorem at_T34 {w : World} {A : Option Addr} {n : Nat} {xs : List S34} (h : Kd.C k34 w A n xs) (i : Int) (h0 : 0 ≤ i) (h1 : i < n) : ∃ ad , A = some ad ∧ w.cell? (ad.add (i.toNat * 2)) = some (.string (rd_T34 xs i).f0) ∧ w.cell? ⟨(ad.add (i.toNat * 2)).block, (ad.add (i.toNat * 2)).off + 1, none⟩ = some (.string (rd_T34 xs i).f1) := by
  obtain ⟨ad, c, e, _, hK, hc0⟩ := Kd.C_get h z34 i h0 h1
  have hc : ∀ j u, c[j]? = some u → w.cell? (ad.add (i.toNat * 2 + j)) = some u := hc0
  obtain rfl := k34_open hK
  exact ⟨ad, e, hc 0 _ rfl, by rw [← add_field _ _ 1 (by omega)]; exact hc 1 _ rfl⟩

def rd_L3 (xs : List (List S34)) (i : Int) : (List S34) := xs.getD i.toNat ([] : List S34)
theorem at_L3 {w : World} {A : Option Addr} {n : Nat} {xs : List (List S34)} (h : Kd.C (Kd.slice 34 k34) w A n xs) (i : Int) (h0 : 0 ≤ i) (h1 : i < n) : ∃ ad A0 c0, A = some ad ∧ w.cell? (ad.add i.toNat) = some (.slice A0 (rd_L3 xs i).length c0) ∧ (rd_L3 xs i).length ≤ c0 ∧ k34.C w A0 (rd_L3 xs i).length (rd_L3 xs i) := by
  obtain ⟨ad, c, e, _, hK, hc0⟩ := Kd.C_get h ([] : List S34) i h0 h1
  have hc : ∀ j u, c[j]? = some u → w.cell? (ad.add (i.toNat * 1 + j)) = some u := hc0
  obtain ⟨A0, c0, rfl, l0, g0⟩ := hK
  exact ⟨ad, A0, c0, e, by have hq := hc 0 _ rfl; rwa [Nat.mul_one, Nat.add_zero] at hq, l0, g0⟩

end Go.Proofs.Ytdailhlghlledaa.XLeafFinds
