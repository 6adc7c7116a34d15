-- PRINTED BY print.sh 35421559b90ae4d0a3588c463048766b98c2df88dd9212a6774a882060cdf62d: not written by this session
import Derived.Test.YtcggeaobonblfaaDoorProg
import Derived.Below
import Derived.Deep.Draws
import Derived.Deep.AppendLies
import Derived.Maps.AppendAt
import Derived.OwnWalk
import Derived.Laws.BytesArg
import Derived.Laws.MakeOwn
import Derived.Laws.OwnMore
import Derived.Deep.OwnRows
import Derived.Tactics
import Derived.Lib.ConvBytes
import Derived.Laws.Slices
import Derived.WalkKit
import Derived.KernelRfl
import Derived.RowKit3
import Derived.Deep.LoopGhost
import Derived.Deep.QuietTactic
import Derived.BigQuiet
import Derived.WideLaws
import Derived.Deep.DeepCutAuto
import Derived.Deep.CutBlock
import Derived.Deep.RegionHeld3
import Derived.Laws.Rows
import Derived.Lib.AppendStr
import Derived.ArgAppend
import Derived.Laws.IdiomCopy
import Derived.OrdersHeld
import Derived.Laws.BitsLemmas
import Derived.RowKit
import Derived.Test.YtcggeaobonblfaaDoorWWords
import Derived.Test.YtcggeaobonblfaaDoorWLast
import Derived.Test.YtcggeaobonblfaaDoorWTab
import Derived.Test.YtcggeaobonblfaaDoorWFour
import Derived.Test.YtcggeaobonblfaaDoorWQPut
import Derived.Test.YtcggeaobonblfaaDoorWApart
import Derived.Test.YtcggeaobonblfaaDoorWArr
import Derived.Test.YtcggeaobonblfaaDoorWZeros
import Derived.Test.YtcggeaobonblfaaDoorWFoot
import Derived.Test.YtcggeaobonblfaaDoorWKept
import Derived.Test.YtcggeaobonblfaaDoorWShare
import Derived.Test.YtcggeaobonblfaaDoorWN
import Derived.Test.YtcggeaobonblfaaDoorWFootNe
import Derived.Test.YtcggeaobonblfaaDoorWAt
import Derived.Test.YtcggeaobonblfaaDoorWEqStruct
import Derived.Test.YtcggeaobonblfaaDoorWRepsOne
import Derived.Test.YtcggeaobonblfaaDoorWInv
import Derived.Test.YtcggeaobonblfaaDoorWInvWords
import Derived.Test.YtcggeaobonblfaaDoorWGuard
import Derived.Test.YtcggeaobonblfaaDoorWNEv
import Derived.Test.YtcggeaobonblfaaDoorWMore
namespace Go.Proofs.YtcggeaobonblfaaDoor.PParseTrees
open Go.RowKit Go.Proofs.YtcggeaobonblfaaDoorW.PrintWords Go.Proofs.YtcggeaobonblfaaDoorW.PrintLast Go.Proofs.YtcggeaobonblfaaDoorW.PrintMore
attribute [local go_sem] max2_int min2_int max_two min_two max_three min_three max_four min_four   -- for this text's walks alone
set_option linter.unusedVariables false
set_option linter.unusedSimpArgs false



def errW : Option Int → Value
  | none => .nilIface
  | some c => .iface 0 (.int .i64 c)
theorem errW_none : errW none = .nilIface := rfl
theorem errW_some (c : Int) : errW (some c) = .iface 0 (.int .i64 c) := rfl

theorem info9 : (Tryd.prog.info? 9).map (fun i => (i.zero, i.size, i.bytes)) = some (some (.string ⟨#[]⟩), 1, 16) := by kernel_rfl
theorem info76 : (Tryd.prog.info? 76).map (fun i => (i.zero, i.size, i.bytes)) = some (some (.agg #[(.int .u8 0), (.int .i64 0), (.string ⟨#[]⟩), (.bool false), (.slice none 0 0)]), 5, 64) := by kernel_rfl
-- the values' own types
def rd_L4 (xs : List (List ByteArray)) (i : Int) : (List ByteArray) := xs.getD i.toNat ([] : List ByteArray)
theorem at_L4 {w : World} {A : Option Addr} {n : Nat} {xs : List (List ByteArray)} (h : Kd.C (Kd.slice 9 Kd.string) w A n xs) (i : Int) (h0 : 0 ≤ i) (h1 : i < n) : ∃ ad A0 c0, A = some ad ∧ w.cell? (ad.add i.toNat) = some (.slice A0 (rd_L4 xs i).length c0) ∧ (rd_L4 xs i).length ≤ c0 ∧ Kd.string.C w A0 (rd_L4 xs i).length (rd_L4 xs i) := by
  obtain ⟨ad, c, e, _, hK, hc0⟩ := Kd.C_get h ([] : List ByteArray) i h0 h1
  have hc : ∀ j u, c[j]? = some u → w.cell? (ad.add (i.toNat * 1 + j)) = some u := hc0
  obtain ⟨A0, c0, rfl, l0, g0⟩ := hK
  exact ⟨ad, A0, c0, e, by have hq := hc 0 _ rfl; rwa [Nat.mul_one, Nat.add_zero] at hq, l0, g0⟩

/-! #### struct type 63 -/
structure S63 where
  f0 : Bool
  f1 : (List ByteArray)
def z63 : S63 := ⟨false, ([] : List ByteArray)⟩
def k63 : Kd S63 := Kd.iso (Kd.pair Kd.bool (Kd.slice 9 Kd.string)) (fun x : S63 => (x.f0, x.f1))
theorem k63_open {w : World} {x : S63} {cs : List Value} (h : k63.K w x cs) : ∃ A1 c1, cs = [.bool x.f0, .slice A1 x.f1.length c1] ∧ x.f1.length ≤ c1 ∧ Kd.string.C w A1 x.f1.length x.f1 := by
  obtain ⟨_, _, rfl, rfl, ⟨A1, c1, rfl, l1, g1⟩⟩ := h
  exact ⟨A1, c1, rfl, l1, g1⟩
theorem k63_openM {w : World} {base : Nat} {ok : Nat → Prop} {x : S63} {cs : List Value} (h : k63.M w base ok x cs) : ∃ v1, cs = [.bool x.f0, v1] ∧ Kd.string.R 9 w base ok v1 x.f1 := by
  obtain ⟨_, _, rfl, rfl, ⟨v1, rfl, g1⟩⟩ := h
  exact ⟨v1, rfl, g1⟩
theorem k63_mk (w : World) (x : S63) {A1 : Option Addr} {c1 : Nat} (l1 : x.f1.length ≤ c1) (g1 : Kd.string.C w A1 x.f1.length x.f1) : k63.K w x [.bool x.f0, .slice A1 x.f1.length c1] := ⟨[.bool x.f0], [.slice A1 x.f1.length c1], rfl, rfl, ⟨A1, c1, rfl, l1, g1⟩⟩
theorem k63_mkM (w : World) (base : Nat) (ok : Nat → Prop) (x : S63) {v1 : Value} (g1 : Kd.string.R 9 w base ok v1 x.f1) : k63.M w base ok x [.bool x.f0, v1] := ⟨[.bool x.f0], [v1], rfl, rfl, ⟨v1, rfl, g1⟩⟩
def rd_T63 (xs : List S63) (i : Int) : S63 := xs.getD i.toNat z63
theorem at_T63 {w : World} {A : Option Addr} {n : Nat} {xs : List S63} (h : Kd.C k63 w A n xs) (i : Int) (h0 : 0 ≤ i) (h1 : i < n) : ∃ ad A1 c1, A = some ad ∧ w.cell? (ad.add (i.toNat * 2)) = some (.bool (rd_T63 xs i).f0) ∧ w.cell? ⟨(ad.add (i.toNat * 2)).block, (ad.add (i.toNat * 2)).off + 1, none⟩ = some (.slice A1 (rd_T63 xs i).f1.length c1) ∧ (rd_T63 xs i).f1.length ≤ c1 ∧ Kd.string.C w A1 (rd_T63 xs i).f1.length (rd_T63 xs i).f1 := by
  obtain ⟨ad, c, e, _, hK, hc0⟩ := Kd.C_get h z63 i h0 h1
  have hc : ∀ j u, c[j]? = some u → w.cell? (ad.add (i.toNat * 2 + j)) = some u := hc0
  obtain ⟨A1, c1, rfl, l1, g1⟩ := k63_open hK
  exact ⟨ad, A1, c1, e, hc 0 _ rfl, by rw [← add_field _ _ 1 (by omega)]; exact hc 1 _ rfl, l1, g1⟩

def rd_L6 (xs : List (List Int)) (i : Int) : (List Int) := xs.getD i.toNat ([] : List Int)
theorem at_L6 {w : World} {A : Option Addr} {n : Nat} {xs : List (List Int)} (h : Kd.C (Kd.slice 3 (Kd.int .i64)) w A n xs) (i : Int) (h0 : 0 ≤ i) (h1 : i < n) : ∃ ad A0 c0, A = some ad ∧ w.cell? (ad.add i.toNat) = some (.slice A0 (rd_L6 xs i).length c0) ∧ (rd_L6 xs i).length ≤ c0 ∧ (Kd.int .i64).C w A0 (rd_L6 xs i).length (rd_L6 xs i) := by
  obtain ⟨ad, c, e, _, hK, hc0⟩ := Kd.C_get h ([] : List Int) i h0 h1
  have hc : ∀ j u, c[j]? = some u → w.cell? (ad.add (i.toNat * 1 + j)) = some u := hc0
  obtain ⟨A0, c0, rfl, l0, g0⟩ := hK
  exact ⟨ad, A0, c0, e, by have hq := hc 0 _ rfl; rwa [Nat.mul_one, Nat.add_zero] at hq, l0, g0⟩

/-! #### struct type 66 -/
structure S66 where
  f0 : Int
  f1 : Int
  f2 : ByteArray
  f3 : S63
  f4 : (List Int)
  f5 : (List Int)
  f6 : Bool
  f7 : Int
def z66 : S66 := ⟨(0 : Int), (0 : Int), (⟨#[]⟩ : ByteArray), z63, ([] : List Int), ([] : List Int), false, (0 : Int)⟩
def k66 : Kd S66 := Kd.iso (Kd.pair (Kd.int .u8) (Kd.pair (Kd.int .i64) (Kd.pair Kd.string (Kd.pair k63 (Kd.pair (Kd.slice 3 (Kd.int .i64)) (Kd.pair (Kd.slice 3 (Kd.int .i64)) (Kd.pair Kd.bool (Kd.int .u8)))))))) (fun x : S66 => (x.f0, x.f1, x.f2, x.f3, x.f4, x.f5, x.f6, x.f7))
theorem k66_open {w : World} {x : S66} {cs : List Value} (h : k66.K w x cs) : ∃ A4 c4 A5 c5 A6 c6, cs = [.int .u8 x.f0, .int .i64 x.f1, .string x.f2, .bool x.f3.f0, .slice A4 x.f3.f1.length c4, .slice A5 x.f4.length c5, .slice A6 x.f5.length c6, .bool x.f6, .int .u8 x.f7] ∧ x.f3.f1.length ≤ c4 ∧ Kd.string.C w A4 x.f3.f1.length x.f3.f1 ∧ x.f4.length ≤ c5 ∧ (Kd.int .i64).C w A5 x.f4.length x.f4 ∧ x.f5.length ≤ c6 ∧ (Kd.int .i64).C w A6 x.f5.length x.f5 := by
  obtain ⟨_, _, rfl, rfl, ⟨_, _, rfl, rfl, ⟨_, _, rfl, rfl, ⟨_, _, rfl, s3, ⟨_, _, rfl, ⟨A5, c5, rfl, l5, g5⟩, ⟨_, _, rfl, ⟨A6, c6, rfl, l6, g6⟩, ⟨_, _, rfl, rfl, rfl⟩⟩⟩⟩⟩⟩⟩ := h
  obtain ⟨A4, c4, rfl, l4, g4⟩ := k63_open s3
  exact ⟨A4, c4, A5, c5, A6, c6, rfl, l4, g4, l5, g5, l6, g6⟩
theorem k66_openM {w : World} {base : Nat} {ok : Nat → Prop} {x : S66} {cs : List Value} (h : k66.M w base ok x cs) : ∃ v4 v5 v6, cs = [.int .u8 x.f0, .int .i64 x.f1, .string x.f2, .bool x.f3.f0, v4, v5, v6, .bool x.f6, .int .u8 x.f7] ∧ Kd.string.R 9 w base ok v4 x.f3.f1 ∧ (Kd.int .i64).R 3 w base ok v5 x.f4 ∧ (Kd.int .i64).R 3 w base ok v6 x.f5 := by
  obtain ⟨_, _, rfl, rfl, ⟨_, _, rfl, rfl, ⟨_, _, rfl, rfl, ⟨_, _, rfl, s3, ⟨_, _, rfl, ⟨v5, rfl, g5⟩, ⟨_, _, rfl, ⟨v6, rfl, g6⟩, ⟨_, _, rfl, rfl, rfl⟩⟩⟩⟩⟩⟩⟩ := h
  obtain ⟨v4, rfl, g4⟩ := k63_openM s3
  exact ⟨v4, v5, v6, rfl, g4, g5, g6⟩
theorem k66_mk (w : World) (x : S66) {A4 : Option Addr} {c4 : Nat} (l4 : x.f3.f1.length ≤ c4) (g4 : Kd.string.C w A4 x.f3.f1.length x.f3.f1) {A5 : Option Addr} {c5 : Nat} (l5 : x.f4.length ≤ c5) (g5 : (Kd.int .i64).C w A5 x.f4.length x.f4) {A6 : Option Addr} {c6 : Nat} (l6 : x.f5.length ≤ c6) (g6 : (Kd.int .i64).C w A6 x.f5.length x.f5) : k66.K w x [.int .u8 x.f0, .int .i64 x.f1, .string x.f2, .bool x.f3.f0, .slice A4 x.f3.f1.length c4, .slice A5 x.f4.length c5, .slice A6 x.f5.length c6, .bool x.f6, .int .u8 x.f7] := ⟨[.int .u8 x.f0], [.int .i64 x.f1, .string x.f2, .bool x.f3.f0, .slice A4 x.f3.f1.length c4, .slice A5 x.f4.length c5, .slice A6 x.f5.length c6, .bool x.f6, .int .u8 x.f7], rfl, rfl, ⟨[.int .i64 x.f1], [.string x.f2, .bool x.f3.f0, .slice A4 x.f3.f1.length c4, .slice A5 x.f4.length c5, .slice A6 x.f5.length c6, .bool x.f6, .int .u8 x.f7], rfl, rfl, ⟨[.string x.f2], [.bool x.f3.f0, .slice A4 x.f3.f1.length c4, .slice A5 x.f4.length c5, .slice A6 x.f5.length c6, .bool x.f6, .int .u8 x.f7], rfl, rfl, ⟨[.bool x.f3.f0, .slice A4 x.f3.f1.length c4], [.slice A5 x.f4.length c5, .slice A6 x.f5.length c6, .bool x.f6, .int .u8 x.f7], rfl, (k63_mk w x.f3 l4 g4), ⟨[.slice A5 x.f4.length c5], [.slice A6 x.f5.length c6, .bool x.f6, .int .u8 x.f7], rfl, ⟨A5, c5, rfl, l5, g5⟩, ⟨[.slice A6 x.f5.length c6], [.bool x.f6, .int .u8 x.f7], rfl, ⟨A6, c6, rfl, l6, g6⟩, ⟨[.bool x.f6], [.int .u8 x.f7], rfl, rfl, rfl⟩⟩⟩⟩⟩⟩⟩
theorem k66_mkM (w : World) (base : Nat) (ok : Nat → Prop) (x : S66) {v4 : Value} (g4 : Kd.string.R 9 w base ok v4 x.f3.f1) {v5 : Value} (g5 : (Kd.int .i64).R 3 w base ok v5 x.f4) {v6 : Value} (g6 : (Kd.int .i64).R 3 w base ok v6 x.f5) : k66.M w base ok x [.int .u8 x.f0, .int .i64 x.f1, .string x.f2, .bool x.f3.f0, v4, v5, v6, .bool x.f6, .int .u8 x.f7] := ⟨[.int .u8 x.f0], [.int .i64 x.f1, .string x.f2, .bool x.f3.f0, v4, v5, v6, .bool x.f6, .int .u8 x.f7], rfl, rfl, ⟨[.int .i64 x.f1], [.string x.f2, .bool x.f3.f0, v4, v5, v6, .bool x.f6, .int .u8 x.f7], rfl, rfl, ⟨[.string x.f2], [.bool x.f3.f0, v4, v5, v6, .bool x.f6, .int .u8 x.f7], rfl, rfl, ⟨[.bool x.f3.f0, v4], [v5, v6, .bool x.f6, .int .u8 x.f7], rfl, (k63_mkM w base ok x.f3 g4), ⟨[v5], [v6, .bool x.f6, .int .u8 x.f7], rfl, ⟨v5, rfl, g5⟩, ⟨[v6], [.bool x.f6, .int .u8 x.f7], rfl, ⟨v6, rfl, g6⟩, ⟨[.bool x.f6], [.int .u8 x.f7], rfl, rfl, rfl⟩⟩⟩⟩⟩⟩⟩
def rd_T66 (xs : List S66) (i : Int) : S66 := xs.getD i.toNat z66
theorem at_T66 {w : World} {A : Option Addr} {n : Nat} {xs : List S66} (h : Kd.C k66 w A n xs) (i : Int) (h0 : 0 ≤ i) (h1 : i < n) : ∃ ad A4 c4 A5 c5 A6 c6, A = some ad ∧ w.cell? (ad.add (i.toNat * 9)) = some (.int .u8 (rd_T66 xs i).f0) ∧ w.cell? ⟨(ad.add (i.toNat * 9)).block, (ad.add (i.toNat * 9)).off + 1, none⟩ = some (.int .i64 (rd_T66 xs i).f1) ∧ w.cell? ⟨(ad.add (i.toNat * 9)).block, (ad.add (i.toNat * 9)).off + 2, none⟩ = some (.string (rd_T66 xs i).f2) ∧ w.cell? ⟨(ad.add (i.toNat * 9)).block, (ad.add (i.toNat * 9)).off + 3, none⟩ = some (.bool (rd_T66 xs i).f3.f0) ∧ w.cell? ⟨(ad.add (i.toNat * 9)).block, (ad.add (i.toNat * 9)).off + 4, none⟩ = some (.slice A4 (rd_T66 xs i).f3.f1.length c4) ∧ w.cell? ⟨(ad.add (i.toNat * 9)).block, (ad.add (i.toNat * 9)).off + 5, none⟩ = some (.slice A5 (rd_T66 xs i).f4.length c5) ∧ w.cell? ⟨(ad.add (i.toNat * 9)).block, (ad.add (i.toNat * 9)).off + 6, none⟩ = some (.slice A6 (rd_T66 xs i).f5.length c6) ∧ w.cell? ⟨(ad.add (i.toNat * 9)).block, (ad.add (i.toNat * 9)).off + 7, none⟩ = some (.bool (rd_T66 xs i).f6) ∧ w.cell? ⟨(ad.add (i.toNat * 9)).block, (ad.add (i.toNat * 9)).off + 8, none⟩ = some (.int .u8 (rd_T66 xs i).f7) ∧ (rd_T66 xs i).f3.f1.length ≤ c4 ∧ Kd.string.C w A4 (rd_T66 xs i).f3.f1.length (rd_T66 xs i).f3.f1 ∧ (rd_T66 xs i).f4.length ≤ c5 ∧ (Kd.int .i64).C w A5 (rd_T66 xs i).f4.length (rd_T66 xs i).f4 ∧ (rd_T66 xs i).f5.length ≤ c6 ∧ (Kd.int .i64).C w A6 (rd_T66 xs i).f5.length (rd_T66 xs i).f5 := by
  obtain ⟨ad, c, e, _, hK, hc0⟩ := Kd.C_get h z66 i h0 h1
  have hc : ∀ j u, c[j]? = some u → w.cell? (ad.add (i.toNat * 9 + j)) = some u := hc0
  obtain ⟨A4, c4, A5, c5, A6, c6, rfl, l4, g4, l5, g5, l6, g6⟩ := k66_open hK
  exact ⟨ad, A4, c4, A5, c5, A6, c6, e, hc 0 _ rfl, by rw [← add_field _ _ 1 (by omega)]; exact hc 1 _ rfl, by rw [← add_field _ _ 2 (by omega)]; exact hc 2 _ rfl, by rw [← add_field _ _ 3 (by omega)]; exact hc 3 _ rfl, by rw [← add_field _ _ 4 (by omega)]; exact hc 4 _ rfl, by rw [← add_field _ _ 5 (by omega)]; exact hc 5 _ rfl, by rw [← add_field _ _ 6 (by omega)]; exact hc 6 _ rfl, by rw [← add_field _ _ 7 (by omega)]; exact hc 7 _ rfl, by rw [← add_field _ _ 8 (by omega)]; exact hc 8 _ rfl, l4, g4, l5, g5, l6, g6⟩

/-! #### struct type 76 -/
structure S76 where
  f0 : Int
  f1 : Int
  f2 : ByteArray
  f3 : S63
def z76 : S76 := ⟨(0 : Int), (0 : Int), (⟨#[]⟩ : ByteArray), z63⟩
def k76 : Kd S76 := Kd.iso (Kd.pair (Kd.int .u8) (Kd.pair (Kd.int .i64) (Kd.pair Kd.string k63))) (fun x : S76 => (x.f0, x.f1, x.f2, x.f3))
theorem k76_open {w : World} {x : S76} {cs : List Value} (h : k76.K w x cs) : ∃ A4 c4, cs = [.int .u8 x.f0, .int .i64 x.f1, .string x.f2, .bool x.f3.f0, .slice A4 x.f3.f1.length c4] ∧ x.f3.f1.length ≤ c4 ∧ Kd.string.C w A4 x.f3.f1.length x.f3.f1 := by
  obtain ⟨_, _, rfl, rfl, ⟨_, _, rfl, rfl, ⟨_, _, rfl, rfl, s3⟩⟩⟩ := h
  obtain ⟨A4, c4, rfl, l4, g4⟩ := k63_open s3
  exact ⟨A4, c4, rfl, l4, g4⟩
theorem k76_openM {w : World} {base : Nat} {ok : Nat → Prop} {x : S76} {cs : List Value} (h : k76.M w base ok x cs) : ∃ v4, cs = [.int .u8 x.f0, .int .i64 x.f1, .string x.f2, .bool x.f3.f0, v4] ∧ Kd.string.R 9 w base ok v4 x.f3.f1 := by
  obtain ⟨_, _, rfl, rfl, ⟨_, _, rfl, rfl, ⟨_, _, rfl, rfl, s3⟩⟩⟩ := h
  obtain ⟨v4, rfl, g4⟩ := k63_openM s3
  exact ⟨v4, rfl, g4⟩
theorem k76_mk (w : World) (x : S76) {A4 : Option Addr} {c4 : Nat} (l4 : x.f3.f1.length ≤ c4) (g4 : Kd.string.C w A4 x.f3.f1.length x.f3.f1) : k76.K w x [.int .u8 x.f0, .int .i64 x.f1, .string x.f2, .bool x.f3.f0, .slice A4 x.f3.f1.length c4] := ⟨[.int .u8 x.f0], [.int .i64 x.f1, .string x.f2, .bool x.f3.f0, .slice A4 x.f3.f1.length c4], rfl, rfl, ⟨[.int .i64 x.f1], [.string x.f2, .bool x.f3.f0, .slice A4 x.f3.f1.length c4], rfl, rfl, ⟨[.string x.f2], [.bool x.f3.f0, .slice A4 x.f3.f1.length c4], rfl, rfl, (k63_mk w x.f3 l4 g4)⟩⟩⟩
theorem k76_mkM (w : World) (base : Nat) (ok : Nat → Prop) (x : S76) {v4 : Value} (g4 : Kd.string.R 9 w base ok v4 x.f3.f1) : k76.M w base ok x [.int .u8 x.f0, .int .i64 x.f1, .string x.f2, .bool x.f3.f0, v4] := ⟨[.int .u8 x.f0], [.int .i64 x.f1, .string x.f2, .bool x.f3.f0, v4], rfl, rfl, ⟨[.int .i64 x.f1], [.string x.f2, .bool x.f3.f0, v4], rfl, rfl, ⟨[.string x.f2], [.bool x.f3.f0, v4], rfl, rfl, (k63_mkM w base ok x.f3 g4)⟩⟩⟩
def rd_T76 (xs : List S76) (i : Int) : S76 := xs.getD i.toNat z76
theorem at_T76 {w : World} {A : Option Addr} {n : Nat} {xs : List S76} (h : Kd.C k76 w A n xs) (i : Int) (h0 : 0 ≤ i) (h1 : i < n) : ∃ ad A4 c4, A = some ad ∧ w.cell? (ad.add (i.toNat * 5)) = some (.int .u8 (rd_T76 xs i).f0) ∧ w.cell? ⟨(ad.add (i.toNat * 5)).block, (ad.add (i.toNat * 5)).off + 1, none⟩ = some (.int .i64 (rd_T76 xs i).f1) ∧ w.cell? ⟨(ad.add (i.toNat * 5)).block, (ad.add (i.toNat * 5)).off + 2, none⟩ = some (.string (rd_T76 xs i).f2) ∧ w.cell? ⟨(ad.add (i.toNat * 5)).block, (ad.add (i.toNat * 5)).off + 3, none⟩ = some (.bool (rd_T76 xs i).f3.f0) ∧ w.cell? ⟨(ad.add (i.toNat * 5)).block, (ad.add (i.toNat * 5)).off + 4, none⟩ = some (.slice A4 (rd_T76 xs i).f3.f1.length c4) ∧ (rd_T76 xs i).f3.f1.length ≤ c4 ∧ Kd.string.C w A4 (rd_T76 xs i).f3.f1.length (rd_T76 xs i).f3.f1 := by
  obtain ⟨ad, c, e, _, hK, hc0⟩ := Kd.C_get h z76 i h0 h1
  have hc : ∀ j u, c[j]? = some u → w.cell? (ad.add (i.toNat * 5 + j)) = some u := hc0
  obtain ⟨A4, c4, rfl, l4, g4⟩ := k76_open hK
  exact ⟨ad, A4, c4, e, hc 0 _ rfl, by rw [← add_field _ _ 1 (by omega)]; exact hc 1 _ rfl, by rw [← add_field _ _ 2 (by omega)]; exact hc 2 _ rfl, by rw [← add_field _ _ 3 (by omega)]; exact hc 3 _ rfl, by rw [← add_field _ _ 4 (by omega)]; exact hc 4 _ rfl, l4, g4⟩

/-! #### struct type 78 -/
structure S78 where
  f0 : Int
  f1 : Int
  f2 : Bool
def z78 : S78 := ⟨(0 : Int), (0 : Int), false⟩
def k78 : Kd S78 := Kd.iso (Kd.pair (Kd.int .i64) (Kd.pair (Kd.int .i64) Kd.bool)) (fun x : S78 => (x.f0, x.f1, x.f2))
theorem k78_open {w : World} {x : S78} {cs : List Value} (h : k78.K w x cs) : cs = [.int .i64 x.f0, .int .i64 x.f1, .bool x.f2] := by
  obtain ⟨_, _, rfl, rfl, ⟨_, _, rfl, rfl, rfl⟩⟩ := h
  exact rfl
theorem k78_openM {w : World} {base : Nat} {ok : Nat → Prop} {x : S78} {cs : List Value} (h : k78.M w base ok x cs) : cs = [.int .i64 x.f0, .int .i64 x.f1, .bool x.f2] := by
  obtain ⟨_, _, rfl, rfl, ⟨_, _, rfl, rfl, rfl⟩⟩ := h
  exact rfl
theorem k78_mk (w : World) (x : S78)  : k78.K w x [.int .i64 x.f0, .int .i64 x.f1, .bool x.f2] := ⟨[.int .i64 x.f0], [.int .i64 x.f1, .bool x.f2], rfl, rfl, ⟨[.int .i64 x.f1], [.bool x.f2], rfl, rfl, rfl⟩⟩
theorem k78_mkM (w : World) (base : Nat) (ok : Nat → Prop) (x : S78)  : k78.M w base ok x [.int .i64 x.f0, .int .i64 x.f1, .bool x.f2] := ⟨[.int .i64 x.f0], [.int .i64 x.f1, .bool x.f2], rfl, rfl, ⟨[.int .i64 x.f1], [.bool x.f2], rfl, rfl, rfl⟩⟩
def rd_T78 (xs : List S78) (i : Int) : S78 := xs.getD i.toNat z78
theorem at_T78 {w : World} {A : Option Addr} {n : Nat} {xs : List S78} (h : Kd.C k78 w A n xs) (i : Int) (h0 : 0 ≤ i) (h1 : i < n) : ∃ ad , A = some ad ∧ w.cell? (ad.add (i.toNat * 3)) = some (.int .i64 (rd_T78 xs i).f0) ∧ w.cell? ⟨(ad.add (i.toNat * 3)).block, (ad.add (i.toNat * 3)).off + 1, none⟩ = some (.int .i64 (rd_T78 xs i).f1) ∧ w.cell? ⟨(ad.add (i.toNat * 3)).block, (ad.add (i.toNat * 3)).off + 2, none⟩ = some (.bool (rd_T78 xs i).f2) := by
  obtain ⟨ad, c, e, _, hK, hc0⟩ := Kd.C_get h z78 i h0 h1
  have hc : ∀ j u, c[j]? = some u → w.cell? (ad.add (i.toNat * 3 + j)) = some u := hc0
  obtain rfl := k78_open hK
  exact ⟨ad, e, hc 0 _ rfl, by rw [← add_field _ _ 1 (by omega)]; exact hc 1 _ rfl, by rw [← add_field _ _ 2 (by omega)]; exact hc 2 _ rfl⟩

end Go.Proofs.YtcggeaobonblfaaDoor.PParseTrees
