/- Part 5 of the proof of RowParseTrees, RowParseDeep: lemmas and contracts: RangeT, Dots, Shelf, Split, NameF, Name, Way, Action, Words, LexF, WordsW, LexAll, RowKit, Tree, ParseF, ParseS, ParseB, ParseB2, ParseN. -/
import Derived.RangeFuncNested
import Derived.RangeFuncBound
import Derived.RangeFuncCalls
import Derived.RangeFuncLeaves
import Derived.WalkKit
import Derived.OwnWalkIn
import Derived.TacticsInMore
import Derived.LoopNIn
import Derived.LoopIn
import Derived.Lib.Bytealg
import Derived.Lib.IndexBytes
import Derived.Lib.Strings
import Derived.Shelf.Strings.Builder1
import Derived.Shelf.Strings.Builder2
import Derived.Shelf.Strings.OnBuilder
import Derived.Shelf.Strings.Trim
import Derived.Shelf.Small.Utf8
import Derived.Shelf.Small.Strs
import Derived.Shelf.Small.Wraps
import Derived.Shelf.Strings.Search1
import Derived.Shelf.Strings.Search2
import Derived.Shelf.Strings.Search3
import Derived.Shelf.LaysM
import Derived.Shelf.Strings.Shaped
import Derived.Shelf.Strings.Prefix
import Derived.Shelf.Unicode.DecodeSlow
import Derived.Test.YtcggeaobonblfaaDoorProg
import Derived.Lib.Hide
import Derived.WalkLawsBesides
import Derived.RangeFuncBox
import Derived.Maps.AppendAt
import Derived.Lib.Bytes2
import Derived.Deep.DeepMust
import Derived.Lib.TrimByte
import Derived.Deep.RegionWith
import Derived.Lib.Index
import Derived.Test.YtcggeaobonblfaaDoorRows
import Derived.ProofKit
import Derived.OpenShut
import Derived.ShutString
import Derived.ChangeOld
import Derived.Below
import Derived.SizedLaws
import Derived.LaidMore
import Derived.Lay
import Derived.HandedShaped
import Derived.Shelf.Vars
import Derived.Stop.Joined
import Derived.Laws.OwnMore
import Derived.BigQuiet
import Derived.Deep.QuietTactic
import Derived.BigRegion
import Derived.RegionTactic
import Derived.Outline
import Derived.Deep.RegionLaw
/- A range over a function whose iterator keeps its state in cells of its own (blocks T, laid ahead of the loop): the caller's invariant does not mind that those cells change; the body leaves them alone. -/
namespace Go.Proofs.YtcggeaobonblfaaDoor
open Go Go.RowKit
/-- J does not mind a step that turns one block of T, or none, and lays new ones. -/
def Bears {β : Type} (T : Nat → Prop) (J : β → World → Prop) : Prop :=
  ∀ s W W' row, J s W → W.grownBy W' row → (∀ r, row = some r → T r) → J s W'
/-- The blocks of T lie as they lay. -/
def KeepT (T : Nat → Prop) (W W' : World) : Prop := ∀ t, T t → W'.heap[t]? = W.heap[t]?
theorem KeepT.refl (T : Nat → Prop) (W : World) : KeepT T W W := fun _ _ => rfl
theorem KeepT.trans {T : Nat → Prop} {A B C : World} (h : KeepT T A B) (k : KeepT T B C) : KeepT T A C := fun t ht => (k t ht).trans (h t ht)
theorem KeepT.putObj {T : Nat → Prop} (W : World) (l : Nat) (o : Obj) (h : ¬ T l) : KeepT T W (W.putObj l o) := fun _ ht => World.putObj_heap_other (fun e => h (e ▸ ht))
variable {F : Fence} {n : Nat} {P : Program}
/-- What an iterator promises: whatever J it is given that bears its own steps. -/
def Iterates {α : Type} (F : Fence) (n : Nat) (P : Program) (gf : Nat) (lb : Array Value) (encs : α → Array Value) (T : Nat → Prop) (S Sp : List α → Prop) (w : World) : Prop :=
  ∀ (l : Nat) (J Jx : List α → World → Prop) (W : World), w.heap.size ≤ W.heap.size → KeepT T w W → Bears T J → Bears T Jx →
    (∀ pre x W1, Sp (pre ++ [x]) → J pre W1 → YieldAt F (n - 1) P l (encs x) W1 fun e W' =>
      (e = .returned (.bool true) ∧ J (pre ++ [x]) W' ∧ KeepT T W1 W' ∧ W1.heap.size ≤ W'.heap.size) ∨ (e = .returned (.bool false) ∧ Jx (pre ++ [x]) W')) →
    J [] W →
    CallsIn F n P gf (#[.func (.yield l) #[] #[]] ++ lb) W fun e W' => (∃ v, e = .returned v) ∧ ((∃ xs, S xs ∧ J xs W') ∨ (∃ pre, Sp pre ∧ Jx pre W'))
/-- How a round's body may be left. -/
def After {α : Type} (T : Nat → Prop) (I : List α → World → Prop) (Ix : Code → List α → World → Prop) (xs : List α) (W : World) : Exit → Act → World → Prop
  | .normal, _, W' => KeepsOthers W W' ∧ KeepT T W W' ∧ I xs W'
  | .ret, _, W' => KeepsOthers W W' ∧ Ix .ret xs W'
  | .exit id, _, W' => KeepsOthers W W' ∧ Ix (.exit id) xs W'
  | .goto t, _, W' => KeepsOthers W W' ∧ Ix (.goto t) xs W'
  | .panic _, _, _ => False
  | .outgrown, _, _ => False
/-- The loop's record and the block for deferred calls, in the state st. -/
def Held (W : World) (l D : Nat) (r : Loop) : Prop := W.heap[l]? = some (.loop r) ∧ W.heap[D]? = some (.deferred (some []))
theorem Held.put {W : World} {l D : Nat} {r : Loop} (h : Held W l D r) (hne : D ≠ l) (r' : Loop) : Held (W.putObj l (.loop r')) l D r' :=
  ⟨World.putObj_heap_same (Array.getElem?_eq_some_iff.1 h.1).1, (World.putObj_heap_other hne).trans h.2⟩
theorem Held.grown {W W' : World} {l D : Nat} {r : Loop} {row : Option Nat} (h : Held W l D r) (hg : W.grownBy W' row) (hl : row ≠ some l) (hD : row ≠ some D) : Held W' l D r :=
  ⟨(hg.block l (Array.getElem?_eq_some_iff.1 h.1).1 (fun e => hl e.symm)).trans h.1, (hg.block D (Array.getElem?_eq_some_iff.1 h.2).1 (fun e => hD e.symm)).trans h.2⟩
theorem Held.others {W W' : World} {l D : Nat} {r : Loop} (h : Held W l D r) (hk : KeepsOthers W W') : Held W' l D r :=
  ⟨hk.same _ _ h.1 rfl, hk.same _ _ h.2 rfl⟩
/-- The statement 'for .. := range g { .. }', outermost. -/
theorem wpIn_range {α : Type} {g : Operand} {ps : Array Tmp} {assign body : Code} {Q : Exit → Act → World → Prop} {a : Act} {w : World}
    (hro : F.round = none) (h1 : 1 ≤ n) {gf : Nat} {lb : Array Value} (hg : a.eval g = .func (.func gf) #[] lb) (hFg : F.fn gf) (eg : ∀ args w, (callFunc gf args).run P w = .ok (.enter gf args) w)
    {encs : α → Array Value} {T : Nat → Prop} {S Sp : List α → Prop} (hit : Iterates F (n - 1) P gf lb encs T S Sp w) (hT : ∀ t, T t → t < w.heap.size) (hps : ∀ x, (encs x).size = ps.size)
    (I : List α → World → Prop) (Ix : Code → List α → World → Prop) (hI : OwnFrom w.heap.size I) (hIx : ∀ c, OwnFrom w.heap.size (Ix c)) (hIT : Bears T I) (hIxT : ∀ c, Bears T (Ix c)) (h0 : I [] w) (a₁ : α → Act)
    (hassign : ∀ (l : Nat) (x : α) (W : World) (K : Act → World → Prop), K (a₁ x) W →
      assign.wpIn (F.inRound l) (n - 1 - 1) P (Exit.then K (fun _ _ _ => False)) { tmps := (ps.zip (encs x)).foldl (fun t (p, v) => t.setIfInBounds p v) a.tmps, defers := [] } W)
    (hbody : ∀ (l : Nat) (pre : List α) (x : α) (W : World), Sp (pre ++ [x]) → I pre W → body.wpIn (F.inRound l) (n - 1 - 1) P (After T I Ix (pre ++ [x]) W) (a₁ x) W)
    (hdone : ∀ (D : Nat) (xs : List α) (W : World), w.heap.size ≤ D → S xs → I xs W → W.heap[D]? = some (.deferred (some [])) → Q .normal { a with defers := { target := .collected D, args := #[] } :: a.defers } W)
    (hstop : ∀ (D : Nat) (c : Code) (pre : List α) (W : World), w.heap.size ≤ D → Sp pre → Ix c pre W → W.heap[D]? = some (.deferred (some [])) → c.wpIn F n P Q { a with defers := { target := .collected D, args := #[] } :: a.defers } W) :
    (Code.rangeFunc g ps assign body).wpIn F n P Q a w := by
  refine wpIn_rangeFunc fun fn hfn => ?_
  rw [hro]
  let D := w.heap.size
  let l := w.heap.size + 1
  obtain ⟨rec, hrec⟩ : ∃ rec : LoopState → Option Code → Loop, rec = fun st pe => { state := st, pending := pe, fn, tmps := a.tmps, params := ps, assign, body, defers := w.heap.size } := ⟨_, rfl⟩
  obtain ⟨W1, hW1⟩ : ∃ W1, (w.alloc (.deferred (some []))).alloc (.loop (rec .ready none)) = W1 := ⟨_, rfl⟩
  have hH1 : Held W1 l D (rec .ready none) := by
    subst hW1
    refine ⟨?_, (Below.heap_alloc _ _ _ (by simp [D])).trans (World.alloc_heap_new w _)⟩
    have := World.alloc_heap_new (w.alloc (.deferred (some []))) (.loop (rec .ready none))
    rwa [World.size_alloc] at this
  have hI1 : I [] W1 := by subst hW1; exact hI.alloc _ (hI.alloc _ h0)
  have hs1 : w.heap.size ≤ W1.heap.size := by subst hW1; simp; omega
  have hk1 : KeepT T w W1 := by
    subst hW1
    intro t ht
    have := hT t ht
    rw [Below.heap_alloc _ _ _ (by simp; omega), Below.heap_alloc _ _ _ this]
  have hTl : ¬ T l := fun h => by have := hT _ h; simp only [l] at this; omega
  have hTD : ¬ T D := fun h => by have := hT _ h; simp only [D] at this; omega
  have hne : D ≠ l := by simp only [D, l]; omega
  have hput : ∀ {J : List α → World → Prop} {xs : List α} {W : World} {r : Loop} (_ : OwnFrom w.heap.size J) (r' : Loop), J xs W → Held W l D r → J xs (W.putObj l (.loop r')) :=
    fun hJ r' hj hh => hJ.putObj _ hj (by simp only [l]; omega) hh.1 rfl
  refine ⟨l, [{ target := .collected D, args := #[] }], W1, { target := .fn (.func gf) lb, args := #[.func (.yield l) #[] #[]] }, W1, gf,
    #[.func (.yield l) #[] #[]] ++ lb, W1, ?_, ?_, ?_, ?_, fun _ => h1, ?_⟩
  · rw [← hW1, hrec]; exact run_enterLoop_outer _ _ _ _ _
  · simp only [resolve, hg]
    simp [go_sem]
  · intro f' hf'; simp [Target.leads] at hf'; subst hf'; exact hFg
  · simp [invoke, go_sem, eg]
  have hbears : ∀ {J : List α → World → Prop} (st : LoopState) (pe : Option Code), Bears T J → Bears T (fun xs W => J xs W ∧ Held W l D (rec st pe)) :=
    fun st pe hJ s A B row hs hg' hr => ⟨hJ s A B row hs.1 hg' hr, hs.2.grown hg' (fun e => hTl (hr _ e)) (fun e => hTD (hr _ e))⟩
  refine (hit l (fun pre W => I pre W ∧ Held W l D (rec .ready none)) (fun pre W => ∃ c, Ix c pre W ∧ Held W l D (rec .done (some c))) W1 hs1 hk1 (hbears _ _ hIT) ?_ ?_ ⟨hI1, hH1⟩).mono ?_
  · rintro s A B row ⟨c, hs⟩ hg' hr
    exact ⟨c, hbears (J := Ix c) _ _ (hIxT c) s A B row hs hg' hr⟩
  · rintro pre x W hsp ⟨hi, hh⟩
    have hy := run_yield (P := P) (args := encs x) hh.1 (by rw [hrec]; exact hps x)
    rw [hrec] at hy
    refine ⟨fn, _, assign, body, hy, roundIn_of_wpIn hfn (hassign _ x W _ ⟨_, run_beginRound hh.1 (by rw [hrec]), ?_⟩)⟩
    have hh2 := hh.put hne { rec .ready none with state := .busy }
    refine wpIn_mono (hbody _ pre x _ hsp (hput hI _ hi hh)) ?_
    have fin : ∀ (jump : Option Code) (W3 : World), KeepsOthers (W.putObj l (.loop { rec .ready none with state := .busy })) W3 →
        (Instr.endRound l jump).run P W3 = .ok (.bool jump.isNone) (W3.putObj l (.loop (rec (if jump.isNone then .ready else .done) jump))) ∧
        Held W3 l D { rec .ready none with state := .busy } ∧ Held (W3.putObj l (.loop (rec (if jump.isNone then .ready else .done) jump))) l D (rec (if jump.isNone then .ready else .done) jump) := fun jump W3 hk3 => by
      have hh3 := hh2.others hk3
      have h5 := run_endRound (P := P) jump hh3.1
      rw [hrec] at h5 hh3 ⊢
      exact ⟨h5, hh3, hh3.put hne _⟩
    have hs2 : W.heap.size ≤ (W.putObj l (.loop { rec .ready none with state := .busy })).heap.size := by simp
    rintro e a3 W3 hp
    cases e with
    | normal =>
      obtain ⟨hk3, hkp3, hi3⟩ := hp
      obtain ⟨hr, hh3, hh4⟩ := fin none W3 hk3
      exact ⟨_, _, hr, .inl ⟨rfl, ⟨hput hI _ hi3 hh3, hh4⟩, ((KeepT.putObj _ _ _ hTl).trans hkp3).trans (KeepT.putObj _ _ _ hTl), by simpa using hk3.size⟩⟩
    | ret =>
      obtain ⟨hk3, hi3⟩ := hp
      obtain ⟨hr, hh3, hh4⟩ := fin (some .ret) W3 hk3
      exact ⟨_, _, hr, .inr ⟨rfl, .ret, hput (hIx _) _ hi3 hh3, hh4⟩⟩
    | exit id =>
      obtain ⟨hk3, hi3⟩ := hp
      obtain ⟨hr, hh3, hh4⟩ := fin (some (.exit id)) W3 hk3
      exact ⟨_, _, hr, .inr ⟨rfl, .exit id, hput (hIx _) _ hi3 hh3, hh4⟩⟩
    | goto t =>
      obtain ⟨hk3, hi3⟩ := hp
      obtain ⟨hr, hh3, hh4⟩ := fin (some (.goto t)) W3 hk3
      exact ⟨_, _, hr, .inr ⟨rfl, .goto t, hput (hIx _) _ hi3 hh3, hh4⟩⟩
    | panic ch => exact hp.elim
    | outgrown => exact hp.elim
  · rintro e W2 ⟨⟨v, rfl⟩, (⟨xs, hS, hi, hh⟩ | ⟨pre, hSp, c, hi, hh⟩)⟩
    · have := run_endLoop (P := P) hh.1 (by rw [hrec]; simp)
      rw [hrec] at this
      exact ⟨none, _, this, hdone _ xs _ (Nat.le_refl _) hS (hput hI _ hi hh) ((World.putObj_heap_other hne).trans hh.2)⟩
    · have := run_endLoop (P := P) hh.1 (by rw [hrec]; simp)
      rw [hrec] at this
      exact ⟨some c, _, this, hstop _ c pre _ (Nat.le_refl _) hSp (hput (hIx _) _ hi hh) ((World.putObj_heap_other hne).trans hh.2)⟩
theorem heap_at (w : World) (o : Obj) (k : Nat) : (w.alloc o).heap[k]? = if k = w.heap.size then some o else w.heap[k]? := by
  by_cases h : k = w.heap.size
  · subst h; rw [if_pos rfl]; exact World.alloc_heap_new w o
  · rw [if_neg h]
    show (w.heap.push o)[k]? = _
    rw [Array.getElem?_push]
    rw [if_neg h]
/-- A block of cells is none that holds anything else. -/
theorem blk_own {W W' : World} {b : Nat} {cs : Array Value} {t : TypeId} {fz : Nat × Nat} {row : Option Nat} (h : W.heap[b]? = some (.cells cs t fz)) (hg : W.grownBy W' row)
    (hr : ∀ r, row = some r → ∃ o : Obj, W.heap[r]? = some o ∧ o.isCells = false) : W'.heap[b]? = some (.cells cs t fz) := by
  refine (hg.block b (Array.getElem?_eq_some_iff.1 h).1 ?_).trans h
  intro e
  obtain ⟨o, ho, hc⟩ := hr b e.symm
  rw [h] at ho
  cases ho
  simp [Obj.isCells] at hc
theorem blk_off {W W' : World} {b : Nat} {o : Obj} {row : Option Nat} (h : W.heap[b]? = some o) (hg : W.grownBy W' row) (hr : row ≠ some b) : W'.heap[b]? = some o :=
  (hg.block b (Array.getElem?_eq_some_iff.1 h).1 (fun e => hr e.symm)).trans h
theorem row_own {W W' : World} {base e size n : Nat} {v : Value} {xs : List Value} {row : Option Nat} (h : W.ownsRow base e size v n xs) (hg : W.grownBy W' row)
    (hr : ∀ r, row = some r → ∃ o : Obj, W.heap[r]? = some o ∧ o.isCells = false) : W'.ownsRow base e size v n xs := by
  refine h.kept hg ?_
  rcases h.2 with ⟨rfl, _⟩ | ⟨g, cap, cur, rfl, hb, hh, _⟩
  · exact .inl rfl
  · refine .inr fun e => ?_
    obtain ⟨o, ho, hc⟩ := hr g (by rw [← e]; rfl)
    rw [hh] at ho
    cases ho
    simp [Obj.isCells] at hc
/-- A row that lies from base on is none of the blocks below. -/
theorem row_off {W W' : World} {base e size n : Nat} {v : Value} {xs : List Value} {row : Option Nat} (h : W.ownsRow base e size v n xs) (hg : W.grownBy W' row)
    (hr : ∀ r, row = some r → r < base) : W'.ownsRow base e size v n xs := by
  refine h.kept hg ?_
  rcases h.2 with ⟨rfl, _⟩ | ⟨g, cap, cur, rfl, hb, hh, _⟩
  · exact .inl rfl
  · refine .inr fun e => ?_
    have := hr g (by rw [← e]; rfl)
    omega
theorem row_base {W : World} {base e size n : Nat} {v : Value} {xs : List Value} (h : W.ownsRow base e size v n xs) : ∀ k, v.ownBlock = some k → base ≤ k := by
  intro k hk
  rcases h.2 with ⟨rfl, _⟩ | ⟨g, cap, cur, rfl, hb, _⟩
  · simp [Value.ownBlock] at hk
  · have : g = k := by simpa [Value.ownBlock] using hk
    omega
theorem World.heap_lt {W : World} {b : Nat} {o : Obj} (h : W.heap[b]? = some o) : b < W.heap.size := (Array.getElem?_eq_some_iff.1 h).1
theorem heap_old {W : World} {o : Obj} {b : Nat} (h : b < W.heap.size) : (W.alloc o).heap[b]? = W.heap[b]? := Below.heap_alloc _ _ _ h
theorem row_cells {W : World} {base e size n : Nat} {v : Value} {xs : List Value} (h : W.ownsRow base e size v n xs) (k : Nat) (o : Obj) (hk : v.ownBlock = some k) (ho : W.heap[k]? = some o) : o.isCells = true := by
  rcases h.2 with ⟨rfl, _⟩ | ⟨g, cap, cur, rfl, hb, hh, _⟩
  · simp [Value.ownBlock] at hk
  · have : g = k := by simpa [Value.ownBlock] using hk
    subst this
    rw [hh] at ho
    cases ho
    rfl
theorem row_low {W : World} {base base' e size n : Nat} {v : Value} {xs : List Value} (h : W.ownsRow base e size v n xs) (hb : base' ≤ base) : W.ownsRow base' e size v n xs := by
  refine ⟨h.1, ?_⟩
  rcases h.2 with h2 | ⟨g, cap, cur, rfl, hg, r⟩
  · exact .inl h2
  · exact .inr ⟨g, cap, cur, rfl, by omega, r⟩
/-- A store into a block of cells. -/
theorem blk_put {W : World} {B t : Nat} {cs : Array Value} (h : W.heap[B]? = some (.cells cs t)) (j : Nat) (v : Value) : (W.setCell ⟨B, j, none⟩ v).heap[B]? = some (.cells (cs.setIfInBounds j v) t) := by
  have hlt := (Array.getElem?_eq_some_iff.1 h).1
  have hv := (Array.getElem?_eq_some_iff.1 h).2
  show (W.heap.modify B _)[B]? = _
  rw [Array.getElem?_eq_getElem (by rw [Array.size_modify]; exact hlt), Array.getElem_modify_self, hv]
  rfl
theorem blk_far {W : World} {B : Nat} {o : Obj} (h : W.heap[B]? = some o) {p : Addr} (hne : B ≠ p.block) (v : Value) : (W.setCell p v).heap[B]? = some o := (Below.heap_setCell W p v B hne).trans h
theorem row_set {W : World} {base e size n : Nat} {v : Value} {xs : List Value} (h : W.ownsRow base e size v n xs) {p : Addr} (hp : p.block < base) (u : Value) : (W.setCell p u).ownsRow base e size v n xs :=
  row_off h (row := some p.block) ⟨rfl, rfl, rfl, (KeepsWalks.setCell W _ u).size, fun k _ hk => Below.heap_setCell _ _ _ k (fun e => hk (by rw [e]))⟩ (fun r e => by cases e; exact hp)
/-- The walk stands still here. -/
structure Halted (p : Prop) : Prop where mk' :: (out : p)
theorem halt {p : Prop} (h : Halted p) : p := h.out
end Go.Proofs.YtcggeaobonblfaaDoor

/- A text cut at its points: the plain function, and what it does at the first point. -/
namespace Go.Proofs.YtcggeaobonblfaaDoor
/-- The parts of a text between its points. -/
def dots : List UInt8 → List (List UInt8)
  | [] => [[]]
  | b :: l => if b = 46 then [] :: dots l else match dots l with
    | h :: t => (b :: h) :: t
    | [] => [[b]]
theorem dots_none : ∀ (l : List UInt8), Lib.indexByte l 46 < 0 → dots l = [l]
  | [], _ => rfl
  | b :: l, h => by
    unfold Lib.indexByte at h
    by_cases hb : b = 46
    · simp [hb] at h
    · have hb' : (b == 46) = false := by simpa using hb
      simp only [hb'] at h
      have hl : Lib.indexByte l 46 < 0 := by
        have := Lib.indexByte_ge l 46
        by_cases h1 : Lib.indexByte l 46 = -1
        · omega
        · simp [h1] at h; omega
      unfold dots
      rw [if_neg hb, dots_none l hl]
theorem dots_some : ∀ (l : List UInt8), 0 ≤ Lib.indexByte l 46 →
    (Lib.indexByte l 46).toNat < l.length ∧ dots l = l.take (Lib.indexByte l 46).toNat :: dots (l.drop ((Lib.indexByte l 46).toNat + 1))
  | [], h => by simp [Lib.indexByte] at h
  | b :: l, h => by
    by_cases hb : b = 46
    · subst hb
      have : Lib.indexByte (46 :: l) 46 = 0 := by simp [Lib.indexByte]
      rw [this]
      simp [dots]
    · have hb' : (b == 46) = false := by simpa using hb
      have e : Lib.indexByte (b :: l) 46 = if Lib.indexByte l 46 == -1 then -1 else Lib.indexByte l 46 + 1 := by
        conv => lhs; unfold Lib.indexByte
        simp [hb']
      have hl : 0 ≤ Lib.indexByte l 46 := by
        have := Lib.indexByte_ge l 46
        by_cases h1 : Lib.indexByte l 46 = -1
        · rw [e, h1] at h; simp at h
        · omega
      have e2 : Lib.indexByte (b :: l) 46 = Lib.indexByte l 46 + 1 := by
        rw [e, if_neg (by simp; omega)]
      obtain ⟨h1, h2⟩ := dots_some l hl
      have e3 : (Lib.indexByte (b :: l) 46).toNat = (Lib.indexByte l 46).toNat + 1 := by rw [e2]; omega
      rw [e3]
      refine ⟨by simp; omega, ?_⟩
      conv => lhs; unfold dots
      rw [if_neg hb, h2]
      simp
theorem dots_count : ∀ l : List UInt8, (dots l).length ≤ l.length + 1
  | [] => by simp [dots]
  | b :: l => by
    have := dots_count l
    unfold dots
    split
    · simp; omega
    · split
      · rename_i h t e
        rw [e] at this
        simp at this ⊢
        omega
      · simp
theorem dots_len : ∀ (l : List UInt8) (x : List UInt8), x ∈ dots l → x.length ≤ l.length
  | [], x, h => by simp [dots] at h; simp [h]
  | b :: l, x, h => by
    unfold dots at h
    split at h
    · rcases List.mem_cons.1 h with rfl | h
      · simp
      · have := dots_len l x h; simp; omega
    · split at h
      · rename_i hd tl e
        rcases List.mem_cons.1 h with rfl | h
        · have := dots_len l hd (by rw [e]; simp)
          simp; omega
        · have := dots_len l x (by rw [e]; simp [h])
          simp; omega
      · simp at h; simp [h]
/-- A piece of a text, as the walk spells it. -/
theorem ext_cut (l : List UInt8) (a b : Nat) : (⟨l.toArray⟩ : ByteArray).extract a b = ⟨((l.drop a).take (b - a)).toArray⟩ := by
  rw [ByteArray.extract_mk]
theorem ext_take (l : List UInt8) (b : Nat) : (⟨l.toArray⟩ : ByteArray).extract 0 b = ⟨(l.take b).toArray⟩ := by
  rw [ext_cut]; simp
theorem ext_drop (l : List UInt8) (a n : Nat) (h : l.length ≤ n) : (⟨l.toArray⟩ : ByteArray).extract a n = ⟨(l.drop a).toArray⟩ := by
  rw [ext_cut, List.take_of_length_le (by simp; omega)]
end Go.Proofs.YtcggeaobonblfaaDoor

/-
  The shelf contracts of Go library functions over this seat, in plain declarations (lay-plain.mjs wrote them).
-/
namespace Go.Proofs
open Go.Shelf
def Tryd.lays161_ren : Go.Shelf.Ren := ⟨fun | 161 => 86 | 231 => 107 | 227 => 109 | 233 => 110 | 235 => 112 | 228 => 131 | 197 => 132 | 151 => 133 | 260 => 155 | 152 => 156 | 137 => 149 | 119 => 162 | 224 => 105 | 225 => 104 | 217 => 103 | 266 => 129 | n => n, fun | 9 => 9 | 4 => 4 | 3 => 3 | 5 => 5 | 117 => 165 | 116 => 164 | 0 => 0 | 124 => 168 | 105 => 180 | 21 => 21 | 119 => 196 | 46 => 161 | 139 => 199 | 138 => 198 | n => n, fun | 3 => 2 | 4 => 3 | n => n⟩
theorem Tryd.lays161 : Go.Proofs.Lays.n161 Tryd.prog Tryd.lays161_ren := {
  mixed := by kernel_rfl
  f119 := Tryd.func162.trans (congrArg some (by kernel_rfl))
  f137 := Tryd.func149.trans (congrArg some (by kernel_rfl))
  f151 := Tryd.func133.trans (congrArg some (by kernel_rfl))
  f152 := Tryd.func156.trans (congrArg some (by kernel_rfl))
  f161 := Tryd.func86.trans (congrArg some (by kernel_rfl))
  f197 := Tryd.func132.trans (congrArg some (by kernel_rfl))
  f217 := Tryd.func103.trans (congrArg some (by kernel_rfl))
  f224 := Tryd.func105.trans (congrArg some (by kernel_rfl))
  f225 := Tryd.func104.trans (congrArg some (by kernel_rfl))
  f227 := Tryd.func109.trans (congrArg some (by kernel_rfl))
  f228 := Tryd.func131.trans (congrArg some (by kernel_rfl))
  f231 := Tryd.func107.trans (congrArg some (by kernel_rfl))
  f233 := Tryd.func110.trans (congrArg some (by kernel_rfl))
  f235 := Tryd.func112.trans (congrArg some (by kernel_rfl))
  f260 := Tryd.func155.trans (congrArg some (by kernel_rfl))
  f266 := Tryd.func129.trans (congrArg some (by kernel_rfl))
  t0 := Tryd.underlying0
  a0 := Tryd.isAgg0
  z0 := Tryd.sizeOf0
  v0 := Tryd.zeroValue0
  t3 := Tryd.underlying3
  a3 := Tryd.isAgg3
  z3 := Tryd.sizeOf3
  v3 := Tryd.zeroValue3
  t4 := Tryd.underlying4
  a4 := Tryd.isAgg4
  z4 := Tryd.sizeOf4
  v4 := Tryd.zeroValue4
  t5 := Tryd.underlying5
  a5 := Tryd.isAgg5
  z5 := Tryd.sizeOf5
  v5 := Tryd.zeroValue5
  t9 := Tryd.underlying9
  a9 := Tryd.isAgg9
  z9 := Tryd.sizeOf9
  v9 := Tryd.zeroValue9
  t21 := Tryd.underlying21
  a21 := Tryd.isAgg21
  z21 := Tryd.sizeOf21
  v21 := Tryd.zeroValue21
  t46 := Tryd.underlying161
  a46 := Tryd.isAgg161
  z46 := Tryd.sizeOf161
  v46 := Tryd.zeroValue161
  t105 := Tryd.underlying180
  a105 := Tryd.isAgg180
  z105 := Tryd.sizeOf180
  v105 := Tryd.zeroValue180
  t116 := Tryd.underlying164
  a116 := Tryd.isAgg164
  z116 := Tryd.sizeOf164
  t117 := Tryd.underlying165
  a117 := Tryd.isAgg165
  z117 := Tryd.sizeOf165
  v117 := Tryd.zeroValue165
  t119 := Tryd.underlying196
  a119 := Tryd.isAgg196
  z119 := Tryd.sizeOf196
  t124 := Tryd.underlying168
  a124 := Tryd.isAgg168
  z124 := Tryd.sizeOf168
  v124 := Tryd.zeroValue168
  t138 := Tryd.underlying198
  a138 := Tryd.isAgg198
  z138 := Tryd.sizeOf198
  v138 := Tryd.zeroValue198
  t139 := Tryd.underlying199
  a139 := Tryd.isAgg199
  z139 := Tryd.sizeOf199
  v139 := Tryd.zeroValue199
  g3 := by kernel_rfl
  g4 := by kernel_rfl }
open Go.RowKit in
theorem Tryd.strings_TrimLeft_one (s : ByteArray) (c : UInt8) (hc : c.toNat < 128) (w : World) :
    Calls Tryd.prog 86 #[.string s, .string ⟨#[c]⟩] w fun e w' => e = .returned (.string ⟨(Lib.trimLeftB s.data.toList c).toArray⟩) ∧ w' = w := Any.strings_TrimLeft_one Tryd.lays161 s c hc w
def Tryd.lays160_ren : Go.Shelf.Ren := ⟨fun | 160 => 84 | 232 => 108 | 231 => 107 | 227 => 109 | 234 => 111 | 233 => 110 | 236 => 113 | 235 => 112 | 228 => 131 | 271 => 134 | 151 => 133 | 197 => 132 | 120 => 157 | 152 => 156 | 260 => 155 | 137 => 149 | 119 => 162 | 224 => 105 | 225 => 104 | 217 => 103 | 266 => 129 | n => n, fun | 9 => 9 | 4 => 4 | 3 => 3 | 5 => 5 | 117 => 165 | 116 => 164 | 0 => 0 | 124 => 168 | 21 => 21 | 105 => 180 | 46 => 161 | 119 => 196 | 139 => 199 | 138 => 198 | n => n, fun | 3 => 2 | 4 => 3 | n => n⟩
theorem Tryd.lays160 : Go.Proofs.Lays.n160 Tryd.prog Tryd.lays160_ren := {
  mixed := by kernel_rfl
  f119 := Tryd.func162.trans (congrArg some (by kernel_rfl))
  f120 := Tryd.func157.trans (congrArg some (by kernel_rfl))
  f137 := Tryd.func149.trans (congrArg some (by kernel_rfl))
  f151 := Tryd.func133.trans (congrArg some (by kernel_rfl))
  f152 := Tryd.func156.trans (congrArg some (by kernel_rfl))
  f160 := Tryd.func84.trans (congrArg some (by kernel_rfl))
  f197 := Tryd.func132.trans (congrArg some (by kernel_rfl))
  f217 := Tryd.func103.trans (congrArg some (by kernel_rfl))
  f224 := Tryd.func105.trans (congrArg some (by kernel_rfl))
  f225 := Tryd.func104.trans (congrArg some (by kernel_rfl))
  f227 := Tryd.func109.trans (congrArg some (by kernel_rfl))
  f228 := Tryd.func131.trans (congrArg some (by kernel_rfl))
  f231 := Tryd.func107.trans (congrArg some (by kernel_rfl))
  f232 := Tryd.func108.trans (congrArg some (by kernel_rfl))
  f233 := Tryd.func110.trans (congrArg some (by kernel_rfl))
  f234 := Tryd.func111.trans (congrArg some (by kernel_rfl))
  f235 := Tryd.func112.trans (congrArg some (by kernel_rfl))
  f236 := Tryd.func113.trans (congrArg some (by kernel_rfl))
  f260 := Tryd.func155.trans (congrArg some (by kernel_rfl))
  f266 := Tryd.func129.trans (congrArg some (by kernel_rfl))
  f271 := Tryd.func134.trans (congrArg some (by kernel_rfl))
  t0 := Tryd.underlying0
  a0 := Tryd.isAgg0
  z0 := Tryd.sizeOf0
  v0 := Tryd.zeroValue0
  t3 := Tryd.underlying3
  a3 := Tryd.isAgg3
  z3 := Tryd.sizeOf3
  v3 := Tryd.zeroValue3
  t4 := Tryd.underlying4
  a4 := Tryd.isAgg4
  z4 := Tryd.sizeOf4
  v4 := Tryd.zeroValue4
  t5 := Tryd.underlying5
  a5 := Tryd.isAgg5
  z5 := Tryd.sizeOf5
  v5 := Tryd.zeroValue5
  t9 := Tryd.underlying9
  a9 := Tryd.isAgg9
  z9 := Tryd.sizeOf9
  v9 := Tryd.zeroValue9
  t21 := Tryd.underlying21
  a21 := Tryd.isAgg21
  z21 := Tryd.sizeOf21
  v21 := Tryd.zeroValue21
  t46 := Tryd.underlying161
  a46 := Tryd.isAgg161
  z46 := Tryd.sizeOf161
  v46 := Tryd.zeroValue161
  t105 := Tryd.underlying180
  a105 := Tryd.isAgg180
  z105 := Tryd.sizeOf180
  v105 := Tryd.zeroValue180
  t116 := Tryd.underlying164
  a116 := Tryd.isAgg164
  z116 := Tryd.sizeOf164
  t117 := Tryd.underlying165
  a117 := Tryd.isAgg165
  z117 := Tryd.sizeOf165
  v117 := Tryd.zeroValue165
  t119 := Tryd.underlying196
  a119 := Tryd.isAgg196
  z119 := Tryd.sizeOf196
  t124 := Tryd.underlying168
  a124 := Tryd.isAgg168
  z124 := Tryd.sizeOf168
  v124 := Tryd.zeroValue168
  t138 := Tryd.underlying198
  a138 := Tryd.isAgg198
  z138 := Tryd.sizeOf198
  v138 := Tryd.zeroValue198
  t139 := Tryd.underlying199
  a139 := Tryd.isAgg199
  z139 := Tryd.sizeOf199
  v139 := Tryd.zeroValue199
  g3 := by kernel_rfl
  g4 := by kernel_rfl }
open Go.RowKit in
theorem Tryd.strings_Trim_one (s : ByteArray) (c : UInt8) (hc : c.toNat < 128) (w : World) (hs : s.size ≤ 9223372036854775807) :
    Calls Tryd.prog 84 #[.string s, .string ⟨#[c]⟩] w fun e w' => e = .returned (.string ⟨(Lib.trimB s.data.toList c).toArray⟩) ∧ (w' = w ∨ w' = w.drew) := Any.strings_Trim_one Tryd.lays160 s c hc w hs
def Tryd.lays119_ren : Go.Shelf.Ren := ⟨fun | 119 => 162 | n => n, fun | 21 => 21 | 4 => 4 | n => n, fun | n => n⟩
theorem Tryd.lays119 : Go.Proofs.Lays.n119 Tryd.prog Tryd.lays119_ren := {
  mixed := by kernel_rfl
  f119 := Tryd.func162.trans (congrArg some (by kernel_rfl))
  t4 := Tryd.underlying4
  a4 := Tryd.isAgg4
  z4 := Tryd.sizeOf4
  v4 := Tryd.zeroValue4
  t21 := Tryd.underlying21
  a21 := Tryd.isAgg21
  z21 := Tryd.sizeOf21
  v21 := Tryd.zeroValue21 }
theorem Tryd.utf8_ValidRune (r : Int) (w : World) :
    Calls Tryd.prog 162 #[.int .i32 r] w fun e w' => e = .returned (.bool (Lib.validRune r)) ∧ w' = w := Any.utf8_ValidRune Tryd.lays119 r w
def Tryd.lays120_ren : Go.Shelf.Ren := ⟨fun | 120 => 157 | n => n, fun | 5 => 5 | 4 => 4 | n => n, fun | n => n⟩
theorem Tryd.lays120 : Go.Proofs.Lays.n120 Tryd.prog Tryd.lays120_ren := {
  mixed := by kernel_rfl
  f120 := Tryd.func157.trans (congrArg some (by kernel_rfl))
  t4 := Tryd.underlying4
  a4 := Tryd.isAgg4
  z4 := Tryd.sizeOf4
  v4 := Tryd.zeroValue4
  t5 := Tryd.underlying5
  a5 := Tryd.isAgg5
  z5 := Tryd.sizeOf5
  v5 := Tryd.zeroValue5 }
theorem Tryd.utf8_RuneStart (b : Int) (w : World) (h0 : 0 ≤ b) (h1 : b < 256) :
    Calls Tryd.prog 157 #[.int .u8 b] w fun e w' => e = .returned (.bool (Lib.runeStart b)) ∧ w' = w := Any.utf8_RuneStart Tryd.lays120 b w h0 h1
def Tryd.lays210_ren : Go.Shelf.Ren := ⟨fun | 210 => 114 | 206 => 135 | n => n, fun | 9 => 9 | 4 => 4 | 3 => 3 | n => n, fun | n => n⟩
theorem Tryd.lays210 : Go.Proofs.Lays.n210 Tryd.prog Tryd.lays210_ren := {
  mixed := by kernel_rfl
  f206 := Tryd.func135.trans (congrArg some (by kernel_rfl))
  f210 := Tryd.func114.trans (congrArg some (by kernel_rfl))
  t3 := Tryd.underlying3
  a3 := Tryd.isAgg3
  z3 := Tryd.sizeOf3
  v3 := Tryd.zeroValue3
  t4 := Tryd.underlying4
  a4 := Tryd.isAgg4
  z4 := Tryd.sizeOf4
  v4 := Tryd.zeroValue4
  t9 := Tryd.underlying9
  a9 := Tryd.isAgg9
  z9 := Tryd.sizeOf9
  v9 := Tryd.zeroValue9 }
open Go.RowKit in
theorem Tryd.stringslite_CutPrefix (s p : ByteArray) (w : World) :
    Calls Tryd.prog 114 #[.string s, .string p] w fun e w' => e = .returned (.tuple #[.string ⟨(Lib.trimPrefix s.data.toList p.data.toList).toArray⟩, .bool (Lib.hasPrefix s.data.toList p.data.toList)]) ∧ w' = w := Any.stringslite_CutPrefix Tryd.lays210 s p w
def Tryd.lays103_ren : Go.Shelf.Ren := ⟨fun | 103 => 85 | 210 => 114 | 206 => 135 | n => n, fun | 9 => 9 | 4 => 4 | 24 => 144 | 3 => 3 | n => n, fun | n => n⟩
theorem Tryd.lays103 : Go.Proofs.Lays.n103 Tryd.prog Tryd.lays103_ren := {
  mixed := by kernel_rfl
  f103 := Tryd.func85.trans (congrArg some (by kernel_rfl))
  f206 := Tryd.func135.trans (congrArg some (by kernel_rfl))
  f210 := Tryd.func114.trans (congrArg some (by kernel_rfl))
  t3 := Tryd.underlying3
  a3 := Tryd.isAgg3
  z3 := Tryd.sizeOf3
  v3 := Tryd.zeroValue3
  t4 := Tryd.underlying4
  a4 := Tryd.isAgg4
  z4 := Tryd.sizeOf4
  v4 := Tryd.zeroValue4
  t9 := Tryd.underlying9
  a9 := Tryd.isAgg9
  z9 := Tryd.sizeOf9
  v9 := Tryd.zeroValue9
  t24 := Tryd.underlying144
  a24 := Tryd.isAgg144
  z24 := Tryd.sizeOf144
  v24 := Tryd.zeroValue144 }
open Go.RowKit in
theorem Tryd.strings_CutPrefix (s p : ByteArray) (w : World) :
    Calls Tryd.prog 85 #[.string s, .string p] w fun e w' => e = .returned (.tuple #[.string ⟨(Lib.trimPrefix s.data.toList p.data.toList).toArray⟩, .bool (Lib.hasPrefix s.data.toList p.data.toList)]) ∧ w' = w := Any.strings_CutPrefix Tryd.lays103 s p w
def Tryd.lays143_ren : Go.Shelf.Ren := ⟨fun | 143 => 59 | 219 => 83 | 217 => 103 | 225 => 104 | 224 => 105 | 267 => 106 | 266 => 129 | 314 => 130 | n => n, fun | 9 => 9 | 3 => 3 | 4 => 4 | 5 => 5 | 46 => 161 | 146 => 178 | 51 => 34 | n => n, fun | 1 => 1 | n => n⟩
theorem Tryd.lays143 : Go.Proofs.Lays.n143 Tryd.prog Tryd.lays143_ren := {
  mixed := by kernel_rfl
  f143 := Tryd.func59.trans (congrArg some (by kernel_rfl))
  f217 := Tryd.func103.trans (congrArg some (by kernel_rfl))
  f219 := Tryd.func83.trans (congrArg some (by kernel_rfl))
  f224 := Tryd.func105.trans (congrArg some (by kernel_rfl))
  f225 := Tryd.func104.trans (congrArg some (by kernel_rfl))
  f266 := Tryd.func129.trans (congrArg some (by kernel_rfl))
  f267 := Tryd.func106.trans (congrArg some (by kernel_rfl))
  f314 := Tryd.func130.trans (congrArg some (by kernel_rfl))
  t3 := Tryd.underlying3
  a3 := Tryd.isAgg3
  z3 := Tryd.sizeOf3
  v3 := Tryd.zeroValue3
  t4 := Tryd.underlying4
  a4 := Tryd.isAgg4
  z4 := Tryd.sizeOf4
  v4 := Tryd.zeroValue4
  t5 := Tryd.underlying5
  a5 := Tryd.isAgg5
  z5 := Tryd.sizeOf5
  v5 := Tryd.zeroValue5
  t9 := Tryd.underlying9
  a9 := Tryd.isAgg9
  z9 := Tryd.sizeOf9
  v9 := Tryd.zeroValue9
  t46 := Tryd.underlying161
  a46 := Tryd.isAgg161
  z46 := Tryd.sizeOf161
  v46 := Tryd.zeroValue161
  t51 := Tryd.underlying34
  a51 := Tryd.isAgg34
  z51 := Tryd.sizeOf34
  v51 := Tryd.zeroValue34
  t146 := Tryd.underlying178
  a146 := Tryd.isAgg178
  z146 := Tryd.sizeOf178
  v146 := Tryd.zeroValue178
  g1 := by kernel_rfl }
open Go.RowKit Go.Lib in
theorem Tryd.strings_Index_one (s : ByteArray) (c : UInt8) (w : World) :
    Calls Tryd.prog 59 #[.string s, .string ⟨#[c]⟩] w fun e w' => e = .returned (.int .i64 (Lib.indexByte s.data.toList c)) ∧ w' = w := Any.strings_Index_one Tryd.lays143 s c w
open Go.RowKit Go.Lib in
theorem Tryd.strings_Index (s sub : ByteArray) (m : Int) (w : World) (hs : s.size < 4294967281) (hm : w.cell? ⟨1, 0, none⟩ = some (.int .i64 m)) :
    Calls Tryd.prog 59 #[.string s, .string sub] w fun e w' => e = .returned (.int .i64 (Lib.index s.data.toList sub.data.toList)) ∧ w' = w := Any.strings_Index Tryd.lays143 s sub m w hs hm
def Tryd.lays206_ren : Go.Shelf.Ren := ⟨fun | 206 => 135 | n => n, fun | 9 => 9 | 4 => 4 | 3 => 3 | n => n, fun | n => n⟩
theorem Tryd.lays206 : Go.Proofs.Lays.n206 Tryd.prog Tryd.lays206_ren := {
  mixed := by kernel_rfl
  f206 := Tryd.func135.trans (congrArg some (by kernel_rfl))
  t3 := Tryd.underlying3
  a3 := Tryd.isAgg3
  z3 := Tryd.sizeOf3
  v3 := Tryd.zeroValue3
  t4 := Tryd.underlying4
  a4 := Tryd.isAgg4
  z4 := Tryd.sizeOf4
  v4 := Tryd.zeroValue4
  t9 := Tryd.underlying9
  a9 := Tryd.isAgg9
  z9 := Tryd.sizeOf9
  v9 := Tryd.zeroValue9 }
open Go.RowKit Go.Lib in
theorem Tryd.stringslite_HasPrefix (s p : ByteArray) (w : World) :
    Calls Tryd.prog 135 #[.string s, .string p] w fun e w' => e = .returned (.bool (Lib.hasPrefix s.data.toList p.data.toList)) ∧ w' = w := Any.stringslite_HasPrefix Tryd.lays206 s p w
def Tryd.lays99_ren : Go.Shelf.Ren := ⟨fun | 99 => 115 | 206 => 135 | n => n, fun | 9 => 9 | 4 => 4 | 3 => 3 | n => n, fun | n => n⟩
theorem Tryd.lays99 : Go.Proofs.Lays.n99 Tryd.prog Tryd.lays99_ren := {
  mixed := by kernel_rfl
  f99 := Tryd.func115.trans (congrArg some (by kernel_rfl))
  f206 := Tryd.func135.trans (congrArg some (by kernel_rfl))
  t3 := Tryd.underlying3
  a3 := Tryd.isAgg3
  z3 := Tryd.sizeOf3
  v3 := Tryd.zeroValue3
  t4 := Tryd.underlying4
  a4 := Tryd.isAgg4
  z4 := Tryd.sizeOf4
  v4 := Tryd.zeroValue4
  t9 := Tryd.underlying9
  a9 := Tryd.isAgg9
  z9 := Tryd.sizeOf9
  v9 := Tryd.zeroValue9 }
open Go.RowKit Go.Lib in
theorem Tryd.strings_HasPrefix (s p : ByteArray) (w : World) :
    Calls Tryd.prog 115 #[.string s, .string p] w fun e w' => e = .returned (.bool (Lib.hasPrefix s.data.toList p.data.toList)) ∧ w' = w := Any.strings_HasPrefix Tryd.lays99 s p w
end Go.Proofs

/- strings.SplitSeq's iterator at the point: it yields the parts between the points, one by one. -/
namespace Go.Proofs.YtcggeaobonblfaaDoor
open Go Go.RowKit
attribute [local go_sem] Oper.semAt_some
/-- A store into a block of one cell. -/
theorem blk_set {W : World} {B t : Nat} {u : Value} (h : W.heap[B]? = some (.cells #[u] t)) (v : Value) : (W.setCell ⟨B, 0, none⟩ v).heap[B]? = some (.cells #[v] t) := by
  have hlt := (Array.getElem?_eq_some_iff.1 h).1
  have hv := (Array.getElem?_eq_some_iff.1 h).2
  show (W.heap.modify B _)[B]? = _
  rw [Array.getElem?_eq_getElem (by rw [Array.size_modify]; exact hlt), Array.getElem_modify_self, hv]
  rfl
def lenAt (W : World) (a : Addr) : Nat := match W.cell? a with
  | some (.string s) => s.size
  | _ => 0
set_option maxRecDepth 100000 in
set_option maxHeartbeats 1000000 in
theorem split_iter (n : Nat) (hn : 1 ≤ n) (Bs Bp Bv : Nat) (s : List UInt8) (w : World) (hlen : s.length ≤ 140737488351232) (h1 : Bs ≠ Bp) (h2 : Bs ≠ Bv)
    (cs : w.heap[Bs]? = some (.cells #[.string ⟨s.toArray⟩] 9)) (cp : w.heap[Bp]? = some (.cells #[.string ⟨#[46]⟩] 9)) (cv : w.heap[Bv]? = some (.cells #[.int .i64 0] 3)) :
    Iterates Fence.wide n Tryd.prog 158 #[.pointer (some ⟨Bp, 0, none⟩), .pointer (some ⟨Bs, 0, none⟩), .pointer (some ⟨Bv, 0, none⟩)] (fun x : List UInt8 => #[.string ⟨x.toArray⟩])
      (fun t => t = Bs ∨ t = Bp ∨ t = Bv) (fun xs => xs = dots s) (fun pre => pre <+: dots s) w := fun l J Jx W hsz hkt hJ hJx hY h0 => by
  have es := (hkt Bs (.inl rfl)).trans cs
  have ep := (hkt Bp (.inr (.inl rfl))).trans cp
  have ev := (hkt Bv (.inr (.inr rfl))).trans cv
  clear hkt cs cp cv hsz
  refine callsIn_of_wp Tryd.func158 rfl trivial ?_ rfl
  simp only [Tryd.ntmps158, List.size_toArray, List.length_cons, List.length_nil, Nat.reduceAdd, Nat.reduceSub, Array.replicate_succ, Array.replicate_zero, List.push_toArray, List.append_toArray, List.nil_append, List.cons_append]
  have c1 : W.cell? ⟨Bp, 0, none⟩ = some (.string ⟨#[46]⟩) := by simp [World.cell?, ep]
  gi_wp2_with fail
  clear c1
  gi_loopw [7, 8] (fun _ _ wr => ∃ (pre : List (List UInt8)) (r : List UInt8), dots s = pre ++ dots r ∧ r.length ≤ s.length ∧ J pre wr ∧
      wr.heap[Bs]? = some (.cells #[.string ⟨r.toArray⟩] 9) ∧ wr.heap[Bp]? = some (.cells #[.string ⟨#[46]⟩] 9) ∧ wr.heap[Bv]? = some (.cells #[.int .i64 0] 3))
    (fun _ _ wr => lenAt wr ⟨Bs, 0, none⟩)
  case atStart => exact ⟨[], s, rfl, Nat.le_refl _, h0, es, ep, ev⟩
  case round =>
    clear es ep ev h0
    obtain ⟨pre, r, hd, hr, hj, es, ep, ev⟩ := hrel
    have c1 : wr.cell? ⟨Bp, 0, none⟩ = some (.string ⟨#[46]⟩) := by simp [World.cell?, ep]
    have c2 : wr.cell? ⟨Bs, 0, none⟩ = some (.string ⟨r.toArray⟩) := by simp [World.cell?, es]
    have c3 : wr.cell? ⟨Bv, 0, none⟩ = some (.int .i64 0) := by simp [World.cell?, ev]
    have f2 : wr.frozen? ⟨Bs, 0, none⟩ = false := by simp [World.frozen?, es]
    have hge := Lib.indexByte_ge r 46
    by_cases hi : Lib.indexByte r 46 < 0
    · obtain ⟨fn, tmps, assign, body, hy, hR⟩ := hY pre r _ (by rw [hd, dots_none r hi]; exact List.prefix_refl _) hj
      clear hY
      gi_wp2_with (refine ⟨trivial, ?_⟩; gi_at_call 59; refine (callsIn_wide.2 (Tryd.strings_Index_one ⟨r.toArray⟩ 46 wr)).mono ?_; rintro e w' ⟨rfl, rfl⟩)
      refine hR.mono ?_
      rintro e W' (⟨rfl, hj', hk', hs'⟩ | ⟨rfl, hx'⟩)
      · gi_wp2
        go_end0
        exact ⟨⟨_, rfl⟩, .inl ⟨_, by rw [hd, dots_none r hi], hj'⟩⟩
      · gi_wp2
        go_end0
        exact ⟨⟨_, rfl⟩, .inr ⟨_, by rw [hd, dots_none r hi]; exact List.prefix_refl _, hx'⟩⟩
    · obtain ⟨hlt, hds⟩ := dots_some r (by omega)
      obtain ⟨fn, tmps, assign, body, hy, hR⟩ := hY pre (r.take (Lib.indexByte r 46).toNat) _ (by rw [hd, hds]; exact ⟨dots (r.drop ((Lib.indexByte r 46).toNat + 1)), by simp⟩) hj
      clear hY
      rw [← ext_take] at hy
      have Hds := Lib.hid hds
      have Hd := Lib.hid hd
      clear hds hd
      gi_wp2_with (refine ⟨trivial, ?_⟩; gi_at_call 59; refine (callsIn_wide.2 (Tryd.strings_Index_one ⟨r.toArray⟩ 46 wr)).mono ?_; rintro e w' ⟨rfl, rfl⟩)
      refine hR.mono ?_
      rintro e W' (⟨rfl, hj', hk', hs'⟩ | ⟨rfl, hx'⟩)
      · have es' := (hk' Bs (.inl rfl)).trans es
        have ep' := (hk' Bp (.inr (.inl rfl))).trans ep
        have ev' := (hk' Bv (.inr (.inr rfl))).trans ev
        have c1' : W'.cell? ⟨Bp, 0, none⟩ = some (.string ⟨#[46]⟩) := by simp [World.cell?, ep']
        have c2' : W'.cell? ⟨Bs, 0, none⟩ = some (.string ⟨r.toArray⟩) := by simp [World.cell?, es']
        have f2' : W'.frozen? ⟨Bs, 0, none⟩ = false := by simp [World.frozen?, es']
        have es'' := Lib.hid es'
        have ep'' := Lib.hid ep'
        have ev'' := Lib.hid ev'
        clear hk' hR hy es' ep' ev'
        gi_wp2
        have hcut : ({ data := r.toArray } : ByteArray).extract (Lib.indexByte r 46 + 1).toNat r.length = ⟨(r.drop ((Lib.indexByte r 46).toNat + 1)).toArray⟩ := by
          rw [ext_drop _ _ _ (Nat.le_refl _), show (Lib.indexByte r 46 + 1).toNat = (Lib.indexByte r 46).toNat + 1 from by omega]
        go_roundw
        case rel =>
          rw [hcut]
          refine ⟨_, r.drop ((Lib.indexByte r 46).toNat + 1), by rw [Hd.out, Hds.out]; simp [List.append_assoc], by simp; omega,
            hJ _ _ _ (some Bs) hj' (grownBy_setCell' _ _ _) (fun r e => by cases e; exact .inl rfl), ?_, ?_, ?_⟩
          · exact blk_set es''.out _
          · rw [Below.heap_setCell _ _ _ _ (Ne.symm h1)]; exact ep''.out
          · rw [Below.heap_setCell _ _ _ _ (Ne.symm h2)]; exact ev''.out
        case measure =>
          rw [hcut]
          have hn : lenAt w' ⟨Bs, 0, none⟩ = r.length := by unfold lenAt; rw [c2]; simp [ByteArray.size]
          rw [hn]
          unfold lenAt
          rw [World.cell?_setCell_same' _ _ _ (by rw [c2']; rfl)]
          simp [ByteArray.size]
          omega
      · gi_wp2
        refine bodyPost_ret (results_none rfl _ _ _) rfl ?_
        exact ⟨⟨_, rfl⟩, .inr ⟨_, by rw [Hd.out, Hds.out]; exact ⟨dots (r.drop ((Lib.indexByte r 46).toNat + 1)), by simp⟩, hx'⟩⟩
/-- strings.SplitSeq: the iterator, its three variables in blocks of their own. -/
theorem splitSeq_any (s p : ByteArray) (w : World) :
    Calls Tryd.prog 116 #[.string s, .string p] w fun e w' => e = .returned (.func (.func 158) #[] #[.pointer (some ⟨w.heap.size + 1, 0, none⟩), .pointer (some ⟨w.heap.size, 0, none⟩), .pointer (some ⟨w.heap.size + 1 + 1, 0, none⟩)]) ∧
      w' = ((w.alloc (.cells #[.string s] 9)).alloc (.cells #[.string p] 9)).alloc (.cells #[.int .i64 0] 3) := by
  go_enter Tryd.func116, Tryd.ntmps116
  go_wp2
  go_ret
  exact ⟨rfl, rfl⟩
end Go.Proofs.YtcggeaobonblfaaDoor

/- Names and ways as plain functions of lists of bytes. -/
namespace Go.Proofs.YtcggeaobonblfaaDoor
/-- May byte b stand at place i of a name? -/
def okAt (i : Nat) (b : UInt8) : Bool := (97 ≤ b && b ≤ 122) || (i != 0 && ((48 ≤ b && b ≤ 57) || b == 95))
theorem okAt_iff (i : Nat) (b : UInt8) : okAt i b = true ↔ (97 ≤ b.toNat ∧ b.toNat ≤ 122) ∨ (0 < i ∧ ((48 ≤ b.toNat ∧ b.toNat ≤ 57) ∨ b.toNat = 95)) := by
  unfold okAt
  simp [UInt8.le_iff_toNat_le, ← UInt8.toNat_inj]
  omega
/-- From place i on. -/
def okFrom : Nat → List UInt8 → Bool
  | _, [] => true
  | i, b :: l => okAt i b && okFrom (i + 1) l
def nameF (s : List UInt8) : Bool := okFrom 0 s && decide (1 ≤ s.length) && decide (s.length ≤ 32)
theorem okFrom_at : ∀ (l : List UInt8) (i k : Nat) (h : k < l.length), okFrom i l = true → okAt (i + k) l[k] = true
  | b :: l, i, 0, _, h => by simp [okFrom] at h; simpa using h.1
  | b :: l, i, k + 1, hk, h => by
    simp [okFrom] at h
    have := okFrom_at l (i + 1) k (by simpa using hk) h.2
    simpa [Nat.add_assoc, Nat.add_comm 1 k] using this
theorem okFrom_all : ∀ (l : List UInt8) (i : Nat), (∀ k (h : k < l.length), okAt (i + k) l[k] = true) → okFrom i l = true
  | [], _, _ => rfl
  | b :: l, i, h => by
    simp only [okFrom, Bool.and_eq_true]
    refine ⟨h 0 (by simp), okFrom_all l (i + 1) fun k hk => ?_⟩
    have := h (k + 1) (by simp; omega)
    simpa [Nat.add_assoc, Nat.add_comm 1 k] using this
theorem nameF_bad (s : List UInt8) (k : Nat) (hk : k < s.length) (h : okAt k s[k] = false) : nameF s = false := by
  unfold nameF
  have : okFrom 0 s = false := by
    rw [← Bool.not_eq_true]
    intro h2
    have := okFrom_at s 0 k hk h2
    rw [Nat.zero_add, h] at this
    cases this
  simp [this]
theorem nameF_good (s : List UInt8) (h : ∀ k (h : k < s.length), okAt k s[k] = true) : nameF s = (decide (1 ≤ s.length) && decide (s.length ≤ 32)) := by
  unfold nameF
  rw [okFrom_all s 0 (fun k hk => by simpa using h k hk)]
  simp
/-- What a text says as a way: from the root?; the names; is it a way? -/
def wayF (s : List UInt8) : Bool × List (List UInt8) × Bool :=
  if s = [46] then (false, [], true) else if s = [36] then (true, [], true) else
  let r := if Lib.hasPrefix s [36, 46] then s.drop 2 else s
  if (dots r).all nameF && decide ((dots r).length ≤ 8) then (Lib.hasPrefix s [36, 46], dots r, true) else (false, [], false)
end Go.Proofs.YtcggeaobonblfaaDoor

/- lex.Name: it answers whether a text is a name. -/
namespace Go.Proofs.YtcggeaobonblfaaDoor
open Go Go.RowKit
theorem ret_bool {a b : Bool} (h : a = b) : Ending.returned (.bool a) = Ending.returned (.bool b) := by rw [h]
set_option maxRecDepth 100000 in
set_option maxHeartbeats 1000000 in
theorem name_any (s : ByteArray) (w : World) (hs : s.size ≤ 140737488351232) :
    Calls Tryd.prog 117 #[.string s] w fun e w' => e = .returned (.bool (nameF s.data.toList)) ∧ w = w' := by
  go_enter Tryd.func117, Tryd.ntmps117
  go_wp2
  go_loop [7] (fun i => ∃ k : Nat, k ≤ s.size ∧ i = .int .i64 k ∧ ∀ j (h : j < s.data.toList.length), j < k → okAt j s.data.toList[j] = true) (fun i => s.size - (intOf i).toNat)
  case atStart => exact ⟨0, Nat.zero_le _, rfl, fun _ _ h => absurd h (Nat.not_lt_zero _)⟩
  case round =>
    obtain ⟨k, hk, rfl, hall⟩ := hrel
    have Hall := Lib.hid hall
    clear hall
    by_cases hlt : k < s.size
    · have hl : s.data.toList[k]'(by simpa using hlt) = s[k] := rfl
      have hlen : k < s.data.toList.length := by simpa using hlt
      have Hb := nameF_bad s.data.toList k hlen
      have Hok : okAt k (s.data.toList[k]'hlen) = true → ∀ j (h : j < s.data.toList.length), j < k + 1 → okAt j s.data.toList[j] = true := fun h0 j hj hjk => by
        rcases Nat.lt_succ_iff_lt_or_eq.1 hjk with h | rfl
        · exact Hall.out j hj h
        · exact h0
      rw [hl] at Hb Hok
      have Hb' := Lib.hid Hb
      have Hok' := Lib.hid Hok
      clear hl Hb Hok hlen
      have h1 := okAt_iff k s[k]
      have key : (okAt k s[k] = true ∧ 97 ≤ s[k].toNat ∧ s[k].toNat ≤ 122) ∨ (okAt k s[k] = false ∧ s[k].toNat < 97 ∧ k = 0) ∨ (okAt k s[k] = false ∧ 122 < s[k].toNat ∧ k = 0) ∨
        (okAt k s[k] = false ∧ s[k].toNat < 97 ∧ 0 < k ∧ s[k].toNat < 48) ∨ (okAt k s[k] = true ∧ s[k].toNat < 97 ∧ 0 < k ∧ 48 ≤ s[k].toNat ∧ s[k].toNat ≤ 57) ∨
        (okAt k s[k] = false ∧ s[k].toNat < 97 ∧ 0 < k ∧ 57 < s[k].toNat ∧ s[k].toNat < 95) ∨ (okAt k s[k] = true ∧ s[k].toNat = 95 ∧ 0 < k) ∨ (okAt k s[k] = false ∧ s[k].toNat = 96 ∧ 0 < k) ∨ (okAt k s[k] = false ∧ 122 < s[k].toNat ∧ 0 < k) := by
        cases hb : okAt k s[k] <;> simp [hb] at h1 ⊢ <;> omega
      clear h1
      rcases key with ⟨ho, a1, a2⟩ | ⟨ho, a1, rfl⟩ | ⟨ho, a1, rfl⟩ | ⟨ho, a1, a2, a3⟩ | ⟨ho, a1, a2, a3, a4⟩ | ⟨ho, a1, a2, a3, a4⟩ | ⟨ho, a1, a2⟩ | ⟨ho, a1, a2⟩ | ⟨ho, a1, a2⟩
      all_goals
        have Ho := Lib.hid ho
        clear ho
      all_goals go_wp2
      all_goals first
        | (go_ret; exact ⟨ret_bool (Hb'.out Ho.out).symm, rfl⟩)
        | exact ⟨⟨_, by omega, by go_num, Hok'.out Ho.out⟩, (by simp [intOf]; omega)⟩
        | (exfalso; clear Hall Hb' Hok' Ho; simp_all <;> omega)
    · have Hg := Lib.hid (nameF_good s.data.toList (fun j hj => Hall.out j hj (by simp at hj; omega)))
      have hl : Hid (s.data.toList.length = s.size) := Lib.hid (by simp)
      go_wp2
      all_goals go_ret
      all_goals refine ⟨ret_bool ?_, rfl⟩
      all_goals rw [Hg.out, hl.out]
      all_goals (rw [Bool.eq_iff_iff]; simp only [Bool.and_eq_true, decide_eq_true_eq, Bool.false_eq_true, false_iff]; omega)
theorem name_at (x : List UInt8) (b : Bool) (w : World) (hx : x.length ≤ 140737488351232) (h : nameF x = b) :
    Calls Tryd.prog 117 #[.string ⟨x.toArray⟩] w fun e w' => e = .returned (.bool b) ∧ w = w' := by
  subst h
  have := name_any ⟨x.toArray⟩ w (by simpa [ByteArray.size] using hx)
  simpa using this
end Go.Proofs.YtcggeaobonblfaaDoor

/- lex.Way: the way that a text says, in new memory. -/
namespace Go.Proofs.YtcggeaobonblfaaDoor
open Go Go.RowKit
attribute [local go_sem] Oper.semAt_some
def encS (x : List UInt8) : Value := .string ⟨x.toArray⟩
/-- A way in memory: its names in a row from base on. -/
def WayAt (W : World) (base : Nat) (v : Value) (names : List (List UInt8)) : Prop := W.ownsRow base 9 1 v names.length (names.map encS)
theorem way_none (W : World) (base : Nat) : WayAt W base (.slice none 0 0) [] := ⟨by simp, .inl ⟨rfl, rfl⟩⟩
theorem way_slice {W : World} {base : Nat} {v : Value} {names : List (List UInt8)} (h : WayAt W base v names) : ∃ A c, v = .slice A names.length c := by
  unfold WayAt at h
  rcases h.2 with ⟨rfl, h0⟩ | ⟨g, cap, cur, rfl, _⟩
  · rw [h0]; exact ⟨_, _, rfl⟩
  · exact ⟨_, _, rfl⟩
def WayPost (w : World) (r : Bool × List (List UInt8) × Bool) (e : Ending) (w' : World) : Prop :=
  ∃ v, e = .returned (.tuple #[.agg #[.bool r.1, v], .bool r.2.2]) ∧ WayAt w' w.heap.size v r.2.1 ∧ Below w.heap.size w w'
set_option maxRecDepth 100000 in
set_option maxHeartbeats 1000000 in
theorem way_dot (s : ByteArray) (w : World) (h : s.toList = [46]) : Calls Tryd.prog 87 #[.string s] w (WayPost w (false, [], true)) := by
  go_enter Tryd.func87, Tryd.ntmps87
  go_wp2
  refine bodyPost_ret (v := .tuple #[.agg #[.bool false, .slice none 0 0], .bool true]) (by simp [results, Tryd.results87, go_sem]) rfl ⟨_, rfl, way_none _ _, ?_⟩
  exact (((Below.refl _ _).alloc (Nat.le_refl _) _).alloc (by simp) _).alloc (by simp; omega) _
set_option maxRecDepth 100000 in
set_option maxHeartbeats 1000000 in
theorem way_root (s : ByteArray) (w : World) (h : s.toList = [36]) : Calls Tryd.prog 87 #[.string s] w (WayPost w (true, [], true)) := by
  go_enter Tryd.func87, Tryd.ntmps87
  go_wp2
  refine bodyPost_ret (v := .tuple #[.agg #[.bool true, .slice none 0 0], .bool true]) (by simp [results, Tryd.results87, go_sem]) rfl ⟨_, rfl, way_none _ _, ?_⟩
  exact (((Below.refl _ _).alloc (Nat.le_refl _) _).alloc (by simp) _).alloc (by simp; omega) _
def WI (w : World) (root : Bool) (pre : List (List UInt8)) (W : World) : Prop :=
  ∃ v, (∀ x ∈ pre, nameF x = true) ∧ W.heap[w.heap.size]? = some (.cells #[.bool false, .slice none 0 0] 63) ∧ W.heap[w.heap.size + 1]? = some (.cells #[.bool false] 4) ∧
    W.heap[w.heap.size + 1 + 1]? = some (.cells #[.bool root, v] 63) ∧ WayAt W (w.heap.size + 6) v pre ∧ Below w.heap.size w W ∧ w.heap.size + 6 ≤ W.heap.size
def WX (w : World) (c : Code) (pre : List (List UInt8)) (W : World) : Prop :=
  c = .ret ∧ (∃ x ∈ pre, nameF x = false) ∧ W.heap[w.heap.size]? = some (.cells #[.bool false, .slice none 0 0] 63) ∧ W.heap[w.heap.size + 1]? = some (.cells #[.bool false] 4) ∧ Below w.heap.size w W
theorem WI_own (w : World) (root : Bool) (B : Nat) (hB : w.heap.size ≤ B) : OwnFrom B (WI w root) := fun s X Y row hs hg hr => by
  obtain ⟨v, hn, h0, h1, h2, hv, hb, hz⟩ := hs
  have hr' : ∀ r, row = some r → ∃ o : Obj, X.heap[r]? = some o ∧ o.isCells = false := fun r e => (hr r e).2
  exact ⟨v, hn, blk_own h0 hg hr', blk_own h1 hg hr', blk_own h2 hg hr', row_own hv hg hr', hb.grown hg hb.size (fun k e => Nat.le_trans hB (hr k e).1), Nat.le_trans hz hg.size⟩
theorem WX_own (w : World) (c : Code) (B : Nat) (hB : w.heap.size ≤ B) : OwnFrom B (WX w c) := fun s X Y row hs hg hr => by
  obtain ⟨hc, hn, h0, h1, hb⟩ := hs
  have hr' : ∀ r, row = some r → ∃ o : Obj, X.heap[r]? = some o ∧ o.isCells = false := fun r e => (hr r e).2
  exact ⟨hc, hn, blk_own h0 hg hr', blk_own h1 hg hr', hb.grown hg hb.size (fun k e => Nat.le_trans hB (hr k e).1)⟩
def WT (w : World) (t : Nat) : Prop := t = w.heap.size + 1 + 1 + 1 ∨ t = w.heap.size + 1 + 1 + 1 + 1 ∨ t = w.heap.size + 1 + 1 + 1 + 1 + 1
theorem WI_bears (w : World) (root : Bool) : Bears (WT w) (WI w root) := fun s X Y row hs hg hr => by
  obtain ⟨v, hn, h0, h1, h2, hv, hb, hz⟩ := hs
  have hlt : ∀ r, row = some r → w.heap.size + 3 ≤ r ∧ r < w.heap.size + 6 := fun r e => by rcases hr r e with h | h | h <;> omega
  exact ⟨v, hn, blk_off h0 hg (fun e => by have := hlt _ e; omega), blk_off h1 hg (fun e => by have := hlt _ e; omega), blk_off h2 hg (fun e => by have := hlt _ e; omega),
    row_off hv hg (fun r e => (hlt r e).2), hb.grown hg hb.size (fun k e => by have := hlt k e; omega), Nat.le_trans hz hg.size⟩
theorem WX_bears (w : World) (c : Code) : Bears (WT w) (WX w c) := fun s X Y row hs hg hr => by
  obtain ⟨hc, hn, h0, h1, hb⟩ := hs
  have hlt : ∀ r, row = some r → w.heap.size + 3 ≤ r ∧ r < w.heap.size + 6 := fun r e => by rcases hr r e with h | h | h <;> omega
  exact ⟨hc, hn, blk_off h0 hg (fun e => by have := hlt _ e; omega), blk_off h1 hg (fun e => by have := hlt _ e; omega), hb.grown hg hb.size (fun k e => by have := hlt k e; omega)⟩
theorem Tryd.info9 : (Tryd.prog.info? 9).map (fun i => (i.zero, i.size, i.bytes)) = some (some (.string ⟨#[]⟩), 1, 16) := by kernel_rfl
set_option maxRecDepth 100000 in
/-- The function's end: its two results lie in their blocks. -/
theorem way_end {w W : World} {D : Nat} {root ok : Bool} {vv : Value} {names : List (List UInt8)} (tmps : Array Value) (ht2 : tmps.getD 2 undef = .pointer (some ⟨w.heap.size, 0, none⟩)) (ht3 : tmps.getD 3 undef = .pointer (some ⟨w.heap.size + 1, 0, none⟩))
    (h0 : W.heap[w.heap.size]? = some (.cells #[.bool root, vv] 63)) (h1 : W.heap[w.heap.size + 1]? = some (.cells #[.bool ok] 4)) (hv : WayAt W w.heap.size vv names) (hb : Below w.heap.size w W)
    (hD : w.heap.size + 6 ≤ D) (hK : W.heap[D]? = some (.deferred (some []))) :
    bodyPostM Fence.wide 4 Tryd.prog Tryd.f87 (WayPost w (root, names, ok)) Exit.ret { tmps := tmps, defers := [{ target := .collected D, args := #[] }] } W := by
  refine ⟨by simp, .inl ⟨_, _, rfl, run_takeDeferred hK, ?_⟩⟩
  have hr : ∀ r, (some D : Option Nat) = some r → ∃ o : Obj, W.heap[r]? = some o ∧ o.isCells = false := fun r e => by cases e; exact ⟨_, hK, rfl⟩
  have k0 := blk_own h0 (grownBy_putObj' W D (.deferred none)) hr
  have k1 := blk_own h1 (grownBy_putObj' W D (.deferred none)) hr
  have c0 : (W.putObj D (.deferred none)).cell? ⟨w.heap.size, 0, none⟩ = some (.bool root) := by simp [World.cell?, k0]
  have c1 : (W.putObj D (.deferred none)).cell? ⟨w.heap.size, 1, none⟩ = some vv := by simp [World.cell?, k0]
  have c2 : (W.putObj D (.deferred none)).cell? ⟨w.heap.size + 1, 0, none⟩ = some (.bool ok) := by simp [World.cell?, k1]
  refine ⟨.tuple #[.agg #[.bool root, vv], .bool ok], ?_, vv, rfl, row_own hv (grownBy_putObj' W D (.deferred none)) hr, hb.trans (belowK_b (w := w) (Nat.le_refl _) W D _ _ (by omega) hK rfl rfl)⟩
  rw [Array.getD_eq_getD_getElem?] at ht2 ht3
  simp [results, Tryd.f87, go_sem, ht2, ht3, c0, c1, c2]
set_option maxRecDepth 100000 in
set_option maxHeartbeats 1000000 in
theorem way_plain (s : List UInt8) (w : World) (hs : s.length ≤ 65536) (h1 : s ≠ [46]) (h2 : s ≠ [36]) (hp : Lib.hasPrefix s [36, 46] = false) :
    Calls Tryd.prog 87 #[.string ⟨s.toArray⟩] w (WayPost w (wayF s)) := by
  have e1 : (s == [46]) = false := by simpa using h1
  have e2 : (s == [36]) = false := by simpa using h2
  obtain ⟨i0, hi, hz0, hz1, hz2⟩ := info_parts Tryd.info9
  obtain ⟨r, hr⟩ : ∃ r : List UInt8, r = s := ⟨_, rfl⟩
  have hrl : r.length ≤ 65536 := by rw [hr]; first | omega | (simp; omega)
  have Hw : Hid (wayF s = if (dots r).all nameF && decide ((dots r).length ≤ 8) then (false, dots r, true) else (false, [], false)) := Lib.hid (by
    unfold wayF
    rw [if_neg h1, if_neg h2, hr]
    simp [hp])
  refine (callsIn_wide (n := 4)).1 ?_
  refine callsIn_of_wp_marks Tryd.func87 rfl trivial ?_ rfl
  simp only [Tryd.ntmps87, List.size_toArray, List.length_cons, List.length_nil, Nat.reduceAdd, Nat.reduceSub, Array.replicate_succ, Array.replicate_zero, List.push_toArray, List.append_toArray, List.nil_append, List.cons_append]
  gi_wp2_with (first
    | (refine ⟨trivial, ?_⟩; gi_at_call 115; refine (callsIn_wide.2 (Tryd.strings_HasPrefix _ _ _)).mono ?_; rintro e w' ⟨rfl, rfl⟩)
    | (refine ⟨trivial, ?_⟩; gi_at_call 116; refine (callsIn_wide.2 (splitSeq_any _ _ _)).mono ?_; rintro e w' ⟨rfl, rfl⟩))
  obtain ⟨W0, hW0⟩ : ∃ W0 : World, ((((((w.alloc (.cells #[.bool false, .slice none 0 0] 63)).alloc (.cells #[.bool false] 4)).alloc (.cells #[.bool false, .slice none 0 0] 63)).alloc (.cells #[.string ⟨r.toArray⟩] 9)).alloc (.cells #[.string ⟨#[46]⟩] 9)).alloc (.cells #[.int .i64 0] 3)) = W0 := ⟨_, rfl⟩
  have hsz : W0.heap.size = w.heap.size + 6 := by rw [← hW0]; simp
  have hB0 : Below w.heap.size w W0 := by
    rw [← hW0]
    exact ((((((Below.refl _ _).alloc (Nat.le_refl _) _).alloc (by simp) _).alloc (by simp; omega) _).alloc (by simp; omega) _).alloc (by simp; omega) _).alloc (by simp; omega) _
  have b0 : W0.heap[w.heap.size]? = some (.cells #[.bool false, .slice none 0 0] 63) := by rw [← hW0]; simp only [heap_at, World.size_alloc]; repeat (first | rw [if_pos trivial] | rw [if_pos (by omega)] | rw [if_neg (by omega)])
  have b1 : W0.heap[w.heap.size + 1]? = some (.cells #[.bool false] 4) := by rw [← hW0]; simp only [heap_at, World.size_alloc]; repeat (first | rw [if_pos trivial] | rw [if_pos (by omega)] | rw [if_neg (by omega)])
  have b2 : W0.heap[w.heap.size + 1 + 1]? = some (.cells #[.bool false, .slice none 0 0] 63) := by rw [← hW0]; simp only [heap_at, World.size_alloc]; repeat (first | rw [if_pos trivial] | rw [if_pos (by omega)] | rw [if_neg (by omega)])
  have b3 : W0.heap[w.heap.size + 1 + 1 + 1]? = some (.cells #[.string ⟨r.toArray⟩] 9) := by rw [← hW0]; simp only [heap_at, World.size_alloc]; repeat (first | rw [if_pos trivial] | rw [if_pos (by omega)] | rw [if_neg (by omega)])
  have b4 : W0.heap[w.heap.size + 1 + 1 + 1 + 1]? = some (.cells #[.string ⟨#[46]⟩] 9) := by rw [← hW0]; simp only [heap_at, World.size_alloc]; repeat (first | rw [if_pos trivial] | rw [if_pos (by omega)] | rw [if_neg (by omega)])
  have b5 : W0.heap[w.heap.size + 1 + 1 + 1 + 1 + 1]? = some (.cells #[.int .i64 0] 3) := by rw [← hW0]; simp only [heap_at, World.size_alloc]; repeat (first | rw [if_pos trivial] | rw [if_pos (by omega)] | rw [if_neg (by omega)])
  subst hr
  rw [hW0]
  refine wpIn_range (T := WT w) rfl (by decide) (gf := 158) rfl trivial (enters_of Tryd.func158 (by kernel_rfl) rfl)
    (split_iter 3 (by decide) _ _ _ r W0 (by omega) (by omega) (by omega) b3 b4 b5) (by rw [hsz]; intro t ht; rcases ht with h | h | h <;> omega) (fun _ => rfl)
    (WI w false) (WX w) (WI_own w false _ (by omega)) (fun c => WX_own w c _ (by omega)) (WI_bears w false) (WX_bears w)
    ⟨_, by simp, b0, b1, b2, way_none _ _, hB0, by omega⟩ ?a1 ?assign ?body ?done ?stop
  case assign =>
    intro l x W K hK
    gi_wp2
    exact hK
  case body =>
    rintro l pre x W hsp ⟨v, hn, h0, h1, h2, hv, hb, hz⟩
    have hxl : x.length ≤ r.length := dots_len r x (by obtain ⟨t, ht⟩ := hsp; rw [← ht]; simp)
    have hpl : pre.length + 1 ≤ 65537 := by
      obtain ⟨t, ht⟩ := hsp
      have := dots_count r
      rw [← ht] at this
      simp at this
      omega
    clear hsp hW0 b0 b1 b2 b3 b4 b5 e1 e2 Hw
    have c0 : W.cell? ⟨w.heap.size, 0, none⟩ = some (.bool false) := by simp [World.cell?, h0]
    have c1 : W.cell? ⟨w.heap.size, 1, none⟩ = some (.slice none 0 0) := by simp [World.cell?, h0]
    have c2 : W.cell? ⟨w.heap.size + 1, 0, none⟩ = some (.bool false) := by simp [World.cell?, h1]
    have c4 : W.cell? ⟨w.heap.size + 1 + 1, 1, none⟩ = some v := by simp [World.cell?, h2]
    have f0 : W.frozen? ⟨w.heap.size, 0, none⟩ = false := by simp [World.frozen?, h0]
    have f1 : W.frozen? ⟨w.heap.size, 1, none⟩ = false := by simp [World.frozen?, h0]
    have f2 : W.frozen? ⟨w.heap.size + 1, 0, none⟩ = false := by simp [World.frozen?, h1]
    have f4 : W.frozen? ⟨w.heap.size + 1 + 1, 1, none⟩ = false := by simp [World.frozen?, h2]
    have H0 := Lib.hid h0
    have H1 := Lib.hid h1
    have H2 := Lib.hid h2
    clear h0 h1 h2
    cases hx : nameF x
    · have Hx := Lib.hid hx
      clear hx
      gi_wp2_with (refine ⟨trivial, ?_⟩; gi_at_call 117; refine (CallsIn.inRound l (callsIn_wide.2 (name_at x false _ (by omega) Hx.out))).mono ?_; rintro e w' ⟨rfl, rfl⟩)
      have k0 := blk_far (blk_put (blk_put H0.out 0 (.bool false)) 1 (.slice none 0 0)) (p := ⟨w.heap.size + 1, 0, none⟩) (by simp) (.bool false)
      have k1 := blk_put (blk_far (blk_far H1.out (p := ⟨w.heap.size, 0, none⟩) (by simp) (.bool false)) (p := ⟨w.heap.size, 1, none⟩) (by simp) (.slice none 0 0)) 0 (.bool false)
      exact ⟨((KeepsOthers.setCell _ _ _).trans (KeepsOthers.setCell _ _ _)).trans (KeepsOthers.setCell _ _ _), rfl, ⟨x, by simp, Hx.out⟩, k0, k1,
        ((hb.setCell (p := ⟨w.heap.size, 0, none⟩) (Nat.le_refl _) _).setCell (p := ⟨w.heap.size, 1, none⟩) (Nat.le_refl _) _).setCell (p := ⟨w.heap.size + 1, 0, none⟩) (by simp) _⟩
    · have Hx := Lib.hid hx
      clear hx
      gi_wp2_with (first
        | (refine ⟨trivial, ?_⟩; gi_at_call 117; refine (CallsIn.inRound l (callsIn_wide.2 (name_at x true _ (by omega) Hx.out))).mono ?_; rintro e w' ⟨rfl, rfl⟩)
        | (gi_at_builtin; refine halt ?_))
      refine Halted.mk' ?_
      refine wpListIn_append_own _ rfl _ _ 61 rfl (w.heap.size + 6) 9 i0 (.string ⟨#[]⟩) 1 16 Tryd.underlying61 hi hz0 hz1 hz2 rfl (by decide) v pre.length (pre.map encS) rfl (World.ownsRow.alloc hv _) ⟨_, 0, none⟩ 1 1 [encS x] rfl rfl (cell_one_new _ _ _) ?_ ?_ ?_ ?_ ?_
      · simp [encS, Value.oneCell']
      · unfold maxLen; omega
      · omega
      · simp; omega
      intro v' w1 hown' hgrow _
      obtain ⟨g', cap', rfl⟩ := ownsRow_succ hown'
      have hnb : ∀ k, (v : Value).ownBlock = some k → w.heap.size + 6 ≤ k := row_base hv
      have g0 := blk_off ((heap_old (World.heap_lt H0.out)).trans H0.out) hgrow (fun e => by have := hnb _ e; omega)
      have g1 := blk_off ((heap_old (World.heap_lt H1.out)).trans H1.out) hgrow (fun e => by have := hnb _ e; omega)
      have g2 := blk_off ((heap_old (World.heap_lt H2.out)).trans H2.out) hgrow (fun e => by have := hnb _ e; omega)
      have d4 : w1.cell? ⟨w.heap.size + 1 + 1, 1, none⟩ = some v := by simp [World.cell?, g2]
      have k4 : w1.frozen? ⟨w.heap.size + 1 + 1, 1, none⟩ = false := by simp [World.frozen?, g2]
      have G0 := Lib.hid g0
      have G1 := Lib.hid g1
      have G2 := Lib.hid g2
      clear g0 g1 g2 hi hz0 hz1 hz2 c0 c1 c2 c4 f0 f1 f2 f4
      gi_wp2
      have hcells : ∀ j o, v.ownBlock = some j → (W.alloc (.cells #[encS x] 9)).heap[j]? = some o → o.isCells = true := fun j o e ho => row_cells (World.ownsRow.alloc hv _) j o e ho
      refine ⟨((KeepsOthers.alloc _ _).trans (KeepsOthers.of_grownBy hgrow hcells)).trans (KeepsOthers.setCell _ _ _), ?_, _, ?_, blk_far G0.out (by dsimp only; omega) _, blk_far G1.out (by simp) _, blk_put G2.out 1 _, ?_, ?_, ?_⟩
      · intro t ht
        have hlt : w.heap.size + 3 ≤ t ∧ t < w.heap.size + 6 := by rcases ht with h | h | h <;> omega
        rw [Below.heap_setCell _ _ _ _ (by dsimp only; omega), hgrow.block t (by simp; omega) (fun e => by have := hnb _ e.symm; omega), heap_old (by omega)]
      · intro y hy
        rcases List.mem_append.1 hy with h | h
        · exact hn y h
        · simp at h; rw [h]; exact Hx.out
      · have := row_set hown' (p := ⟨w.heap.size + 1 + 1, 1, none⟩) (by dsimp only; omega) (.slice (some ⟨g', 0, none⟩) (pre.length + 1) cap')
        unfold WayAt
        simpa using this
      · exact ((hb.alloc hb.size _).grown hgrow (by simp; omega) (fun k e => by have := hnb k e; omega)).setCell (p := ⟨w.heap.size + 1 + 1, 1, none⟩) (by simp; omega) _
      · have := hgrow.size
        simp at this ⊢
        omega
  case done =>
    rintro D xs W hD rfl ⟨v, hn, h0, h1, h2, hv, hb, hz⟩ hK
    clear hW0 b0 b1 b2 b3 b4 b5 e1 e2
    have hall : (dots r).all nameF = true := by simpa using hn
    have c0 : W.cell? ⟨w.heap.size, 0, none⟩ = some (.bool false) := by simp [World.cell?, h0]
    have c1 : W.cell? ⟨w.heap.size, 1, none⟩ = some (.slice none 0 0) := by simp [World.cell?, h0]
    have c2 : W.cell? ⟨w.heap.size + 1, 0, none⟩ = some (.bool false) := by simp [World.cell?, h1]
    have c3 : W.cell? ⟨w.heap.size + 1 + 1, 0, none⟩ = some (.bool false) := by simp [World.cell?, h2]
    have c4 : W.cell? ⟨w.heap.size + 1 + 1, 1, none⟩ = some v := by simp [World.cell?, h2]
    have f0 : W.frozen? ⟨w.heap.size, 0, none⟩ = false := by simp [World.frozen?, h0]
    have f1 : W.frozen? ⟨w.heap.size, 1, none⟩ = false := by simp [World.frozen?, h0]
    have f2 : W.frozen? ⟨w.heap.size + 1, 0, none⟩ = false := by simp [World.frozen?, h1]
    have H0 := Lib.hid h0
    have H1 := Lib.hid h1
    have H2 := Lib.hid h2
    have Hn := Lib.hid hn
    have Hall := Lib.hid hall
    clear h0 h1 h2 hn hall
    obtain ⟨A, c, rfl⟩ : ∃ A c, v = .slice A (dots r).length c := by
      rcases hv.2 with ⟨rfl, h⟩ | ⟨g, cap, cur, rfl, _⟩
      · rw [h]; exact ⟨_, _, rfl⟩
      · exact ⟨_, _, rfl⟩
    by_cases hm : (dots r).length ≤ 8
    · gi_wp2
      rw [Hw.out, Hall.out, decide_eq_true hm]
      have k0 := blk_far (blk_put (blk_put H0.out 0 (.bool false)) 1 (.slice A (dots r).length c)) (p := ⟨w.heap.size + 1, 0, none⟩) (by simp) (.bool true)
      have k1 := blk_put (blk_far (blk_far H1.out (p := ⟨w.heap.size, 0, none⟩) (by simp) (.bool false)) (p := ⟨w.heap.size, 1, none⟩) (by simp) (.slice A (dots r).length c)) 0 (.bool true)
      exact way_end _ rfl rfl k0 k1 (row_low (row_set (row_set (row_set hv (p := ⟨w.heap.size, 0, none⟩) (by dsimp only; omega) _) (p := ⟨w.heap.size, 1, none⟩) (by dsimp only; omega) _) (p := ⟨w.heap.size + 1, 0, none⟩) (by dsimp only; omega) _) (by omega))
        (((hb.setCell (p := ⟨w.heap.size, 0, none⟩) (Nat.le_refl _) _).setCell (p := ⟨w.heap.size, 1, none⟩) (Nat.le_refl _) _).setCell (p := ⟨w.heap.size + 1, 0, none⟩) (by simp) _) (by omega)
        (blk_far (blk_far (blk_far hK (p := ⟨w.heap.size, 0, none⟩) (by dsimp only; omega) _) (p := ⟨w.heap.size, 1, none⟩) (by dsimp only; omega) _) (p := ⟨w.heap.size + 1, 0, none⟩) (by dsimp only; omega) _)
    · gi_wp2
      rw [Hw.out, decide_eq_false hm, Bool.and_false, if_neg (by simp)]
      have k0 := blk_far (blk_put (blk_put H0.out 0 (.bool false)) 1 (.slice none 0 0)) (p := ⟨w.heap.size + 1, 0, none⟩) (by simp) (.bool false)
      have k1 := blk_put (blk_far (blk_far H1.out (p := ⟨w.heap.size, 0, none⟩) (by simp) (.bool false)) (p := ⟨w.heap.size, 1, none⟩) (by simp) (.slice none 0 0)) 0 (.bool false)
      exact way_end _ rfl rfl k0 k1 (way_none _ _)
        (((hb.setCell (p := ⟨w.heap.size, 0, none⟩) (Nat.le_refl _) _).setCell (p := ⟨w.heap.size, 1, none⟩) (Nat.le_refl _) _).setCell (p := ⟨w.heap.size + 1, 0, none⟩) (by simp) _) (by omega)
        (blk_far (blk_far (blk_far hK (p := ⟨w.heap.size, 0, none⟩) (by dsimp only; omega) _) (p := ⟨w.heap.size, 1, none⟩) (by dsimp only; omega) _) (p := ⟨w.heap.size + 1, 0, none⟩) (by dsimp only; omega) _)
  case stop =>
    rintro D c pre W hD hpre ⟨rfl, ⟨x, hx, hbad⟩, h0, h1, hb⟩ hK
    clear hW0 b0 b1 b2 b3 b4 b5 e1 e2
    have hall : (dots r).all nameF = false := by
      rw [List.all_eq_false]
      exact ⟨x, hpre.subset hx, by simp [hbad]⟩
    rw [Hw.out, hall, Bool.false_and, if_neg (by simp)]
    have H0 := Lib.hid h0
    have H1 := Lib.hid h1
    clear hall hbad h0 h1
    gi_wp2
    exact way_end _ rfl rfl H0.out H1.out (way_none _ _) hb (by omega) hK
set_option maxRecDepth 100000 in
set_option maxHeartbeats 1000000 in
theorem way_rooted (s : List UInt8) (w : World) (hs : s.length ≤ 65536) (h1 : s ≠ [46]) (h2 : s ≠ [36]) (hp : Lib.hasPrefix s [36, 46] = true) :
    Calls Tryd.prog 87 #[.string ⟨s.toArray⟩] w (WayPost w (wayF s)) := by
  have e1 : (s == [46]) = false := by simpa using h1
  have e2 : (s == [36]) = false := by simpa using h2
  obtain ⟨i0, hi, hz0, hz1, hz2⟩ := info_parts Tryd.info9
  obtain ⟨r, hr⟩ : ∃ r : List UInt8, r = s.drop 2 := ⟨_, rfl⟩
  have hrl : r.length ≤ 65536 := by rw [hr]; first | omega | (simp; omega)
  have Hw : Hid (wayF s = if (dots r).all nameF && decide ((dots r).length ≤ 8) then (true, dots r, true) else (false, [], false)) := Lib.hid (by
    unfold wayF
    rw [if_neg h1, if_neg h2, hr]
    simp [hp])
  have hl2 : 2 ≤ s.length := by
    have := Lib.hasPrefix_le hp
    simpa using this
  refine (callsIn_wide (n := 4)).1 ?_
  refine callsIn_of_wp_marks Tryd.func87 rfl trivial ?_ rfl
  simp only [Tryd.ntmps87, List.size_toArray, List.length_cons, List.length_nil, Nat.reduceAdd, Nat.reduceSub, Array.replicate_succ, Array.replicate_zero, List.push_toArray, List.append_toArray, List.nil_append, List.cons_append]
  gi_wp2_with (first
    | (refine ⟨trivial, ?_⟩; gi_at_call 115; refine (callsIn_wide.2 (Tryd.strings_HasPrefix _ _ _)).mono ?_; rintro e w' ⟨rfl, rfl⟩)
    | (refine ⟨trivial, ?_⟩; gi_at_call 116; refine (callsIn_wide.2 (splitSeq_any _ _ _)).mono ?_; rintro e w' ⟨rfl, rfl⟩))
  obtain ⟨W0, hW0⟩ : ∃ W0 : World, ((((((w.alloc (.cells #[.bool false, .slice none 0 0] 63)).alloc (.cells #[.bool false] 4)).alloc (.cells #[.bool true, .slice none 0 0] 63)).alloc (.cells #[.string ⟨r.toArray⟩] 9)).alloc (.cells #[.string ⟨#[46]⟩] 9)).alloc (.cells #[.int .i64 0] 3)) = W0 := ⟨_, rfl⟩
  have hsz : W0.heap.size = w.heap.size + 6 := by rw [← hW0]; simp
  have hB0 : Below w.heap.size w W0 := by
    rw [← hW0]
    exact ((((((Below.refl _ _).alloc (Nat.le_refl _) _).alloc (by simp) _).alloc (by simp; omega) _).alloc (by simp; omega) _).alloc (by simp; omega) _).alloc (by simp; omega) _
  have b0 : W0.heap[w.heap.size]? = some (.cells #[.bool false, .slice none 0 0] 63) := by rw [← hW0]; simp only [heap_at, World.size_alloc]; repeat (first | rw [if_pos trivial] | rw [if_pos (by omega)] | rw [if_neg (by omega)])
  have b1 : W0.heap[w.heap.size + 1]? = some (.cells #[.bool false] 4) := by rw [← hW0]; simp only [heap_at, World.size_alloc]; repeat (first | rw [if_pos trivial] | rw [if_pos (by omega)] | rw [if_neg (by omega)])
  have b2 : W0.heap[w.heap.size + 1 + 1]? = some (.cells #[.bool true, .slice none 0 0] 63) := by rw [← hW0]; simp only [heap_at, World.size_alloc]; repeat (first | rw [if_pos trivial] | rw [if_pos (by omega)] | rw [if_neg (by omega)])
  have b3 : W0.heap[w.heap.size + 1 + 1 + 1]? = some (.cells #[.string ⟨r.toArray⟩] 9) := by rw [← hW0]; simp only [heap_at, World.size_alloc]; repeat (first | rw [if_pos trivial] | rw [if_pos (by omega)] | rw [if_neg (by omega)])
  have b4 : W0.heap[w.heap.size + 1 + 1 + 1 + 1]? = some (.cells #[.string ⟨#[46]⟩] 9) := by rw [← hW0]; simp only [heap_at, World.size_alloc]; repeat (first | rw [if_pos trivial] | rw [if_pos (by omega)] | rw [if_neg (by omega)])
  have b5 : W0.heap[w.heap.size + 1 + 1 + 1 + 1 + 1]? = some (.cells #[.int .i64 0] 3) := by rw [← hW0]; simp only [heap_at, World.size_alloc]; repeat (first | rw [if_pos trivial] | rw [if_pos (by omega)] | rw [if_neg (by omega)])
  have hcut : ({ data := s.toArray } : ByteArray).extract 2 s.length = ⟨r.toArray⟩ := by rw [ext_drop _ _ _ (Nat.le_refl _), hr]
  rw [hcut, hW0]
  clear hr hcut
  refine wpIn_range (T := WT w) rfl (by decide) (gf := 158) rfl trivial (enters_of Tryd.func158 (by kernel_rfl) rfl)
    (split_iter 3 (by decide) _ _ _ r W0 (by omega) (by omega) (by omega) b3 b4 b5) (by rw [hsz]; intro t ht; rcases ht with h | h | h <;> omega) (fun _ => rfl)
    (WI w true) (WX w) (WI_own w true _ (by omega)) (fun c => WX_own w c _ (by omega)) (WI_bears w true) (WX_bears w)
    ⟨_, by simp, b0, b1, b2, way_none _ _, hB0, by omega⟩ ?a1 ?assign ?body ?done ?stop
  case assign =>
    intro l x W K hK
    gi_wp2
    exact hK
  case body =>
    rintro l pre x W hsp ⟨v, hn, h0, h1, h2, hv, hb, hz⟩
    have hxl : x.length ≤ r.length := dots_len r x (by obtain ⟨t, ht⟩ := hsp; rw [← ht]; simp)
    have hpl : pre.length + 1 ≤ 65537 := by
      obtain ⟨t, ht⟩ := hsp
      have := dots_count r
      rw [← ht] at this
      simp at this
      omega
    clear hsp hW0 b0 b1 b2 b3 b4 b5 e1 e2 Hw
    have c0 : W.cell? ⟨w.heap.size, 0, none⟩ = some (.bool false) := by simp [World.cell?, h0]
    have c1 : W.cell? ⟨w.heap.size, 1, none⟩ = some (.slice none 0 0) := by simp [World.cell?, h0]
    have c2 : W.cell? ⟨w.heap.size + 1, 0, none⟩ = some (.bool false) := by simp [World.cell?, h1]
    have c4 : W.cell? ⟨w.heap.size + 1 + 1, 1, none⟩ = some v := by simp [World.cell?, h2]
    have f0 : W.frozen? ⟨w.heap.size, 0, none⟩ = false := by simp [World.frozen?, h0]
    have f1 : W.frozen? ⟨w.heap.size, 1, none⟩ = false := by simp [World.frozen?, h0]
    have f2 : W.frozen? ⟨w.heap.size + 1, 0, none⟩ = false := by simp [World.frozen?, h1]
    have f4 : W.frozen? ⟨w.heap.size + 1 + 1, 1, none⟩ = false := by simp [World.frozen?, h2]
    have H0 := Lib.hid h0
    have H1 := Lib.hid h1
    have H2 := Lib.hid h2
    clear h0 h1 h2
    cases hx : nameF x
    · have Hx := Lib.hid hx
      clear hx
      gi_wp2_with (refine ⟨trivial, ?_⟩; gi_at_call 117; refine (CallsIn.inRound l (callsIn_wide.2 (name_at x false _ (by omega) Hx.out))).mono ?_; rintro e w' ⟨rfl, rfl⟩)
      have k0 := blk_far (blk_put (blk_put H0.out 0 (.bool false)) 1 (.slice none 0 0)) (p := ⟨w.heap.size + 1, 0, none⟩) (by simp) (.bool false)
      have k1 := blk_put (blk_far (blk_far H1.out (p := ⟨w.heap.size, 0, none⟩) (by simp) (.bool false)) (p := ⟨w.heap.size, 1, none⟩) (by simp) (.slice none 0 0)) 0 (.bool false)
      exact ⟨((KeepsOthers.setCell _ _ _).trans (KeepsOthers.setCell _ _ _)).trans (KeepsOthers.setCell _ _ _), rfl, ⟨x, by simp, Hx.out⟩, k0, k1,
        ((hb.setCell (p := ⟨w.heap.size, 0, none⟩) (Nat.le_refl _) _).setCell (p := ⟨w.heap.size, 1, none⟩) (Nat.le_refl _) _).setCell (p := ⟨w.heap.size + 1, 0, none⟩) (by simp) _⟩
    · have Hx := Lib.hid hx
      clear hx
      gi_wp2_with (first
        | (refine ⟨trivial, ?_⟩; gi_at_call 117; refine (CallsIn.inRound l (callsIn_wide.2 (name_at x true _ (by omega) Hx.out))).mono ?_; rintro e w' ⟨rfl, rfl⟩)
        | (gi_at_builtin; refine halt ?_))
      refine Halted.mk' ?_
      refine wpListIn_append_own _ rfl _ _ 61 rfl (w.heap.size + 6) 9 i0 (.string ⟨#[]⟩) 1 16 Tryd.underlying61 hi hz0 hz1 hz2 rfl (by decide) v pre.length (pre.map encS) rfl (World.ownsRow.alloc hv _) ⟨_, 0, none⟩ 1 1 [encS x] rfl rfl (cell_one_new _ _ _) ?_ ?_ ?_ ?_ ?_
      · simp [encS, Value.oneCell']
      · unfold maxLen; omega
      · omega
      · simp; omega
      intro v' w1 hown' hgrow _
      obtain ⟨g', cap', rfl⟩ := ownsRow_succ hown'
      have hnb : ∀ k, (v : Value).ownBlock = some k → w.heap.size + 6 ≤ k := row_base hv
      have g0 := blk_off ((heap_old (World.heap_lt H0.out)).trans H0.out) hgrow (fun e => by have := hnb _ e; omega)
      have g1 := blk_off ((heap_old (World.heap_lt H1.out)).trans H1.out) hgrow (fun e => by have := hnb _ e; omega)
      have g2 := blk_off ((heap_old (World.heap_lt H2.out)).trans H2.out) hgrow (fun e => by have := hnb _ e; omega)
      have d4 : w1.cell? ⟨w.heap.size + 1 + 1, 1, none⟩ = some v := by simp [World.cell?, g2]
      have k4 : w1.frozen? ⟨w.heap.size + 1 + 1, 1, none⟩ = false := by simp [World.frozen?, g2]
      have G0 := Lib.hid g0
      have G1 := Lib.hid g1
      have G2 := Lib.hid g2
      clear g0 g1 g2 hi hz0 hz1 hz2 c0 c1 c2 c4 f0 f1 f2 f4
      gi_wp2
      have hcells : ∀ j o, v.ownBlock = some j → (W.alloc (.cells #[encS x] 9)).heap[j]? = some o → o.isCells = true := fun j o e ho => row_cells (World.ownsRow.alloc hv _) j o e ho
      refine ⟨((KeepsOthers.alloc _ _).trans (KeepsOthers.of_grownBy hgrow hcells)).trans (KeepsOthers.setCell _ _ _), ?_, _, ?_, blk_far G0.out (by dsimp only; omega) _, blk_far G1.out (by simp) _, blk_put G2.out 1 _, ?_, ?_, ?_⟩
      · intro t ht
        have hlt : w.heap.size + 3 ≤ t ∧ t < w.heap.size + 6 := by rcases ht with h | h | h <;> omega
        rw [Below.heap_setCell _ _ _ _ (by dsimp only; omega), hgrow.block t (by simp; omega) (fun e => by have := hnb _ e.symm; omega), heap_old (by omega)]
      · intro y hy
        rcases List.mem_append.1 hy with h | h
        · exact hn y h
        · simp at h; rw [h]; exact Hx.out
      · have := row_set hown' (p := ⟨w.heap.size + 1 + 1, 1, none⟩) (by dsimp only; omega) (.slice (some ⟨g', 0, none⟩) (pre.length + 1) cap')
        unfold WayAt
        simpa using this
      · exact ((hb.alloc hb.size _).grown hgrow (by simp; omega) (fun k e => by have := hnb k e; omega)).setCell (p := ⟨w.heap.size + 1 + 1, 1, none⟩) (by simp; omega) _
      · have := hgrow.size
        simp at this ⊢
        omega
  case done =>
    rintro D xs W hD rfl ⟨v, hn, h0, h1, h2, hv, hb, hz⟩ hK
    clear hW0 b0 b1 b2 b3 b4 b5 e1 e2
    have hall : (dots r).all nameF = true := by simpa using hn
    have c0 : W.cell? ⟨w.heap.size, 0, none⟩ = some (.bool false) := by simp [World.cell?, h0]
    have c1 : W.cell? ⟨w.heap.size, 1, none⟩ = some (.slice none 0 0) := by simp [World.cell?, h0]
    have c2 : W.cell? ⟨w.heap.size + 1, 0, none⟩ = some (.bool false) := by simp [World.cell?, h1]
    have c3 : W.cell? ⟨w.heap.size + 1 + 1, 0, none⟩ = some (.bool true) := by simp [World.cell?, h2]
    have c4 : W.cell? ⟨w.heap.size + 1 + 1, 1, none⟩ = some v := by simp [World.cell?, h2]
    have f0 : W.frozen? ⟨w.heap.size, 0, none⟩ = false := by simp [World.frozen?, h0]
    have f1 : W.frozen? ⟨w.heap.size, 1, none⟩ = false := by simp [World.frozen?, h0]
    have f2 : W.frozen? ⟨w.heap.size + 1, 0, none⟩ = false := by simp [World.frozen?, h1]
    have H0 := Lib.hid h0
    have H1 := Lib.hid h1
    have H2 := Lib.hid h2
    have Hn := Lib.hid hn
    have Hall := Lib.hid hall
    clear h0 h1 h2 hn hall
    obtain ⟨A, c, rfl⟩ : ∃ A c, v = .slice A (dots r).length c := by
      rcases hv.2 with ⟨rfl, h⟩ | ⟨g, cap, cur, rfl, _⟩
      · rw [h]; exact ⟨_, _, rfl⟩
      · exact ⟨_, _, rfl⟩
    by_cases hm : (dots r).length ≤ 8
    · gi_wp2
      rw [Hw.out, Hall.out, decide_eq_true hm]
      have k0 := blk_far (blk_put (blk_put H0.out 0 (.bool true)) 1 (.slice A (dots r).length c)) (p := ⟨w.heap.size + 1, 0, none⟩) (by simp) (.bool true)
      have k1 := blk_put (blk_far (blk_far H1.out (p := ⟨w.heap.size, 0, none⟩) (by simp) (.bool true)) (p := ⟨w.heap.size, 1, none⟩) (by simp) (.slice A (dots r).length c)) 0 (.bool true)
      exact way_end _ rfl rfl k0 k1 (row_low (row_set (row_set (row_set hv (p := ⟨w.heap.size, 0, none⟩) (by dsimp only; omega) _) (p := ⟨w.heap.size, 1, none⟩) (by dsimp only; omega) _) (p := ⟨w.heap.size + 1, 0, none⟩) (by dsimp only; omega) _) (by omega))
        (((hb.setCell (p := ⟨w.heap.size, 0, none⟩) (Nat.le_refl _) _).setCell (p := ⟨w.heap.size, 1, none⟩) (Nat.le_refl _) _).setCell (p := ⟨w.heap.size + 1, 0, none⟩) (by simp) _) (by omega)
        (blk_far (blk_far (blk_far hK (p := ⟨w.heap.size, 0, none⟩) (by dsimp only; omega) _) (p := ⟨w.heap.size, 1, none⟩) (by dsimp only; omega) _) (p := ⟨w.heap.size + 1, 0, none⟩) (by dsimp only; omega) _)
    · gi_wp2
      rw [Hw.out, decide_eq_false hm, Bool.and_false, if_neg (by simp)]
      have k0 := blk_far (blk_put (blk_put H0.out 0 (.bool false)) 1 (.slice none 0 0)) (p := ⟨w.heap.size + 1, 0, none⟩) (by simp) (.bool false)
      have k1 := blk_put (blk_far (blk_far H1.out (p := ⟨w.heap.size, 0, none⟩) (by simp) (.bool false)) (p := ⟨w.heap.size, 1, none⟩) (by simp) (.slice none 0 0)) 0 (.bool false)
      exact way_end _ rfl rfl k0 k1 (way_none _ _)
        (((hb.setCell (p := ⟨w.heap.size, 0, none⟩) (Nat.le_refl _) _).setCell (p := ⟨w.heap.size, 1, none⟩) (Nat.le_refl _) _).setCell (p := ⟨w.heap.size + 1, 0, none⟩) (by simp) _) (by omega)
        (blk_far (blk_far (blk_far hK (p := ⟨w.heap.size, 0, none⟩) (by dsimp only; omega) _) (p := ⟨w.heap.size, 1, none⟩) (by dsimp only; omega) _) (p := ⟨w.heap.size + 1, 0, none⟩) (by dsimp only; omega) _)
  case stop =>
    rintro D c pre W hD hpre ⟨rfl, ⟨x, hx, hbad⟩, h0, h1, hb⟩ hK
    clear hW0 b0 b1 b2 b3 b4 b5 e1 e2
    have hall : (dots r).all nameF = false := by
      rw [List.all_eq_false]
      exact ⟨x, hpre.subset hx, by simp [hbad]⟩
    rw [Hw.out, hall, Bool.false_and, if_neg (by simp)]
    have H0 := Lib.hid h0
    have H1 := Lib.hid h1
    clear hall hbad h0 h1
    gi_wp2
    exact way_end _ rfl rfl H0.out H1.out (way_none _ _) hb (by omega) hK
/-- lex.Way: for every text of at most 65536 bytes. -/
theorem way_any (s : List UInt8) (w : World) (hs : s.length ≤ 65536) : Calls Tryd.prog 87 #[.string ⟨s.toArray⟩] w (WayPost w (wayF s)) := by
  by_cases h1 : s = [46]
  · have : wayF s = (false, [], true) := by simp [wayF, h1]
    rw [this]
    exact way_dot _ w (by rw [h1, Lib.toList_data])
  · by_cases h2 : s = [36]
    · have : wayF s = (true, [], true) := by simp [wayF, h2]
      rw [this]
      exact way_root _ w (by rw [h2, Lib.toList_data])
    · cases hp : Lib.hasPrefix s [36, 46]
      · exact way_plain s w hs h1 h2 hp
      · exact way_rooted s w hs h1 h2 hp
end Go.Proofs.YtcggeaobonblfaaDoor

/- lex.action: the word of an action's inside. -/
namespace Go.Proofs.YtcggeaobonblfaaDoor
open Go Go.RowKit
/-- What an action's inside says: the word's kind; from the root?; the names; is it one? -/
def actionF (s : List UInt8) : Int × Bool × List (List UInt8) × Bool :=
  let t := Lib.trimB s 32
  if t = [101, 108, 115, 101] then (3, false, [], true)
  else if t = [101, 110, 100] then (5, false, [], true)
  else if t = [102, 108, 117, 115, 104] then (6, false, [], true)
  else if Lib.hasPrefix t [105, 102, 32] then (2, wayF (Lib.trimLeftB (t.drop 3) 32))
  else if Lib.hasPrefix t [114, 97, 110, 103, 101, 32] then (4, wayF (Lib.trimLeftB (t.drop 6) 32))
  else if t = [105, 102] ∨ t = [114, 97, 110, 103, 101] then (0, false, [], false)
  else (1, wayF t)
/-- A word's cells. -/
abbrev wordV (kind at_ : Int) (text : ByteArray) (root : Bool) (v : Value) : Value := .agg #[.int .u8 kind, .int .i64 at_, .string text, .bool root, v]
def ActPost (w : World) (r : Int × Bool × List (List UInt8) × Bool) (e : Ending) (w' : World) : Prop :=
  ∃ v, e = .returned (.tuple #[wordV r.1 0 ⟨#[]⟩ r.2.1 v, .bool r.2.2.2]) ∧ WayAt w' w.heap.size v r.2.2.1 ∧ Below w.heap.size w w'
theorem trim_at (s : List UInt8) (w : World) (hs : s.length ≤ 65536) :
    Calls Tryd.prog 84 #[.string ⟨s.toArray⟩, .string ⟨#[32]⟩] w fun e w' => e = .returned (.string ⟨(Lib.trimB s 32).toArray⟩) ∧ (w' = w ∨ w' = w.drew) := by
  have := Tryd.strings_Trim_one ⟨s.toArray⟩ 32 (by decide) w (by simp [ByteArray.size]; omega)
  simpa using this
theorem trimLeft_at (s : List UInt8) (w : World) :
    Calls Tryd.prog 86 #[.string ⟨s.toArray⟩, .string ⟨#[32]⟩] w fun e w' => e = .returned (.string ⟨(Lib.trimLeftB s 32).toArray⟩) ∧ w' = w := by
  have := Tryd.strings_TrimLeft_one ⟨s.toArray⟩ 32 (by decide) w
  simpa using this
theorem cut_yes (s p : List UInt8) (w : World) (h : Lib.hasPrefix s p = true) :
    Calls Tryd.prog 85 #[.string ⟨s.toArray⟩, .string ⟨p.toArray⟩] w fun e w' => e = .returned (.tuple #[.string ⟨(s.drop p.length).toArray⟩, .bool true]) ∧ w' = w := by
  have := Tryd.strings_CutPrefix ⟨s.toArray⟩ ⟨p.toArray⟩ w
  simpa [Lib.trimPrefix, h] using this
theorem cut_no (s p : List UInt8) (w : World) (h : Lib.hasPrefix s p = false) :
    Calls Tryd.prog 85 #[.string ⟨s.toArray⟩, .string ⟨p.toArray⟩] w fun e w' => e = .returned (.tuple #[.string ⟨s.toArray⟩, .bool false]) ∧ w' = w := by
  have := Tryd.strings_CutPrefix ⟨s.toArray⟩ ⟨p.toArray⟩ w
  simpa [Lib.trimPrefix, h] using this
set_option maxRecDepth 100000 in
set_option maxHeartbeats 1000000 in
theorem action_else (s : List UInt8) (w : World) (hs : s.length ≤ 65536) (h : Lib.trimB s 32 = [101, 108, 115, 101]) : Calls Tryd.prog 60 #[.string ⟨s.toArray⟩] w (ActPost w (3, false, [], true)) := by
  have ht := trim_at s (w.alloc (.cells #[.int .u8 0, .int .i64 0, .string ⟨#[]⟩, .bool false, .slice none 0 0] 76)) hs
  rw [h] at ht
  have Ht := Lib.hid ht
  clear ht h
  go_enter Tryd.func60, Tryd.ntmps60
  go_wp2_with (first
    | (go_at_call 84; refine (Ht.out).mono ?_; rintro e w' ⟨rfl, rfl | rfl⟩))
  all_goals refine bodyPost_ret (v := .tuple #[wordV 3 0 ⟨#[]⟩ false (.slice none 0 0), .bool true]) (by simp [results, Tryd.results60, go_sem]) rfl ⟨_, rfl, way_none _ _, ?_⟩
  all_goals first
    | exact (Below.refl _ _).alloc (Nat.le_refl _) _
    | exact ((Below.refl _ _).alloc (Nat.le_refl _) _).drew
set_option maxRecDepth 100000 in
set_option maxHeartbeats 1000000 in
theorem action_end_ (s : List UInt8) (w : World) (hs : s.length ≤ 65536) (h : Lib.trimB s 32 = [101, 110, 100]) : Calls Tryd.prog 60 #[.string ⟨s.toArray⟩] w (ActPost w (5, false, [], true)) := by
  have ht := trim_at s (w.alloc (.cells #[.int .u8 0, .int .i64 0, .string ⟨#[]⟩, .bool false, .slice none 0 0] 76)) hs
  rw [h] at ht
  have Ht := Lib.hid ht
  clear ht h
  go_enter Tryd.func60, Tryd.ntmps60
  go_wp2_with (first
    | (go_at_call 84; refine (Ht.out).mono ?_; rintro e w' ⟨rfl, rfl | rfl⟩))
  all_goals refine bodyPost_ret (v := .tuple #[wordV 5 0 ⟨#[]⟩ false (.slice none 0 0), .bool true]) (by simp [results, Tryd.results60, go_sem]) rfl ⟨_, rfl, way_none _ _, ?_⟩
  all_goals first
    | exact (Below.refl _ _).alloc (Nat.le_refl _) _
    | exact ((Below.refl _ _).alloc (Nat.le_refl _) _).drew
set_option maxRecDepth 100000 in
set_option maxHeartbeats 1000000 in
theorem action_flush (s : List UInt8) (w : World) (hs : s.length ≤ 65536) (h : Lib.trimB s 32 = [102, 108, 117, 115, 104]) : Calls Tryd.prog 60 #[.string ⟨s.toArray⟩] w (ActPost w (6, false, [], true)) := by
  have ht := trim_at s (w.alloc (.cells #[.int .u8 0, .int .i64 0, .string ⟨#[]⟩, .bool false, .slice none 0 0] 76)) hs
  rw [h] at ht
  have Ht := Lib.hid ht
  clear ht h
  go_enter Tryd.func60, Tryd.ntmps60
  go_wp2_with (first
    | (go_at_call 84; refine (Ht.out).mono ?_; rintro e w' ⟨rfl, rfl | rfl⟩))
  all_goals refine bodyPost_ret (v := .tuple #[wordV 6 0 ⟨#[]⟩ false (.slice none 0 0), .bool true]) (by simp [results, Tryd.results60, go_sem]) rfl ⟨_, rfl, way_none _ _, ?_⟩
  all_goals first
    | exact (Below.refl _ _).alloc (Nat.le_refl _) _
    | exact ((Below.refl _ _).alloc (Nat.le_refl _) _).drew
set_option maxRecDepth 100000 in
set_option maxHeartbeats 1000000 in
theorem action_bare_if (s : List UInt8) (w : World) (hs : s.length ≤ 65536) (h : Lib.trimB s 32 = [105, 102]) : Calls Tryd.prog 60 #[.string ⟨s.toArray⟩] w (ActPost w (0, false, [], false)) := by
  have ht := trim_at s (w.alloc (.cells #[.int .u8 0, .int .i64 0, .string ⟨#[]⟩, .bool false, .slice none 0 0] 76)) hs
  rw [h] at ht
  have Ht := Lib.hid ht
  clear ht h
  have C1 := Lib.hid (fun W => cut_no [105, 102] [105, 102, 32] W (by decide))
  have C2 := Lib.hid (fun W => cut_no [105, 102] [114, 97, 110, 103, 101, 32] W (by decide))
  go_enter Tryd.func60, Tryd.ntmps60
  go_wp2_with (first
    | (go_at_call 84; refine (Ht.out).mono ?_; rintro e w' ⟨rfl, rfl | rfl⟩)
    | (go_at_call_of 85 (114 : UInt8); refine (C2.out _).mono ?_; rintro e w' ⟨rfl, rfl⟩)
    | (go_at_call 85; refine (C1.out _).mono ?_; rintro e w' ⟨rfl, rfl⟩))
  all_goals refine bodyPost_ret (v := .tuple #[wordV 0 0 ⟨#[]⟩ false (.slice none 0 0), .bool false]) (by simp [results, Tryd.results60, go_sem]) rfl ⟨_, rfl, way_none _ _, ?_⟩
  all_goals first
    | exact (Below.refl _ _).alloc (Nat.le_refl _) _
    | exact ((Below.refl _ _).alloc (Nat.le_refl _) _).drew
set_option maxRecDepth 100000 in
set_option maxHeartbeats 1000000 in
theorem action_bare_range (s : List UInt8) (w : World) (hs : s.length ≤ 65536) (h : Lib.trimB s 32 = [114, 97, 110, 103, 101]) : Calls Tryd.prog 60 #[.string ⟨s.toArray⟩] w (ActPost w (0, false, [], false)) := by
  have ht := trim_at s (w.alloc (.cells #[.int .u8 0, .int .i64 0, .string ⟨#[]⟩, .bool false, .slice none 0 0] 76)) hs
  rw [h] at ht
  have Ht := Lib.hid ht
  clear ht h
  have C1 := Lib.hid (fun W => cut_no [114, 97, 110, 103, 101] [105, 102, 32] W (by decide))
  have C2 := Lib.hid (fun W => cut_no [114, 97, 110, 103, 101] [114, 97, 110, 103, 101, 32] W (by decide))
  go_enter Tryd.func60, Tryd.ntmps60
  go_wp2_with (first
    | (go_at_call 84; refine (Ht.out).mono ?_; rintro e w' ⟨rfl, rfl | rfl⟩)
    | (go_at_call_of 85 (105 : UInt8); refine (C1.out _).mono ?_; rintro e w' ⟨rfl, rfl⟩)
    | (go_at_call 85; refine (C2.out _).mono ?_; rintro e w' ⟨rfl, rfl⟩))
  all_goals refine bodyPost_ret (v := .tuple #[wordV 0 0 ⟨#[]⟩ false (.slice none 0 0), .bool false]) (by simp [results, Tryd.results60, go_sem]) rfl ⟨_, rfl, way_none _ _, ?_⟩
  all_goals first
    | exact (Below.refl _ _).alloc (Nat.le_refl _) _
    | exact ((Below.refl _ _).alloc (Nat.le_refl _) _).drew
set_option maxRecDepth 100000 in
theorem action_end {w W : World} {k : Int} {root ok : Bool} {v : Value} {names : List (List UInt8)} (tmps : Array Value) (h2 : tmps.getD 2 undef = .pointer (some ⟨w.heap.size, 0, none⟩)) (h3 : tmps.getD 3 undef = .bool ok)
    (hb : W.heap[w.heap.size]? = some (.cells #[.int .u8 k, .int .i64 0, .string ⟨#[]⟩, .bool root, v] 76)) (hv : WayAt W w.heap.size v names) (hB : Below w.heap.size w W) :
    bodyPost Tryd.prog Tryd.f60 (ActPost w (k, root, names, ok)) Exit.ret { tmps := tmps, defers := [] } W := by
  have c0 : W.cell? ⟨w.heap.size, 0, none⟩ = some (.int .u8 k) := by simp [World.cell?, hb]
  have c1 : W.cell? ⟨w.heap.size, 1, none⟩ = some (.int .i64 0) := by simp [World.cell?, hb]
  have c2 : W.cell? ⟨w.heap.size, 2, none⟩ = some (.string ⟨#[]⟩) := by simp [World.cell?, hb]
  have c3 : W.cell? ⟨w.heap.size, 3, none⟩ = some (.bool root) := by simp [World.cell?, hb]
  have c4 : W.cell? ⟨w.heap.size, 4, none⟩ = some v := by simp [World.cell?, hb]
  rw [Array.getD_eq_getD_getElem?] at h2 h3
  exact bodyPost_ret (v := .tuple #[wordV k 0 ⟨#[]⟩ root v, .bool ok]) (by simp [results, Tryd.results60, go_sem, h2, h3, c0, c1, c2, c3, c4]) rfl ⟨_, rfl, hv, hB⟩
set_option maxRecDepth 100000 in
set_option maxHeartbeats 1000000 in
theorem action_hole (s t : List UInt8) (w : World) (hs : s.length ≤ 65536) (hl : t.length ≤ 65536) (h : Lib.trimB s 32 = t) (e1 : (t == [101, 108, 115, 101]) = false) (e2 : (t == [101, 110, 100]) = false) (e3 : (t == [102, 108, 117, 115, 104]) = false)
    (p1 : Lib.hasPrefix t [105, 102, 32] = false) (p2 : Lib.hasPrefix t [114, 97, 110, 103, 101, 32] = false) (e4 : (t == [105, 102]) = false) (e5 : (t == [114, 97, 110, 103, 101]) = false) :
    Calls Tryd.prog 60 #[.string ⟨s.toArray⟩] w (ActPost w (1, wayF t)) := by
  have ht := trim_at s (w.alloc (.cells #[.int .u8 0, .int .i64 0, .string ⟨#[]⟩, .bool false, .slice none 0 0] 76)) hs
  rw [h] at ht
  have Ht := Lib.hid ht
  clear ht h
  have C1 := Lib.hid (fun W => cut_no t [105, 102, 32] W p1)
  have C2 := Lib.hid (fun W => cut_no t [114, 97, 110, 103, 101, 32] W p2)
  go_enter Tryd.func60, Tryd.ntmps60
  go_wp2_with (first
    | (go_at_call 84; refine (Ht.out).mono ?_; rintro e w' ⟨rfl, rfl | rfl⟩)
    | (go_at_call_of 85 (105 : UInt8); refine (C1.out _).mono ?_; rintro e w' ⟨rfl, rfl⟩)
    | (go_at_call_of 85 (114 : UInt8); refine (C2.out _).mono ?_; rintro e w' ⟨rfl, rfl⟩)
    | (go_at_call 87; refine (way_any t _ hl).mono ?_; rintro e w' ⟨v, rfl, hv, hb⟩; refine halt ?_))
  all_goals
    refine Halted.mk' ?_
    obtain ⟨A, c, rfl⟩ := way_slice hv
    simp only [World.size_drew, World.size_alloc] at hv
    have hB : Below w.heap.size w w' := by
      first
        | exact ((Below.refl _ _).alloc (Nat.le_refl _) _).trans (hb.mono (by simp))
        | exact (((Below.refl _ _).alloc (Nat.le_refl _) _).drew).trans (hb.mono (by simp))
    have b0 : w'.heap[w.heap.size]? = some (.cells #[.int .u8 0, .int .i64 0, .string ⟨#[]⟩, .bool false, .slice none 0 0] 76) := by
      rw [hb.block _ (by simp)]
      exact World.alloc_heap_new w _
    have hlt : w.heap.size < w'.heap.size := World.heap_lt b0
    have c0 : w'.cell? ⟨w.heap.size, 0, none⟩ = some (.int .u8 0) := by simp [World.cell?, b0]
    have c1 : w'.cell? ⟨w.heap.size, 1, none⟩ = some (.int .i64 0) := by simp [World.cell?, b0]
    have c2 : w'.cell? ⟨w.heap.size, 2, none⟩ = some (.string ⟨#[]⟩) := by simp [World.cell?, b0]
    have c3 : w'.cell? ⟨w.heap.size, 3, none⟩ = some (.bool false) := by simp [World.cell?, b0]
    have c4 : w'.cell? ⟨w.heap.size, 4, none⟩ = some (.slice none 0 0) := by simp [World.cell?, b0]
    have f : ∀ j, w'.frozen? ⟨w.heap.size, j, none⟩ = false := fun j => by simp [World.frozen?, b0]
    have f0 := f 0
    have f1 := f 1
    have f2 := f 2
    have f3 := f 3
    have f4 := f 4
    have B0 := Lib.hid b0
    clear b0 f hb
    go_wp2
    have k0 := blk_put (blk_put (blk_put (blk_put (blk_put B0.out 0 (.int .u8 1)) 1 (.int .i64 0)) 2 (.string ⟨#[]⟩)) 3 (.bool (wayF t).1)) 4 (.slice A (wayF t).2.1.length c)
    exact action_end _ rfl rfl ((heap_old (World.heap_lt k0)).trans k0)
      (World.ownsRow.alloc (row_low (row_set (row_set (row_set (row_set (row_set hv (p := ⟨w.heap.size, 0, none⟩) (by dsimp only; omega) _) (p := ⟨w.heap.size, 1, none⟩) (by dsimp only; omega) _) (p := ⟨w.heap.size, 2, none⟩) (by dsimp only; omega) _) (p := ⟨w.heap.size, 3, none⟩) (by dsimp only; omega) _) (p := ⟨w.heap.size, 4, none⟩) (by dsimp only; omega) _) (by omega)) _)
      ((((((hB.setCell (p := ⟨w.heap.size, 0, none⟩) (Nat.le_refl _) _).setCell (p := ⟨w.heap.size, 1, none⟩) (Nat.le_refl _) _).setCell (p := ⟨w.heap.size, 2, none⟩) (Nat.le_refl _) _).setCell (p := ⟨w.heap.size, 3, none⟩) (Nat.le_refl _) _).setCell (p := ⟨w.heap.size, 4, none⟩) (Nat.le_refl _) _).alloc (by simp; omega) _)
set_option maxRecDepth 100000 in
set_option maxHeartbeats 1000000 in
theorem action_if (s t r : List UInt8) (w : World) (hs : s.length ≤ 65536) (hl : r.length ≤ 65536) (h : Lib.trimB s 32 = t) (e1 : (t == [101, 108, 115, 101]) = false) (e2 : (t == [101, 110, 100]) = false) (e3 : (t == [102, 108, 117, 115, 104]) = false)
    (p1 : Lib.hasPrefix t [105, 102, 32] = true) (hr : Lib.trimLeftB (t.drop 3) 32 = r) :
    Calls Tryd.prog 60 #[.string ⟨s.toArray⟩] w (ActPost w (2, wayF r)) := by
  have ht := trim_at s (w.alloc (.cells #[.int .u8 0, .int .i64 0, .string ⟨#[]⟩, .bool false, .slice none 0 0] 76)) hs
  rw [h] at ht
  have Ht := Lib.hid ht
  clear ht h
  have C1 := Lib.hid (fun W => cut_yes t [105, 102, 32] W p1)
  have hr' := trimLeft_at (t.drop 3)
  rw [hr] at hr'
  have C3 := Lib.hid hr'
  clear hr hr'
  go_enter Tryd.func60, Tryd.ntmps60
  go_wp2_with (first
    | (go_at_call 84; refine (Ht.out).mono ?_; rintro e w' ⟨rfl, rfl | rfl⟩)
    | (go_at_call_of 85 (105 : UInt8); refine (C1.out _).mono ?_; rintro e w' ⟨rfl, rfl⟩)
    | (go_at_call 86; refine (C3.out _).mono ?_; rintro e w' ⟨rfl, rfl⟩)
    | (go_at_call 87; refine (way_any r _ hl).mono ?_; rintro e w' ⟨v, rfl, hv, hb⟩; refine halt ?_))
  all_goals
    refine Halted.mk' ?_
    obtain ⟨A, c, rfl⟩ := way_slice hv
    simp only [World.size_drew, World.size_alloc] at hv
    have hB : Below w.heap.size w w' := by
      first
        | exact ((Below.refl _ _).alloc (Nat.le_refl _) _).trans (hb.mono (by simp))
        | exact (((Below.refl _ _).alloc (Nat.le_refl _) _).drew).trans (hb.mono (by simp))
    have b0 : w'.heap[w.heap.size]? = some (.cells #[.int .u8 0, .int .i64 0, .string ⟨#[]⟩, .bool false, .slice none 0 0] 76) := by
      rw [hb.block _ (by simp)]
      exact World.alloc_heap_new w _
    have hlt : w.heap.size < w'.heap.size := World.heap_lt b0
    have c0 : w'.cell? ⟨w.heap.size, 0, none⟩ = some (.int .u8 0) := by simp [World.cell?, b0]
    have c1 : w'.cell? ⟨w.heap.size, 1, none⟩ = some (.int .i64 0) := by simp [World.cell?, b0]
    have c2 : w'.cell? ⟨w.heap.size, 2, none⟩ = some (.string ⟨#[]⟩) := by simp [World.cell?, b0]
    have c3 : w'.cell? ⟨w.heap.size, 3, none⟩ = some (.bool false) := by simp [World.cell?, b0]
    have c4 : w'.cell? ⟨w.heap.size, 4, none⟩ = some (.slice none 0 0) := by simp [World.cell?, b0]
    have f : ∀ j, w'.frozen? ⟨w.heap.size, j, none⟩ = false := fun j => by simp [World.frozen?, b0]
    have f0 := f 0
    have f1 := f 1
    have f2 := f 2
    have f3 := f 3
    have f4 := f 4
    have B0 := Lib.hid b0
    clear b0 f hb
    go_wp2
    have k0 := blk_put (blk_put (blk_put (blk_put (blk_put B0.out 0 (.int .u8 2)) 1 (.int .i64 0)) 2 (.string ⟨#[]⟩)) 3 (.bool (wayF r).1)) 4 (.slice A (wayF r).2.1.length c)
    exact action_end _ rfl rfl ((heap_old (World.heap_lt k0)).trans k0)
      (World.ownsRow.alloc (row_low (row_set (row_set (row_set (row_set (row_set hv (p := ⟨w.heap.size, 0, none⟩) (by dsimp only; omega) _) (p := ⟨w.heap.size, 1, none⟩) (by dsimp only; omega) _) (p := ⟨w.heap.size, 2, none⟩) (by dsimp only; omega) _) (p := ⟨w.heap.size, 3, none⟩) (by dsimp only; omega) _) (p := ⟨w.heap.size, 4, none⟩) (by dsimp only; omega) _) (by omega)) _)
      ((((((hB.setCell (p := ⟨w.heap.size, 0, none⟩) (Nat.le_refl _) _).setCell (p := ⟨w.heap.size, 1, none⟩) (Nat.le_refl _) _).setCell (p := ⟨w.heap.size, 2, none⟩) (Nat.le_refl _) _).setCell (p := ⟨w.heap.size, 3, none⟩) (Nat.le_refl _) _).setCell (p := ⟨w.heap.size, 4, none⟩) (Nat.le_refl _) _).alloc (by simp; omega) _)
set_option maxRecDepth 100000 in
set_option maxHeartbeats 1000000 in
theorem action_range (s t r : List UInt8) (w : World) (hs : s.length ≤ 65536) (hl : r.length ≤ 65536) (h : Lib.trimB s 32 = t) (e1 : (t == [101, 108, 115, 101]) = false) (e2 : (t == [101, 110, 100]) = false) (e3 : (t == [102, 108, 117, 115, 104]) = false)
    (p1 : Lib.hasPrefix t [105, 102, 32] = false) (p2 : Lib.hasPrefix t [114, 97, 110, 103, 101, 32] = true) (hr : Lib.trimLeftB (t.drop 6) 32 = r) :
    Calls Tryd.prog 60 #[.string ⟨s.toArray⟩] w (ActPost w (4, wayF r)) := by
  have ht := trim_at s (w.alloc (.cells #[.int .u8 0, .int .i64 0, .string ⟨#[]⟩, .bool false, .slice none 0 0] 76)) hs
  rw [h] at ht
  have Ht := Lib.hid ht
  clear ht h
  have C1 := Lib.hid (fun W => cut_no t [105, 102, 32] W p1)
  have C2 := Lib.hid (fun W => cut_yes t [114, 97, 110, 103, 101, 32] W p2)
  have hr' := trimLeft_at (t.drop 6)
  rw [hr] at hr'
  have C3 := Lib.hid hr'
  clear hr hr'
  go_enter Tryd.func60, Tryd.ntmps60
  go_wp2_with (first
    | (go_at_call 84; refine (Ht.out).mono ?_; rintro e w' ⟨rfl, rfl | rfl⟩)
    | (go_at_call_of 85 (105 : UInt8); refine (C1.out _).mono ?_; rintro e w' ⟨rfl, rfl⟩)
    | (go_at_call 86; refine (C3.out _).mono ?_; rintro e w' ⟨rfl, rfl⟩)
    | (go_at_call_of 85 (114 : UInt8); refine (C2.out _).mono ?_; rintro e w' ⟨rfl, rfl⟩)
    | (go_at_call 87; refine (way_any r _ hl).mono ?_; rintro e w' ⟨v, rfl, hv, hb⟩; refine halt ?_))
  all_goals
    refine Halted.mk' ?_
    obtain ⟨A, c, rfl⟩ := way_slice hv
    simp only [World.size_drew, World.size_alloc] at hv
    have hB : Below w.heap.size w w' := by
      first
        | exact ((Below.refl _ _).alloc (Nat.le_refl _) _).trans (hb.mono (by simp))
        | exact (((Below.refl _ _).alloc (Nat.le_refl _) _).drew).trans (hb.mono (by simp))
    have b0 : w'.heap[w.heap.size]? = some (.cells #[.int .u8 0, .int .i64 0, .string ⟨#[]⟩, .bool false, .slice none 0 0] 76) := by
      rw [hb.block _ (by simp)]
      exact World.alloc_heap_new w _
    have hlt : w.heap.size < w'.heap.size := World.heap_lt b0
    have c0 : w'.cell? ⟨w.heap.size, 0, none⟩ = some (.int .u8 0) := by simp [World.cell?, b0]
    have c1 : w'.cell? ⟨w.heap.size, 1, none⟩ = some (.int .i64 0) := by simp [World.cell?, b0]
    have c2 : w'.cell? ⟨w.heap.size, 2, none⟩ = some (.string ⟨#[]⟩) := by simp [World.cell?, b0]
    have c3 : w'.cell? ⟨w.heap.size, 3, none⟩ = some (.bool false) := by simp [World.cell?, b0]
    have c4 : w'.cell? ⟨w.heap.size, 4, none⟩ = some (.slice none 0 0) := by simp [World.cell?, b0]
    have f : ∀ j, w'.frozen? ⟨w.heap.size, j, none⟩ = false := fun j => by simp [World.frozen?, b0]
    have f0 := f 0
    have f1 := f 1
    have f2 := f 2
    have f3 := f 3
    have f4 := f 4
    have B0 := Lib.hid b0
    clear b0 f hb
    go_wp2
    have k0 := blk_put (blk_put (blk_put (blk_put (blk_put B0.out 0 (.int .u8 4)) 1 (.int .i64 0)) 2 (.string ⟨#[]⟩)) 3 (.bool (wayF r).1)) 4 (.slice A (wayF r).2.1.length c)
    exact action_end _ rfl rfl ((heap_old (World.heap_lt k0)).trans k0)
      (World.ownsRow.alloc (row_low (row_set (row_set (row_set (row_set (row_set hv (p := ⟨w.heap.size, 0, none⟩) (by dsimp only; omega) _) (p := ⟨w.heap.size, 1, none⟩) (by dsimp only; omega) _) (p := ⟨w.heap.size, 2, none⟩) (by dsimp only; omega) _) (p := ⟨w.heap.size, 3, none⟩) (by dsimp only; omega) _) (p := ⟨w.heap.size, 4, none⟩) (by dsimp only; omega) _) (by omega)) _)
      ((((((hB.setCell (p := ⟨w.heap.size, 0, none⟩) (Nat.le_refl _) _).setCell (p := ⟨w.heap.size, 1, none⟩) (Nat.le_refl _) _).setCell (p := ⟨w.heap.size, 2, none⟩) (Nat.le_refl _) _).setCell (p := ⟨w.heap.size, 3, none⟩) (Nat.le_refl _) _).setCell (p := ⟨w.heap.size, 4, none⟩) (Nat.le_refl _) _).alloc (by simp; omega) _)
theorem trimB_len (s : List UInt8) (c : UInt8) : (Lib.trimB s c).length ≤ s.length := by
  unfold Lib.trimB Lib.trimLeftB Lib.trimRightB
  refine Nat.le_trans (List.IsSuffix.length_le (List.dropWhile_suffix _)) ?_
  rw [List.length_reverse]
  refine Nat.le_trans (List.IsSuffix.length_le (List.dropWhile_suffix _)) ?_
  simp
theorem trimLeftB_len (s : List UInt8) (c : UInt8) : (Lib.trimLeftB s c).length ≤ s.length := List.IsSuffix.length_le (List.dropWhile_suffix _)
/-- lex.action: for every inside of at most 65536 bytes. -/
theorem action_any (s : List UInt8) (w : World) (hs : s.length ≤ 65536) : Calls Tryd.prog 60 #[.string ⟨s.toArray⟩] w (ActPost w (actionF s)) := by
  have hl := trimB_len s 32
  unfold actionF
  dsimp only
  by_cases h1 : Lib.trimB s 32 = [101, 108, 115, 101]
  · rw [if_pos h1]; exact action_else s w hs h1
  rw [if_neg h1]
  by_cases h2 : Lib.trimB s 32 = [101, 110, 100]
  · rw [if_pos h2]; exact action_end_ s w hs h2
  rw [if_neg h2]
  by_cases h3 : Lib.trimB s 32 = [102, 108, 117, 115, 104]
  · rw [if_pos h3]; exact action_flush s w hs h3
  rw [if_neg h3]
  cases p1 : Lib.hasPrefix (Lib.trimB s 32) [105, 102, 32]
  · rw [if_neg (by simp)]
    cases p2 : Lib.hasPrefix (Lib.trimB s 32) [114, 97, 110, 103, 101, 32]
    · rw [if_neg (by simp)]
      by_cases h4 : Lib.trimB s 32 = [105, 102]
      · rw [if_pos (.inl h4)]; exact action_bare_if s w hs h4
      by_cases h5 : Lib.trimB s 32 = [114, 97, 110, 103, 101]
      · rw [if_pos (.inr h5)]; exact action_bare_range s w hs h5
      rw [if_neg (by simp [h4, h5])]
      exact action_hole s _ w hs (by omega) rfl (by simpa using h1) (by simpa using h2) (by simpa using h3) p1 p2 (by simpa using h4) (by simpa using h5)
    · rw [if_pos rfl]
      exact action_range s _ _ w hs (by have := trimLeftB_len ((Lib.trimB s 32).drop 6) 32; simp at this; omega) rfl (by simpa using h1) (by simpa using h2) (by simpa using h3) p1 p2 rfl
  · rw [if_pos rfl]
    exact action_if s _ _ w hs (by have := trimLeftB_len ((Lib.trimB s 32).drop 3) 32; simp at this; omega) rfl (by simpa using h1) (by simpa using h2) (by simpa using h3) p1 rfl
end Go.Proofs.YtcggeaobonblfaaDoor

/- lex.All: the words of a template. -/
namespace Go.Proofs.YtcggeaobonblfaaDoor
open Go Go.RowKit
/-- A word of a template. -/
structure Word where
  (kind at_ : Int) (text : List UInt8) (root : Bool) (names : List (List UInt8))
/-- The cells of a word whose names are the slice nv. -/
def wordCells (p : Word × Value) : List Value := [.int .u8 p.1.kind, .int .i64 p.1.at_, .string ⟨p.1.text.toArray⟩, .bool p.1.root, p.2]
/-- A slice of words of the call's own, from base on. -/
def WordsAt (W : World) (base : Nat) (v : Value) (ws : List Word) : Prop :=
  ∃ ps : List (Word × Value), ps.map Prod.fst = ws ∧ W.ownsRow base 76 5 v ps.length (ps.flatMap wordCells) ∧ ∀ p ∈ ps, WayAt W base p.2 p.1.names
theorem words_none (W : World) (base : Nat) : WordsAt W base (.slice none 0 0) [] := ⟨[], rfl, ⟨by simp, .inl ⟨rfl, rfl⟩⟩, by simp⟩
theorem row_type {W : World} {base e size n : Nat} {v : Value} {xs : List Value} (h : W.ownsRow base e size v n xs) (k : Nat) (hk : v.ownBlock = some k) : ∃ cells, W.heap[k]? = some (.cells cells e) := by
  rcases h.2 with ⟨rfl, _⟩ | ⟨g, cap, cur, rfl, hb, hh, _⟩
  · simp [Value.ownBlock] at hk
  · have : g = k := by simpa [Value.ownBlock] using hk
    subst this
    exact ⟨cur, hh⟩
/-- A row of another element type is not turned by what turns a block of type t. -/
theorem row_else {W W' : World} {base e size n t : Nat} {v : Value} {xs : List Value} {row : Option Nat} (h : W.ownsRow base e size v n xs) (hg : W.grownBy W' row)
    (hr : ∀ k, row = some k → ∃ cells, W.heap[k]? = some (.cells cells t)) (hne : e ≠ t) : W'.ownsRow base e size v n xs := by
  refine h.kept hg ?_
  cases hk : v.ownBlock with
  | none => exact .inl rfl
  | some k =>
    refine .inr fun e' => ?_
    obtain ⟨c1, h1⟩ := row_type h k hk
    obtain ⟨c2, h2⟩ := hr k e'.symm
    rw [h1] at h2
    cases h2
    exact hne rfl
theorem words_else {W W' : World} {base t : Nat} {v : Value} {ws : List Word} {row : Option Nat} (h : WordsAt W base v ws) (hg : W.grownBy W' row)
    (hr : ∀ k, row = some k → ∃ cells, W.heap[k]? = some (.cells cells t)) (h1 : 76 ≠ t) (h2 : 9 ≠ t) : WordsAt W' base v ws := by
  obtain ⟨ps, e, ho, hn⟩ := h
  exact ⟨ps, e, row_else ho hg hr h1, fun p hp => row_else (hn p hp) hg hr h2⟩
theorem words_new {W W' : World} {base : Nat} {v : Value} {ws : List Word} (h : WordsAt W base v ws) (hg : W.grownBy W' none) : WordsAt W' base v ws :=
  words_else (t := 0) h hg (fun k e => by cases e) (by decide) (by decide)
theorem grown_below {W W' : World} (h : Below W.heap.size W W') : W.grownBy W' none := ⟨h.os, h.tape, h.output, h.size, fun i hi _ => h.block i hi⟩
theorem grown_set (W : World) (b j : Nat) (v : Value) : W.grownBy (W.setCell ⟨b, j, none⟩ v) (some b) :=
  ⟨rfl, rfl, rfl, (KeepsWalks.setCell W _ v).size, fun k _ hk => Below.heap_setCell _ _ _ k (fun e => hk (by rw [e]))⟩
theorem Tryd.info76 : (Tryd.prog.info? 76).map (fun i => (i.zero, i.size, i.bytes)) = some (some (.agg #[.int .u8 0, .int .i64 0, .string ⟨#[]⟩, .bool false, .slice none 0 0]), 5, 64) := by kernel_rfl
theorem cells_new (w : World) (l : List Value) (t : TypeId) (k : Nat) (hk : k = w.heap.size) : ∀ j u, l[j]? = some u → (w.alloc (.cells l.toArray t)).cell? ((⟨k, 0, none⟩ : Addr).add j) = some u := by
  intro j u hj
  subst hk
  have : (⟨w.heap.size, 0, none⟩ : Addr).add j = ⟨w.heap.size, j, none⟩ := by unfold Addr.add; split <;> simp_all
  rw [this]
  simp [hj]
/-- What the closure within lex.All does: one word more. -/
def TellPost (g base : Nat) (w : World) (ws : List Word) (e : Ending) (w' : World) : Prop :=
  e = .returned (.bool true) ∧ (∃ v', w'.heap[g]? = some (.cells #[v'] 67) ∧ WordsAt w' base v' ws) ∧ Below base w w'
set_option maxRecDepth 100000 in
set_option maxHeartbeats 1000000 in
theorem tell_any (g base : Nat) (v nv : Value) (ws : List Word) (x : Word) (w : World) (hl : ws.length ≤ 1000000) (hg : w.heap[g]? = some (.cells #[v] 67)) (hb : base ≤ g) (hv : WordsAt w base v ws) (hx : WayAt w base nv x.names) :
    Calls Tryd.prog 38 #[wordV x.kind x.at_ ⟨x.text.toArray⟩ x.root nv, .pointer (some ⟨g, 0, none⟩)] w (TellPost g base w (ws ++ [x])) := by
  obtain ⟨i0, hi, hz0, hz1, hz2⟩ := info_parts Tryd.info76
  obtain ⟨ps, rfl, ho, hn⟩ := hv
  obtain ⟨A, c, rfl⟩ := way_slice hx
  have hlt := World.heap_lt hg
  have hc : w.cell? ⟨g, 0, none⟩ = some v := by simp [World.cell?, hg]
  have G := Lib.hid hg
  clear hg
  go_enter Tryd.func38, Tryd.ntmps38
  go_wp2_with (at_builtin; refine halt ?_)
  refine Halted.mk' ?_
  refine wpList_append_own _ rfl _ _ 67 rfl base 76 i0 _ 5 64 Tryd.underlying67 hi hz0 hz1 hz2 rfl (by decide) v ps.length (ps.flatMap wordCells) rfl ((ho.alloc _).alloc _) ⟨_, 0, none⟩ 1 1 (wordCells (x, .slice A x.names.length c)) rfl rfl (cells_new _ (wordCells (x, .slice A x.names.length c)) _ _ (by simp)) ?_ ?_ ?_ ?_ ?_
  · simp [wordCells, Value.oneCell']
  · simp at hl; unfold maxLen; omega
  · simp at hl; omega
  · simp; omega
  intro v' w1 hown' hgrow _
  obtain ⟨g', cap', rfl⟩ := ownsRow_succ hown'
  have hnb : ∀ k, (v : Value).ownBlock = some k → ∃ cells, w.heap[k]? = some (.cells cells 76) := row_type ho
  have hlow : ∀ k, (v : Value).ownBlock = some k → base ≤ k := row_base ho
  have g0 := blk_off ((heap_old (by simp; omega)).trans ((heap_old hlt).trans G.out)) hgrow (fun e => by obtain ⟨cs, h⟩ := hnb _ e; rw [G.out] at h; cases h)
  have d0 : w1.cell? ⟨g, 0, none⟩ = some v := by simp [World.cell?, g0]
  have f0 : w1.frozen? ⟨g, 0, none⟩ = false := by simp [World.frozen?, g0]
  have G0 := Lib.hid g0
  clear g0 hi hz0 hz1 hz2 hc
  go_wp2
  go_ret
  refine ⟨rfl, ⟨_, blk_put G0.out 0 _, ps ++ [(x, .slice A x.names.length c)], by simp, ?_, ?_⟩, ?_⟩
  · have := row_else hown' (grown_set w1 g 0 (.slice (some ⟨g', 0, none⟩) (ps.length + 1) cap')) (fun k e => by cases e; exact ⟨_, G0.out⟩) (by decide)
    simpa using this
  · intro p hp
    have hp' : WayAt w base p.2 p.1.names := by
      rcases List.mem_append.1 hp with h | h
      · exact hn p h
      · simp at h; rw [h]; exact hx
    have h1 : WayAt w1 base p.2 p.1.names := row_else ((World.ownsRow.alloc hp' _).alloc _) hgrow (fun k e => by
      obtain ⟨cs, h⟩ := hnb k e
      exact ⟨cs, (heap_old (by have := World.heap_lt h; simp; omega)).trans ((heap_old (World.heap_lt h)).trans h)⟩) (by decide)
    exact row_else h1 (grown_set w1 g 0 _) (fun k e => by cases e; exact ⟨_, G0.out⟩) (by decide)
  · exact ((((Below.refl base w).alloc (by omega) _).alloc (by simp; omega) _).grown hgrow (by simp; omega) (fun k e => hlow k e)).setCell (p := ⟨g, 0, none⟩) hb _
end Go.Proofs.YtcggeaobonblfaaDoor

/- The words of a template, as a plain function. -/
namespace Go.Proofs.YtcggeaobonblfaaDoor
/-- How many bytes of r stand ahead of its first opening. -/
def litLen (r : List UInt8) : Nat := if Lib.index r [123, 123] < 0 then r.length else (Lib.index r [123, 123]).toNat
def closeAt (r : List UInt8) : Int := Lib.index r [125, 125]
/-- The words from r on, whose first byte stands at place at_; the place at fault, or -1. -/
def lexF : Nat → Int → List UInt8 → List Word × Int
  | 0, _, _ => ([], -1)
  | n + 1, at_, r =>
    if r = [] then ([], -1)
    else if 0 < litLen r then (⟨0, at_, r.take (litLen r), false, []⟩ :: (lexF n (at_ + litLen r) (r.drop (litLen r))).1, (lexF n (at_ + litLen r) (r.drop (litLen r))).2)
    else if closeAt r < 0 then ([], at_)
    else if (actionF ((r.take (closeAt r).toNat).drop 2)).2.2.2 then
      (⟨(actionF ((r.take (closeAt r).toNat).drop 2)).1, at_, [], (actionF ((r.take (closeAt r).toNat).drop 2)).2.1, (actionF ((r.take (closeAt r).toNat).drop 2)).2.2.1⟩ ::
        (lexF n (at_ + ((closeAt r).toNat + 2 : Nat)) (r.drop ((closeAt r).toNat + 2))).1, (lexF n (at_ + ((closeAt r).toNat + 2 : Nat)) (r.drop ((closeAt r).toNat + 2))).2)
    else ([], at_)
def lexW (at_ : Int) (r : List UInt8) : List Word × Int := lexF (r.length + 1) at_ r
theorem lexF_fuel : ∀ (n m : Nat) (at_ : Int) (r : List UInt8), r.length < n → r.length < m → lexF n at_ r = lexF m at_ r
  | n + 1, m + 1, at_, r, hn, hm => by
    unfold lexF
    by_cases h0 : r = []
    · rw [if_pos h0, if_pos h0]
    rw [if_neg h0, if_neg h0]
    have hr : 0 < r.length := List.length_pos_iff.2 h0
    by_cases h1 : 0 < litLen r
    · rw [if_pos h1, if_pos h1, lexF_fuel n m _ (r.drop (litLen r)) (by simp; omega) (by simp; omega)]
    rw [if_neg h1, if_neg h1]
    rw [lexF_fuel n m _ (r.drop ((closeAt r).toNat + 2)) (by simp; omega) (by simp; omega)]
theorem lexW_nil (at_ : Int) : lexW at_ [] = ([], -1) := by simp [lexW, lexF]
theorem lexW_lit (at_ : Int) (r : List UInt8) (h0 : r ≠ []) (h1 : 0 < litLen r) :
    lexW at_ r = (⟨0, at_, r.take (litLen r), false, []⟩ :: (lexW (at_ + litLen r) (r.drop (litLen r))).1, (lexW (at_ + litLen r) (r.drop (litLen r))).2) := by
  have hr : 0 < r.length := List.length_pos_iff.2 h0
  unfold lexW
  conv => lhs; unfold lexF
  rw [if_neg h0, if_pos h1, lexF_fuel r.length ((r.drop (litLen r)).length + 1) _ _ (by simp; omega) (by omega)]
theorem lexW_open (at_ : Int) (r : List UInt8) (h0 : r ≠ []) (h1 : ¬ 0 < litLen r) (h2 : closeAt r < 0) : lexW at_ r = ([], at_) := by
  unfold lexW
  unfold lexF
  rw [if_neg h0, if_neg h1, if_pos h2]
theorem lexW_bad (at_ : Int) (r : List UInt8) (h0 : r ≠ []) (h1 : ¬ 0 < litLen r) (h2 : ¬ closeAt r < 0) (h3 : (actionF ((r.take (closeAt r).toNat).drop 2)).2.2.2 = false) : lexW at_ r = ([], at_) := by
  unfold lexW
  unfold lexF
  rw [if_neg h0, if_neg h1, if_neg h2, if_neg (by simp [h3])]
theorem lexW_act (at_ : Int) (r : List UInt8) (h0 : r ≠ []) (h1 : ¬ 0 < litLen r) (h2 : ¬ closeAt r < 0) (h3 : (actionF ((r.take (closeAt r).toNat).drop 2)).2.2.2 = true) :
    lexW at_ r = (⟨(actionF ((r.take (closeAt r).toNat).drop 2)).1, at_, [], (actionF ((r.take (closeAt r).toNat).drop 2)).2.1, (actionF ((r.take (closeAt r).toNat).drop 2)).2.2.1⟩ ::
        (lexW (at_ + ((closeAt r).toNat + 2 : Nat)) (r.drop ((closeAt r).toNat + 2))).1, (lexW (at_ + ((closeAt r).toNat + 2 : Nat)) (r.drop ((closeAt r).toNat + 2))).2) := by
  have hr : 0 < r.length := List.length_pos_iff.2 h0
  unfold lexW
  conv => lhs; unfold lexF
  rw [if_neg h0, if_neg h1, if_neg h2, if_pos h3, lexF_fuel r.length ((r.drop ((closeAt r).toNat + 2)).length + 1) _ _ (by simp; omega) (by omega)]
/-- Where an instance begins. -/
theorem index_spec : ∀ (r : List UInt8) (a b : UInt8), 0 ≤ Lib.index r [a, b] → (Lib.index r [a, b]).toNat + 2 ≤ r.length ∧ r[(Lib.index r [a, b]).toNat]? = some a ∧ r[(Lib.index r [a, b]).toNat + 1]? = some b
  | [], a, b, h => by simp [Lib.index] at h
  | c :: l, a, b, h => by
    unfold Lib.index at h ⊢
    by_cases hp : [a, b].isPrefixOf (c :: l) = true
    · rw [if_pos hp]
      cases l with
      | nil => simp [List.isPrefixOf] at hp
      | cons d l' =>
        simp [List.isPrefixOf] at hp
        simp [hp.1, hp.2]
    · rw [if_neg hp] at h ⊢
      by_cases h1 : Lib.index l [a, b] = -1
      · rw [if_pos (by simp [h1])] at h; omega
      · rw [if_neg (by simp [h1])] at h ⊢
        have hge := Lib.index_ge l [a, b]
        obtain ⟨h2, h3, h4⟩ := index_spec l a b (by omega)
        have e : (Lib.index l [a, b] + 1).toNat = (Lib.index l [a, b]).toNat + 1 := by omega
        rw [e]
        exact ⟨by simp; omega, by simpa using h3, by simpa using h4⟩
theorem litLen_le (r : List UInt8) : litLen r ≤ r.length := by
  unfold litLen
  split
  · omega
  · have := (index_spec r 123 123 (by omega)).1; omega
/-- Behind an opening, the closing marks stand behind it. -/
theorem close_ge (r : List UInt8) (h0 : r ≠ []) (h1 : ¬ 0 < litLen r) (h2 : ¬ closeAt r < 0) : 2 ≤ (closeAt r).toNat ∧ (closeAt r).toNat + 2 ≤ r.length := by
  have hr : 0 < r.length := List.length_pos_iff.2 h0
  unfold litLen at h1
  have hi : ¬ Lib.index r [123, 123] < 0 := fun h => by rw [if_pos h] at h1; omega
  rw [if_neg hi] at h1
  obtain ⟨-, a0, a1⟩ := index_spec r 123 123 (by omega)
  have ez : (Lib.index r [123, 123]).toNat = 0 := by omega
  rw [ez] at a0 a1
  unfold closeAt at h2 ⊢
  obtain ⟨b, c0, c1⟩ := index_spec r 125 125 (by omega)
  refine ⟨?_, b⟩
  rcases Nat.lt_or_ge (Lib.index r [125, 125]).toNat 2 with h | h
  · have : (Lib.index r [125, 125]).toNat = 0 ∨ (Lib.index r [125, 125]).toNat = 1 := by omega
    rcases this with e | e
    · rw [e, a0] at c0; simp at c0
    · rw [e] at c0; simp at a1; rw [a1] at c0; simp at c0
  · exact h
end Go.Proofs.YtcggeaobonblfaaDoor

/- lex.words, lex.All: walked. -/
namespace Go.Proofs.YtcggeaobonblfaaDoor
open Go Go.RowKit
theorem idx_cut (s p : List UInt8) (k : Nat) (m : Int) (w : World) (hs : s.length ≤ 65536) (hm : w.cell? ⟨1, 0, none⟩ = some (.int .i64 m)) :
    Calls Tryd.prog 59 #[.string ((⟨s.toArray⟩ : ByteArray).extract k s.length), .string ⟨p.toArray⟩] w fun e w' => e = .returned (.int .i64 (Lib.index (s.drop k) p)) ∧ w' = w := by
  rw [ext_drop _ _ _ (Nat.le_refl _)]
  have := Tryd.strings_Index ⟨(s.drop k).toArray⟩ ⟨p.toArray⟩ m w (by simp [ByteArray.size]; omega) hm
  simpa using this
theorem slice_at (s : List UInt8) (i j : Int) (a b : Nat) (hi : i = a) (hj : j = b) (hab : a ≤ b) (hb : b ≤ s.length) (W : World) :
    (Instr.slice 9 (.string ⟨s.toArray⟩) (some (.int .i64 i)) (some (.int .i64 j)) none).run Tryd.prog W = .ok (.string ⟨((s.drop a).take (b - a)).toArray⟩) W := by
  subst hi hj
  rw [run_slice_string W 9 ⟨s.toArray⟩ .i64 .i64 a b Tryd.underlying9 (by omega) (by omega) (by simp [ByteArray.size]; omega)]
  rw [show ((a : Int).toNat) = a from rfl, show ((b : Int).toNat) = b from rfl, ext_cut]
/-- The state of lex.words between two words. -/
def WordsInv (s : List UInt8) (g B0 : Nat) (m : Int) (w : World) (k : Nat) (wr : World) : Prop :=
  ∃ pre v, pre.length ≤ k ∧ lexW 0 s = (pre ++ (lexW k (s.drop k)).1, (lexW k (s.drop k)).2) ∧ wr.heap[g]? = some (.cells #[v] 67) ∧ WordsAt wr B0 v pre ∧ Below B0 w wr ∧
    wr.heap[1]? = some (.cells #[.int .i64 m] 3)
def WordsPost (s : List UInt8) (g B0 : Nat) (w : World) (e : Ending) (w' : World) : Prop :=
  e = .returned (.int .i64 (lexW 0 s).2) ∧ (∃ v', w'.heap[g]? = some (.cells #[v'] 67) ∧ WordsAt w' B0 v' (lexW 0 s).1) ∧ Below B0 w w'
theorem words_done {s : List UInt8} {g B0 : Nat} {m : Int} {w wr : World} {k : Nat} {n : Int} (h : WordsInv s g B0 m w k wr) (hl : lexW k (s.drop k) = ([], n)) : WordsPost s g B0 w (.returned (.int .i64 n)) wr := by
  obtain ⟨pre, v, h1, h2, h3, h4, h5, h6⟩ := h
  rw [hl] at h2
  exact ⟨by rw [h2], ⟨v, h3, by rw [h2]; simpa using h4⟩, h5⟩
theorem words_later {s : List UInt8} {g B0 : Nat} {m : Int} {w wr W : World} {k : Nat} (h : WordsInv s g B0 m w k wr) (hB : B0 ≤ g) (hb : Below wr.heap.size wr W) : WordsInv s g B0 m w k W := by
  obtain ⟨pre, v, h1, h2, h3, h4, h5, h6⟩ := h
  have hlt := World.heap_lt h3
  exact ⟨pre, v, h1, h2, (hb.block _ hlt).trans h3, words_new h4 (grown_below hb), h5.trans (hb.mono (by omega)), (hb.block _ (World.heap_lt h6)).trans h6⟩
/-- One word more. -/
theorem words_step {s : List UInt8} {g B0 : Nat} {m : Int} {w wr w2 w' : World} {k k' : Nat} {x : Word} {pre : List Word} {e : Ending} (hkk : k < k') (h1 : pre.length ≤ k) (h2 : lexW 0 s = (pre ++ (lexW k (s.drop k)).1, (lexW k (s.drop k)).2))
    (hb : Below B0 w wr) (hm : wr.heap[1]? = some (.cells #[.int .i64 m] 3)) (hmB : 1 < B0) (hb2 : Below B0 wr w2)
    (hx : lexW k (s.drop k) = (x :: (lexW k' (s.drop k')).1, (lexW k' (s.drop k')).2)) (ht : TellPost g B0 w2 (pre ++ [x]) e w') : e = .returned (.bool true) ∧ Hid (WordsInv s g B0 m w k' w') := by
  obtain ⟨he, ⟨v', hv', hw'⟩, hb'⟩ := ht
  refine ⟨he, Lib.hid ⟨pre ++ [x], v', by simp; omega, by rw [h2, hx]; simp, hv', hw', (hb.trans hb2).trans hb', ?_⟩⟩
  rw [hb'.block _ hmB, hb2.block _ hmB]
  exact hm
set_option maxRecDepth 100000 in
set_option maxHeartbeats 2000000 in
theorem words_any (s : List UInt8) (g B0 : Nat) (m : Int) (w : World) (hs : s.length ≤ 65536) (hg : w.heap[g]? = some (.cells #[.slice none 0 0] 67)) (hB : B0 ≤ g) (hm : w.heap[1]? = some (.cells #[.int .i64 m] 3)) (hmB : 1 < B0) :
    Calls Tryd.prog 37 #[.string ⟨s.toArray⟩, .func (.func 38) #[] #[.pointer (some ⟨g, 0, none⟩)]] w (WordsPost s g B0 w) := by
  have H0 : Hid (WordsInv s g B0 m w 0 w) := Lib.hid ⟨[], _, Nat.le_refl _, by simp, hg, words_none _ _, Below.refl _ _, hm⟩
  clear hg hm
  go_enter Tryd.func37, Tryd.ntmps37
  go_wp2_with fail
  go_loopw [5] (fun a wr => ∃ k : Nat, k ≤ s.length ∧ a = .int .i64 k ∧ Hid (WordsInv s g B0 m w k wr)) (fun a _ => s.length - (intOf a).toNat)
  case atStart => exact ⟨0, Nat.zero_le _, rfl, H0⟩
  case round =>
    clear H0
    obtain ⟨k, hk, rfl, hI⟩ := hrel
    by_cases hlt : k < s.length
    · have hne : s.drop k ≠ [] := by intro h; have := congrArg List.length h; simp at this; omega
      have Hne := Lib.hid hne
      have hc : wr.cell? ⟨1, 0, none⟩ = some (.int .i64 m) := by
        obtain ⟨pre, v, h1, h2, h3, h4, h5, h6⟩ := hI.out
        simp [World.cell?, h6]
      have Hc := Lib.hid hc
      clear hne hc
      by_cases hi : Lib.index (s.drop k) [123, 123] < 0
      · have hll : litLen (s.drop k) = s.length - k := by unfold litLen; rw [if_pos hi]; simp
        have hpos : 0 < litLen (s.drop k) := by omega
        have hx := lexW_lit k (s.drop k) Hne.out hpos
        rw [List.drop_drop, hll, ← Int.natCast_add] at hx
        have T : Hid (Calls Tryd.prog 38 #[wordV 0 k ⟨((s.drop k).take (s.length - k)).toArray⟩ false (.slice none 0 0), .pointer (some ⟨g, 0, none⟩)] wr (fun e w' => e = .returned (.bool true) ∧ Hid (WordsInv s g B0 m w (k + (s.length - k)) w'))) := by
          obtain ⟨pre, v, h1, h2, h3, h4, h5, h6⟩ := hI.out
          exact Lib.hid ((tell_any g B0 v (.slice none 0 0) pre ⟨0, k, (s.drop k).take (s.length - k), false, []⟩ wr (by omega) h3 hB h4 (way_none _ _)).mono fun e w' ht => words_step (by omega) h1 h2 h5 h6 hmB (Below.refl _ _) hx ht)
        have hsl := slice_at s k (k + (s.length - k)) k s.length rfl (by omega) (by omega) (by omega)
        have e0 : (k : Int) + ((s.length : Int) - k) = ((k + (s.length - k) : Nat) : Int) := by omega
        have E0 := Lib.hid e0
        clear hx hll hpos e0
        go_wp2_with (first
          | (go_at_call 59; refine (idx_cut s [123, 123] k m _ hs Hc.out).mono ?_; rintro e w' ⟨rfl, rfl⟩)
          | (go_at_call 38; refine (T.out).mono ?_; rintro e w' ⟨rfl, hI'⟩))
        exact ⟨⟨k + (s.length - k), by omega, by rw [E0.out], hI'⟩, by simp [intOf]; omega⟩
      by_cases hz : 0 < Lib.index (s.drop k) [123, 123]
      · have hll : litLen (s.drop k) = (Lib.index (s.drop k) [123, 123]).toNat := by unfold litLen; rw [if_neg hi]
        have hle := litLen_le (s.drop k)
        rw [hll] at hle
        simp at hle
        have hx := lexW_lit k (s.drop k) Hne.out (by omega)
        obtain ⟨i, hii⟩ : ∃ i : Nat, Lib.index (s.drop k) [123, 123] = i := ⟨(Lib.index (s.drop k) [123, 123]).toNat, by omega⟩
        have hit : (Lib.index (s.drop k) [123, 123]).toNat = i := by omega
        rw [List.drop_drop, hll, hit, ← Int.natCast_add] at hx
        have T : Hid (Calls Tryd.prog 38 #[wordV 0 k ⟨((s.drop k).take i).toArray⟩ false (.slice none 0 0), .pointer (some ⟨g, 0, none⟩)] wr (fun e w' => e = .returned (.bool true) ∧ Hid (WordsInv s g B0 m w (k + i) w'))) := by
          obtain ⟨pre, v, h1, h2, h3, h4, h5, h6⟩ := hI.out
          exact Lib.hid ((tell_any g B0 v (.slice none 0 0) pre ⟨0, k, (s.drop k).take i, false, []⟩ wr (by omega) h3 hB h4 (way_none _ _)).mono fun e w' ht => words_step (by omega) h1 h2 h5 h6 hmB (Below.refl _ _) hx ht)
        have hsl := slice_at s k (k + i) k (k + i) rfl (by omega) (by omega) (by omega)
        rw [Nat.add_sub_cancel_left] at hsl
        have hlt' : k + i ≤ s.length := by omega
        have hi0 : 0 < i := by omega
        have ICX : Hid (∀ W : World, W.cell? ⟨1, 0, none⟩ = some (.int .i64 m) → Calls Tryd.prog 59 #[.string ((⟨s.toArray⟩ : ByteArray).extract k s.length), .string ⟨#[123, 123]⟩] W fun e w' => e = .returned (.int .i64 i) ∧ w' = W) :=
          Lib.hid fun W h => by have := idx_cut s [123, 123] k m W hs h; rw [hii] at this; exact this
        clear hx hll hle hii hit hi hz
        go_wp2_with (first
          | (go_at_call_of 59 (123 : UInt8); refine (ICX.out _ Hc.out).mono ?_; rintro e w' ⟨rfl, rfl⟩)
          | (go_at_call 38; refine (T.out).mono ?_; rintro e w' ⟨rfl, hI'⟩))
        exact ⟨⟨k + i, by omega, by simp, hI'⟩, by simp [intOf]; omega⟩
      have hl0 : ¬ 0 < litLen (s.drop k) := by unfold litLen; rw [if_neg hi]; omega
      have hz0 : Lib.index (s.drop k) [123, 123] = 0 := by omega
      have ICX : Hid (∀ W : World, W.cell? ⟨1, 0, none⟩ = some (.int .i64 m) → Calls Tryd.prog 59 #[.string ((⟨s.toArray⟩ : ByteArray).extract k s.length), .string ⟨#[123, 123]⟩] W fun e w' => e = .returned (.int .i64 0) ∧ w' = W) :=
        Lib.hid fun W h => by have := idx_cut s [123, 123] k m W hs h; rw [hz0] at this; exact this
      by_cases hc : closeAt (s.drop k) < 0
      · have hx := Lib.hid (lexW_open k (s.drop k) Hne.out hl0 hc)
        have hc' : Lib.index (s.drop k) [125, 125] < 0 := hc
        clear hz hz0 hi hl0 hc
        go_wp2_with (first
          | (go_at_call_of 59 (123 : UInt8); refine (ICX.out _ Hc.out).mono ?_; rintro e w' ⟨rfl, rfl⟩)
          | (go_at_call_of 59 (125 : UInt8); refine (idx_cut s [125, 125] k m _ hs Hc.out).mono ?_; rintro e w' ⟨rfl, rfl⟩))
        go_ret
        exact words_done hI.out hx.out
      · obtain ⟨hj2, hjl⟩ := close_ge (s.drop k) Hne.out hl0 hc
        obtain ⟨j, hjj⟩ : ∃ j : Nat, closeAt (s.drop k) = j := ⟨(closeAt (s.drop k)).toNat, by omega⟩
        have hjt : (closeAt (s.drop k)).toNat = j := by omega
        rw [hjt] at hj2 hjl
        simp at hjl
        have JCX : Hid (∀ W : World, W.cell? ⟨1, 0, none⟩ = some (.int .i64 m) → Calls Tryd.prog 59 #[.string ((⟨s.toArray⟩ : ByteArray).extract k s.length), .string ⟨#[125, 125]⟩] W fun e w' => e = .returned (.int .i64 j) ∧ w' = W) :=
          Lib.hid fun W h => by have := idx_cut s [125, 125] k m W hs h; rw [show Lib.index (s.drop k) [125, 125] = j from hjj] at this; exact this
        have hsl := slice_at s (k + 2) (k + j) (k + 2) (k + j) (by omega) (by omega) (by omega) (by omega)
        rw [show (s.drop (k + 2)).take (k + j - (k + 2)) = ((s.drop k).take j).drop 2 from by rw [List.drop_take, List.drop_drop]; congr 1; omega] at hsl
        have hal : (((s.drop k).take j).drop 2).length ≤ 65536 := by simp; omega
        cases ha : (actionF (((s.drop k).take j).drop 2)).2.2.2
        · have hx := Lib.hid (lexW_bad k (s.drop k) Hne.out hl0 hc (by rw [hjt]; exact ha))
          obtain ⟨A, hA⟩ : ∃ A, actionF (((s.drop k).take j).drop 2) = A := ⟨_, rfl⟩
          have hact := action_any (((s.drop k).take j).drop 2)
          rw [hA] at hact ha
          have Hact := Lib.hid hact
          have Ha := Lib.hid ha
          clear hz hz0 hi hl0 hc hjj hjt hact ha hA
          go_wp2_with (first
            | (go_at_call_of 59 (123 : UInt8); refine (ICX.out _ Hc.out).mono ?_; rintro e w' ⟨rfl, rfl⟩)
            | (go_at_call_of 59 (125 : UInt8); refine (JCX.out _ Hc.out).mono ?_; rintro e w' ⟨rfl, rfl⟩)
            | (go_at_call 60; refine halt ?_))
          refine Halted.mk' ?_
          refine (Hact.out _ hal).mono ?_
          rintro e w2 ⟨nv, rfl, hv, hb⟩
          obtain ⟨ak, ar, an, ao⟩ := A
          obtain rfl : ao = false := Ha.out
          obtain ⟨A', c', rfl⟩ := way_slice hv
          have hI2 := Lib.hid (words_later hI.out hB hb)
          have hw0 : B0 ≤ _ := Nat.le_trans hB (Nat.le_of_lt (World.heap_lt hI.out.choose_spec.choose_spec.2.2.1))
          have Hb := Lib.hid hb
          have Hv := Lib.hid hv
          clear hI hb hv Hact Ha ICX JCX hsl
          go_wp2
          go_ret
          exact words_done (words_later hI2.out hB ((Below.refl _ _).alloc (Nat.le_refl _) _)) hx.out
        · have hx := lexW_act k (s.drop k) Hne.out hl0 hc (by rw [hjt]; exact ha)
          rw [hjt, List.drop_drop, ← Int.natCast_add] at hx
          obtain ⟨A, hA⟩ : ∃ A, actionF (((s.drop k).take j).drop 2) = A := ⟨_, rfl⟩
          have hact := action_any (((s.drop k).take j).drop 2)
          rw [hA] at hact ha hx
          have Hx := Lib.hid hx
          have Hact := Lib.hid hact
          have Ha := Lib.hid ha
          have e0 : (k : Int) + ((j : Int) + 2) = ((k + (j + 2) : Nat) : Int) := by omega
          have E0 := Lib.hid e0
          clear hz hz0 hi hl0 hc hjj hjt hact ha hA hx e0
          go_wp2_with (first
            | (go_at_call_of 59 (123 : UInt8); refine (ICX.out _ Hc.out).mono ?_; rintro e w' ⟨rfl, rfl⟩)
            | (go_at_call_of 59 (125 : UInt8); refine (JCX.out _ Hc.out).mono ?_; rintro e w' ⟨rfl, rfl⟩)
            | (go_at_call 60; refine halt ?_))
          refine Halted.mk' ?_
          refine (Hact.out _ hal).mono ?_
          rintro e w2 ⟨nv, rfl, hv, hb⟩
          obtain ⟨ak, ar, an, ao⟩ := A
          obtain rfl : ao = true := Ha.out
          obtain ⟨A', c', rfl⟩ := way_slice hv
          have hI2 := Lib.hid (words_later hI.out hB hb)
          have hw0 : B0 ≤ _ := Nat.le_trans hB (Nat.le_of_lt (World.heap_lt hI.out.choose_spec.choose_spec.2.2.1))
          have Hb := Lib.hid hb
          have Hv := Lib.hid hv
          clear hI hb hv Hact Ha ICX JCX hsl
          go_wp2_with (go_at_call 38; refine halt ?_)
          refine Halted.mk' ?_
          obtain ⟨pre, v, h1, h2, h3, h4, h5, h6⟩ := hI2.out
          have hlt2 := World.heap_lt h3
          refine (tell_any g B0 v (.slice A' an.length c') pre ⟨ak, k, [], ar, an⟩ _ (by omega) ((heap_old hlt2).trans h3) hB (words_new h4 (World.grownBy_alloc _ _ none)) (World.ownsRow.alloc (row_low Hv.out hw0) _)).mono ?_
          intro e w3 ht
          have H3 := words_step (k' := k + (j + 2)) (by omega) h1 h2 h5 h6 hmB ((Below.refl _ _).alloc (by omega) _) Hx.out ht
          obtain ⟨rfl, hI3⟩ := H3
          have HI3 := Lib.hid hI3
          clear ht h2 h3 h4 h5 h6 hI3 hI2 Hb Hv Hx
          go_wp2
          exact ⟨⟨k + (j + 2), by omega, by rw [E0.out], HI3.out⟩, by simp [intOf]; omega⟩
    · go_wp2_with fail
      go_ret
      exact words_done hI.out (by rw [List.drop_eq_nil_of_le (by omega)]; exact lexW_nil _)
end Go.Proofs.YtcggeaobonblfaaDoor

/- lex.All: the words of a template; the place of the action at fault. -/
namespace Go.Proofs.YtcggeaobonblfaaDoor
open Go Go.RowKit
/-- The words, the place at fault, the error's number. -/
def lexAllF (s : List UInt8) : List Word × Int × Int :=
  if 65536 < s.length then ([], 0, 2) else if 0 ≤ (lexW 0 s).2 then ([], (lexW 0 s).2, 4) else ((lexW 0 s).1, 0, 0)
def LexPost (w : World) (r : List Word × Int × Int) (e : Ending) (w' : World) : Prop :=
  ∃ v, e = .returned (.tuple #[v, .int .i64 r.2.1, .int .i64 r.2.2]) ∧ WordsAt w' w.heap.size v r.1 ∧ Below w.heap.size w w'
/-- internal/bytealg.MaxLen holds some number. -/
def MaxLenAt (w : World) : Prop := ∃ m, w.heap[1]? = some (.cells #[.int .i64 m] 3)
theorem MaxLenAt.below {w w' : World} (h : MaxLenAt w) (hb : Below w.heap.size w w') : MaxLenAt w' := by
  obtain ⟨m, h⟩ := h
  exact ⟨m, (hb.block _ (World.heap_lt h)).trans h⟩
set_option maxRecDepth 100000 in
set_option maxHeartbeats 1000000 in
theorem lexAll_any (s : List UInt8) (w : World) (hs : s.length ≤ 140737488351232) (hm : MaxLenAt w) : Calls Tryd.prog 19 #[.string ⟨s.toArray⟩] w (LexPost w (lexAllF s)) := by
  by_cases hl : 65536 < s.length
  · have : lexAllF s = ([], 0, 2) := by unfold lexAllF; rw [if_pos hl]
    rw [this]
    clear this
    go_enter Tryd.func19, Tryd.ntmps19
    go_wp2_with fail
    go_ret3
    exact ⟨_, rfl, words_none _ _, Below.refl _ _⟩
  · obtain ⟨m, hm⟩ := hm
    have hmB := World.heap_lt hm
    have hW := words_any s w.heap.size w.heap.size m (w.alloc (.cells #[.slice none 0 0] 67)) (by omega) (World.alloc_heap_new _ _) (Nat.le_refl _) ((heap_old hmB).trans hm) hmB
    have hF : lexAllF s = if 0 ≤ (lexW 0 s).2 then ([], (lexW 0 s).2, 4) else ((lexW 0 s).1, 0, 0) := by unfold lexAllF; rw [if_neg hl]
    obtain ⟨L, hL⟩ : ∃ L, lexW 0 s = L := ⟨_, rfl⟩
    unfold WordsPost at hW
    rw [hL] at hW hF
    have HW := Lib.hid hW
    have HF := Lib.hid hF
    clear hW hF hL hm
    go_enter Tryd.func19, Tryd.ntmps19
    go_wp2_with (go_at_call 37; refine halt ?_)
    refine Halted.mk' ?_
    refine (HW.out).mono ?_
    rintro e w' ⟨rfl, ⟨v', hg, hw⟩, hb⟩
    obtain ⟨A, c, rfl⟩ : ∃ A c, v' = .slice A L.1.length c := by
      obtain ⟨ps, hps, ho, hn⟩ := hw
      have hlen : ps.length = L.1.length := by rw [← hps]; simp
      rcases ho.2 with ⟨rfl, h0⟩ | ⟨g, cap, cur, rfl, _⟩
      · rw [← hlen, h0]; exact ⟨_, _, rfl⟩
      · rw [hlen]; exact ⟨_, _, rfl⟩
    have hc : w'.cell? ⟨w.heap.size, 0, none⟩ = some (.slice A L.1.length c) := by simp [World.cell?, hg]
    have Hw := Lib.hid hw
    have hB : Below w.heap.size w w' := (((Below.refl _ _).alloc (Nat.le_refl _) _)).trans hb
    have Hb := Lib.hid hB
    clear hg hw hb HW hB
    by_cases h0 : 0 ≤ L.2
    · go_wp2
      go_ret3
      rw [HF.out, if_pos h0]
      exact ⟨_, rfl, words_none _ _, Hb.out⟩
    · go_wp2
      go_ret3
      rw [HF.out, if_neg (by omega)]
      exact ⟨_, rfl, Hw.out, Hb.out⟩
end Go.Proofs.YtcggeaobonblfaaDoor

/- What a law's row wants: the wrap that keeps the listed variables and the world's shape; what internal/bytealg.MaxLen holds. -/
namespace Go.Proofs.YtcggeaobonblfaaDoor
set_option linter.unusedVariables false
open Go Go.RowKit
theorem Row.own : ownKnob Tryd.prog.godebug = none := by kernel_rfl
theorem returns_of {H : Type} {enc : TypeId × Value → H} {a : Assume} {C : Checked} {os : Os} {f : FuncId} {fn : Func} {s : ChangeSpec} {conds : List PathCond} {apart fresh handsOn again : Bool} {X : World → Array Value → Prop}
    (hX : ∀ (w w' : World) (args : Array Value), w.heap = w'.heap → X w args → X w' args)
    (own : ownKnob C.prog.godebug = none) (started : os.Started) (noInit : C.prog.inits.idxOf? f = none) (hfn : C.prog.funcs[f]? = some fn)
    (witness : ∃ (w : World) (tape : Tape) (i : Input), w.os = os ∧ (w.forCall tape i).Shaped C.prog ∧ i.vars = [] ∧ Input.okWide C.prog (w.forCall tape i) .any w.heap.size f i ∧
      ((s.pre enc C.prog fn conds apart (w.forCall tape i).memory i.args ∧ X (w.forCall tape i).memory i.args) ∧ sizedMet enc C.prog fn (OpenSpec.ofChange s) apart (w.forCall tape i).memory i.args) ∧ a.holds C.prog (lone (Frame.enter C.prog f i.args .normal) [] (w.forCall tape i)))
    (contract : ∀ (W : World) (base : Nat) (args : Array Value) (ds gs : List (DataW H)) (before : List MemPlace),
      (∀ (j : Nat) t v, fn.params[j]? = some t → args[j]? = some v → Value.okWide C.prog W .any base t v) →
      DataW.Whole enc C.prog fn.params.toList s.vars apart W args.toList ds gs before →
      conds.all (PathCond.test C.prog ⟨fn.params.toList, ds, s.plain.varTypes C.prog, gs⟩) = true →
      (DataW.weightsEach C.prog (fn.params.toList ++ s.plain.varTypes C.prog) (ds ++ gs)).all (· ≤ reachBytes) = true → X W args → W.ShapedOpen C.prog →
      a.holds C.prog (lone (Frame.enter C.prog f args .normal) [] W) →
      Calls C.prog f args W fun e W' => ∃ v, e = .returned v ∧ s.post enc C.prog fn apart fresh handsOn again W args v W') :
    ReturnsInHanded a C os f .any (fun w args => (s.pre enc C.prog fn conds apart w args ∧ X w args) ∧ sizedMet enc C.prog fn (OpenSpec.ofChange s) apart w args) (s.post enc C.prog fn apart fresh handsOn again) := by
  refine returnsInHanded_of_calls own started noInit witness ?_
  intro w tape i _ hsh _ hok hpre hholds
  obtain ⟨_, _, _, fn', hfn', _, _, _, _, hval⟩ := hok
  have e : fn' = fn := Option.some.inj (hfn'.symm.trans hfn)
  subst e
  obtain ⟨⟨⟨ds, gs, before, hw, hc⟩, hx⟩, hz⟩ := hpre
  have hw' := DataW.Whole.of_heap (w' := w.forCall tape i) (by rfl) hw
  refine (contract (w.forCall tape i) w.heap.size i.args ds gs before hval hw' hc (hz.weights hw) (hX _ _ _ (by rfl) hx) hsh hholds).mono fun e W' ⟨v, he, hp⟩ => ?_
  subst he
  exact ChangeSpec.post_blind hp
theorem maxLen_of_shaped {W : World} (h : W.ShapedOpen Tryd.prog) : MaxLenAt W := by
  have hg : 1 < Tryd.prog.globals.size := of_decide_eq_true (by kernel_rfl)
  have h0 : ((begin Tryd.prog (fun _ _ => 0) default).world.heap[1]?).bind Obj.row? = some (#[.int .i64 0], 3) := by kernel_rfl
  obtain ⟨m, hm⟩ := cell_of_shapedOpen_int (P := Tryd.prog) (g := 1) (t := 3) (zero := #[.int .i64 0]) h hg h0 rfl (by kernel_rfl) (by kernel_rfl) Tryd.underlying3
  obtain ⟨cs, hh, hs, -⟩ := h.1 _ _ _ hg h0
  refine ⟨m, ?_⟩
  obtain ⟨l⟩ := cs
  match l, hs with
  | [v], _ =>
    have : v = .int .i64 m := by simpa [World.cell?, hh] using hm
    rw [this] at hh
    exact hh
end Go.Proofs.YtcggeaobonblfaaDoor

/- Trees in memory: words that are read, nodes that are the call's own. -/
namespace Go.Proofs.YtcggeaobonblfaaDoor
open Go Go.RowKit
/-- A node of a tree. -/
structure Node where
  (kind at_ : Int) (text : List UInt8) (root : Bool) (names : List (List UInt8)) (body els : List Int) (has : Bool) (hole : Int)
/-- Names that lie below block B. -/
def NamesRd (B : Nat) (W : World) (v : Value) (names : List (List UInt8)) : Prop :=
  ∃ A c, v = .slice A names.length c ∧ (∀ (j : Nat) x, names[j]? = some x → ∃ b, A = some ⟨b, 0, none⟩ ∧ b < B ∧ W.cell? ⟨b, j, none⟩ = some (encS x)) ∧ names.length ≤ c
theorem NamesRd.below {B : Nat} {W W' : World} {v : Value} {names : List (List UInt8)} (h : NamesRd B W v names) (hb : Below B W W') : NamesRd B W' v names := by
  obtain ⟨A, c, e, h, hl⟩ := h
  refine ⟨A, c, e, fun j x hx => ?_, hl⟩
  obtain ⟨b, ha, hlt, hc⟩ := h j x hx
  exact ⟨b, ha, hlt, (hb.cell (p := ⟨b, j, none⟩) hlt).trans hc⟩
theorem addr_add (g j : Nat) : (⟨g, 0, none⟩ : Addr).add j = ⟨g, j, none⟩ := by unfold Addr.add; split <;> simp_all
theorem row_cell {W : World} {base e size n : Nat} {v : Value} {xs : List Value} (h : W.ownsRow base e size v n xs) (j : Nat) (x : Value) (hx : xs[j]? = some x) : ∃ g cap, v = .slice (some ⟨g, 0, none⟩) n cap ∧ base ≤ g ∧ g < W.heap.size ∧ W.cell? ⟨g, j, none⟩ = some x := by
  have hj := (List.getElem?_eq_some_iff.1 hx).1
  rcases h.2 with ⟨rfl, h0⟩ | ⟨g, cap, cur, rfl, hb, hh, _⟩
  · have := h.1
    rw [h0] at this
    omega
  · refine ⟨g, cap, rfl, hb, World.heap_lt hh, ?_⟩
    have := h.cells (g := g) rfl j _ hx
    rw [addr_add] at this
    exact this
theorem way_rd {W : World} {base B : Nat} {v : Value} {names : List (List UInt8)} (h : WayAt W base v names) (hB : W.heap.size ≤ B) : NamesRd B W v names := by
  obtain ⟨A, c, rfl⟩ := way_slice h
  refine ⟨A, c, rfl, fun j x hx => ?_, ?_⟩
  · obtain ⟨g, cap, e, _, hlt, hc⟩ := row_cell h j (encS x) (by simp [hx])
    cases e
    exact ⟨g, rfl, by omega, hc⟩
  · rcases h.2 with ⟨h1, h0⟩ | ⟨g, cap, cur, h1, _, _, h2, _⟩
    · omega
    · injection h1 with _ _ h3
      omega
/-- Words that are read, all below block B. -/
def WordsRd (B : Nat) (W : World) (v : Value) (ws : List Word) : Prop :=
  ∃ A c, v = .slice A ws.length c ∧ ∀ (i : Nat) x, ws[i]? = some x → ∃ b nv, A = some ⟨b, 0, none⟩ ∧ b < B ∧ W.cell? ⟨b, i * 5, none⟩ = some (.int .u8 x.kind) ∧ W.cell? ⟨b, i * 5 + 1, none⟩ = some (.int .i64 x.at_) ∧
    W.cell? ⟨b, i * 5 + 2, none⟩ = some (.string ⟨x.text.toArray⟩) ∧ W.cell? ⟨b, i * 5 + 3, none⟩ = some (.bool x.root) ∧ W.cell? ⟨b, i * 5 + 4, none⟩ = some nv ∧ NamesRd B W nv x.names
theorem WordsRd.below {B : Nat} {W W' : World} {v : Value} {ws : List Word} (h : WordsRd B W v ws) (hb : Below B W W') : WordsRd B W' v ws := by
  obtain ⟨A, c, e, h⟩ := h
  refine ⟨A, c, e, fun i x hx => ?_⟩
  obtain ⟨b, nv, ha, hlt, h0, h1, h2, h3, h4, h5⟩ := h i x hx
  have hc : ∀ j, W'.cell? ⟨b, j, none⟩ = W.cell? ⟨b, j, none⟩ := fun j => hb.cell (p := ⟨b, j, none⟩) hlt
  exact ⟨b, nv, ha, hlt, by rw [hc]; exact h0, by rw [hc]; exact h1, by rw [hc]; exact h2, by rw [hc]; exact h3, by rw [hc]; exact h4, h5.below hb⟩
theorem flat_at (ps : List (Word × Value)) : ∀ (i : Nat) (p : Word × Value), ps[i]? = some p → ∀ j, j < 5 → (ps.flatMap wordCells)[i * 5 + j]? = (wordCells p)[j]? := by
  induction ps with
  | nil => intro i p h; simp at h
  | cons q ps ih =>
    intro i p h j hj
    rw [List.flatMap_cons]
    cases i with
    | zero =>
      simp at h
      subst h
      rw [List.getElem?_append_left (by simp [wordCells]; omega)]
      simp
    | succ i =>
      rw [List.getElem?_append_right (by simp [wordCells]; omega)]
      have := ih i p (by simpa using h) j hj
      rw [← this]
      congr 1
      simp [wordCells]
      omega
theorem words_rd {W : World} {base B : Nat} {v : Value} {ws : List Word} (h : WordsAt W base v ws) (hB : W.heap.size ≤ B) : WordsRd B W v ws := by
  obtain ⟨ps, rfl, ho, hn⟩ := h
  have hs : ∃ A c, v = .slice A ps.length c := by
    rcases ho.2 with ⟨rfl, h0⟩ | ⟨g, cap, cur, rfl, _⟩
    · rw [h0]; exact ⟨_, _, rfl⟩
    · exact ⟨_, _, rfl⟩
  obtain ⟨A, c, rfl⟩ := hs
  refine ⟨A, c, by simp, fun i x hx => ?_⟩
  obtain ⟨p, hp, rfl⟩ : ∃ p, ps[i]? = some p ∧ p.1 = x := by simpa using hx
  have hcell : ∀ j u, j < 5 → (wordCells p)[j]? = some u → ∃ b, A = some ⟨b, 0, none⟩ ∧ b < B ∧ W.cell? ⟨b, i * 5 + j, none⟩ = some u := fun j u hj hu => by
    obtain ⟨g, cap, e, _, hlt, hc⟩ := row_cell ho (i * 5 + j) u (by rw [flat_at ps i p hp j hj]; exact hu)
    cases e
    exact ⟨g, rfl, by omega, hc⟩
  obtain ⟨b, hb, hlt, h0⟩ := hcell 0 _ (by omega) rfl
  obtain ⟨b1, hb1, _, h1⟩ := hcell 1 _ (by omega) rfl
  obtain ⟨b2, hb2, _, h2⟩ := hcell 2 _ (by omega) rfl
  obtain ⟨b3, hb3, _, h3⟩ := hcell 3 _ (by omega) rfl
  obtain ⟨b4, hb4, _, h4⟩ := hcell 4 _ (by omega) rfl
  rw [hb] at hb1 hb2 hb3 hb4
  cases hb1; cases hb2; cases hb3; cases hb4
  exact ⟨b, p.2, hb, hlt, h0, h1, h2, h3, h4, way_rd (hn p (List.mem_of_getElem? hp)) hB⟩
/-- Numbers in a row of the call's own. -/
def IntsAt (W : World) (base : Nat) (v : Value) (xs : List Int) : Prop := W.ownsRow base 3 1 v xs.length (xs.map (Value.int .i64))
theorem ints_none (W : World) (base : Nat) : IntsAt W base (.slice none 0 0) [] := ⟨by simp, .inl ⟨rfl, rfl⟩⟩
theorem ints_slice {W : World} {base : Nat} {v : Value} {xs : List Int} (h : IntsAt W base v xs) : ∃ A c, v = .slice A xs.length c := by
  unfold IntsAt at h
  rcases h.2 with ⟨rfl, h0⟩ | ⟨g, cap, cur, rfl, _⟩
  · rw [h0]; exact ⟨_, _, rfl⟩
  · exact ⟨_, _, rfl⟩
/-- A node with its three slices. -/
structure NodeV where
  (x : Node) (nv bv ev : Value)
def nodeCells (p : NodeV) : List Value := [.int .u8 p.x.kind, .int .i64 p.x.at_, .string ⟨p.x.text.toArray⟩, .bool p.x.root, p.nv, p.bv, p.ev, .bool p.x.has, .int .u8 p.x.hole]
/-- Nodes in a row of the call's own; their lists lie in rows that are none of X; their names below B. -/
def NodesAt (B base : Nat) (X : Nat → Prop) (W : World) (v : Value) (ps : List NodeV) : Prop :=
  W.ownsRow base 66 9 v ps.length (ps.flatMap nodeCells) ∧ ∀ p ∈ ps, NamesRd B W p.nv p.x.names ∧ IntsAt W base p.bv p.x.body ∧ IntsAt W base p.ev p.x.els ∧
    (∀ k, p.bv.ownBlock = some k → ¬ X k) ∧ (∀ k, p.ev.ownBlock = some k → ¬ X k)
theorem nodes_slice {B base : Nat} {X : Nat → Prop} {W : World} {v : Value} {ps : List NodeV} (h : NodesAt B base X W v ps) : ∃ A c, v = .slice A ps.length c := by
  rcases h.1.2 with ⟨rfl, h0⟩ | ⟨g, cap, cur, rfl, _⟩
  · rw [h0]; exact ⟨_, _, rfl⟩
  · exact ⟨_, _, rfl⟩
end Go.Proofs.YtcggeaobonblfaaDoor

/- parse's recursive descent as plain functions, and what its steps keep of memory. -/
namespace Go.Proofs.YtcggeaobonblfaaDoor
open Go Go.RowKit
/-- A fault: its place, its number; or what was read: the nodes' numbers, the next word, all nodes. -/
abbrev Fault := Int × Int
abbrev ListR := Except Fault (List Int × Nat × List Node)
/-- Behind a body: an end must stand. -/
def finB (ws : List Word) (w : Word) (i : Nat) (nd : List Node) : Except Fault (Nat × List Node) :=
  match ws[i]? with
  | none => .error (w.at_, 4)
  | some x => if x.kind = 3 then .error (x.at_, 4) else .ok (i + 1, nd)
def setBody (nd : List Node) (k : Nat) (b : List Int) : List Node := nd.modify k fun x => { x with body := b }
def setEls (nd : List Node) (k : Nat) (b : List Int) : List Node := nd.modify k fun x => { x with els := b, has := true }
def setKind (nd : List Node) (k : Nat) (n : Int) : List Node := nd.modify k fun x => { x with kind := n }
/-- What stands between an if or a range (w, node k) and its end; L reads a list. -/
def bodyP (L : Nat → List Node → Nat → ListR) (ws : List Word) (i : Nat) (nodes : List Node) (k : Nat) (w : Word) (depth : Nat) : Except Fault (Nat × List Node) :=
  match L i nodes (depth + 1) with
  | .error f => .error f
  | .ok (b, i1, nodes1) =>
    match ws[i1]? with
    | none => finB ws w i1 (setBody nodes1 k b)
    | some x =>
      if x.kind = 3 then
        if w.kind = 4 then .error (x.at_, 4) else
        match L (i1 + 1) (setBody nodes1 k b) (depth + 1) with
        | .error f => .error f
        | .ok (e, i2, nodes2) => finB ws w i2 (setEls nodes2 k e)
      else finB ws w i1 (setBody nodes1 k b)
def newNode (w : Word) : Node := ⟨0, w.at_, w.text, w.root, w.names, [], [], false, 0⟩
def kindOf (k : Int) : Int := if k = 1 then 1 else if k = 6 then 4 else if k = 2 then 2 else if k = 4 then 3 else 0
def nodeP (L : Nat → List Node → Nat → ListR) (ws : List Word) (i : Nat) (nodes : List Node) (w : Word) (depth : Nat) : Except Fault (Int × Nat × List Node) :=
  if w.kind = 2 ∨ w.kind = 4 then
    if 16 ≤ depth then .error (w.at_, 3) else
    match bodyP L ws i (nodes ++ [newNode w]) nodes.length w depth with
    | .error f => .error f
    | .ok (i1, nd) => .ok (nodes.length, i1, setKind nd nodes.length (kindOf w.kind))
  else .ok (nodes.length, i, setKind (nodes ++ [newNode w]) nodes.length (kindOf w.kind))
def listP (ws : List Word) : Nat → Nat → List Node → Nat → List Int → ListR
  | 0, _, _, _, _ => .error (0, 0)
  | n + 1, i, nodes, depth, acc =>
    match ws[i]? with
    | none => .ok (acc, i, nodes)
    | some w =>
      if w.kind = 3 ∨ w.kind = 5 then .ok (acc, i, nodes) else
      match nodeP (fun i nd d => listP ws n i nd d []) ws (i + 1) nodes w depth with
      | .error f => .error f
      | .ok (k, i1, nd) => listP ws n i1 nd depth (acc ++ [k])
/-- A block of nodes. -/
def IsN (W : World) (k : Nat) : Prop := ∃ cells, W.heap[k]? = some (.cells cells 66)
/-- What lay below base lies as it lay; beyond it only block P and rows of nodes may have turned. -/
structure Fr (base P : Nat) (W W' : World) : Prop where
  os : W'.os = W.os
  tape : W'.tape = W.tape
  output : W'.output = W.output
  size : W.heap.size ≤ W'.heap.size
  low : ∀ k, k < base → W'.heap[k]? = W.heap[k]?
  high : ∀ k, k < W.heap.size → k ≠ P → IsN W k ∨ W'.heap[k]? = W.heap[k]?
theorem Fr.refl (base P : Nat) (W : World) : Fr base P W W := ⟨rfl, rfl, rfl, Nat.le_refl _, fun _ _ => rfl, fun _ _ _ => .inr rfl⟩
theorem IsN.eq {W W' : World} {k : Nat} (h : IsN W k) (e : W'.heap[k]? = W.heap[k]?) : IsN W' k := by
  obtain ⟨c, hc⟩ := h
  exact ⟨c, e.trans hc⟩
theorem Fr.trans {base P : Nat} {A B C : World} (h : Fr base P A B) (g : Fr base P B C) : Fr base P A C :=
  ⟨g.os.trans h.os, g.tape.trans h.tape, g.output.trans h.output, Nat.le_trans h.size g.size, fun k hk => (g.low k hk).trans (h.low k hk), fun k hk hp => by
    rcases h.high k hk hp with n1 | e
    · exact .inl n1
    · rcases g.high k (Nat.lt_of_lt_of_le hk h.size) hp with n2 | e2
      · exact .inl (n2.eq e.symm)
      · exact .inr (e2.trans e)⟩
theorem Fr.of_below {base P : Nat} {W W' : World} (hb : Below W.heap.size W W') (hbase : base ≤ W.heap.size) : Fr base P W W' :=
  ⟨hb.os, hb.tape, hb.output, hb.size, fun k hk => hb.block k (by omega), fun k hk _ => .inr (hb.block k hk)⟩
theorem Fr.alloc {base P : Nat} {W W' : World} (h : Fr base P W W') (hbase : base ≤ W.heap.size) (o : Obj) : Fr base P W (W'.alloc o) :=
  h.trans (Fr.of_below ((Below.refl _ _).alloc (Nat.le_refl _) o) (Nat.le_trans hbase h.size))
theorem Fr.drew {base P : Nat} {W W' : World} (h : Fr base P W W') : Fr base P W W'.drew := ⟨h.os, h.tape, h.output, h.size, h.low, h.high⟩
theorem Fr.drewN {base P : Nat} {W W' : World} (h : Fr base P W W') (n : Nat) : Fr base P W (W'.drewN n) := ⟨h.os, h.tape, h.output, h.size, h.low, h.high⟩
theorem size_set (W : World) (p : Addr) (v : Value) : (W.setCell p v).heap.size = W.heap.size := by
  show (W.heap.modify _ _).size = _
  rw [Array.size_modify]
/-- A store into block P, or into a row of nodes. -/
theorem Fr.set {base P : Nat} {W W' : World} (h : Fr base P W W') {p : Addr} (hb : base ≤ p.block) (hp : p.block = P ∨ IsN W' p.block) (v : Value) : Fr base P W (W'.setCell p v) := by
  refine h.trans ⟨rfl, rfl, rfl, by rw [size_set]; exact Nat.le_refl _, fun k hk => Below.heap_setCell _ _ _ _ (by omega), fun k hk hne => ?_⟩
  by_cases e : k = p.block
  · rcases hp with hp | hp
    · omega
    · left
      rw [e]
      exact hp
  · exact .inr (Below.heap_setCell _ _ _ _ e)
theorem Fr.below {base P : Nat} {W W' : World} (h : Fr base P W W') : Below base W W' := ⟨h.os, h.tape, h.output, h.size, h.low⟩
/-- A block that is no row of nodes. -/
theorem Fr.blk {base P : Nat} {W W' : World} (h : Fr base P W W') {k t : Nat} {cs : Array Value} {fz : Nat × Nat} (hk : W.heap[k]? = some (.cells cs t fz)) (hP : k ≠ P) (ht : t ≠ 66) : W'.heap[k]? = some (.cells cs t fz) := by
  rcases h.high k (World.heap_lt hk) hP with ⟨c, hc⟩ | e
  · rw [hk] at hc; cases hc; exact absurd rfl ht
  · exact e.trans hk
end Go.Proofs.YtcggeaobonblfaaDoor

/- The parser's state in memory. -/
namespace Go.Proofs.YtcggeaobonblfaaDoor
open Go Go.RowKit
/-- A row of type e is not turned where only block P (of another type) and rows of nodes turn. -/
theorem row_fr {b P base size n e t : Nat} {W W' : World} {v : Value} {xs : List Value} {cs : Array Value} (h : W.ownsRow base e size v n xs) (hf : Fr b P W W') (hP : W.heap[P]? = some (.cells cs t)) (ht : e ≠ t) (he : e ≠ 66) : W'.ownsRow base e size v n xs := by
  refine ⟨h.1, ?_⟩
  rcases h.2 with hn | ⟨g, cap, cur, rfl, hb, hg, rest⟩
  · exact .inl hn
  · refine .inr ⟨g, cap, cur, rfl, hb, hf.blk hg ?_ he, rest⟩
    rintro rfl
    rw [hg] at hP
    cases hP
    exact ht rfl
theorem ints_fr {b P base t : Nat} {W W' : World} {v : Value} {xs : List Int} {cs : Array Value} (h : IntsAt W base v xs) (hf : Fr b P W W') (hP : W.heap[P]? = some (.cells cs t)) (ht : t ≠ 3) : IntsAt W' base v xs := row_fr h hf hP (fun e => ht e.symm) (by decide)
/-- The parser at P: its words, the next one's number, its nodes. -/
def PSt (B base : Nat) (X : Nat → Prop) (W : World) (P : Nat) (ws : List Word) (i : Nat) (nodes : List Node) : Prop :=
  ∃ wv nv ps, ps.map NodeV.x = nodes ∧ W.heap[P]? = some (.cells #[wv, .int .i64 i, nv, .slice none 0 0] 108) ∧ WordsRd B W wv ws ∧ NodesAt B base X W nv ps ∧ B ≤ base ∧ base ≤ P
def FaultAt (W : World) (f : Fault) (v : Value) : Prop := ∃ q, v = .pointer (some ⟨q, 0, none⟩) ∧ W.heap[q]? = some (.cells #[.int .i64 f.1, .int .i64 f.2] 113)
def ListPost (B base : Nat) (X : Nat → Prop) (P : Nat) (ws : List Word) (w : World) (r : ListR) (e : Ending) (w' : World) : Prop :=
  match r with
  | .error f => ∃ v, e = .returned (.tuple #[.slice none 0 0, v]) ∧ FaultAt w' f v ∧ Fr base P w w'
  | .ok (out, i, nodes) => ∃ v, e = .returned (.tuple #[v, .pointer none]) ∧ IntsAt w' w.heap.size v out ∧ PSt B base (fun k => X k ∨ v.ownBlock = some k) w' P ws i nodes ∧ Fr base P w w'
def NodePost (B base : Nat) (X : Nat → Prop) (P : Nat) (ws : List Word) (w : World) (r : Except Fault (Int × Nat × List Node)) (e : Ending) (w' : World) : Prop :=
  match r with
  | .error f => ∃ v, e = .returned (.tuple #[.int .i64 0, v]) ∧ FaultAt w' f v ∧ Fr base P w w'
  | .ok (k, i, nodes) => e = .returned (.tuple #[.int .i64 k, .pointer none]) ∧ PSt B base X w' P ws i nodes ∧ Fr base P w w'
def BodyPost (B base : Nat) (X : Nat → Prop) (P : Nat) (ws : List Word) (w : World) (r : Except Fault (Nat × List Node)) (e : Ending) (w' : World) : Prop :=
  match r with
  | .error f => ∃ v, e = .returned v ∧ FaultAt w' f v ∧ Fr base P w w'
  | .ok (i, nodes) => e = .returned (.pointer none) ∧ PSt B base X w' P ws i nodes ∧ Fr base P w w'
theorem NodesAt.mono {B base : Nat} {X Y : Nat → Prop} {W : World} {v : Value} {ps : List NodeV} (h : NodesAt B base X W v ps) (hxy : ∀ k, Y k → X k) : NodesAt B base Y W v ps :=
  ⟨h.1, fun p hp => let ⟨a, b, c, d, e⟩ := h.2 p hp; ⟨a, b, c, fun k hk y => d k hk (hxy k y), fun k hk y => e k hk (hxy k y)⟩⟩
theorem PSt.mono {B base : Nat} {X Y : Nat → Prop} {W : World} {P : Nat} {ws : List Word} {i : Nat} {nodes : List Node} (h : PSt B base X W P ws i nodes) (hxy : ∀ k, Y k → X k) : PSt B base Y W P ws i nodes := by
  obtain ⟨wv, nv, ps, h1, h2, h3, h4, h5, h6⟩ := h
  exact ⟨wv, nv, ps, h1, h2, h3, h4.mono hxy, h5, h6⟩
/-- Whatever turns no row of nodes or of numbers, and nothing below base, leaves the nodes alone. -/
theorem NodesAt.step {B base : Nat} {X : Nat → Prop} {W W' : World} {v : Value} {ps : List NodeV} (h : NodesAt B base X W v ps) (hB : B ≤ base) (hlow : Below base W W')
    (hk : ∀ k c t, W.heap[k]? = some (.cells c t) → t = 66 ∨ (t = 3 ∧ ¬ X k) → W'.heap[k]? = some (.cells c t)) : NodesAt B base X W' v ps := by
  have key : ∀ {e size n : Nat} {u : Value} {xs : List Value}, W.ownsRow base e size u n xs → (e = 66 ∨ (e = 3 ∧ ∀ k, u.ownBlock = some k → ¬ X k)) → W'.ownsRow base e size u n xs := by
    intro e size n u xs ho he
    refine ⟨ho.1, ?_⟩
    rcases ho.2 with hn | ⟨g, cap, cur, rfl, hb, hg, rest⟩
    · exact .inl hn
    · refine .inr ⟨g, cap, cur, rfl, hb, hk g cur e hg ?_, rest⟩
      rcases he with he | ⟨he, hx⟩
      · exact .inl he
      · exact .inr ⟨he, hx g rfl⟩
  exact ⟨key h.1 (.inl rfl), fun p hp => let ⟨a, b, c, d, e⟩ := h.2 p hp; ⟨a.below (Below.mono hlow hB), key b (.inr ⟨rfl, d⟩), key c (.inr ⟨rfl, e⟩), d, e⟩⟩
/-- New memory alone. -/
theorem PSt.later {B base : Nat} {X : Nat → Prop} {W W' : World} {P : Nat} {ws : List Word} {i : Nat} {nodes : List Node} (h : PSt B base X W P ws i nodes) (hb : Below W.heap.size W W') : PSt B base X W' P ws i nodes := by
  obtain ⟨wv, nv, ps, h1, h2, h3, h4, h5, h6⟩ := h
  have hP := World.heap_lt h2
  exact ⟨wv, nv, ps, h1, (hb.block _ hP).trans h2, h3.below (hb.mono (by omega)), h4.step h5 (hb.mono (by omega)) (fun k c t hc _ => (hb.block _ (World.heap_lt hc)).trans hc), h5, h6⟩
end Go.Proofs.YtcggeaobonblfaaDoor

/- (*parser).body: walked. -/
namespace Go.Proofs.YtcggeaobonblfaaDoor
open Go Go.RowKit
theorem flat9 (ps : List NodeV) : ∀ (i : Nat) (p : NodeV), ps[i]? = some p → ∀ j, j < 9 → (ps.flatMap nodeCells)[i * 9 + j]? = (nodeCells p)[j]? := by
  induction ps with
  | nil => intro i p h; simp at h
  | cons q ps ih =>
    intro i p h j hj
    rw [List.flatMap_cons]
    cases i with
    | zero =>
      simp at h
      subst h
      rw [List.getElem?_append_left (by simp [nodeCells]; omega)]
      simp
    | succ i =>
      rw [List.getElem?_append_right (by simp [nodeCells]; omega)]
      have := ih i p (by simpa using h) j hj
      rw [← this]
      congr 1
      simp [nodeCells]
      omega
theorem flat9_set (ps : List NodeV) : ∀ (i : Nat) (p p' : NodeV) (j : Nat) (u : Value), ps[i]? = some p → j < 9 → nodeCells p' = (nodeCells p).set j u → (ps.flatMap nodeCells).set (i * 9 + j) u = (ps.set i p').flatMap nodeCells := by
  induction ps with
  | nil => intro i p p' j u h; simp at h
  | cons q ps ih =>
    intro i p p' j u h hj hc
    cases i with
    | zero =>
      simp at h
      subst h
      rw [List.flatMap_cons, List.set_cons_zero, List.flatMap_cons, hc, List.set_append_left _ _ (by simp [nodeCells]; omega)]
      simp
    | succ i =>
      rw [List.flatMap_cons, List.set_cons_succ, List.flatMap_cons, List.set_append_right _ _ (by simp [nodeCells]; omega)]
      rw [← ih i p p' j u (by simpa using h) hj hc]
      congr 2
      simp [nodeCells]
      omega
/-- One cell of one node is stored into. -/
theorem node_store {B base : Nat} {X : Nat → Prop} {W : World} {g n c : Nat} {ps : List NodeV} (h : NodesAt B base X W (.slice (some ⟨g, 0, none⟩) n c) ps) (hB : B ≤ base) (k j : Nat) (p p' : NodeV) (u : Value) (hp : ps[k]? = some p) (hj : j < 9)
    (hc : nodeCells p' = (nodeCells p).set j u) (hs : NamesRd B W p'.nv p'.x.names ∧ IntsAt W base p'.bv p'.x.body ∧ IntsAt W base p'.ev p'.x.els ∧ (∀ k, p'.bv.ownBlock = some k → ¬ X k) ∧ (∀ k, p'.ev.ownBlock = some k → ¬ X k)) :
    NodesAt B base X (W.setCell ⟨g, k * 9 + j, none⟩ u) (.slice (some ⟨g, 0, none⟩) n c) (ps.set k p') ∧ W.cell? ⟨g, k * 9 + j, none⟩ = (nodeCells p)[j]? ∧ W.frozen? ⟨g, k * 9 + j, none⟩ = false ∧ base ≤ g ∧ IsN W g ∧ n = ps.length := by
  obtain ⟨ho, hn⟩ := h
  have hlen : n = ps.length := by
    rcases ho.2 with ⟨e, h0⟩ | ⟨g', cap, cur, e, _⟩
    · cases e
    · cases e; rfl
  subst hlen
  obtain ⟨h1, h2⟩ := World.ownsRow.stored ho (k * 9 + j) u
  have hcell : ∃ x, (nodeCells p)[j]? = some x := ⟨_, List.getElem?_eq_getElem (by simp [nodeCells]; omega)⟩
  obtain ⟨x, hx⟩ := hcell
  obtain ⟨g', cap', e, hb, hlt, hcc⟩ := row_cell ho (k * 9 + j) x (by rw [flat9 ps k p hp j hj]; exact hx)
  cases e
  obtain ⟨cells, hty⟩ := row_type ho g rfl
  rw [flat9_set ps k p p' j u hp hj hc] at h1
  have hbel : Below B W (W.setCell ⟨g, k * 9 + j, none⟩ u) := (Below.refl _ _).setCell (p := ⟨g, k * 9 + j, none⟩) (by dsimp only; omega) u
  have hi : ∀ {v : Value} {xs : List Int}, IntsAt W base v xs → IntsAt (W.setCell ⟨g, k * 9 + j, none⟩ u) base v xs := fun h => row_else h h2 (fun k e => by cases e; exact ⟨cells, hty⟩) (by decide)
  refine ⟨⟨by simpa using h1, fun q hq => ?_⟩, by rw [hcc, hx], World.ownsRow.frozenAt ho _, hb, ⟨cells, hty⟩, rfl⟩
  rcases List.mem_or_eq_of_mem_set hq with hq | rfl
  · obtain ⟨a, b, c, d, e⟩ := hn q hq
    exact ⟨a.below hbel, hi b, hi c, d, e⟩
  · obtain ⟨a, b, c, d, e⟩ := hs
    exact ⟨a.below hbel, hi b, hi c, d, e⟩
end Go.Proofs.YtcggeaobonblfaaDoor

/- (*parser).body: walked. -/
namespace Go.Proofs.YtcggeaobonblfaaDoor
open Go Go.RowKit
theorem map_set (ps : List NodeV) (f : Node → Node) : ∀ (k : Nat) (p p' : NodeV), ps[k]? = some p → p'.x = f p.x → (ps.set k p').map NodeV.x = (ps.map NodeV.x).modify k f := by
  induction ps with
  | nil => intro k p p' h; simp at h
  | cons q ps ih =>
    intro k p p' h hx
    cases k with
    | zero => simp at h; subst h; simp [hx]
    | succ k => simp only [List.set_cons_succ, List.map_cons, List.modify_succ_cons]; rw [ih k p p' (by simpa using h) hx]
theorem pst_open {B base : Nat} {X : Nat → Prop} {W : World} {P : Nat} {ws : List Word} {i : Nat} {nodes : List Node} (h : PSt B base X W P ws i nodes) {k : Nat} (hk : k < nodes.length) :
    ∃ wA wc g nc ps p, W.heap[P]? = some (.cells #[.slice wA ws.length wc, .int .i64 i, .slice (some ⟨g, 0, none⟩) nodes.length nc, .slice none 0 0] 108) ∧ WordsRd B W (.slice wA ws.length wc) ws ∧
      NodesAt B base X W (.slice (some ⟨g, 0, none⟩) nodes.length nc) ps ∧ ps.map NodeV.x = nodes ∧ ps[k]? = some p ∧ B ≤ base ∧ base ≤ P ∧ g ≠ P ∧ base ≤ g ∧ P < W.heap.size := by
  obtain ⟨wv, nv, ps, rfl, h2, h3, h4, h5, h6⟩ := h
  obtain ⟨wA, wc, rfl⟩ : ∃ A c, wv = .slice A ws.length c := by obtain ⟨A, c, e, _⟩ := h3; exact ⟨A, c, e⟩
  have hk' : k < ps.length := by simpa using hk
  obtain ⟨g, cap, e, hb, hlt, _⟩ := row_cell h4.1 (k * 9 + 0) (.int .u8 ps[k].x.kind) (by rw [flat9 ps k ps[k] (List.getElem?_eq_getElem hk') 0 (by omega)]; rfl)
  subst e
  obtain ⟨cells, hty⟩ := row_type h4.1 g rfl
  refine ⟨wA, wc, g, cap, ps, ps[k], by simpa using h2, h3, by simpa using h4, rfl, List.getElem?_eq_getElem hk', h5, h6, ?_, hb, World.heap_lt h2⟩
  rintro rfl
  rw [h2] at hty
  cases hty
/-- The cells of a word that the parser reads. -/
theorem word_at {B base : Nat} {X : Nat → Prop} {W : World} {P : Nat} {ws : List Word} {i : Nat} {nodes : List Node} {wA : Option Addr} {wl wc : Nat} {a b c : Value} (h : PSt B base X W P ws i nodes) (hb : W.heap[P]? = some (.cells #[.slice wA wl wc, a, b, c] 108)) {j : Nat} {y : Word} (hy : ws[j]? = some y) :
    ∃ q nv, wA = some ⟨q, 0, none⟩ ∧ W.cell? ⟨q, j * 5, none⟩ = some (.int .u8 y.kind) ∧ W.cell? ⟨q, j * 5 + 1, none⟩ = some (.int .i64 y.at_) ∧ W.cell? ⟨q, j * 5 + 2, none⟩ = some (.string ⟨y.text.toArray⟩) ∧ W.cell? ⟨q, j * 5 + 3, none⟩ = some (.bool y.root) ∧ W.cell? ⟨q, j * 5 + 4, none⟩ = some nv ∧ NamesRd B W nv y.names := by
  obtain ⟨wv, nv, ps, h1, h2, h3, h4, h5, h6⟩ := h
  rw [hb] at h2
  simp at h2
  obtain ⟨⟨rfl, _⟩, _⟩ := h2
  obtain ⟨A, c', e, hh⟩ := h3
  cases e
  obtain ⟨q, nv', ha, _, k0, k1, k2, k3, k4, k5⟩ := hh j y hy
  exact ⟨q, nv', ha, k0, k1, k2, k3, k4, k5⟩
theorem PSt.draws {B base : Nat} {X : Nat → Prop} {W : World} {P : Nat} {ws : List Word} {i : Nat} {nodes : List Node} (h : PSt B base X W P ws i nodes) (n : Nat) : PSt B base X (W.drewN n) P ws i nodes :=
  h.later ((Fr.refl W.heap.size P W).drewN n).below
/-- The next word. -/
theorem PSt.next {B base : Nat} {X : Nat → Prop} {W : World} {P : Nat} {ws : List Word} {i : Nat} {nodes : List Node} (h : PSt B base X W P ws i nodes) : PSt B base X (W.setCell ⟨P, 1, none⟩ (.int .i64 ((i : Int) + 1))) P ws (i + 1) nodes := by
  obtain ⟨wv, nv, ps, h1, h2, h3, h4, h5, h6⟩ := h
  have hb : Below base W (W.setCell ⟨P, 1, none⟩ (.int .i64 ((i : Int) + 1))) := (Below.refl _ _).setCell (p := ⟨P, 1, none⟩) h6 _
  refine ⟨wv, nv, ps, h1, ?_, h3.below (hb.mono h5), h4.step h5 hb fun k c t hk ht => ?_, h5, h6⟩
  · have := blk_put h2 1 (.int .i64 ((i : Int) + 1))
    simpa using this
  · refine blk_far hk (p := ⟨P, 1, none⟩) ?_ _
    rintro rfl
    rw [h2] at hk
    cases hk
    rcases ht with h | ⟨h, _⟩ <;> cases h
theorem Fr.next {base P : Nat} {W W' : World} (h : Fr base P W W') (hb : base ≤ P) (v : Value) : Fr base P W (W'.setCell ⟨P, 1, none⟩ v) := h.set (p := ⟨P, 1, none⟩) hb (.inl rfl) v
/-- What a list-reader answers: it goes on, never beyond the words; no node is lost. -/
def Goes (ws : List Word) (i : Nat) (nodes : List Node) : ListR → Prop
  | .error _ => True
  | .ok (_, i1, nodes1) => i ≤ i1 ∧ i1 ≤ ws.length ∧ nodes.length ≤ nodes1.length ∧ nodes1.length ≤ i1
/-- The list-reader's contract, from place lo on. -/
def ListOK (B base P : Nat) (ws : List Word) (lo : Nat) (L : Nat → List Node → Nat → ListR) : Prop :=
  ∀ (X : Nat → Prop) (i : Nat) (nodes : List Node) (depth : Nat) (w : World), lo ≤ i → i ≤ ws.length → nodes.length ≤ i → depth ≤ 16 → PSt B base X w P ws i nodes → (∀ k, X k → k < w.heap.size) →
    Calls Tryd.prog 39 #[.pointer (some ⟨P, 0, none⟩), .int .i64 depth] w (ListPost B base X P ws w (L i nodes depth)) ∧ Goes ws i nodes (L i nodes depth)
set_option maxRecDepth 100000 in
set_option maxHeartbeats 2000000 in
theorem body_any (B base P : Nat) (ws : List Word) (lo : Nat) (L : Nat → List Node → Nat → ListR) (hL : ListOK B base P ws lo L) (hws : ws.length ≤ 100000)
    (X : Nat → Prop) (i : Nat) (nodes : List Node) (k : Nat) (x : Word) (nv : Value) (depth : Nat) (w : World) (hlo : lo ≤ i) (hi : i ≤ ws.length) (hn : nodes.length ≤ i) (hk : k < nodes.length) (hd : depth < 16)
    (hst : PSt B base X w P ws i nodes) (hX : ∀ k, X k → k < w.heap.size) (hnv : ∃ A n c, nv = .slice A n c) :
    Calls Tryd.prog 88 #[.pointer (some ⟨P, 0, none⟩), .int .i64 k, wordV x.kind x.at_ ⟨x.text.toArray⟩ x.root nv, .int .i64 depth] w (BodyPost B base X P ws w (bodyP L ws i nodes k x depth)) := by
  obtain ⟨NA, NN, NC, rfl⟩ := hnv
  have hw0 : Below w.heap.size w (w.alloc (.cells #[.int .u8 x.kind, .int .i64 x.at_, .string ⟨x.text.toArray⟩, .bool x.root, .slice NA NN NC] 76)) := (Below.refl _ _).alloc (Nat.le_refl _) _
  obtain ⟨HL, HG⟩ := hL X i nodes (depth + 1) _ hlo hi hn (by omega) (hst.later hw0) (fun k h => by have := hX k h; simp; omega)
  have hP : w.heap.size ≠ P := by obtain ⟨_, _, _, _, h, _⟩ := hst; have := World.heap_lt h; omega
  have hbw : base ≤ w.heap.size := by obtain ⟨_, _, _, _, h, _, _, _, h6⟩ := hst; have := World.heap_lt h; omega
  cases hR : L i nodes (depth + 1) with
  | error f =>
    rw [hR] at HL
    have hB : bodyP L ws i nodes k x depth = .error f := by unfold bodyP; rw [hR]
    rw [hB]
    have HL' := Lib.hid HL
    clear HL HG hB hR hst
    go_enter Tryd.func88, Tryd.ntmps88
    go_wp2_with (go_at_call 39; refine halt ?_)
    refine Halted.mk' ?_
    refine (HL'.out).mono ?_
    rintro e w1 ⟨v, rfl, ⟨q, rfl, hq⟩, hf⟩
    have Hf := Lib.hid hf
    have Hq := Lib.hid hq
    clear hf hq HL'
    go_wp2
    go_ret
    exact ⟨_, rfl, ⟨_, rfl, Hq.out⟩, (Fr.of_below hw0 hbw).trans Hf.out⟩
  | ok r =>
    obtain ⟨b, i1, nodes1⟩ := r
    rw [hR] at HL HG
    obtain ⟨hg1, hg2, hg3, hg4⟩ := HG
    have HL' := Lib.hid HL
    clear HL hst
    go_enter Tryd.func88, Tryd.ntmps88
    go_wp2_with (go_at_call 39; refine halt ?_)
    refine Halted.mk' ?_
    refine (HL'.out).mono ?_
    rintro e w1 ⟨v, rfl, hv, hst1, hf⟩
    obtain ⟨vA, vc, rfl⟩ := ints_slice hv
    obtain ⟨wA, wc, g, nc, ps, p, hb, hwr, hns, hmap, hp, hBb, hbP, hgP, hbg, hPlt⟩ := pst_open hst1 (k := k) (by omega)
    have hbox := hf.blk (World.alloc_heap_new w _) hP (by decide)
    have hvb : ∀ k, (Value.slice vA b.length vc).ownBlock = some k → ¬ X k := fun k h0 h1 => by
      have h2 := row_base hv k h0
      have h3 := hX k h1
      simp at h2
      omega
    obtain ⟨hns2, cn, fn, hbg, hisN, -⟩ := node_store (hns.mono (Y := X) fun k h => .inl h) hBb k 5 p { p with x := { p.x with body := b }, bv := .slice vA b.length vc } (.slice vA b.length vc) hp (by omega) rfl
      ⟨(hns.2 p (List.mem_of_getElem? hp)).1, row_low hv (by simp; omega), (hns.2 p (List.mem_of_getElem? hp)).2.2.1, hvb, fun k h0 h1 => (hns.2 p (List.mem_of_getElem? hp)).2.2.2.2 k h0 (.inl h1)⟩
    have hcn : w1.cell? ⟨g, k * 9 + 5, none⟩ = some p.bv := cn
    have c0 : w1.cell? ⟨P, 0, none⟩ = some (.slice wA ws.length wc) := by simp [World.cell?, hb]
    have c1 : w1.cell? ⟨P, 1, none⟩ = some (.int .i64 i1) := by simp [World.cell?, hb]
    have c2 : w1.cell? ⟨P, 2, none⟩ = some (.slice (some ⟨g, 0, none⟩) nodes1.length nc) := by simp [World.cell?, hb]
    have hk1 : k < nodes1.length := by omega
    have hfr := ((Fr.of_below hw0 hbw).trans hf).set (p := ⟨g, k * 9 + 5, none⟩) hbg (.inr hisN) (.slice vA b.length vc)
    have hb2 := blk_far hb (p := ⟨g, k * 9 + 5, none⟩) (fun e => hgP e.symm) (.slice vA b.length vc)
    have hbox2 := blk_far hbox (p := ⟨g, k * 9 + 5, none⟩) (by rintro rfl; obtain ⟨c, hc⟩ := hisN; rw [hbox] at hc; cases hc) (.slice vA b.length vc)
    have hwr2 := hwr.below ((Below.refl B w1).setCell (p := ⟨g, k * 9 + 5, none⟩) (by dsimp only; omega) (.slice vA b.length vc))
    have hmap2 := map_set ps (fun y => { y with body := b }) k p { p with x := { p.x with body := b }, bv := .slice vA b.length vc } hp rfl
    rw [hmap] at hmap2
    have hlen2 : (setBody nodes1 k b).length = nodes1.length := by simp [setBody]
    have hst2 : PSt B base X (w1.setCell ⟨g, k * 9 + 5, none⟩ (.slice vA b.length vc)) P ws i1 (setBody nodes1 k b) := ⟨_, _, _, hmap2, hb2, hwr2, hns2, hBb, hbP⟩
    clear HL' hst1 hns hv hf hb hwr hbox hmap hns2 hwr2 hmap2 hvb
    have Hst := Lib.hid hst2
    have Hfr := Lib.hid hfr
    have Hb := Lib.hid hb2
    have Hbox := Lib.hid hbox2
    clear hst2 hfr hb2 hbox2 hp cn
    go_wp2
    obtain ⟨W2, hW2⟩ : ∃ W2, w1.setCell ⟨g, k * 9 + 5, none⟩ (.slice vA b.length vc) = W2 := ⟨_, rfl⟩
    rw [hW2] at Hst Hfr Hb Hbox ⊢
    clear hW2 c0 c1 c2 hcn fn hisN
    have c0 : W2.cell? ⟨P, 0, none⟩ = some (.slice wA ws.length wc) := by have := Hb.out; simp [World.cell?, this]
    have c1 : W2.cell? ⟨P, 1, none⟩ = some (.int .i64 i1) := by have := Hb.out; simp [World.cell?, this]
    have f1 : W2.frozen? ⟨P, 1, none⟩ = false := by have := Hb.out; simp [World.frozen?, this]
    have d0 : W2.cell? ⟨w.heap.size, 0, none⟩ = some (.int .u8 x.kind) := by have := Hbox.out; simp [World.cell?, this]
    have d1 : W2.cell? ⟨w.heap.size, 1, none⟩ = some (.int .i64 x.at_) := by have := Hbox.out; simp [World.cell?, this]
    cases hx1 : ws[i1]? with
    | none =>
      have hge : ws.length ≤ i1 := List.getElem?_eq_none_iff.1 hx1
      have hB' : bodyP L ws i nodes k x depth = .error (x.at_, 4) := by
        unfold bodyP
        rw [hR]
        dsimp only
        rw [hx1]
        dsimp only
        unfold finB
        rw [hx1]
      have HB := Lib.hid hB'
      have d5 : decide (i1 < ws.length) = false := by simp; omega
      have d6 : decide ((i1 : Int) < (ws.length : Int)) = false := by simp; omega
      clear hR hx1 hB'
      go_quiet (fail)
      go_wp2
      go_quiet (fail)
      go_wp2
      go_ret
      rw [HB.out]
      exact ⟨_, rfl, ⟨_, rfl, World.alloc_heap_new _ _⟩, by repeat (first | exact Hfr.out | refine Fr.drewN ?_ _ | refine Fr.drew ?_ | refine Fr.alloc ?_ hbw _)⟩
    | some y =>
      have hlt : i1 < ws.length := (List.getElem?_eq_some_iff.1 hx1).1
      obtain ⟨q, ynv, rfl, y0, y1, -, -, -, -⟩ := word_at Hst.out Hb.out hx1
      have d5 : decide (i1 < ws.length) = true := by simpa using hlt
      have d6 : decide ((i1 : Int) < (ws.length : Int)) = true := by simpa using hlt
      by_cases hy : y.kind = 3
      · by_cases hxk : x.kind = 4
        · have hB' : bodyP L ws i nodes k x depth = .error (y.at_, 4) := by
            unfold bodyP
            rw [hR]
            dsimp only
            rw [hx1]
            dsimp only
            rw [if_pos hy, if_pos hxk]
          have HB := Lib.hid hB'
          clear hR hx1 hB'
          rw [hy] at y0
          rw [hxk] at d0
          go_quiet (fail)
          go_wp2
          go_region
          go_wp2
          go_ret
          rw [HB.out]
          exact ⟨_, rfl, ⟨_, rfl, World.alloc_heap_new _ _⟩, by repeat (first | exact Hfr.out | refine Fr.drewN ?_ _ | refine Fr.drew ?_ | refine Fr.alloc ?_ hbw _)⟩
        · have Hcall := hL X (i1 + 1) (setBody nodes1 k b) (depth + 1)
          have hR0 := hR
          clear hR
          rw [hy] at y0
          have hxk' : (x.kind == 4) = false := by simpa using hxk
          go_quiet (fail)
          go_wp2_with (go_at_call 39; refine halt ?_)
          refine Halted.mk' ?_
          have Hst3 := Lib.hid (Hst.out.draws nq).next
          have Hfr3 := Lib.hid ((Hfr.out.drewN nq).next hbP (.int .i64 ((i1 : Int) + 1)))
          have Hbox3 := Lib.hid (blk_far (W := W2.drewN nq) Hbox.out (p := ⟨P, 1, none⟩) hP (.int .i64 ((i1 : Int) + 1)))
          clear c0 c1 f1 d0 d1 y0 y1 Hst Hfr Hb Hbox
          obtain ⟨W3, hW3⟩ : ∃ W3, (W2.drewN nq).setCell ⟨P, 1, none⟩ (.int .i64 ((i1 : Int) + 1)) = W3 := ⟨_, rfl⟩
          rw [hW3] at Hst3 Hfr3 Hbox3 ⊢
          clear hW3
          obtain ⟨HL, HG⟩ := Hcall W3 (by omega) (by omega) (by omega) (by omega) Hst3.out (fun k h => Nat.lt_of_lt_of_le (hX k h) Hfr3.out.size)
          have hdc : ((depth + 1 : Nat) : Int) = (depth : Int) + 1 := by omega
          rw [hdc] at HL
          clear hdc Hcall
          cases hR2 : L (i1 + 1) (setBody nodes1 k b) (depth + 1) with
          | error f =>
            rw [hR2] at HL
            have hB' : bodyP L ws i nodes k x depth = .error f := by
              unfold bodyP
              rw [hR0]
              dsimp only
              rw [hx1]
              dsimp only
              rw [if_pos hy, if_neg hxk, hR2]
            have HB := Lib.hid hB'
            have HL' := Lib.hid HL
            clear HL HG hB' hR0 hR2 hx1
            refine (HL'.out).mono ?_
            rintro e w4 ⟨v, rfl, ⟨q4, rfl, hq4⟩, hf4⟩
            have Hf := Lib.hid hf4
            have Hq := Lib.hid hq4
            clear hf4 hq4 HL'
            go_wp2
            go_ret
            rw [HB.out]
            exact ⟨_, rfl, ⟨_, rfl, Hq.out⟩, Hfr3.out.trans Hf.out⟩
          | ok r2 =>
            obtain ⟨b2, i2, nodes2⟩ := r2
            rw [hR2] at HL HG
            obtain ⟨hg5, hg6, hg7, hg8⟩ := HG
            have HG' := Nat.le_refl 0
            have hB' : bodyP L ws i nodes k x depth = finB ws x i2 (setEls nodes2 k b2) := by
              unfold bodyP
              rw [hR0]
              dsimp only
              rw [hx1]
              dsimp only
              rw [if_pos hy, if_neg hxk, hR2]
            have HB := Lib.hid hB'
            have HL' := Lib.hid HL
            clear HL hB' hR0 hR2 hx1
            refine (HL'.out).mono ?_
            rintro e w4 ⟨v, rfl, hv, hst4, hf4⟩
            obtain ⟨v4, vc4, rfl⟩ := ints_slice hv
            obtain ⟨wA4, wc4, g4, nc4, ps4, p4, hb4, hwr4, hns4, hmap4, hp4, -, -, hgP4, hbg4, hPlt4⟩ := pst_open hst4 (k := k) (by omega)
            have hszW3 : w.heap.size ≤ W3.heap.size := Hfr3.out.size
            have hbox4 := hf4.blk Hbox3.out hP (by decide)
            have hvb4 : ∀ k, (Value.slice v4 b2.length vc4).ownBlock = some k → ¬ X k := fun k h0 h1 => by
              have h2 := row_base hv k h0
              have h3 := hX k h1
              omega
            have hin4 := hns4.2 p4 (List.mem_of_getElem? hp4)
            obtain ⟨hns5, cn5', fn5, -, hisN5, -⟩ := node_store (hns4.mono (Y := X) fun k h => .inl h) hBb k 6 p4 { p4 with x := { p4.x with els := b2 }, ev := .slice v4 b2.length vc4 } (.slice v4 b2.length vc4) hp4 (by omega) rfl
              ⟨hin4.1, hin4.2.1, row_low hv (by omega), fun k h0 h1 => hin4.2.2.2.1 k h0 (.inl h1), hvb4⟩
            have hin5 := hns5.2 _ (List.mem_of_getElem? (List.getElem?_set_self (l := ps4) (a := { p4 with x := { p4.x with els := b2 }, ev := .slice v4 b2.length vc4 }) (List.getElem?_eq_some_iff.1 hp4).1))
            have cn5 : w4.cell? ⟨g4, k * 9 + 6, none⟩ = some p4.ev := cn5'
            obtain ⟨-, cn7', fn7, -⟩ := node_store (hns4.mono (Y := X) fun k h => .inl h) hBb k 7 p4 { p4 with x := { p4.x with has := true } } (.bool true) hp4 (by omega) rfl
              ⟨hin4.1, hin4.2.1, hin4.2.2.1, fun k h0 h1 => hin4.2.2.2.1 k h0 (.inl h1), fun k h0 h1 => hin4.2.2.2.2 k h0 (.inl h1)⟩
            have cn7 : w4.cell? ⟨g4, k * 9 + 7, none⟩ = some (.bool p4.x.has) := cn7'
            clear cn5' cn7'
            obtain ⟨hns6, -, fn6, -, hisN6, -⟩ := node_store hns5 hBb k 7 _ { p4 with x := { p4.x with els := b2, has := true }, ev := .slice v4 b2.length vc4 } (.bool true) (List.getElem?_set_self (List.getElem?_eq_some_iff.1 hp4).1) (by omega) rfl hin5
            rw [List.set_set] at hns6
            obtain ⟨W6, hW6⟩ : ∃ W6, (w4.setCell ⟨g4, k * 9 + 6, none⟩ (.slice v4 b2.length vc4)).setCell ⟨g4, k * 9 + 7, none⟩ (.bool true) = W6 := ⟨_, rfl⟩
            have hmap6 : (ps4.set k { p4 with x := { p4.x with els := b2, has := true }, ev := .slice v4 b2.length vc4 }).map NodeV.x = setEls nodes2 k b2 := by
              rw [map_set ps4 (fun y => { y with els := b2, has := true }) k p4 _ hp4 rfl, hmap4]; rfl
            have hlen6 : (setEls nodes2 k b2).length = nodes2.length := by simp [setEls]
            have hb6 : W6.heap[P]? = some (.cells #[.slice wA4 ws.length wc4, .int .i64 i2, .slice (some ⟨g4, 0, none⟩) nodes2.length nc4, .slice none 0 0] 108) := by
              rw [← hW6]
              exact blk_far (blk_far hb4 (p := ⟨g4, k * 9 + 6, none⟩) (fun e => hgP4 e.symm) _) (p := ⟨g4, k * 9 + 7, none⟩) (fun e => hgP4 e.symm) _
            have hbox6 : W6.heap[w.heap.size]? = some (.cells #[.int .u8 x.kind, .int .i64 x.at_, .string ⟨x.text.toArray⟩, .bool x.root, .slice NA NN NC] 76) := by
              rw [← hW6]
              have hne : w.heap.size ≠ g4 := by rintro rfl; obtain ⟨c, hc⟩ := hisN5; rw [hbox4] at hc; cases hc
              exact blk_far (blk_far hbox4 (p := ⟨g4, k * 9 + 6, none⟩) hne _) (p := ⟨g4, k * 9 + 7, none⟩) hne _
            have hwr6 : WordsRd B W6 (.slice wA4 ws.length wc4) ws := by
              rw [← hW6]
              exact (hwr4.below ((Below.refl B w4).setCell (p := ⟨g4, k * 9 + 6, none⟩) (by dsimp only; omega) _)).below ((Below.refl B _).setCell (p := ⟨g4, k * 9 + 7, none⟩) (by dsimp only; omega) _)
            rw [hW6] at hns6
            have hfr6 : Fr base P w W6 := by
              rw [← hW6]
              exact ((Hfr3.out.trans hf4).set (p := ⟨g4, k * 9 + 6, none⟩) hbg4 (.inr hisN5) _).set (p := ⟨g4, k * 9 + 7, none⟩) hbg4 (.inr hisN6) _
            have hst6 : PSt B base X W6 P ws i2 (setEls nodes2 k b2) := ⟨_, _, _, hmap6, hb6, hwr6, hns6, hBb, hbP⟩
            have c0 : w4.cell? ⟨P, 0, none⟩ = some (.slice wA4 ws.length wc4) := by simp [World.cell?, hb4]
            have c1 : w4.cell? ⟨P, 1, none⟩ = some (.int .i64 i2) := by simp [World.cell?, hb4]
            have c2 : w4.cell? ⟨P, 2, none⟩ = some (.slice (some ⟨g4, 0, none⟩) nodes2.length nc4) := by simp [World.cell?, hb4]
            have hk2 : k < nodes2.length := by omega
            have Hst := Lib.hid hst6
            have Hfr := Lib.hid hfr6
            have Hb := Lib.hid hb6
            have Hbox := Lib.hid hbox6
            have HW6 := Lib.hid hW6
            clear hst6 hfr6 hb6 hbox6 hW6 hv hst4 hf4 hb4 hwr4 hns4 hmap4 hp4 hbox4 hin4 hns5 hin5 hns6 hwr6 hmap6 hisN5 hisN6 hvb4 HL' hX Hfr3 Hbox3 Hst3 HG'
            go_wp2
            go_region
            rw [HW6.out]
            clear HW6 c0 c1 c2 cn5 cn7 fn5 fn6 fn7
            have c0 : W6.cell? ⟨P, 0, none⟩ = some (.slice wA4 ws.length wc4) := by have := Hb.out; simp [World.cell?, this]
            have c1 : W6.cell? ⟨P, 1, none⟩ = some (.int .i64 i2) := by have := Hb.out; simp [World.cell?, this]
            have f1 : W6.frozen? ⟨P, 1, none⟩ = false := by have := Hb.out; simp [World.frozen?, this]
            have d0 : W6.cell? ⟨w.heap.size, 0, none⟩ = some (.int .u8 x.kind) := by have := Hbox.out; simp [World.cell?, this]
            have d1 : W6.cell? ⟨w.heap.size, 1, none⟩ = some (.int .i64 x.at_) := by have := Hbox.out; simp [World.cell?, this]
            cases hx2 : ws[i2]? with
            | none =>
              have hge : ws.length ≤ i2 := List.getElem?_eq_none_iff.1 hx2
              have HB2 : RowKit.Hid (finB ws x i2 (setEls nodes2 k b2) = .error (x.at_, 4)) := Lib.hid (by unfold finB; rw [hx2])
              have d5 : decide (i2 < ws.length) = false := by simp; omega
              have d6 : decide ((i2 : Int) < (ws.length : Int)) = false := by simp; omega
              have d7 : decide ((ws.length : Int) ≤ (i2 : Int)) = true := by simp; omega
              have d8 : decide (ws.length ≤ i2) = true := by simp; omega
              clear hx2
              go_wp2
              go_quiet (fail)
              go_wp2
              go_ret
              rw [HB.out, HB2.out]
              exact ⟨_, rfl, ⟨_, rfl, World.alloc_heap_new _ _⟩, by repeat (first | exact Hfr.out | refine Fr.drewN ?_ _ | refine Fr.drew ?_ | refine Fr.alloc ?_ hbw _)⟩
            | some y2 =>
              have hlt2 : i2 < ws.length := (List.getElem?_eq_some_iff.1 hx2).1
              obtain ⟨q2, ynv2, rfl, y0, y1, -, -, -, -⟩ := word_at Hst.out Hb.out hx2
              have d5 : decide (i2 < ws.length) = true := by simpa using hlt2
              have d6 : decide ((i2 : Int) < (ws.length : Int)) = true := by simpa using hlt2
              have d7 : decide ((ws.length : Int) ≤ (i2 : Int)) = false := by simp; omega
              have d8 : decide (ws.length ≤ i2) = false := by simp; omega
              by_cases hy2 : y2.kind = 3
              · have HB2 : RowKit.Hid (finB ws x i2 (setEls nodes2 k b2) = .error (y2.at_, 4)) := Lib.hid (by unfold finB; rw [hx2]; dsimp only; rw [if_pos hy2])
                clear hx2
                rw [hy2] at y0
                go_wp2
                go_quiet (fail)
                go_wp2
                go_quiet (fail)
                go_wp2
                go_region
                go_wp2
                go_ret
                rw [HB.out, HB2.out]
                exact ⟨_, rfl, ⟨_, rfl, World.alloc_heap_new _ _⟩, by repeat (first | exact Hfr.out | refine Fr.drewN ?_ _ | refine Fr.drew ?_ | refine Fr.alloc ?_ hbw _)⟩
              · have hyk2 : (y2.kind == 3) = false := by simpa using hy2
                have HB2 : RowKit.Hid (finB ws x i2 (setEls nodes2 k b2) = .ok (i2 + 1, setEls nodes2 k b2)) := Lib.hid (by unfold finB; rw [hx2]; dsimp only; rw [if_neg hy2])
                clear hx2
                go_wp2
                go_quiet (fail)
                go_wp2
                go_quiet (fail)
                go_wp2
                go_ret
                rw [HB.out, HB2.out]
                exact ⟨rfl, (Hst.out.draws _).next, (Hfr.out.drewN _).next hbP _⟩
      · have hyk : (y.kind == 3) = false := by simpa using hy
        have hB' : bodyP L ws i nodes k x depth = .ok (i1 + 1, setBody nodes1 k b) := by
          unfold bodyP
          rw [hR]
          dsimp only
          rw [hx1]
          dsimp only
          rw [if_neg hy]
          unfold finB
          rw [hx1]
          dsimp only
          rw [if_neg hy]
        have HB := Lib.hid hB'
        clear hR hx1 hB' hy
        go_quiet (fail)
        go_wp2
        go_quiet (fail)
        go_wp2
        go_quiet (fail)
        go_wp2
        go_ret
        rw [HB.out]
        exact ⟨rfl, (Hst.out.draws _).next, (Hfr.out.drewN _).next hbP _⟩
end Go.Proofs.YtcggeaobonblfaaDoor

/- (*parser).node: walked. -/
namespace Go.Proofs.YtcggeaobonblfaaDoor
open Go Go.RowKit
theorem Tryd.info66 : (Tryd.prog.info? 66).map (fun i => (i.zero, i.size, i.bytes)) = some (some (.agg #[.int .u8 0, .int .i64 0, .string ⟨#[]⟩, .bool false, .slice none 0 0, .slice none 0 0, .slice none 0 0, .bool false, .int .u8 0]), 9, 120) := by kernel_rfl
/-- A node more. -/
theorem node_added {B base : Nat} {X : Nat → Prop} {W : World} {P : Nat} {ws : List Word} {i : Nat} {wv nv : Value} {ps : List NodeV} {w1 : World} {g cap : Nat} {p : NodeV}
    (hb : W.heap[P]? = some (.cells #[wv, .int .i64 i, nv, .slice none 0 0] 108)) (hwr : WordsRd B W wv ws) (hns : NodesAt B base X W nv ps) (hB : B ≤ base) (hP : base ≤ P)
    (hnv : NamesRd B W p.nv p.x.names) (hbv : p.bv = .slice none 0 0) (hev : p.ev = .slice none 0 0) (hb0 : p.x.body = []) (he0 : p.x.els = [])
    (ho : w1.ownsRow base 66 9 (.slice (some ⟨g, 0, none⟩) (ps.length + 1) cap) (ps.length + 1) (ps.flatMap nodeCells ++ nodeCells p)) (hg : W.grownBy w1 nv.ownBlock) (hbW : base ≤ W.heap.size) :
    w1.heap[P]? = some (.cells #[wv, .int .i64 i, nv, .slice none 0 0] 108) ∧
    PSt B base X (w1.setCell ⟨P, 2, none⟩ (.slice (some ⟨g, 0, none⟩) (ps.length + 1) cap)) P ws i (ps.map NodeV.x ++ [p.x]) ∧
    Fr base P W (w1.setCell ⟨P, 2, none⟩ (.slice (some ⟨g, 0, none⟩) (ps.length + 1) cap)) := by
  have hnb : ∀ k, nv.ownBlock = some k → ∃ cells, W.heap[k]? = some (Obj.cells cells 66) := row_type hns.1
  have hlow : ∀ k, nv.ownBlock = some k → base ≤ k := row_base hns.1
  have hPl := World.heap_lt hb
  have hbP : w1.heap[P]? = some (.cells #[wv, .int .i64 i, nv, .slice none 0 0] 108) := (hg.block P hPl (fun e => by obtain ⟨cs, h⟩ := hnb _ e.symm; rw [hb] at h; cases h)).trans hb
  have hbel : Below B W w1 := (Below.refl B W).grown hg (by omega) (fun k e => by have := hlow k e; omega)
  have hkeep : ∀ (k : Nat) c t, W.heap[k]? = some (Obj.cells c t) → t ≠ 66 → w1.heap[k]? = some (Obj.cells c t) := fun k c t hk ht =>
    (hg.block k (World.heap_lt hk) (fun e => by obtain ⟨cs, h⟩ := hnb _ e.symm; rw [hk] at h; cases h; exact ht rfl)).trans hk
  have hset : ∀ (k : Nat) c t, w1.heap[k]? = some (Obj.cells c t) → t ≠ 108 → (w1.setCell ⟨P, 2, none⟩ (.slice (some ⟨g, 0, none⟩) (ps.length + 1) cap)).heap[k]? = some (.cells c t) := fun k c t hk ht =>
    blk_far hk (p := ⟨P, 2, none⟩) (by rintro rfl; rw [hbP] at hk; cases hk; exact ht rfl) _
  have hbel2 : Below B w1 (w1.setCell ⟨P, 2, none⟩ (.slice (some ⟨g, 0, none⟩) (ps.length + 1) cap)) := (Below.refl _ _).setCell (p := ⟨P, 2, none⟩) (by dsimp only; omega) _
  have key : ∀ {n : Nat} {u : Value} {xs : List Value}, W.ownsRow base 3 1 u n xs → (w1.setCell ⟨P, 2, none⟩ (.slice (some ⟨g, 0, none⟩) (ps.length + 1) cap)).ownsRow base 3 1 u n xs := by
    intro n u xs h
    refine ⟨h.1, ?_⟩
    rcases h.2 with hn | ⟨g', cap', cur, rfl, hb', hg', rest⟩
    · exact .inl hn
    · exact .inr ⟨g', cap', cur, rfl, hb', hset _ _ _ (hkeep _ _ _ hg' (by decide)) (by decide), rest⟩
  have ho' : (w1.setCell ⟨P, 2, none⟩ (.slice (some ⟨g, 0, none⟩) (ps.length + 1) cap)).ownsRow base 66 9 (.slice (some ⟨g, 0, none⟩) (ps.length + 1) cap) (ps.length + 1) (ps.flatMap nodeCells ++ nodeCells p) := by
    refine ⟨ho.1, ?_⟩
    rcases ho.2 with hn | ⟨g', cap', cur, e, hb', hg', rest⟩
    · exact .inl hn
    · exact .inr ⟨g', cap', cur, e, hb', hset _ _ _ hg' (by decide), rest⟩
  refine ⟨hbP, ⟨wv, _, ps ++ [p], by simp, ?_, (hwr.below hbel).below hbel2, ⟨by simpa using ho', ?_⟩, hB, hP⟩, ?_⟩
  · have := blk_put hbP 2 (.slice (some ⟨g, 0, none⟩) (ps.length + 1) cap)
    simpa using this
  · intro q hq
    rcases List.mem_append.1 hq with hq | hq
    · obtain ⟨a, b, c, d, e⟩ := hns.2 q hq
      exact ⟨(a.below hbel).below hbel2, key b, key c, d, e⟩
    · simp at hq
      subst hq
      rw [hbv, hev, hb0, he0]
      exact ⟨(hnv.below hbel).below hbel2, ints_none _ _, ints_none _ _, (fun k e => by cases e), (fun k e => by cases e)⟩
  · have h1 : Fr base P W w1 := by
      refine ⟨hg.os, hg.tape, hg.output, hg.size, fun k hk => hg.block k (by omega) (fun e => by have := hlow k e.symm; omega), fun k hk hne => ?_⟩
      by_cases e : some k = nv.ownBlock
      · exact .inl (hnb k e.symm)
      · exact .inr (hg.block k hk e)
    exact h1.set (p := ⟨P, 2, none⟩) hP (.inl rfl) _
/-- append to a row of the call's own, as one step of a region that draws its order. -/
theorem step_grow {P : Program} {ops : Array Oper} {o : Oper} {a : Act} {K : Act → World → Prop} {Q : Exit → Act → World → Prop} {E : Prop} {W : World} (hgd : o.guard = none) (s x : Operand) (t : TypeId)
    (ho : o.op = .call { callee := .builtin .append, args := #[s, x], argTypes := #[t, t] })
    (base : Nat) (e : TypeId) (i : TypeInfo) (z : Value) (size bytes : Nat) (ht : P.underlying t = some (.slice e)) (hi : P.info? e = some i) (hz : i.zero = some z)
    (hsize : i.size = size) (hby : i.bytes = bytes) (hzs : z.cells.size = size) (hsz : 0 < size)
    (v : Value) (n : Nat) (xs : List Value) (hs : a.eval s = v) (hown : W.ownsRow base e size v n xs)
    (ad : Addr) (m c : Nat) (news : List Value) (hx : a.eval x = .slice (some ad) m c) (hl : news.length = m * size) (hnews : ∀ j u, news[j]? = some u → W.cell? (ad.add j) = some u) (h1 : ∀ u ∈ news, u.oneCell' = true)
    (h63 : n + m ≤ maxLen) (hbytes : (n + m) * bytes ≤ 140737488355328) (hbase : base ≤ W.heap.size)
    (h : ∀ v' w', w'.ownsRow base e size v' (n + m) (xs ++ news) → W.grownBy w' v.ownBlock → K (a.put o.dst v') w') :
    if Region.wanted o (yielded ops a.tmps) = true then Oper.wp P o a W K Q else E := by
  rw [if_pos (by simp [Region.wanted, hgd])]
  exact wp_append_own W s x t ho base e i z size bytes ht hi hz hsize hby hzs hsz v n xs hs hown ad m c news hx hl hnews h1 h63 hbytes hbase fun v' w' h2 h3 _ => h v' w' h2 h3
theorem grown_drew {W W' : World} {r : Option Nat} (h : W.drew.grownBy W' r) : W.grownBy W' r := ⟨h.os, h.tape, h.output, h.size, h.block⟩
theorem grown_two {W W' W'' : World} {r : Option Nat} (h : W.grownBy W' none) (g : W'.grownBy W'' r) : W.grownBy W'' r :=
  ⟨g.os.trans h.os, g.tape.trans h.tape, g.output.trans h.output, Nat.le_trans h.size g.size, fun k hk hr => (g.block k (Nat.lt_of_lt_of_le hk h.size) hr).trans (h.block k hk (by simp))⟩
/-- What a body-reader answers. -/
def GoesB (ws : List Word) (i : Nat) (nodes : List Node) : Except Fault (Nat × List Node) → Prop
  | .error _ => True
  | .ok (i1, nodes1) => i ≤ i1 ∧ i1 ≤ ws.length ∧ nodes.length ≤ nodes1.length ∧ nodes1.length ≤ i1
def PureOK (ws : List Word) (L : Nat → List Node → Nat → ListR) : Prop := ∀ i nodes depth, i ≤ ws.length → nodes.length ≤ i → Goes ws i nodes (L i nodes depth)
theorem finB_goes {ws : List Word} {x : Word} {i j : Nat} {nodes nd : List Node} (h : j ≤ i) (hi : i ≤ ws.length) (hn : nodes.length ≤ nd.length) (hd : nd.length ≤ i) : GoesB ws j nodes (finB ws x i nd) := by
  unfold finB
  cases hx : ws[i]? with
  | none => trivial
  | some y =>
    have := (List.getElem?_eq_some_iff.1 hx).1
    dsimp only
    split
    · trivial
    · exact ⟨by omega, by omega, hn, by omega⟩
theorem bodyP_goes {ws : List Word} {L : Nat → List Node → Nat → ListR} (hL : PureOK ws L) (i : Nat) (nodes : List Node) (k : Nat) (x : Word) (depth : Nat) (hi : i ≤ ws.length) (hn : nodes.length ≤ i) :
    GoesB ws i nodes (bodyP L ws i nodes k x depth) := by
  unfold bodyP
  have h1 := hL i nodes (depth + 1) hi hn
  cases hR : L i nodes (depth + 1) with
  | error f => trivial
  | ok r =>
    obtain ⟨b, i1, nodes1⟩ := r
    rw [hR] at h1
    obtain ⟨g1, g2, g3, g4⟩ := h1
    have hl : (setBody nodes1 k b).length = nodes1.length := by simp [setBody]
    dsimp only
    cases hx : ws[i1]? with
    | none => exact finB_goes g1 g2 (by omega) (by omega)
    | some y =>
      have hlt := (List.getElem?_eq_some_iff.1 hx).1
      dsimp only
      split
      · split
        · trivial
        · have h2 := hL (i1 + 1) (setBody nodes1 k b) (depth + 1) (by omega) (by omega)
          cases hR2 : L (i1 + 1) (setBody nodes1 k b) (depth + 1) with
          | error f => trivial
          | ok r2 =>
            obtain ⟨b2, i2, nodes2⟩ := r2
            rw [hR2] at h2
            obtain ⟨g5, g6, g7, g8⟩ := h2
            have hl2 : (setEls nodes2 k b2).length = nodes2.length := by simp [setEls]
            exact finB_goes (by omega) g6 (by omega) (by omega)
      · exact finB_goes g1 g2 (by omega) (by omega)
/-- What a node-reader answers. -/
def GoesN (ws : List Word) (i : Nat) (nodes : List Node) : Except Fault (Int × Nat × List Node) → Prop
  | .error _ => True
  | .ok (_, i1, nodes1) => i ≤ i1 ∧ i1 ≤ ws.length ∧ nodes.length < nodes1.length ∧ nodes1.length ≤ i1
theorem nodeP_goes {ws : List Word} {L : Nat → List Node → Nat → ListR} (hL : PureOK ws L) (i : Nat) (nodes : List Node) (x : Word) (depth : Nat) (hi : i ≤ ws.length) (hn : nodes.length < i) :
    GoesN ws i nodes (nodeP L ws i nodes x depth) := by
  unfold nodeP
  split
  · split
    · trivial
    · have h := bodyP_goes hL i (nodes ++ [newNode x]) nodes.length x depth hi (by simp; omega)
      cases hR : bodyP L ws i (nodes ++ [newNode x]) nodes.length x depth with
      | error f => trivial
      | ok r =>
        obtain ⟨i1, nd⟩ := r
        rw [hR] at h
        obtain ⟨g1, g2, g3, g4⟩ := h
        simp at g3
        exact ⟨g1, g2, by simp [setKind]; omega, by simp [setKind]; omega⟩
  · exact ⟨Nat.le_refl _, hi, by simp [setKind], by simp [setKind]; omega⟩
theorem listP_goes (ws : List Word) : ∀ n i nodes depth acc, i ≤ ws.length → nodes.length ≤ i → Goes ws i nodes (listP ws n i nodes depth acc) := by
  intro n
  induction n with
  | zero => intro i nodes depth acc hi hn; trivial
  | succ n ih =>
    intro i nodes depth acc hi hn
    unfold listP
    cases hx : ws[i]? with
    | none => exact ⟨Nat.le_refl _, hi, Nat.le_refl _, hn⟩
    | some y =>
      have hlt := (List.getElem?_eq_some_iff.1 hx).1
      dsimp only
      split
      · exact ⟨Nat.le_refl _, hi, Nat.le_refl _, hn⟩
      · have h := nodeP_goes (ws := ws) (L := fun i nd d => listP ws n i nd d []) (fun i nodes depth hi hn => ih i nodes depth [] hi hn) (i + 1) nodes y depth (by omega) (by omega)
        cases hR : nodeP (fun i nd d => listP ws n i nd d []) ws (i + 1) nodes y depth with
        | error f => trivial
        | ok r =>
          obtain ⟨k, i1, nd⟩ := r
          rw [hR] at h
          obtain ⟨g1, g2, g3, g4⟩ := h
          dsimp only
          have h2 := ih i1 nd depth (acc ++ [k]) g2 g4
          cases hR2 : listP ws n i1 nd depth (acc ++ [k]) with
          | error f => trivial
          | ok r2 =>
            obtain ⟨out, i2, nd2⟩ := r2
            rw [hR2] at h2
            obtain ⟨g5, g6, g7, g8⟩ := h2
            exact ⟨by omega, g6, by omega, g8⟩
/-- A node's kind is stored. -/
theorem kind_set {B base : Nat} {X : Nat → Prop} {W : World} {P : Nat} {ws : List Word} {i : Nat} {nodes : List Node} (h : PSt B base X W P ws i nodes) {k : Nat} (hk : k < nodes.length) (n : Int) :
    ∃ wv g nc u, W.heap[P]? = some (.cells #[wv, .int .i64 i, .slice (some ⟨g, 0, none⟩) nodes.length nc, .slice none 0 0] 108) ∧ W.cell? ⟨g, k * 9, none⟩ = some u ∧ W.frozen? ⟨g, k * 9, none⟩ = false ∧
      PSt B base X (W.setCell ⟨g, k * 9, none⟩ (.int .u8 n)) P ws i (setKind nodes k n) ∧ base ≤ g ∧ IsN W g := by
  obtain ⟨wA, wc, g, nc, ps, p, hb, hwr, hns, hmap, hp, hB, hP, hgP, hbg, hPl⟩ := pst_open h hk
  obtain ⟨h1, h2, h3, h4, h5, -⟩ := node_store hns hB k 0 p { p with x := { p.x with kind := n } } (.int .u8 n) hp (by omega) rfl (hns.2 p (List.mem_of_getElem? hp))
  have h2' : W.cell? ⟨g, k * 9, none⟩ = some (.int .u8 p.x.kind) := h2
  refine ⟨_, g, nc, _, hb, h2', h3, ⟨_, _, _, ?_, blk_far hb (p := ⟨g, k * 9, none⟩) (fun e => hgP e.symm) _, hwr.below ((Below.refl B W).setCell (p := ⟨g, k * 9, none⟩) (by dsimp only; omega) _), h1, hB, hP⟩, hbg, h5⟩
  rw [map_set ps (fun y => { y with kind := n }) k p _ hp rfl, hmap]
  rfl
end Go.Proofs.YtcggeaobonblfaaDoor
