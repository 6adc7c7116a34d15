/- Lemmas and contracts for RowParseTrees, part 3: R14e, R14f, Copied, TreeW, Parse, R14p, R13a, R13b, R13c, R13d, R14g, R14a, R14b, R14c, R14h. -/
import Derived.Test.YtcggeaobonblfaaDoorMA2
import Derived.Test.YtcggeaobonblfaaDoorMA0
import Derived.Test.YtcggeaobonblfaaDoorMA1
import Derived.Test.YtcggeaobonblfaaDoorPParseTreesx6
import Derived.Deep.RegionHeld3
import Derived.Deep.DeepCutAuto
import Derived.Deep.CutRange
import Derived.Outline
import Derived.Deep.QuietTactic
import Derived.BigQuiet
/- bobbinref14.add: a node within the innermost that is open. -/
namespace Go.Proofs.YtcggeaobonblfaaDoor
set_option linter.unusedSimpArgs false
set_option linter.unusedVariables false
open Go Go.RowKit Go.Proofs.YtcggeaobonblfaaDoorW.PrintLast
/-- An if or a range that hasn't ended. -/
structure Opn where
  (node kind : Int) (els : Bool)
def openCells (o : Opn) : List Value := [.int .i64 o.node, .int .i64 o.kind, .bool o.els]
def StackAt (W : World) (base : Nat) (v : Value) (st : List Opn) : Prop := W.ownsRow base 78 3 v st.length (st.flatMap openCells)
theorem stack_slice {W : World} {base : Nat} {v : Value} {st : List Opn} (h : StackAt W base v st) : ∃ A c, v = .slice A st.length c := by
  rcases h.2 with ⟨rfl, h0⟩ | ⟨g, cap, cur, rfl, _⟩
  · rw [h0]; exact ⟨_, _, rfl⟩
  · exact ⟨_, _, rfl⟩
theorem stack_flat (st : List Opn) (o : Opn) (j : Nat) (hj : j < 3) : ((st ++ [o]).flatMap openCells)[st.length * 3 + j]? = (openCells o)[j]? := by
  have hl : (st.flatMap openCells).length = st.length * 3 := by
    induction st with
    | nil => rfl
    | cons a st ih => rw [List.flatMap_cons, List.length_append, ih]; simp [openCells]; omega
  rw [List.flatMap_append, List.getElem?_append_right (by omega), hl]
  simp [openCells]
theorem stack_last {W : World} {base : Nat} {v : Value} {st : List Opn} {o : Opn} (h : StackAt W base v (st ++ [o])) : ∃ g cap, v = .slice (some ⟨g, 0, none⟩) (st.length + 1) cap ∧ base ≤ g ∧ g < W.heap.size ∧
    W.cell? ⟨g, st.length * 3, none⟩ = some (.int .i64 o.node) ∧ W.cell? ⟨g, st.length * 3 + 1, none⟩ = some (.int .i64 o.kind) ∧ W.cell? ⟨g, st.length * 3 + 2, none⟩ = some (.bool o.els) := by
  obtain ⟨g, cap, rfl, h1, h2, c0⟩ := row_cell h (st.length * 3 + 0) _ (by rw [stack_flat st o 0 (by omega)]; rfl)
  obtain ⟨g1, cap1, e1, -, -, c1⟩ := row_cell h (st.length * 3 + 1) _ (by rw [stack_flat st o 1 (by omega)]; rfl)
  cases e1
  obtain ⟨g2, cap2, e2, -, -, c2⟩ := row_cell h (st.length * 3 + 2) _ (by rw [stack_flat st o 2 (by omega)]; rfl)
  cases e2
  exact ⟨g, cap, by simp, h1, h2, c0, c1, c2⟩
/-- A row of another type is kept. -/
theorem FrT.row {base T b e size n : Nat} {W W' : World} {v : Value} {xs : List Value} {cs : Array Value} {t : TypeId} (hf : FrT base T W W') (h : W.ownsRow b e size v n xs) (hT : W.heap[T]? = some (.cells cs t)) (ht : e ≠ t) (h1 : e ≠ 66) (h2 : e ≠ 3) : W'.ownsRow b e size v n xs := by
  refine ⟨h.1, ?_⟩
  rcases h.2 with hn | ⟨g, cap, cur, rfl, hb, hg, rest⟩
  · exact .inl hn
  · refine .inr ⟨g, cap, cur, rfl, hb, hf.blk hg ?_ h1 h2, rest⟩
    rintro rfl
    rw [hg] at hT
    cases hT
    exact ht rfl
/-- append to a row of the call's own, as one step of a region that draws its order; where the new row lies. -/
theorem step_grow_at {P : Program} {ops : Array Oper} {o : Oper} {a : Act} {K : Act → World → Prop} {Q : Exit → Act → World → Prop} {E : Prop} {W : World} (hgd : o.guard = none) (s x : Operand) (t : TypeId)
    (ho : o.op = .call { callee := .builtin .append, args := #[s, x], argTypes := #[t, t] })
    (base : Nat) (e : TypeId) (i : TypeInfo) (z : Value) (size bytes : Nat) (ht : P.underlying t = some (.slice e)) (hi : P.info? e = some i) (hz : i.zero = some z)
    (hsize : i.size = size) (hby : i.bytes = bytes) (hzs : z.cells.size = size) (hsz : 0 < size)
    (v : Value) (n : Nat) (xs : List Value) (hs : a.eval s = v) (hown : W.ownsRow base e size v n xs)
    (ad : Addr) (m c : Nat) (news : List Value) (hx : a.eval x = .slice (some ad) m c) (hl : news.length = m * size) (hnews : ∀ j u, news[j]? = some u → W.cell? (ad.add j) = some u) (h1 : ∀ u ∈ news, u.oneCell' = true)
    (h63 : n + m ≤ maxLen) (hbytes : (n + m) * bytes ≤ 140737488355328) (hbase : base ≤ W.heap.size)
    (h : ∀ v' w', w'.ownsRow base e size v' (n + m) (xs ++ news) → W.grownBy w' v.ownBlock → (v'.ownBlock = v.ownBlock ∨ v'.ownBlock = some W.heap.size) → K (a.put o.dst v') w') :
    if Region.wanted o (yielded ops a.tmps) = true then Oper.wp P o a W K Q else E := by
  rw [if_pos (by simp [Region.wanted, hgd])]
  obtain ⟨v', w', hr, h2, h3, h4, h5⟩ := run_append_own_at (P := P) W base t o.type e i z size bytes ht hi hz hsize hby hzs hsz v n xs hown ad m c news hl hnews h1 h63 hbytes hbase
  unfold Oper.wp execOp
  simp only [ho, resolve, invoke, builtin, Sem.run_bind, Sem.run_pure, Result.andThen_ok, List.map_toArray, List.map_cons, List.map_nil, hs, hx, hr]
  exact h v' w' h2 h3 h5
def addF (nodes : List Node) (top : List Int) (st : List Opn) (n : Int) : List Node × List Int :=
  match st.getLast? with
  | none => (nodes, top ++ [n])
  | some o => (nodes.modify o.node.toNat (fun x => if o.els then { x with els := x.els ++ [n] } else { x with body := x.body ++ [n] }), top)
def AddPost (B base T : Nat) (w : World) (r : List Node × List Int) (e : Ending) (w' : World) : Prop := e = .returned (.tuple #[]) ∧ TSt B base w' T r.1 r.2 ∧ FrT base T w w'

set_option maxRecDepth 100000 in
set_option maxHeartbeats 2000000 in
theorem add_any (B base sb T : Nat) (nodes : List Node) (top : List Int) (st : List Opn) (sv : Value) (n : Int) (w : World) (hT : TSt B base w T nodes top) (hs : StackAt w sb sv st) (hl : top.length ≤ 100000)
    (hb : ∀ x ∈ nodes, x.body.length ≤ 100000 ∧ x.els.length ≤ 100000) (hst : st.length ≤ 1000) (hlast : ∀ o, st.getLast? = some o → 0 ≤ o.node ∧ o.node < nodes.length) (hnl : nodes.length ≤ 100000) :
    Calls Tryd.prog 22 #[.pointer (some ⟨T, 0, none⟩), sv, .int .i64 n] w (AddPost B base T w (addF nodes top st n)) := by
  obtain ⟨nv, tv, ps, f, hmap, hts⟩ := hT
  obtain ⟨i0, hi0, hz0, hz1, hz2⟩ := info_parts Tryd.info3
  have hTl := World.heap_lt hts.block
  have hB := hts.low
  have hBT := hts.lowT
  have b0 : w.cell? ⟨T, 0, none⟩ = some nv := by have := hts.block; simp [World.cell?, this]
  have b1 : w.cell? ⟨T, 1, none⟩ = some tv := by have := hts.block; simp [World.cell?, this]
  rcases List.eq_nil_or_concat st with rfl | ⟨st', o, rfl⟩
  · have HF : Hid (addF nodes top [] n = (nodes, top ++ [n])) := Lib.hid rfl
    obtain ⟨A, c, rfl⟩ := stack_slice hs
    obtain ⟨TA, TC, rfl⟩ := ints_slice hts.top
    have Hts := Lib.hid hts
    have Hmap := Lib.hid hmap
    clear hts hmap hs hb hlast
    go_enter Tryd.func22, Tryd.ntmps22
    go_wp2_with (at_builtin; refine halt ?_)
    refine Halted.mk' ?_
    refine wpList_append_own_at _ rfl _ _ 24 rfl base 3 i0 _ 1 8 Tryd.underlying24 hi0 hz0 hz1 hz2 rfl (by decide) (.slice TA top.length TC) top.length (top.map (Value.int .i64)) rfl (World.ownsRow.alloc Hts.out.top _) ⟨_, 0, none⟩ 1 1 [.int .i64 n] rfl rfl (cells_new _ [.int .i64 n] _ _ (by simp)) ?_ ?_ ?_ ?_ ?_
    · simp [Value.oneCell']
    · unfold maxLen; omega
    · omega
    · simp; omega
    intro v' w1 hown' hgrow _ hat
    obtain ⟨g', cap', rfl⟩ := ownsRow_succ hown'
    have hgw := grown_two (World.grownBy_alloc w (.cells #[.int .i64 n] 3) none) hgrow
    obtain ⟨h1, h2, h3⟩ := Hts.out.addTop (v' := .slice (some ⟨g', 0, none⟩) (top.length + 1) cap') (n := n) (by simpa [IntsAt] using hown') hgw (hat.imp id (fun e => ⟨_, e, by simp⟩))
    have H2 := Lib.hid h2
    have H3 := Lib.hid h3
    have k1 : w1.cell? ⟨T, 1, none⟩ = some (.slice TA top.length TC) := by simp [World.cell?, h1]
    have k2 : w1.frozen? ⟨T, 1, none⟩ = false := by simp [World.frozen?, h1]
    clear h1 h2 h3 hown' hgrow hat hgw hi0 hz0 hz1 hz2 b0 b1
    go_wp2
    refine bodyPost_ret (v := .tuple #[]) (by simp [results, Tryd.results22, go_sem]) rfl ?_
    rw [HF.out, ← Hmap.out]
    exact ⟨rfl, H2.out, H3.out⟩
  · rw [List.concat_eq_append] at hs hlast hst ⊢
    have hlo : (st' ++ [o]).getLast? = some o := by simp
    obtain ⟨hn0, hn1⟩ := hlast o hlo
    obtain ⟨k, hk⟩ := Int.eq_ofNat_of_zero_le hn0
    have hlen : nodes.length = ps.length := by rw [← hmap]; simp
    have hkl : k < ps.length := by omega
    obtain ⟨p, hp⟩ : ∃ p, ps[k]? = some p := ⟨_, List.getElem?_eq_getElem hkl⟩
    obtain ⟨sg, sc, rfl, -, hsl, so0, so1, so2⟩ := stack_last hs
    rw [hk] at so0
    obtain ⟨g, cap, rfl, hbg, hgl, pc0⟩ := row_cell hts.row (k * 9 + 0) _ (by rw [flat9 ps k p hp 0 (by omega)]; rfl)
    obtain ⟨-, hbv, hev, -, -⟩ := hts.rows k p hp
    have hpm : p.x ∈ nodes := by rw [← hmap]; exact List.mem_map_of_mem (List.mem_of_getElem? hp)
    obtain ⟨hb1, hb2⟩ := hb p.x hpm
    have hi : ((st'.length : Int) + 1 - 1) = (st'.length : Int) := by omega
    have HF : Hid (addF nodes top (st' ++ [o]) n = (nodes.modify k (fun x => if o.els then { x with els := x.els ++ [n] } else { x with body := x.body ++ [n] }), top)) := Lib.hid (by unfold addF; rw [hlo]; dsimp only; rw [hk]; rfl)
    have hst' : st'.length ≤ 1000 := by simp at hst; omega
    have Hts := Lib.hid hts
    have Hmap := Lib.hid hmap
    have hkz : (k : Int) < (ps.length : Int) := by omega
    clear hts hmap hs hb hlast hst hlo hn0 hn1 hpm hlen b1 hkl
    cases hels : o.els with
    | true =>
      rw [hels] at so2 HF
      obtain ⟨RA, RC, hre⟩ := ints_slice hev
      have pc : w.cell? ⟨g, k * 9 + 6, none⟩ = some (.slice RA p.x.els.length RC) := by
        obtain ⟨g2, cap2, e2, -, -, c2⟩ := row_cell Hts.out.row (k * 9 + 6) _ (by rw [flat9 ps k p hp 6 (by omega)]; rfl)
        cases e2
        rw [← hre]; exact c2
      rw [hre] at hev
      have Hrow := Lib.hid hev
      have Hre := Lib.hid hre
      have Hk := Lib.hid hk
      have Hp := Lib.hid hp
      clear hev hbv hre hk hels hp pc0
      go_enter Tryd.func22, Tryd.ntmps22
      go_wp2
      refine start_ (n := 21) (S := fun w' => w'.cell? ⟨T, 0, none⟩ = some (.slice (some ⟨g, 0, none⟩) ps.length cap) ∧ w'.cell? ⟨w.heap.size, 0, none⟩ = some (.int .i64 k) ∧ w'.cell? ⟨g, k * 9 + 6, none⟩ = some (.slice RA p.x.els.length RC)) (ds := [20]) #[false, false, false, false, false, false, false, false, false, false, false, false, false, false, false, false, false, false, false, false, false] (by kernel_rfl) rfl rfl ⟨(World.cell?_alloc_past _ _ _ hTl).trans b0, by simp, (World.cell?_alloc_past _ _ _ hgl).trans pc⟩ (fun hHeld => ?_)
      refine pure_ (i := 0) (N := (some 28)) (v := ?_) (a' := ?_) #[true, false, false, false, false, false, false, false, false, false, false, false, false, false, false, false, false, false, false, false, false] rfl rfl (by kernel_rfl) (fun _ _ _ h => h) (Or.inl ⟨by rfl, ?_⟩) ?_ ?_
      rotate_left
      · intro w'
        go_simp
        with_reducible rfl
      rotate_left
      · simp only [Act.put, List.setIfInBounds_toArray, List.set_cons_zero, List.set_cons_succ, i64_w, i32_w]
        rfl
      refine pure_ (i := 1) (N := (some 29)) (v := ?_) (a' := ?_) #[true, true, false, false, false, false, false, false, false, false, false, false, false, false, false, false, false, false, false, false, false] rfl rfl (by kernel_rfl) (fun _ _ _ h => h) (Or.inl ⟨by rfl, ?_⟩) ?_ ?_
      rotate_left
      · intro w'
        go_simp
        with_reducible rfl
      rotate_left
      · simp only [Act.put, List.setIfInBounds_toArray, List.set_cons_zero, List.set_cons_succ, i64_w, i32_w]
        rfl
      refine pure_ (i := 2) (N := (some 30)) (v := ?_) (a' := ?_) #[true, true, true, false, false, false, false, false, false, false, false, false, false, false, false, false, false, false, false, false, false] rfl rfl (by kernel_rfl) (fun _ _ _ h => h) (Or.inl ⟨by rfl, ?_⟩) ?_ ?_
      rotate_left
      · intro w'
        go_simp
        with_reducible rfl
      rotate_left
      · simp only [Act.put, List.setIfInBounds_toArray, List.set_cons_zero, List.set_cons_succ, i64_w, i32_w]
        rfl
      refine take_ (i := 3) (N := (some 31)) (v := ?_) (a' := ?_) #[true, true, true, true, false, false, false, false, false, false, false, false, false, false, false, false, false, false, false, false, false] rfl rfl (by kernel_rfl) (fun _ _ _ h => h) (Or.inl ⟨by rfl, ?_⟩) hHeld ?_ ?_
      rotate_left
      · rintro w' ⟨s0, s1, s2⟩
        go_simp
        with_reducible rfl
      rotate_left
      · simp only [Act.put, List.setIfInBounds_toArray, List.set_cons_zero, List.set_cons_succ, i64_w, i32_w]
        rfl
      refine pure_ (i := 4) (N := (some 32)) (v := ?_) (a' := ?_) #[true, true, true, true, true, false, false, false, false, false, false, false, false, false, false, false, false, false, false, false, false] rfl rfl (by kernel_rfl) (fun _ _ _ h => h) (Or.inl ⟨by rfl, ?_⟩) ?_ ?_
      rotate_left
      · intro w'
        go_simp
        with_reducible rfl
      rotate_left
      · simp only [Act.put, List.setIfInBounds_toArray, List.set_cons_zero, List.set_cons_succ, i64_w, i32_w]
        rfl
      refine take_ (i := 5) (N := (some 33)) (v := ?_) (a' := ?_) #[true, true, true, true, true, true, false, false, false, false, false, false, false, false, false, false, false, false, false, false, false] rfl rfl (by kernel_rfl) (fun _ _ _ h => h) (Or.inl ⟨by rfl, ?_⟩) hHeld ?_ ?_
      rotate_left
      · rintro w' ⟨s0, s1, s2⟩
        go_simp
        with_reducible rfl
      rotate_left
      · simp only [Act.put, List.setIfInBounds_toArray, List.set_cons_zero, List.set_cons_succ, i64_w, i32_w]
        rfl
      refine pure_ (i := 6) (N := (some 34)) (v := ?_) (a' := ?_) #[true, true, true, true, true, true, true, false, false, false, false, false, false, false, false, false, false, false, false, false, false] rfl rfl (by kernel_rfl) (fun _ _ _ h => h) (Or.inl ⟨by rfl, ?_⟩) ?_ ?_
      rotate_left
      · intro w'
        go_simp
        with_reducible rfl
      rotate_left
      · simp only [Act.put, List.setIfInBounds_toArray, List.set_cons_zero, List.set_cons_succ, i64_w, i32_w]
        rfl
      refine pure_ (i := 7) (N := (some 35)) (v := ?_) (a' := ?_) #[true, true, true, true, true, true, true, true, false, false, false, false, false, false, false, false, false, false, false, false, false] rfl rfl (by kernel_rfl) (fun _ _ _ h => h) (Or.inl ⟨by rfl, ?_⟩) ?_ ?_
      rotate_left
      · intro w'
        go_simp
        with_reducible rfl
      rotate_left
      · simp only [Act.put, List.setIfInBounds_toArray, List.set_cons_zero, List.set_cons_succ, i64_w, i32_w]
        rfl
      refine pure_ (i := 8) (N := (some 36)) (v := ?_) (a' := ?_) #[true, true, true, true, true, true, true, true, true, false, false, false, false, false, false, false, false, false, false, false, false] rfl rfl (by kernel_rfl) (fun _ _ _ h => h) (Or.inl ⟨by rfl, ?_⟩) ?_ ?_
      rotate_left
      · intro w'
        go_simp
        with_reducible rfl
      rotate_left
      · simp only [Act.put, List.setIfInBounds_toArray, List.set_cons_zero, List.set_cons_succ, i64_w, i32_w]
        rfl
      refine take_ (i := 9) (N := (some 37)) (v := ?_) (a' := ?_) #[true, true, true, true, true, true, true, true, true, true, false, false, false, false, false, false, false, false, false, false, false] rfl rfl (by kernel_rfl) (fun _ _ _ h => h) (Or.inl ⟨by rfl, ?_⟩) hHeld ?_ ?_
      rotate_left
      · rintro w' ⟨s0, s1, s2⟩
        go_simp
        with_reducible rfl
      rotate_left
      · simp only [Act.put, List.setIfInBounds_toArray, List.set_cons_zero, List.set_cons_succ, i64_w, i32_w]
        rfl
      refine pure_ (i := 10) (N := (some 38)) (v := ?_) (a' := ?_) #[true, true, true, true, true, true, true, true, true, true, true, false, false, false, false, false, false, false, false, false, false] rfl rfl (by kernel_rfl) (fun _ _ _ h => h) (Or.inl ⟨by rfl, ?_⟩) ?_ ?_
      rotate_left
      · intro w'
        go_simp
        with_reducible rfl
      rotate_left
      · simp only [Act.put, List.setIfInBounds_toArray, List.set_cons_zero, List.set_cons_succ, i64_w, i32_w]
        rfl
      refine take_ (i := 11) (N := (some 39)) (v := ?_) (a' := ?_) #[true, true, true, true, true, true, true, true, true, true, true, true, false, false, false, false, false, false, false, false, false] rfl rfl (by kernel_rfl) (fun _ _ _ h => h) (Or.inl ⟨by rfl, ?_⟩) hHeld ?_ ?_
      rotate_left
      · rintro w' ⟨s0, s1, s2⟩
        go_simp
        with_reducible rfl
      rotate_left
      · simp only [Act.put, List.setIfInBounds_toArray, List.set_cons_zero, List.set_cons_succ, i64_w, i32_w]
        rfl
      refine pure_ (i := 12) (N := (some 40)) (v := ?_) (a' := ?_) #[true, true, true, true, true, true, true, true, true, true, true, true, true, false, false, false, false, false, false, false, false] rfl rfl (by kernel_rfl) (fun _ _ _ h => h) (Or.inl ⟨by rfl, ?_⟩) ?_ ?_
      rotate_left
      · intro w'
        go_simp
        with_reducible rfl
      rotate_left
      · simp only [Act.put, List.setIfInBounds_toArray, List.set_cons_zero, List.set_cons_succ, i64_w, i32_w]
        rfl
      refine pure_ (i := 13) (N := (some 41)) (v := ?_) (a' := ?_) #[true, true, true, true, true, true, true, true, true, true, true, true, true, true, false, false, false, false, false, false, false] rfl rfl (by kernel_rfl) (fun _ _ _ h => h) (Or.inl ⟨by rfl, ?_⟩) ?_ ?_
      rotate_left
      · intro w'
        go_simp
        with_reducible rfl
      rotate_left
      · simp only [Act.put, List.setIfInBounds_toArray, List.set_cons_zero, List.set_cons_succ, i64_w, i32_w]
        rfl
      refine take_ (i := 14) (N := (some 42)) (v := ?_) (a' := ?_) #[true, true, true, true, true, true, true, true, true, true, true, true, true, true, true, false, false, false, false, false, false] rfl rfl (by kernel_rfl) (fun _ _ _ h => h) (Or.inl ⟨by rfl, ?_⟩) hHeld ?_ ?_
      rotate_left
      · rintro w' ⟨s0, s1, s2⟩
        go_simp
        with_reducible rfl
      rotate_left
      · simp only [Act.put, List.setIfInBounds_toArray, List.set_cons_zero, List.set_cons_succ, i64_w, i32_w]
        rfl
      refine pure_ (i := 15) (N := (some 43)) (v := ?_) (a' := ?_) #[true, true, true, true, true, true, true, true, true, true, true, true, true, true, true, true, false, false, false, false, false] rfl rfl (by kernel_rfl) (fun _ _ _ h => h) (Or.inl ⟨by rfl, ?_⟩) ?_ ?_
      rotate_left
      · intro w'
        go_simp
        with_reducible rfl
      rotate_left
      · simp only [Act.put, List.setIfInBounds_toArray, List.set_cons_zero, List.set_cons_succ, i64_w, i32_w]
        rfl
      refine one_ (i := 16) (N := (some 44)) #[true, true, true, true, true, true, true, true, true, true, true, true, true, true, true, true, true, false, false, false, false] rfl rfl (by kernel_rfl) (by decide) (fun K hK => ?_)
      refine value_ (w1 := ?_) (v := ?_) (by rfl) rfl ?_ ?_
      rotate_left 2
      · go_simp
        constructor
        · rfl
        · rfl
      obtain ⟨s0, s1, s2⟩ := hHeld
      refine hK.out _ _ ⟨(World.cell?_alloc_past _ _ _ (by simp; omega)).trans s0, (World.cell?_alloc_past _ _ _ (by simp)).trans s1, (World.cell?_alloc_past _ _ _ (by simp; omega)).trans s2⟩ (fun hHeld => ?_)
      clear hK K s0 s1 s2
      refine norm_ (a' := ?_) ?_ ?_
      rotate_left
      · show Act.put _ (some 44) _ = _
        simp only [Act.put, List.setIfInBounds_toArray, List.set_cons_zero, List.set_cons_succ, i64_w, i32_w]
        rfl
      refine one_ (i := 17) (N := (some 45)) #[true, true, true, true, true, true, true, true, true, true, true, true, true, true, true, true, true, true, false, false, false] rfl rfl (by kernel_rfl) (by decide) (fun K hK => ?_)
      refine step_grow_at rfl _ _ 24 rfl base 3 i0 _ 1 8 Tryd.underlying24 hi0 hz0 hz1 hz2 rfl (by decide) (.slice RA p.x.els.length RC) p.x.els.length (p.x.els.map (Value.int .i64)) rfl ((World.ownsRow.alloc Hrow.out _).alloc _) ⟨_, 0, none⟩ 1 1 [.int .i64 n] rfl rfl (cells_new _ [.int .i64 n] _ _ (by simp)) (by simp [Value.oneCell']) (by unfold maxLen; omega) (by omega) (by simp; omega) ?_
      intro v' w1 hown' hgrow hat
      obtain ⟨g', cap', rfl⟩ := ownsRow_succ hown'
      have hgw := grown_two (World.grownBy_alloc w _ none) (grown_two (World.grownBy_alloc _ _ none) (grown_drew hgrow))
      have hty : ∀ q, (Value.slice RA p.x.els.length RC).ownBlock = some q → ∃ c, w.heap[q]? = some (.cells c 3) := row_type Hrow.out
      have hgty : ∃ c, w.heap[g]? = some (.cells c 66) := row_type Hts.out.row g rfl
      have hnT : some T ≠ (Value.slice RA p.x.els.length RC).ownBlock := fun e => by obtain ⟨c, h⟩ := hty T e.symm; have h2 := Hts.out.block; rw [h2] at h; cases h
      have hng : some g ≠ (Value.slice RA p.x.els.length RC).ownBlock := fun e => by obtain ⟨c, h⟩ := hty g e.symm; obtain ⟨c2, h2⟩ := hgty; rw [h2] at h; cases h
      have hnr : some w.heap.size ≠ (Value.slice RA p.x.els.length RC).ownBlock := fun e => by obtain ⟨cs, h⟩ := hty _ e.symm; have := World.heap_lt h; omega
      obtain ⟨h1, h2, h3, h4, h5⟩ := Hts.out.addIn Hp.out true (v' := .slice (some ⟨g', 0, none⟩) (p.x.els.length + 1) cap') (n := n) (by simpa [IntsAt] using hown') (by rw [if_pos rfl, Hre.out]; exact hgw) (by rw [if_pos rfl, Hre.out]; exact hat.imp id (fun e => ⟨_, e, by simp; omega⟩))
      simp only [Bool.false_eq_true, if_true, if_false] at h2 h3 h4 h5
      rw [Hre.out] at h2
      rw [Hmap.out] at h4
      have H4 := Lib.hid h4
      have H5 := Lib.hid h5
      obtain ⟨s0, s1, s2⟩ := hHeld
      refine hK.out _ _ ⟨hgrow.cell s0 hnT, hgrow.cell s1 hnr, hgrow.cell s2 hng⟩ (fun hHeld => ?_)
      clear hK K s0 s1 s2 h1 h4 h5 hown' hgrow hat hgw hty hgty hi0 hz0 hz1 hz2 hnT hng hnr b0 pc
      refine norm_ (a' := ?_) ?_ ?_
      rotate_left
      · show Act.put _ (some 45) _ = _
        simp only [Act.put, List.setIfInBounds_toArray, List.set_cons_zero, List.set_cons_succ, i64_w, i32_w]
        rfl
      refine pure_ (i := 18) (N := (some 46)) (v := ?_) (a' := ?_) #[true, true, true, true, true, true, true, true, true, true, true, true, true, true, true, true, true, true, true, false, false] rfl rfl (by kernel_rfl) (fun _ _ _ h => h) (Or.inl ⟨by rfl, ?_⟩) ?_ ?_
      rotate_left
      · intro w'
        go_simp
        with_reducible rfl
      rotate_left
      · simp only [Act.put, List.setIfInBounds_toArray, List.set_cons_zero, List.set_cons_succ, i64_w, i32_w]
        rfl
      refine pure_ (i := 19) (N := (some 47)) (v := ?_) (a' := ?_) #[true, true, true, true, true, true, true, true, true, true, true, true, true, true, true, true, true, true, true, true, false] rfl rfl (by kernel_rfl) (fun _ _ _ h => h) (Or.inl ⟨by rfl, ?_⟩) ?_ ?_
      rotate_left
      · intro w'
        go_simp
        with_reducible rfl
      rotate_left
      · simp only [Act.put, List.setIfInBounds_toArray, List.set_cons_zero, List.set_cons_succ, i64_w, i32_w]
        rfl
      refine last_ (i := 20) (N := none) #[true, true, true, true, true, true, true, true, true, true, true, true, true, true, true, true, true, true, true, true, true] rfl rfl (by kernel_rfl) (by decide) (fun K hK => ?_)
      refine skip_ (w1 := ?_) (by rfl) rfl ?_ ?_
      rotate_left
      · go_simp
        rfl
      refine hK.out _ _ ?_
      clear hK K hHeld h2 h3
      refine done_ (by kernel_rfl) ?_
      refine bodyPost_ret (v := .tuple #[]) (by simp [results, Tryd.results22, go_sem]) rfl ?_
      rw [HF.out]
      exact ⟨rfl, H4.out, H5.out⟩
    | false =>
      rw [hels] at so2 HF
      obtain ⟨RA, RC, hre⟩ := ints_slice hbv
      have pc : w.cell? ⟨g, k * 9 + 5, none⟩ = some (.slice RA p.x.body.length RC) := by
        obtain ⟨g2, cap2, e2, -, -, c2⟩ := row_cell Hts.out.row (k * 9 + 5) _ (by rw [flat9 ps k p hp 5 (by omega)]; rfl)
        cases e2
        rw [← hre]; exact c2
      rw [hre] at hbv
      have Hrow := Lib.hid hbv
      have Hre := Lib.hid hre
      have Hk := Lib.hid hk
      have Hp := Lib.hid hp
      clear hev hbv hre hk hels hp pc0
      go_enter Tryd.func22, Tryd.ntmps22
      go_wp2
      refine start_ (n := 21) (S := fun w' => w'.cell? ⟨T, 0, none⟩ = some (.slice (some ⟨g, 0, none⟩) ps.length cap) ∧ w'.cell? ⟨w.heap.size, 0, none⟩ = some (.int .i64 k) ∧ w'.cell? ⟨g, k * 9 + 5, none⟩ = some (.slice RA p.x.body.length RC)) (ds := [20]) #[false, false, false, false, false, false, false, false, false, false, false, false, false, false, false, false, false, false, false, false, false] (by kernel_rfl) rfl rfl ⟨(World.cell?_alloc_past _ _ _ hTl).trans b0, by simp, (World.cell?_alloc_past _ _ _ hgl).trans pc⟩ (fun hHeld => ?_)
      refine pure_ (i := 0) (N := (some 48)) (v := ?_) (a' := ?_) #[true, false, false, false, false, false, false, false, false, false, false, false, false, false, false, false, false, false, false, false, false] rfl rfl (by kernel_rfl) (fun _ _ _ h => h) (Or.inl ⟨by rfl, ?_⟩) ?_ ?_
      rotate_left
      · intro w'
        go_simp
        with_reducible rfl
      rotate_left
      · simp only [Act.put, List.setIfInBounds_toArray, List.set_cons_zero, List.set_cons_succ, i64_w, i32_w]
        rfl
      refine pure_ (i := 1) (N := (some 49)) (v := ?_) (a' := ?_) #[true, true, false, false, false, false, false, false, false, false, false, false, false, false, false, false, false, false, false, false, false] rfl rfl (by kernel_rfl) (fun _ _ _ h => h) (Or.inl ⟨by rfl, ?_⟩) ?_ ?_
      rotate_left
      · intro w'
        go_simp
        with_reducible rfl
      rotate_left
      · simp only [Act.put, List.setIfInBounds_toArray, List.set_cons_zero, List.set_cons_succ, i64_w, i32_w]
        rfl
      refine pure_ (i := 2) (N := (some 50)) (v := ?_) (a' := ?_) #[true, true, true, false, false, false, false, false, false, false, false, false, false, false, false, false, false, false, false, false, false] rfl rfl (by kernel_rfl) (fun _ _ _ h => h) (Or.inl ⟨by rfl, ?_⟩) ?_ ?_
      rotate_left
      · intro w'
        go_simp
        with_reducible rfl
      rotate_left
      · simp only [Act.put, List.setIfInBounds_toArray, List.set_cons_zero, List.set_cons_succ, i64_w, i32_w]
        rfl
      refine take_ (i := 3) (N := (some 51)) (v := ?_) (a' := ?_) #[true, true, true, true, false, false, false, false, false, false, false, false, false, false, false, false, false, false, false, false, false] rfl rfl (by kernel_rfl) (fun _ _ _ h => h) (Or.inl ⟨by rfl, ?_⟩) hHeld ?_ ?_
      rotate_left
      · rintro w' ⟨s0, s1, s2⟩
        go_simp
        with_reducible rfl
      rotate_left
      · simp only [Act.put, List.setIfInBounds_toArray, List.set_cons_zero, List.set_cons_succ, i64_w, i32_w]
        rfl
      refine pure_ (i := 4) (N := (some 52)) (v := ?_) (a' := ?_) #[true, true, true, true, true, false, false, false, false, false, false, false, false, false, false, false, false, false, false, false, false] rfl rfl (by kernel_rfl) (fun _ _ _ h => h) (Or.inl ⟨by rfl, ?_⟩) ?_ ?_
      rotate_left
      · intro w'
        go_simp
        with_reducible rfl
      rotate_left
      · simp only [Act.put, List.setIfInBounds_toArray, List.set_cons_zero, List.set_cons_succ, i64_w, i32_w]
        rfl
      refine take_ (i := 5) (N := (some 53)) (v := ?_) (a' := ?_) #[true, true, true, true, true, true, false, false, false, false, false, false, false, false, false, false, false, false, false, false, false] rfl rfl (by kernel_rfl) (fun _ _ _ h => h) (Or.inl ⟨by rfl, ?_⟩) hHeld ?_ ?_
      rotate_left
      · rintro w' ⟨s0, s1, s2⟩
        go_simp
        with_reducible rfl
      rotate_left
      · simp only [Act.put, List.setIfInBounds_toArray, List.set_cons_zero, List.set_cons_succ, i64_w, i32_w]
        rfl
      refine pure_ (i := 6) (N := (some 54)) (v := ?_) (a' := ?_) #[true, true, true, true, true, true, true, false, false, false, false, false, false, false, false, false, false, false, false, false, false] rfl rfl (by kernel_rfl) (fun _ _ _ h => h) (Or.inl ⟨by rfl, ?_⟩) ?_ ?_
      rotate_left
      · intro w'
        go_simp
        with_reducible rfl
      rotate_left
      · simp only [Act.put, List.setIfInBounds_toArray, List.set_cons_zero, List.set_cons_succ, i64_w, i32_w]
        rfl
      refine pure_ (i := 7) (N := (some 55)) (v := ?_) (a' := ?_) #[true, true, true, true, true, true, true, true, false, false, false, false, false, false, false, false, false, false, false, false, false] rfl rfl (by kernel_rfl) (fun _ _ _ h => h) (Or.inl ⟨by rfl, ?_⟩) ?_ ?_
      rotate_left
      · intro w'
        go_simp
        with_reducible rfl
      rotate_left
      · simp only [Act.put, List.setIfInBounds_toArray, List.set_cons_zero, List.set_cons_succ, i64_w, i32_w]
        rfl
      refine pure_ (i := 8) (N := (some 56)) (v := ?_) (a' := ?_) #[true, true, true, true, true, true, true, true, true, false, false, false, false, false, false, false, false, false, false, false, false] rfl rfl (by kernel_rfl) (fun _ _ _ h => h) (Or.inl ⟨by rfl, ?_⟩) ?_ ?_
      rotate_left
      · intro w'
        go_simp
        with_reducible rfl
      rotate_left
      · simp only [Act.put, List.setIfInBounds_toArray, List.set_cons_zero, List.set_cons_succ, i64_w, i32_w]
        rfl
      refine take_ (i := 9) (N := (some 57)) (v := ?_) (a' := ?_) #[true, true, true, true, true, true, true, true, true, true, false, false, false, false, false, false, false, false, false, false, false] rfl rfl (by kernel_rfl) (fun _ _ _ h => h) (Or.inl ⟨by rfl, ?_⟩) hHeld ?_ ?_
      rotate_left
      · rintro w' ⟨s0, s1, s2⟩
        go_simp
        with_reducible rfl
      rotate_left
      · simp only [Act.put, List.setIfInBounds_toArray, List.set_cons_zero, List.set_cons_succ, i64_w, i32_w]
        rfl
      refine pure_ (i := 10) (N := (some 58)) (v := ?_) (a' := ?_) #[true, true, true, true, true, true, true, true, true, true, true, false, false, false, false, false, false, false, false, false, false] rfl rfl (by kernel_rfl) (fun _ _ _ h => h) (Or.inl ⟨by rfl, ?_⟩) ?_ ?_
      rotate_left
      · intro w'
        go_simp
        with_reducible rfl
      rotate_left
      · simp only [Act.put, List.setIfInBounds_toArray, List.set_cons_zero, List.set_cons_succ, i64_w, i32_w]
        rfl
      refine take_ (i := 11) (N := (some 59)) (v := ?_) (a' := ?_) #[true, true, true, true, true, true, true, true, true, true, true, true, false, false, false, false, false, false, false, false, false] rfl rfl (by kernel_rfl) (fun _ _ _ h => h) (Or.inl ⟨by rfl, ?_⟩) hHeld ?_ ?_
      rotate_left
      · rintro w' ⟨s0, s1, s2⟩
        go_simp
        with_reducible rfl
      rotate_left
      · simp only [Act.put, List.setIfInBounds_toArray, List.set_cons_zero, List.set_cons_succ, i64_w, i32_w]
        rfl
      refine pure_ (i := 12) (N := (some 60)) (v := ?_) (a' := ?_) #[true, true, true, true, true, true, true, true, true, true, true, true, true, false, false, false, false, false, false, false, false] rfl rfl (by kernel_rfl) (fun _ _ _ h => h) (Or.inl ⟨by rfl, ?_⟩) ?_ ?_
      rotate_left
      · intro w'
        go_simp
        with_reducible rfl
      rotate_left
      · simp only [Act.put, List.setIfInBounds_toArray, List.set_cons_zero, List.set_cons_succ, i64_w, i32_w]
        rfl
      refine pure_ (i := 13) (N := (some 61)) (v := ?_) (a' := ?_) #[true, true, true, true, true, true, true, true, true, true, true, true, true, true, false, false, false, false, false, false, false] rfl rfl (by kernel_rfl) (fun _ _ _ h => h) (Or.inl ⟨by rfl, ?_⟩) ?_ ?_
      rotate_left
      · intro w'
        go_simp
        with_reducible rfl
      rotate_left
      · simp only [Act.put, List.setIfInBounds_toArray, List.set_cons_zero, List.set_cons_succ, i64_w, i32_w]
        rfl
      refine take_ (i := 14) (N := (some 62)) (v := ?_) (a' := ?_) #[true, true, true, true, true, true, true, true, true, true, true, true, true, true, true, false, false, false, false, false, false] rfl rfl (by kernel_rfl) (fun _ _ _ h => h) (Or.inl ⟨by rfl, ?_⟩) hHeld ?_ ?_
      rotate_left
      · rintro w' ⟨s0, s1, s2⟩
        go_simp
        with_reducible rfl
      rotate_left
      · simp only [Act.put, List.setIfInBounds_toArray, List.set_cons_zero, List.set_cons_succ, i64_w, i32_w]
        rfl
      refine pure_ (i := 15) (N := (some 63)) (v := ?_) (a' := ?_) #[true, true, true, true, true, true, true, true, true, true, true, true, true, true, true, true, false, false, false, false, false] rfl rfl (by kernel_rfl) (fun _ _ _ h => h) (Or.inl ⟨by rfl, ?_⟩) ?_ ?_
      rotate_left
      · intro w'
        go_simp
        with_reducible rfl
      rotate_left
      · simp only [Act.put, List.setIfInBounds_toArray, List.set_cons_zero, List.set_cons_succ, i64_w, i32_w]
        rfl
      refine one_ (i := 16) (N := (some 64)) #[true, true, true, true, true, true, true, true, true, true, true, true, true, true, true, true, true, false, false, false, false] rfl rfl (by kernel_rfl) (by decide) (fun K hK => ?_)
      refine value_ (w1 := ?_) (v := ?_) (by rfl) rfl ?_ ?_
      rotate_left 2
      · go_simp
        constructor
        · rfl
        · rfl
      obtain ⟨s0, s1, s2⟩ := hHeld
      refine hK.out _ _ ⟨(World.cell?_alloc_past _ _ _ (by simp; omega)).trans s0, (World.cell?_alloc_past _ _ _ (by simp)).trans s1, (World.cell?_alloc_past _ _ _ (by simp; omega)).trans s2⟩ (fun hHeld => ?_)
      clear hK K s0 s1 s2
      refine norm_ (a' := ?_) ?_ ?_
      rotate_left
      · show Act.put _ (some 64) _ = _
        simp only [Act.put, List.setIfInBounds_toArray, List.set_cons_zero, List.set_cons_succ, i64_w, i32_w]
        rfl
      refine one_ (i := 17) (N := (some 65)) #[true, true, true, true, true, true, true, true, true, true, true, true, true, true, true, true, true, true, false, false, false] rfl rfl (by kernel_rfl) (by decide) (fun K hK => ?_)
      refine step_grow_at rfl _ _ 24 rfl base 3 i0 _ 1 8 Tryd.underlying24 hi0 hz0 hz1 hz2 rfl (by decide) (.slice RA p.x.body.length RC) p.x.body.length (p.x.body.map (Value.int .i64)) rfl ((World.ownsRow.alloc Hrow.out _).alloc _) ⟨_, 0, none⟩ 1 1 [.int .i64 n] rfl rfl (cells_new _ [.int .i64 n] _ _ (by simp)) (by simp [Value.oneCell']) (by unfold maxLen; omega) (by omega) (by simp; omega) ?_
      intro v' w1 hown' hgrow hat
      obtain ⟨g', cap', rfl⟩ := ownsRow_succ hown'
      have hgw := grown_two (World.grownBy_alloc w _ none) (grown_two (World.grownBy_alloc _ _ none) (grown_drew hgrow))
      have hty : ∀ q, (Value.slice RA p.x.body.length RC).ownBlock = some q → ∃ c, w.heap[q]? = some (.cells c 3) := row_type Hrow.out
      have hgty : ∃ c, w.heap[g]? = some (.cells c 66) := row_type Hts.out.row g rfl
      have hnT : some T ≠ (Value.slice RA p.x.body.length RC).ownBlock := fun e => by obtain ⟨c, h⟩ := hty T e.symm; have h2 := Hts.out.block; rw [h2] at h; cases h
      have hng : some g ≠ (Value.slice RA p.x.body.length RC).ownBlock := fun e => by obtain ⟨c, h⟩ := hty g e.symm; obtain ⟨c2, h2⟩ := hgty; rw [h2] at h; cases h
      have hnr : some w.heap.size ≠ (Value.slice RA p.x.body.length RC).ownBlock := fun e => by obtain ⟨cs, h⟩ := hty _ e.symm; have := World.heap_lt h; omega
      obtain ⟨h1, h2, h3, h4, h5⟩ := Hts.out.addIn Hp.out false (v' := .slice (some ⟨g', 0, none⟩) (p.x.body.length + 1) cap') (n := n) (by simpa [IntsAt] using hown') (by rw [if_neg (by simp), Hre.out]; exact hgw) (by rw [if_neg (by simp), Hre.out]; exact hat.imp id (fun e => ⟨_, e, by simp; omega⟩))
      simp only [Bool.false_eq_true, if_true, if_false] at h2 h3 h4 h5
      rw [Hre.out] at h2
      rw [Hmap.out] at h4
      have H4 := Lib.hid h4
      have H5 := Lib.hid h5
      obtain ⟨s0, s1, s2⟩ := hHeld
      refine hK.out _ _ ⟨hgrow.cell s0 hnT, hgrow.cell s1 hnr, hgrow.cell s2 hng⟩ (fun hHeld => ?_)
      clear hK K s0 s1 s2 h1 h4 h5 hown' hgrow hat hgw hty hgty hi0 hz0 hz1 hz2 hnT hng hnr b0 pc
      refine norm_ (a' := ?_) ?_ ?_
      rotate_left
      · show Act.put _ (some 65) _ = _
        simp only [Act.put, List.setIfInBounds_toArray, List.set_cons_zero, List.set_cons_succ, i64_w, i32_w]
        rfl
      refine pure_ (i := 18) (N := (some 66)) (v := ?_) (a' := ?_) #[true, true, true, true, true, true, true, true, true, true, true, true, true, true, true, true, true, true, true, false, false] rfl rfl (by kernel_rfl) (fun _ _ _ h => h) (Or.inl ⟨by rfl, ?_⟩) ?_ ?_
      rotate_left
      · intro w'
        go_simp
        with_reducible rfl
      rotate_left
      · simp only [Act.put, List.setIfInBounds_toArray, List.set_cons_zero, List.set_cons_succ, i64_w, i32_w]
        rfl
      refine pure_ (i := 19) (N := (some 67)) (v := ?_) (a' := ?_) #[true, true, true, true, true, true, true, true, true, true, true, true, true, true, true, true, true, true, true, true, false] rfl rfl (by kernel_rfl) (fun _ _ _ h => h) (Or.inl ⟨by rfl, ?_⟩) ?_ ?_
      rotate_left
      · intro w'
        go_simp
        with_reducible rfl
      rotate_left
      · simp only [Act.put, List.setIfInBounds_toArray, List.set_cons_zero, List.set_cons_succ, i64_w, i32_w]
        rfl
      refine last_ (i := 20) (N := none) #[true, true, true, true, true, true, true, true, true, true, true, true, true, true, true, true, true, true, true, true, true] rfl rfl (by kernel_rfl) (by decide) (fun K hK => ?_)
      refine skip_ (w1 := ?_) (by rfl) rfl ?_ ?_
      rotate_left
      · go_simp
        rfl
      refine hK.out _ _ ?_
      clear hK K hHeld h2 h3
      refine done_ (by kernel_rfl) ?_
      refine bodyPost_ret (v := .tuple #[]) (by simp [results, Tryd.results22, go_sem]) rfl ?_
      rw [HF.out]
      exact ⟨rfl, H4.out, H5.out⟩
end Go.Proofs.YtcggeaobonblfaaDoor

/- The reference's parse as a plain function: a stack of what is open. -/
namespace Go.Proofs.YtcggeaobonblfaaDoor
set_option linter.unusedSimpArgs false
set_option linter.unusedVariables false
open Go Go.RowKit
structure RSt where
  (nodes : List Node) (top : List Int) (st : List Opn)
def nodeOf (w : Word) : Node := { newNode w with kind := kindOf w.kind }
def setHas (nodes : List Node) (k : Nat) : List Node := nodes.modify k fun x => { x with has := true }
def stepR (r : RSt) (w : Word) : Except Fault RSt :=
  if w.kind = 3 then
    match r.st.getLast? with
    | none => .error (w.at_, 4)
    | some o => if o.kind ≠ 2 ∨ o.els = true then .error (w.at_, 4) else .ok ⟨setHas r.nodes o.node.toNat, r.top, r.st.dropLast ++ [{ o with els := true }]⟩
  else if w.kind = 5 then
    match r.st.getLast? with
    | none => .error (w.at_, 4)
    | some _ => .ok ⟨r.nodes, r.top, r.st.dropLast⟩
  else if (w.kind = 2 ∨ w.kind = 4) ∧ 16 ≤ r.st.length then .error (w.at_, 3)
  else .ok ⟨(addF (r.nodes ++ [nodeOf w]) r.top r.st r.nodes.length).1, (addF (r.nodes ++ [nodeOf w]) r.top r.st r.nodes.length).2, if w.kind = 2 ∨ w.kind = 4 then r.st ++ [⟨r.nodes.length, w.kind, false⟩] else r.st⟩
def runR : RSt → List Word → Except Fault RSt
  | r, [] => .ok r
  | r, w :: ws => match stepR r w with | .error f => .error f | .ok r' => runR r' ws
def r0 : RSt := ⟨[], [], []⟩
def finR (r : RSt) : Except Fault (List Int × List Node) :=
  match r.st.getLast? with
  | none => .ok (r.top, r.nodes)
  | some o => .error (match r.nodes[o.node.toNat]? with | some x => x.at_ | none => 0, 4)
def stackR (ws : List Word) : Except Fault (List Int × List Node) := match runR r0 ws with | .error f => .error f | .ok r => finR r
def refParse (s : List UInt8) : Except Fault (List Int × List Node) :=
  if 65536 < s.length then .error (0, 2) else if 0 ≤ (lexW 0 s).2 then .error ((lexW 0 s).2, 4) else stackR (lexW 0 s).1

theorem runR_ok {r r' : RSt} {w : Word} {ws : List Word} (h : stepR r w = .ok r') : runR r (w :: ws) = runR r' ws := by rw [runR, h]
theorem runR_err {r : RSt} {f : Fault} {w : Word} {ws : List Word} (h : stepR r w = .error f) : runR r (w :: ws) = .error f := by rw [runR, h]
theorem runR_append {ws vs : List Word} : ∀ {r r' : RSt}, runR r ws = .ok r' → runR r (ws ++ vs) = runR r' vs := by
  induction ws with
  | nil =>
    intro r r' h
    injection h with h
    rw [h]
    rfl
  | cons w ws ih =>
    intro r r' h
    rw [List.cons_append]
    cases hs : stepR r w with
    | error f => rw [runR_err hs] at h; cases h
    | ok r1 =>
      rw [runR_ok hs] at h ⊢
      exact ih h
theorem runR_append_err {ws vs : List Word} {f : Fault} : ∀ {r : RSt}, runR r ws = .error f → runR r (ws ++ vs) = .error f := by
  induction ws with
  | nil => intro r h; cases h
  | cons w ws ih =>
    intro r h
    rw [List.cons_append]
    cases hs : stepR r w with
    | error f' =>
      rw [runR_err hs] at h ⊢
      exact h
    | ok r1 =>
      rw [runR_ok hs] at h ⊢
      exact ih h
/-- What a word more does. -/
theorem runR_next {ws : List Word} {r : RSt} {k : Nat} {x : Word} (h : runR r0 (ws.take k) = .ok r) (hx : ws[k]? = some x) : runR r0 (ws.take (k + 1)) = stepR r x := by
  have hlt := (List.getElem?_eq_some_iff.1 hx).1
  have e : ws.take (k + 1) = ws.take k ++ [x] := by
    rw [List.take_succ_eq_append_getElem hlt, (List.getElem?_eq_some_iff.1 hx).2]
  rw [e, runR_append h]
  cases hs : stepR r x with
  | error f => exact runR_err hs
  | ok r' => rw [runR_ok hs]; rfl
theorem runR_stop {ws : List Word} {r : RSt} {k : Nat} {x : Word} {f : Fault} (h : runR r0 (ws.take k) = .ok r) (hx : ws[k]? = some x) (hf : stepR r x = .error f) : stackR ws = .error f := by
  have h1 := runR_next h hx
  rw [hf] at h1
  have e : ws = ws.take (k + 1) ++ ws.drop (k + 1) := (List.take_append_drop _ _).symm
  unfold stackR
  rw [e, runR_append_err h1]

/-- What holds of the state behind k words. -/
structure RInv (k : Nat) (r : RSt) : Prop where
  nodes : r.nodes.length ≤ k
  top : r.top.length ≤ k
  lists : ∀ x ∈ r.nodes, x.body.length ≤ k ∧ x.els.length ≤ k
  deep : r.st.length ≤ 16
  opens : ∀ o ∈ r.st, 0 ≤ o.node ∧ o.node < r.nodes.length
theorem mem_modify {α : Type} {l : List α} {k : Nat} {g : α → α} {x : α} (h : x ∈ l.modify k g) : x ∈ l ∨ ∃ y ∈ l, x = g y := by
  obtain ⟨j, hj⟩ := List.mem_iff_getElem?.1 h
  rw [List.getElem?_modify] at hj
  cases hl : l[j]? with
  | none => rw [hl] at hj; simp at hj
  | some y =>
    rw [hl, Option.map_eq_map, Option.map_some] at hj
    have hm := List.mem_of_getElem? hl
    by_cases e : k = j
    · rw [if_pos e] at hj
      exact .inr ⟨y, hm, by simpa using hj.symm⟩
    · rw [if_neg e] at hj
      exact .inl (by have : y = x := by simpa using hj
                     rw [← this]; exact hm)
theorem addF_inv {nodes : List Node} {top : List Int} {st : List Opn} {n : Int} {k : Nat} (ht : top.length ≤ k) (hl : ∀ x ∈ nodes, x.body.length ≤ k ∧ x.els.length ≤ k) :
    (addF nodes top st n).1.length = nodes.length ∧ (addF nodes top st n).2.length ≤ k + 1 ∧ ∀ x ∈ (addF nodes top st n).1, x.body.length ≤ k + 1 ∧ x.els.length ≤ k + 1 := by
  unfold addF
  cases st.getLast? with
  | none => exact ⟨rfl, by simp; omega, fun x hx => by have := hl x hx; omega⟩
  | some o =>
    refine ⟨by simp, by dsimp only; omega, fun x hx => ?_⟩
    rcases mem_modify hx with h | ⟨y, hy, rfl⟩
    · have := hl x h; omega
    · have := hl y hy
      cases o.els <;> simp <;> omega
theorem stepR_inv {k : Nat} {r r' : RSt} {w : Word} (h : RInv k r) (hs : stepR r w = .ok r') : RInv (k + 1) r' := by
  have h1 := h.nodes
  have h2 := h.top
  have h3 := h.lists
  have h4 := h.deep
  have h5 := h.opens
  unfold stepR at hs
  by_cases k3 : w.kind = 3
  · rw [if_pos k3] at hs
    cases hl : r.st.getLast? with
    | none => rw [hl] at hs; cases hs
    | some o =>
      rw [hl] at hs
      dsimp only at hs
      split at hs
      · cases hs
      · injection hs with hs
        subst hs
        have ho : o ∈ r.st := List.mem_of_getLast? hl
        have hp : 0 < r.st.length := List.length_pos_of_mem ho
        refine ⟨by simp [setHas]; omega, by dsimp only; omega, fun x hx => ?_, by simp; omega, fun q hq => ?_⟩
        · rcases mem_modify hx with h | ⟨y, hy, rfl⟩
          · have := h3 x h; omega
          · have := h3 y hy; exact ⟨by dsimp only; omega, by dsimp only; omega⟩
        · have e : (setHas r.nodes o.node.toNat).length = r.nodes.length := by simp [setHas]
          rw [e]
          rcases List.mem_append.1 hq with hq | hq
          · exact h5 q (List.dropLast_subset _ hq)
          · simp at hq
            subst hq
            exact h5 o ho
  rw [if_neg k3] at hs
  by_cases k5 : w.kind = 5
  · rw [if_pos k5] at hs
    cases hl : r.st.getLast? with
    | none => rw [hl] at hs; cases hs
    | some o =>
      rw [hl] at hs
      injection hs with hs
      subst hs
      exact ⟨by dsimp only; omega, by dsimp only; omega, fun x hx => by have := h3 x hx; omega, by simp; omega, fun q hq => h5 q (List.dropLast_subset _ hq)⟩
  rw [if_neg k5] at hs
  split at hs
  · cases hs
  · rename_i hd
    injection hs with hs
    subst hs
    have hnl : ∀ x ∈ r.nodes ++ [nodeOf w], x.body.length ≤ k ∧ x.els.length ≤ k := fun x hx => by
      rcases List.mem_append.1 hx with hx | hx
      · exact h3 x hx
      · simp at hx
        subst hx
        exact ⟨Nat.zero_le _, Nat.zero_le _⟩
    obtain ⟨a1, a2, a3⟩ := addF_inv (st := r.st) (n := (r.nodes.length : Int)) h2 hnl
    refine ⟨by dsimp only; rw [a1]; simp; omega, a2, a3, ?_, fun q hq => ?_⟩
    · dsimp only
      split
      · rename_i hk
        simp
        rcases Nat.lt_or_ge r.st.length 16 with h | h
        · omega
        · exact absurd ⟨hk, h⟩ hd
      · exact h4
    · dsimp only at hq ⊢
      rw [a1]
      simp only [List.length_append, List.length_singleton]
      have key : ∀ q ∈ r.st, 0 ≤ q.node ∧ q.node < ((r.nodes.length + 1 : Nat) : Int) := fun q hq => by have := h5 q hq; omega
      split at hq
      · rcases List.mem_append.1 hq with hq | hq
        · exact key q hq
        · simp at hq
          subst hq
          exact ⟨by dsimp only; omega, by dsimp only; omega⟩
      · exact key q hq
theorem runR_inv (ws : List Word) : ∀ (k : Nat) (r r' : RSt), RInv k r → runR r ws = .ok r' → RInv (k + ws.length) r' := by
  induction ws with
  | nil =>
    intro k r r' h hr
    injection hr with hr
    subst hr
    exact h
  | cons w ws ih =>
    intro k r r' h hr
    unfold runR at hr
    cases hs : stepR r w with
    | error f => rw [hs] at hr; cases hr
    | ok r1 =>
      rw [hs] at hr
      have := ih (k + 1) r1 r' (stepR_inv h hs) hr
      rw [List.length_cons, show k + (ws.length + 1) = k + 1 + ws.length by omega]
      exact this
theorem r0_inv : RInv 0 r0 := ⟨Nat.le_refl 0, Nat.le_refl 0, fun x hx => (by cases hx), (by decide), fun o ho => (by cases ho)⟩
theorem run_inv {ws : List Word} {k : Nat} {r : RSt} (h : runR r0 (ws.take k) = .ok r) : RInv k r := by
  have := runR_inv (ws.take k) 0 r0 r r0_inv h
  have hl : (ws.take k).length ≤ k := List.length_take_le _ _
  obtain ⟨a, b, c, d, e⟩ := this
  exact ⟨by omega, by omega, fun x hx => by have := c x hx; omega, d, e⟩
/-- The nodes' ways are those of the words. -/
theorem addF_names {nodes : List Node} {top : List Int} {st : List Opn} {n : Int} {m : Nat} (hl : ∀ x ∈ nodes, x.names.length ≤ m) : ∀ x ∈ (addF nodes top st n).1, x.names.length ≤ m := by
  unfold addF
  cases st.getLast? with
  | none => exact hl
  | some o =>
    intro x hx
    rcases mem_modify hx with h | ⟨y, hy, rfl⟩
    · exact hl x h
    · have := hl y hy
      cases o.els <;> exact this
theorem stepR_names {r r' : RSt} {w : Word} {m : Nat} (h : ∀ x ∈ r.nodes, x.names.length ≤ m) (hw : w.names.length ≤ m) (hs : stepR r w = .ok r') : ∀ x ∈ r'.nodes, x.names.length ≤ m := by
  unfold stepR at hs
  by_cases k3 : w.kind = 3
  · rw [if_pos k3] at hs
    cases hl : r.st.getLast? with
    | none => rw [hl] at hs; cases hs
    | some o =>
      rw [hl] at hs
      dsimp only at hs
      split at hs
      · cases hs
      · injection hs with hs
        subst hs
        intro x hx
        rcases mem_modify hx with h1 | ⟨y, hy, rfl⟩
        · exact h x h1
        · exact h y hy
  rw [if_neg k3] at hs
  by_cases k5 : w.kind = 5
  · rw [if_pos k5] at hs
    cases hl : r.st.getLast? with
    | none => rw [hl] at hs; cases hs
    | some o =>
      rw [hl] at hs
      injection hs with hs
      subst hs
      exact h
  rw [if_neg k5] at hs
  split at hs
  · cases hs
  · injection hs with hs
    subst hs
    exact addF_names (fun x hx => by
      rcases List.mem_append.1 hx with hx | hx
      · exact h x hx
      · simp at hx
        subst hx
        exact hw)
theorem runR_names {m : Nat} (ws : List Word) : ∀ (r r' : RSt), (∀ x ∈ r.nodes, x.names.length ≤ m) → (∀ w ∈ ws, w.names.length ≤ m) → runR r ws = .ok r' → ∀ x ∈ r'.nodes, x.names.length ≤ m := by
  induction ws with
  | nil =>
    intro r r' h hw hr
    injection hr with hr
    subst hr
    exact h
  | cons w ws ih =>
    intro r r' h hw hr
    cases hs : stepR r w with
    | error f => rw [runR_err hs] at hr; cases hr
    | ok r1 =>
      rw [runR_ok hs] at hr
      exact ih r1 r' (stepR_names h (hw w List.mem_cons_self) hs) (fun v hv => hw v (List.mem_cons_of_mem _ hv)) hr
/-- The words' kinds. -/
theorem actionF_kind (s : List UInt8) : 0 ≤ (actionF s).1 ∧ (actionF s).1 < 7 := by
  unfold actionF
  dsimp only
  repeat' split
  all_goals (constructor <;> (dsimp only; omega))
theorem lexF_kind : ∀ (n : Nat) (at_ : Int) (r : List UInt8), ∀ x ∈ (lexF n at_ r).1, 0 ≤ x.kind ∧ x.kind < 7
  | 0, at_, r => by simp [lexF]
  | n + 1, at_, r => by
    unfold lexF
    by_cases h0 : r = []
    · rw [if_pos h0]; simp
    rw [if_neg h0]
    by_cases h1 : 0 < litLen r
    · rw [if_pos h1]
      intro x hx
      rcases List.mem_cons.1 hx with rfl | hx
      · exact ⟨by dsimp only; omega, by dsimp only; omega⟩
      · exact lexF_kind n _ _ x hx
    rw [if_neg h1]
    by_cases h2 : closeAt r < 0
    · rw [if_pos h2]; simp
    rw [if_neg h2]
    split
    · intro x hx
      rcases List.mem_cons.1 hx with rfl | hx
      · exact actionF_kind _
      · exact lexF_kind n _ _ x hx
    · simp
end Go.Proofs.YtcggeaobonblfaaDoor

/- parse.copied: walked. -/
namespace Go.Proofs.YtcggeaobonblfaaDoor
set_option linter.unusedSimpArgs false
set_option linter.unusedVariables false
open Go Go.RowKit Go.Proofs.YtcggeaobonblfaaDoorW.PrintLast
/-- Between two rounds: the first j nodes have their own names. -/
def CopyInv (B base : Nat) (ps : List NodeV) (nv tv : Value) (w : World) (j : Nat) (W : World) : Prop :=
  ∃ qs : List NodeV, qs.map NodeV.x = ps.map NodeV.x ∧ W.ownsRow base 66 9 nv qs.length (qs.flatMap nodeCells) ∧
    (∀ i p, qs[i]? = some p → (i < j → WayAt W base p.nv p.x.names) ∧ (j ≤ i → NamesRd B W p.nv p.x.names) ∧ IntsAt W base p.bv p.x.body ∧ IntsAt W base p.ev p.x.els) ∧
    (∀ P, Fr base P w W) ∧ W.heap[w.heap.size]? = some (.cells #[nv, tv] 26) ∧ W.heap[w.heap.size + 1]? = some (.cells #[.slice none 0 0, .slice none 0 0] 26)
def CopyPost (base : Nat) (ps : List NodeV) (nv tv : Value) (w : World) (e : Ending) (W : World) : Prop :=
  e = .returned (.agg #[nv, tv]) ∧ (∃ qs : List NodeV, qs.map NodeV.x = ps.map NodeV.x ∧ W.ownsRow base 66 9 nv qs.length (qs.flatMap nodeCells) ∧
    (∀ p ∈ qs, WayAt W base p.nv p.x.names ∧ IntsAt W base p.bv p.x.body ∧ IntsAt W base p.ev p.x.els)) ∧ (∀ P, Fr base P w W)

theorem set_case {α : Type} {l : List α} {i k : Nat} {a x : α} (h : (l.set i a)[k]? = some x) : (k = i ∧ x = a) ∨ (k ≠ i ∧ l[k]? = some x) := by
  by_cases e : i = k
  · subst e
    have hlt := (List.getElem?_eq_some_iff.1 h).1
    rw [List.getElem?_set_self (by simpa using hlt)] at h
    exact .inl ⟨rfl, (Option.some.inj h).symm⟩
  · rw [List.getElem?_set_ne e] at h
    exact .inr ⟨fun h2 => e h2.symm, h⟩
/-- One round's doing. -/
theorem copy_step {B base : Nat} {ps : List NodeV} {tv : Value} {w W w1 : World} {j g n c : Nat} {qs : List NodeV} {p : NodeV} {v : Value} {o : Obj} (hB : B ≤ base) (hbw : base ≤ w.heap.size)
    (hmap : qs.map NodeV.x = ps.map NodeV.x) (ho : W.ownsRow base 66 9 (.slice (some ⟨g, 0, none⟩) n c) qs.length (qs.flatMap nodeCells))
    (hq : ∀ i p, qs[i]? = some p → (i < j → WayAt W base p.nv p.x.names) ∧ (j ≤ i → NamesRd B W p.nv p.x.names) ∧ IntsAt W base p.bv p.x.body ∧ IntsAt W base p.ev p.x.els)
    (hfr : ∀ P, Fr base P w W) (hbox : W.heap[w.heap.size]? = some (.cells #[.slice (some ⟨g, 0, none⟩) n c, tv] 26)) (hres : W.heap[w.heap.size + 1]? = some (.cells #[.slice none 0 0, .slice none 0 0] 26))
    (hp : qs[j]? = some p) (hgrow : (W.alloc o).grownBy w1 none) (hown : WayAt w1 base v p.x.names) :
    CopyInv B base ps (.slice (some ⟨g, 0, none⟩) n c) tv w (j + 1) (w1.setCell ⟨g, j * 9 + 4, none⟩ v) := by
  obtain rfl : n = qs.length := by
    rcases ho.2 with ⟨e, h0⟩ | ⟨g', cap, cur, e, _⟩
    · cases e
    · cases e; rfl
  have hg1 : W.grownBy w1 none := grown_two (World.grownBy_alloc W _ none) hgrow
  obtain ⟨cells, hty⟩ := row_type ho g rfl
  have hbg : base ≤ g := row_base ho g rfl
  have hty1 : w1.heap[g]? = some (.cells cells 66) := (hg1.block g (World.heap_lt hty) (by simp)).trans hty
  have ho1 := ho.kept hg1 (.inr (by simp [Value.ownBlock]))
  have hst := (World.ownsRow.stored ho1 (j * 9 + 4) v).1
  rw [flat9_set qs j p { p with nv := v } 4 v hp (by omega) rfl] at hst
  have hset := grown_set w1 g (j * 9 + 4) v
  have key : ∀ {e size n : Nat} {u : Value} {xs : List Value}, e ≠ 66 → W.ownsRow base e size u n xs → (w1.setCell ⟨g, j * 9 + 4, none⟩ v).ownsRow base e size u n xs := fun he h =>
    row_else (World.ownsRow.kept h hg1 (Decidable.em _)) hset (fun k e => by cases e; exact ⟨_, hty1⟩) he
  refine ⟨qs.set j { p with nv := v }, ?_, by simpa using hst, ?_, ?_, ?_, ?_⟩
  · rw [map_set qs id j p { p with nv := v } hp rfl, ← hmap]
    simp [List.modify_id]
  · intro i q hiq
    rcases set_case hiq with ⟨rfl, rfl⟩ | ⟨hne, hiq'⟩
    · obtain ⟨-, -, h3, h4⟩ := hq i p hp
      exact ⟨fun _ => row_else hown hset (fun k e => by cases e; exact ⟨_, hty1⟩) (by decide), fun h => by omega, key (by decide) h3, key (by decide) h4⟩
    · obtain ⟨h1, h2, h3, h4⟩ := hq i q hiq'
      refine ⟨fun h => key (by decide) (h1 (by omega)), fun h => ?_, key (by decide) h3, key (by decide) h4⟩
      exact ((h2 (by omega)).below (Below.refl _ _ |>.grown hg1 (by have := (hfr 0).size; omega) (fun k e => by cases e))).below ((Below.refl _ _).setCell (p := ⟨g, j * 9 + 4, none⟩) (by dsimp only; omega) _)
  · intro P
    exact (fr_grow ((hfr P).alloc hbw o) hgrow hbw (fun k e => by cases e)).set (p := ⟨g, j * 9 + 4, none⟩) hbg (.inr ⟨_, hty1⟩) _
  · exact blk_far ((hg1.block _ (World.heap_lt hbox) (by simp)).trans hbox) (p := ⟨g, j * 9 + 4, none⟩) (by rintro rfl; rw [hty] at hbox; cases hbox) _
  · exact blk_far ((hg1.block _ (World.heap_lt hres) (by simp)).trans hres) (p := ⟨g, j * 9 + 4, none⟩) (by intro e; rw [e, hty] at hres; cases hres) _

/-- append([]string(nil), names...), as one step of a region that draws its order. -/
theorem step_names {P : Program} {ops : Array Oper} {o : Oper} {a : Act} {K : Act → World → Prop} {Q : Exit → Act → World → Prop} {E : Prop} {W : World} (hgd : o.guard = none) (s x : Operand) (t : TypeId)
    (ho : o.op = .call { callee := .builtin .append, args := #[s, x], argTypes := #[t, t] })
    (base : Nat) (i : TypeInfo) (z : Value) (ht : P.underlying t = some (.slice 9)) (hi : P.info? 9 = some i) (hz : i.zero = some z)
    (hsize : i.size = 1) (hby : i.bytes = 16) (hzs : z.cells.size = 1) (hs : a.eval s = .slice none 0 0) (names : List (List UInt8)) (A : Option Addr) (c : Nat) (hx : a.eval x = .slice A names.length c)
    (hnj : ∀ (j : Nat) n, names[j]? = some n → ∃ b, A = some ⟨b, 0, none⟩ ∧ W.cell? ⟨b, j, none⟩ = some (encS n)) (hl : names.length ≤ 100000) (hbase : base ≤ W.heap.size)
    (h : ∀ v' w', WayAt w' base v' names → W.grownBy w' none → K (a.put o.dst v') w') :
    if Region.wanted o (yielded ops a.tmps) = true then Oper.wp P o a W K Q else E := by
  cases A with
  | none =>
    have hnil : names = [] := by
      cases names with
      | nil => rfl
      | cons n r => obtain ⟨b, e, _⟩ := hnj 0 n rfl; cases e
    subst hnil
    rw [if_pos (by simp [Region.wanted, hgd])]
    have hr : (Builtin.append_ #[t, t] o.type #[.slice none 0 0, .slice none 0 c]).run P W = .ok (.slice none 0 0) W := by
      simp [Builtin.append_, run_underlying ht, sizeOf, typeInfo, hi, Builtin.lenOf, Builtin.firstCells]
    unfold Oper.wp execOp
    simp only [ho, resolve, invoke, builtin, Sem.run_bind, Sem.run_pure, Result.andThen_ok, List.map_toArray, List.map_cons, List.map_nil, hs, hx, List.length_nil, hr]
    exact h _ _ (way_none _ _) ⟨rfl, rfl, rfl, Nat.le_refl _, fun _ _ _ => rfl⟩
  | some ad =>
    refine step_grow hgd s x t ho base 9 i z 1 16 ht hi hz hsize hby hzs (by decide) (.slice none 0 0) 0 [] hs (World.ownsRow_nil W base 9 1) ad names.length c (names.map encS) hx (by simp) ?_ ?_ ?_ ?_ hbase ?_
    · intro j u hu
      obtain ⟨n, hn, rfl⟩ : ∃ n, names[j]? = some n ∧ encS n = u := by simpa using hu
      obtain ⟨b, e, hc⟩ := hnj j n hn
      cases e
      rw [addr_add]
      exact hc
    · intro u hu
      obtain ⟨n, -, rfl⟩ := List.mem_map.1 hu
      rfl
    · unfold maxLen; omega
    · omega
    · intro v' w' h1 h2
      exact h v' w' (by simpa [WayAt] using h1) h2

set_option maxRecDepth 100000 in
set_option maxHeartbeats 2000000 in
theorem copied_any (B base : Nat) (ps : List NodeV) (nv tv : Value) (w : World) (hl : ps.length ≤ 100000) (hk : ∀ p ∈ ps, p.x.names.length ≤ 100000) (hB : B ≤ base) (hbw : base ≤ w.heap.size)
    (hns : NodesAt B base (fun _ => False) w nv ps) (htv : ∃ A n c, tv = .slice A n c) :
    Calls Tryd.prog 40 #[.agg #[nv, tv]] w (CopyPost base ps nv tv w) := by
  obtain ⟨TA, TN, TC, rfl⟩ := htv
  obtain ⟨LA, LC, rfl⟩ := nodes_slice hns
  have Hk := Lib.hid hk
  have Hns := Lib.hid hns
  clear hk hns
  go_enter Tryd.func40, Tryd.ntmps40
  go_wp2_with fail
  have H0 : Hid (CopyInv B base ps (.slice LA ps.length LC) (.slice TA TN TC) w 0 ((w.alloc (.cells #[.slice LA ps.length LC, .slice TA TN TC] 26)).alloc (.cells #[.slice none 0 0, .slice none 0 0] 26))) := Lib.hid (by
    have hb := ((Below.refl w.heap.size w).alloc (Nat.le_refl _) (.cells #[.slice LA ps.length LC, .slice TA TN TC] 26)).alloc (by simp) (.cells #[.slice none 0 0, .slice none 0 0] 26)
    refine ⟨ps, rfl, (Hns.out.1.alloc _).alloc _, fun i p hp => ?_, fun P => Fr.of_below hb hbw, ?_, ?_⟩
    · obtain ⟨h1, h2, h3, -, -⟩ := Hns.out.2 p (List.mem_of_getElem? hp)
      exact ⟨fun h => by omega, fun _ => h1.below (hb.mono (by omega)), (World.ownsRow.alloc h2 _).alloc _, (World.ownsRow.alloc h3 _).alloc _⟩
    · exact (heap_old (by simp)).trans (World.alloc_heap_new w _)
    · have := World.alloc_heap_new (w.alloc (.cells #[.slice LA ps.length LC, .slice TA TN TC] 26)) (.cells #[.slice none 0 0, .slice none 0 0] 26)
      simpa using this)
  go_loopw [8] (fun a wr => ∃ j : Nat, j ≤ ps.length ∧ a = .int .i64 j ∧ Hid (CopyInv B base ps (.slice LA ps.length LC) (.slice TA TN TC) w j wr)) (fun a _ => ps.length - (intOf a).toNat)
  case atStart => exact ⟨0, Nat.zero_le _, rfl, H0⟩
  case round =>
    clear H0 Hns
    obtain ⟨j, hj, rfl, hI⟩ := hrel
    obtain ⟨qs, hmap, ho, hq, hfr, hbox, hres⟩ := hI.out
    have hql : qs.length = ps.length := by simpa using congrArg List.length hmap
    by_cases hlt : j < ps.length
    · obtain ⟨p, hp⟩ : ∃ p, qs[j]? = some p := ⟨_, List.getElem?_eq_getElem (by omega)⟩
      have hp' : p.x ∈ ps.map NodeV.x := by rw [← hmap]; exact List.mem_map_of_mem (List.mem_of_getElem? hp)
      have hkp : p.x.names.length ≤ 100000 := by
        obtain ⟨q, hq1, hq2⟩ := List.mem_map.1 hp'
        rw [← hq2]; exact Hk.out q hq1
      obtain ⟨-, hnr, hbv, hev⟩ := hq j p hp
      obtain ⟨NA, NC, hnv, hnj, -⟩ := hnr (Nat.le_refl _)
      obtain ⟨BA, BC, hbe⟩ := ints_slice hbv
      obtain ⟨EA, EC, hee⟩ := ints_slice hev
      have hcell : ∀ c u, c < 9 → (nodeCells p)[c]? = some u → ∃ g, LA = some ⟨g, 0, none⟩ ∧ base ≤ g ∧ g < wr.heap.size ∧ wr.cell? ⟨g, j * 9 + c, none⟩ = some u := fun c u hc hu => by
        obtain ⟨g, cap, e, hb, hlt, hcc⟩ := row_cell ho (j * 9 + c) u (by rw [flat9 qs j p hp c hc]; exact hu)
        injection e with e1 e2 e3
        exact ⟨g, e1, hb, hlt, hcc⟩
      obtain ⟨g, hLA, hbg, hgl, m0⟩ := hcell 0 _ (by omega) rfl
      rw [hLA] at ho hbox ⊢
      obtain ⟨_, e1, -, -, m1⟩ := hcell 1 _ (by omega) rfl; rw [hLA] at e1; cases e1
      obtain ⟨_, e1, -, -, m2⟩ := hcell 2 _ (by omega) rfl; rw [hLA] at e1; cases e1
      obtain ⟨_, e1, -, -, m3⟩ := hcell 3 _ (by omega) rfl; rw [hLA] at e1; cases e1
      obtain ⟨_, e1, -, -, m4⟩ := hcell 4 _ (by omega) rfl; rw [hLA] at e1; cases e1
      obtain ⟨_, e1, -, -, m5⟩ := hcell 5 _ (by omega) rfl; rw [hLA] at e1; cases e1
      obtain ⟨_, e1, -, -, m6⟩ := hcell 6 _ (by omega) rfl; rw [hLA] at e1; cases e1
      obtain ⟨_, e1, -, -, m7⟩ := hcell 7 _ (by omega) rfl; rw [hLA] at e1; cases e1
      obtain ⟨_, e1, -, -, m8⟩ := hcell 8 _ (by omega) rfl; rw [hLA] at e1; cases e1
      rw [Nat.add_zero] at m0
      rw [hnv] at m4
      rw [hbe] at m5
      rw [hee] at m6
      have b0 : wr.cell? ⟨w.heap.size, 0, none⟩ = some (.slice (some ⟨g, 0, none⟩) ps.length LC) := by simp [World.cell?, hbox]
      have hbl : w.heap.size < wr.heap.size := World.heap_lt hbox
      have hgn : g ≠ w.heap.size := by obtain ⟨cells, hty⟩ := row_type ho g rfl; rintro rfl; rw [hty] at hbox; cases hbox
      have Hmap := Lib.hid hmap
      have Ho := Lib.hid ho
      have Hq := Lib.hid hq
      have Hfr := Lib.hid hfr
      have Hbox := Lib.hid hbox
      have Hres := Lib.hid hres
      have Hp := Lib.hid hp
      have Hnj := Lib.hid hnj
      have Hnv := Lib.hid hnv
      have hfz : wr.frozen? ⟨g, j * 9 + 4, none⟩ = false := World.ownsRow.frozenAt (hql ▸ ho) _
      clear hmap ho hq hfr hbox hres hp hnr hbv hev hnj hnv hbe hee hp' hcell hI
      obtain ⟨i0, hi0, hz0, hz1, hz2⟩ := info_parts Tryd.info9
      go_wp2_with fail
      refine start_ (n := 11) (S := fun w' => w'.cell? ⟨w.heap.size, 0, none⟩ = some (.slice (some ⟨g, 0, none⟩) ps.length LC) ∧ w'.cell? ⟨wr.heap.size, 4, none⟩ = some (.slice NA p.x.names.length NC)) (ds := [10]) #[false, false, false, false, false, false, false, false, false, false, false] (by kernel_rfl) rfl rfl ⟨(World.cell?_alloc_past _ _ _ hbl).trans b0, by simp⟩ (fun hHeld => ?_)
      refine pure_ (i := 0) (N := (some 13)) (v := ?_) (a' := ?_) #[true, false, false, false, false, false, false, false, false, false, false] rfl rfl (by kernel_rfl) (fun _ _ _ h => h) (Or.inl ⟨by rfl, ?_⟩) ?_ ?_
      rotate_left
      · intro w'
        go_simp
        with_reducible rfl
      rotate_left
      · simp only [Act.put, List.setIfInBounds_toArray, List.set_cons_zero, List.set_cons_succ, i64_w, i32_w]
        rfl
      refine take_ (i := 1) (N := (some 14)) (v := ?_) (a' := ?_) #[true, true, false, false, false, false, false, false, false, false, false] rfl rfl (by kernel_rfl) (fun _ _ _ h => h) (Or.inl ⟨by rfl, ?_⟩) hHeld ?_ ?_
      rotate_left
      · rintro w' ⟨s0, s1⟩
        go_simp
        with_reducible rfl
      rotate_left
      · simp only [Act.put, List.setIfInBounds_toArray, List.set_cons_zero, List.set_cons_succ, i64_w, i32_w]
        rfl
      refine pure_ (i := 2) (N := (some 15)) (v := ?_) (a' := ?_) #[true, true, true, false, false, false, false, false, false, false, false] rfl rfl (by kernel_rfl) (fun _ _ _ h => h) (Or.inl ⟨by rfl, ?_⟩) ?_ ?_
      rotate_left
      · intro w'
        go_simp
        with_reducible rfl
      rotate_left
      · simp only [Act.put, List.setIfInBounds_toArray, List.set_cons_zero, List.set_cons_succ, i64_w, i32_w]
        rfl
      refine pure_ (i := 3) (N := (some 16)) (v := ?_) (a' := ?_) #[true, true, true, true, false, false, false, false, false, false, false] rfl rfl (by kernel_rfl) (fun _ _ _ h => h) (Or.inl ⟨by rfl, ?_⟩) ?_ ?_
      rotate_left
      · intro w'
        go_simp
        with_reducible rfl
      rotate_left
      · simp only [Act.put, List.setIfInBounds_toArray, List.set_cons_zero, List.set_cons_succ, i64_w, i32_w]
        rfl
      refine pure_ (i := 4) (N := (some 17)) (v := ?_) (a' := ?_) #[true, true, true, true, true, false, false, false, false, false, false] rfl rfl (by kernel_rfl) (fun _ _ _ h => h) (Or.inl ⟨by rfl, ?_⟩) ?_ ?_
      rotate_left
      · intro w'
        go_simp
        with_reducible rfl
      rotate_left
      · simp only [Act.put, List.setIfInBounds_toArray, List.set_cons_zero, List.set_cons_succ, i64_w, i32_w]
        rfl
      refine take_ (i := 5) (N := (some 18)) (v := ?_) (a' := ?_) #[true, true, true, true, true, true, false, false, false, false, false] rfl rfl (by kernel_rfl) (fun _ _ _ h => h) (Or.inl ⟨by rfl, ?_⟩) hHeld ?_ ?_
      rotate_left
      · rintro w' ⟨s0, s1⟩
        go_simp
        with_reducible rfl
      rotate_left
      · simp only [Act.put, List.setIfInBounds_toArray, List.set_cons_zero, List.set_cons_succ, i64_w, i32_w]
        rfl
      refine one_ (i := 6) (N := (some 19)) #[true, true, true, true, true, true, true, false, false, false, false] rfl rfl (by kernel_rfl) (by decide) (fun K hK => ?_)
      refine step_names rfl _ _ 61 rfl base i0 _ Tryd.underlying61 hi0 hz0 hz1 hz2 rfl rfl p.x.names NA NC rfl (fun k n hn => by
        obtain ⟨b, e, hb, hc⟩ := Hnj.out k n hn
        exact ⟨b, e, (World.cell?_alloc_past _ _ _ (by omega)).trans hc⟩) hkp (by simp; omega) ?_
      intro v' w1 hown hgrow
      obtain ⟨VA, VC, rfl⟩ := way_slice hown
      obtain ⟨s0, s1⟩ := hHeld
      refine hK.out _ _ ⟨hgrow.cell s0 (by simp), hgrow.cell s1 (by simp)⟩ (fun hHeld => ?_)
      have hst : Hid (CopyInv B base ps (.slice (some ⟨g, 0, none⟩) ps.length LC) (.slice TA TN TC) w (j + 1) (w1.setCell ⟨g, j * 9 + 4, none⟩ (.slice VA p.x.names.length VC))) :=
        Lib.hid (copy_step (o := .cells #[.int .u8 p.x.kind, .int .i64 p.x.at_, .string ⟨p.x.text.toArray⟩, .bool p.x.root, .slice NA p.x.names.length NC, .slice BA p.x.body.length BC, .slice EA p.x.els.length EC, .bool p.x.has, .int .u8 p.x.hole] 66) hB hbw Hmap.out Ho.out Hq.out Hfr.out Hbox.out Hres.out Hp.out (grown_drew hgrow) hown)
      have t4 : w1.cell? ⟨g, j * 9 + 4, none⟩ = some (.slice NA p.x.names.length NC) := (grown_drew hgrow).cell ((World.cell?_alloc_past _ _ _ hgl).trans m4) (by simp)
      have tf : w1.frozen? ⟨g, j * 9 + 4, none⟩ = false := (World.frozen?_of_block (a := ⟨g, j * 9 + 4, none⟩) ((grown_drew hgrow).block g (by simp; omega) (by simp))).trans ((World.frozen?_of_block (a := ⟨g, j * 9 + 4, none⟩) (heap_old hgl)).trans hfz)
      clear hK K s0 s1 hown hgrow hi0 hz0 hz1 hz2 Hmap Ho Hq Hfr Hbox Hres Hp Hnj Hnv m0 m1 m2 m3 m4 m5 m6 m7 m8 b0 hfz
      refine norm_ (a' := ?_) ?_ ?_
      rotate_left
      · show Act.put _ (some 19) _ = _
        simp only [Act.put, List.setIfInBounds_toArray, List.set_cons_zero, List.set_cons_succ, i64_w, i32_w]
        rfl
      refine pure_ (i := 7) (N := (some 20)) (v := ?_) (a' := ?_) #[true, true, true, true, true, true, true, true, false, false, false] rfl rfl (by kernel_rfl) (fun _ _ _ h => h) (Or.inl ⟨by rfl, ?_⟩) ?_ ?_
      rotate_left
      · intro w'
        go_simp
        with_reducible rfl
      rotate_left
      · simp only [Act.put, List.setIfInBounds_toArray, List.set_cons_zero, List.set_cons_succ, i64_w, i32_w]
        rfl
      refine pure_ (i := 8) (N := (some 21)) (v := ?_) (a' := ?_) #[true, true, true, true, true, true, true, true, true, false, false] rfl rfl (by kernel_rfl) (fun _ _ _ h => h) (Or.inl ⟨by rfl, ?_⟩) ?_ ?_
      rotate_left
      · intro w'
        go_simp
        with_reducible rfl
      rotate_left
      · simp only [Act.put, List.setIfInBounds_toArray, List.set_cons_zero, List.set_cons_succ, i64_w, i32_w]
        rfl
      refine pure_ (i := 9) (N := (some 22)) (v := ?_) (a' := ?_) #[true, true, true, true, true, true, true, true, true, true, false] rfl rfl (by kernel_rfl) (fun _ _ _ h => h) (Or.inl ⟨by rfl, ?_⟩) ?_ ?_
      rotate_left
      · intro w'
        go_simp
        with_reducible rfl
      rotate_left
      · simp only [Act.put, List.setIfInBounds_toArray, List.set_cons_zero, List.set_cons_succ, i64_w, i32_w]
        rfl
      refine last_ (i := 10) (N := none) #[true, true, true, true, true, true, true, true, true, true, true] rfl rfl (by kernel_rfl) (by decide) (fun K hK => ?_)
      refine skip_ (w1 := ?_) (by rfl) rfl ?_ ?_
      rotate_left
      · go_simp
        rfl
      refine hK.out _ _ ?_
      clear hK K hHeld t4 tf
      refine done_ (by kernel_rfl) ?_
      obtain ⟨W9, hW9⟩ : ∃ W9, w1.setCell ⟨g, j * 9 + 4, none⟩ (.slice VA p.x.names.length VC) = W9 := ⟨_, rfl⟩
      rw [hW9] at hst ⊢
      clear hW9
      go_wp2
      exact ⟨⟨j + 1, by omega, by simp, hst⟩, by simp [intOf]; omega⟩
    · have hje : j = ps.length := by omega
      subst hje
      have b0 : wr.cell? ⟨w.heap.size, 0, none⟩ = some (.slice LA ps.length LC) := by simp [World.cell?, hbox]
      have b1 : wr.cell? ⟨w.heap.size, 1, none⟩ = some (.slice TA TN TC) := by simp [World.cell?, hbox]
      have r0 : wr.cell? ⟨w.heap.size + 1, 0, none⟩ = some (.slice none 0 0) := by simp [World.cell?, hres]
      have r1 : wr.cell? ⟨w.heap.size + 1, 1, none⟩ = some (.slice none 0 0) := by simp [World.cell?, hres]
      have q0 : wr.frozen? ⟨w.heap.size + 1, 0, none⟩ = false := by simp [World.frozen?, hres]
      have q1 : wr.frozen? ⟨w.heap.size + 1, 1, none⟩ = false := by simp [World.frozen?, hres]
      clear hbox hres hmap ho hq hfr hql
      go_wp2
      refine bodyPost_ret (v := .agg #[.slice LA ps.length LC, .slice TA TN TC]) (by simp [results, Tryd.results40, go_sem, r0, r1]) rfl ⟨rfl, ?_, ?_⟩
      all_goals obtain ⟨qs, hmap, ho, hq, hfr, hbox, hres⟩ := hI.out
      all_goals have hql : qs.length = ps.length := by simpa using congrArg List.length hmap
      · have h1 := grown_set wr (w.heap.size + 1) 0 (.slice LA ps.length LC)
        have h2 := grown_set (wr.setCell ⟨w.heap.size + 1, 0, none⟩ (.slice LA ps.length LC)) (w.heap.size + 1) 1 (.slice TA TN TC)
        have key : ∀ {e size n : Nat} {u : Value} {xs : List Value}, e ≠ 26 → wr.ownsRow base e size u n xs → ((wr.setCell ⟨w.heap.size + 1, 0, none⟩ (.slice LA ps.length LC)).setCell ⟨w.heap.size + 1, 1, none⟩ (.slice TA TN TC)).ownsRow base e size u n xs := fun he h =>
          row_else (row_else h h1 (fun k e => by cases e; exact ⟨_, hres⟩) he) h2 (fun k e => by cases e; exact ⟨_, blk_put hres 0 _⟩) he
        refine ⟨qs, hmap, key (by decide) ho, fun p hp => ?_⟩
        obtain ⟨i, hi⟩ := List.getElem?_of_mem hp
        obtain ⟨a, -, b, c⟩ := hq i p hi
        exact ⟨key (by decide) (a (by have := (List.getElem?_eq_some_iff.1 hi).1; omega)), key (by decide) b, key (by decide) c⟩
      · intro P
        exact fr_grow (fr_grow (hfr P) (grown_set wr (w.heap.size + 1) 0 _) hbw (fun k e => by cases e; omega)) (grown_set _ (w.heap.size + 1) 1 _) hbw (fun k e => by cases e; omega)
end Go.Proofs.YtcggeaobonblfaaDoor

/- parse.tree: walked. -/
namespace Go.Proofs.YtcggeaobonblfaaDoor
set_option linter.unusedSimpArgs false
set_option linter.unusedVariables false
open Go Go.RowKit
def treeF (ws : List Word) : Except Fault (List Int × List Node) :=
  match listP ws (ws.length + 1) 0 [] 0 [] with
  | .error f => .error f
  | .ok (top, i, nodes) => match ws[i]? with
    | some x => .error (x.at_, 4)
    | none => .ok (top, nodes)
/-- A tree in memory of the call's own. -/
def TreeAt (W : World) (base : Nat) (nv tv : Value) (nodes : List Node) (top : List Int) : Prop :=
  (∃ qs : List NodeV, qs.map NodeV.x = nodes ∧ W.ownsRow base 66 9 nv qs.length (qs.flatMap nodeCells) ∧
    (∀ p ∈ qs, WayAt W base p.nv p.x.names ∧ IntsAt W base p.bv p.x.body ∧ IntsAt W base p.ev p.x.els)) ∧ IntsAt W base tv top
def TreePost (w : World) (r : Except Fault (List Int × List Node)) (e : Ending) (w' : World) : Prop :=
  match r with
  | .error f => e = .returned (.tuple #[.agg #[.slice none 0 0, .slice none 0 0], .int .i64 f.1, .int .i64 f.2]) ∧ Below w.heap.size w w'
  | .ok (top, nodes) => ∃ nv tv, e = .returned (.tuple #[.agg #[nv, tv], .int .i64 0, .int .i64 0]) ∧ TreeAt w' w.heap.size nv tv nodes top ∧ Below w.heap.size w w'

theorem list_none (W : World) (B base P : Nat) (X : Nat → Prop) (wv : Value) (ws : List Word) (h : W.heap[P]? = some (.cells #[wv, .int .i64 0, .slice none 0 0, .slice none 0 0] 108)) (hw : WordsRd B W wv ws) (hB : B ≤ base) (hP : base ≤ P) :
    PSt B base X W P ws 0 [] :=
  ⟨wv, .slice none 0 0, [], rfl, h, hw, ⟨World.ownsRow_nil W base 66 9, fun p hp => by cases hp⟩, hB, hP⟩

set_option maxRecDepth 100000 in
set_option maxHeartbeats 2000000 in
theorem tree_any (wv : Value) (ws : List Word) (w : World) (hws : ws.length ≤ 100000) (hk : ∀ top i nodes, listP ws (ws.length + 1) 0 [] 0 [] = .ok (top, i, nodes) → ∀ x ∈ nodes, x.names.length ≤ 100000) (hw : WordsRd w.heap.size w wv ws) :
    Calls Tryd.prog 20 #[wv] w (TreePost w (treeF ws)) := by
  obtain ⟨wA, wc, rfl⟩ : ∃ A c, wv = .slice A ws.length c := by obtain ⟨A, c, e, _⟩ := hw; exact ⟨A, c, e⟩
  obtain ⟨W1, hW1⟩ : ∃ W1, (w.alloc (.cells #[.slice none 0 0, .slice none 0 0] 26)).alloc (.cells #[.slice wA ws.length wc, .int .i64 0, .slice none 0 0, .slice none 0 0] 108) = W1 := ⟨_, rfl⟩
  have hb1 : Below w.heap.size w W1 := by rw [← hW1]; exact ((Below.refl w.heap.size w).alloc (Nat.le_refl _) _).alloc (by simp) _
  have hP1 : W1.heap[w.heap.size + 1]? = some (.cells #[.slice wA ws.length wc, .int .i64 0, .slice none 0 0, .slice none 0 0] 108) := by
    rw [← hW1]
    have := World.alloc_heap_new (w.alloc (.cells #[.slice none 0 0, .slice none 0 0] 26)) (.cells #[.slice wA ws.length wc, .int .i64 0, .slice none 0 0, .slice none 0 0] 108)
    simpa using this
  have hR1 : W1.heap[w.heap.size]? = some (.cells #[.slice none 0 0, .slice none 0 0] 26) := by
    rw [← hW1]
    exact (heap_old (by simp)).trans (World.alloc_heap_new w _)
  have hst := list_none W1 w.heap.size w.heap.size (w.heap.size + 1) (fun _ => False) _ ws hP1 (hw.below hb1) (Nat.le_refl _) (by omega)
  have HL : Calls Tryd.prog 39 #[.pointer (some ⟨w.heap.size + 1, 0, none⟩), .int .i64 0] W1 (ListPost w.heap.size w.heap.size (fun _ => False) (w.heap.size + 1) ws W1 (listP ws (ws.length + 1) 0 [] 0 [])) :=
    (list_any w.heap.size w.heap.size (w.heap.size + 1) ws hws (ws.length + 1) (fun _ => False) 0 [] 0 W1 (by omega) (by omega) (by simp) (by omega) hst (fun k h => h.elim)).1
  have HG := listP_goes ws (ws.length + 1) 0 [] 0 [] (Nat.zero_le _) (Nat.le_refl _)
  have Hb1 := Lib.hid hb1
  have HR1 := Lib.hid hR1
  have HP1 := Lib.hid hP1
  have HW1 := Lib.hid hW1
  have Hw := Lib.hid hw
  have hPR : w.heap.size ≠ w.heap.size + 1 := by omega
  clear hb1 hP1 hR1 hst hW1 hw
  cases hR : listP ws (ws.length + 1) 0 [] 0 [] with
  | error f =>
    have HT : Hid (treeF ws = .error f) := Lib.hid (by unfold treeF; rw [hR])
    rw [hR] at HL
    have HL' := Lib.hid HL
    clear HL HG hk hR
    go_enter Tryd.func20, Tryd.ntmps20
    go_wp2_with (go_at_call 39; refine halt ?_)
    refine Halted.mk' ?_
    rw [HW1.out]
    refine (HL'.out).mono ?_
    rintro e w2 ⟨v, rfl, ⟨q, rfl, hq⟩, hf⟩
    have r2 := hf.blk HR1.out hPR (by decide)
    have hqR : q ≠ w.heap.size := by rintro rfl; rw [hq] at r2; cases r2
    have hqR' : w.heap.size ≠ q := fun e => hqR e.symm
    have v0 : w2.cell? ⟨q, 0, none⟩ = some (.int .i64 f.1) := by simp [World.cell?, hq]
    have v1 : w2.cell? ⟨q, 1, none⟩ = some (.int .i64 f.2) := by simp [World.cell?, hq]
    have z0 : w2.cell? ⟨w.heap.size, 0, none⟩ = some (.slice none 0 0) := by simp [World.cell?, r2]
    have z1 : w2.cell? ⟨w.heap.size, 1, none⟩ = some (.slice none 0 0) := by simp [World.cell?, r2]
    have zf : w2.frozen? ⟨w.heap.size, 0, none⟩ = false := by simp [World.frozen?, r2]
    have zg : w2.frozen? ⟨w.heap.size, 1, none⟩ = false := by simp [World.frozen?, r2]
    have Hf := Lib.hid hf
    clear hf hq HL' r2
    go_wp2
    go_region
    go_wp2
    refine bodyPost_ret (v := .tuple #[.agg #[.slice none 0 0, .slice none 0 0], .int .i64 f.1, .int .i64 f.2]) (by simp [results, Tryd.results20, go_sem, z0, z1]) rfl ?_
    rw [HT.out]
    exact ⟨rfl, by repeat (first | exact Hb1.out.trans Hf.out.below | refine Below.drew ?_ | refine Below.setCell ?_ (by simp) _ | refine Below.alloc ?_ (by simp only [size_set]; omega) _)⟩
  | ok r =>
    obtain ⟨top, i1, nodes⟩ := r
    rw [hR] at HL HG
    obtain ⟨-, hi1, -, hn1⟩ := HG
    have HL' := Lib.hid HL
    have Hk := Lib.hid (hk top i1 nodes hR)
    clear HL hk
    cases hx : ws[i1]? with
    | some y =>
      have HT : Hid (treeF ws = .error (y.at_, 4)) := Lib.hid (by unfold treeF; rw [hR]; dsimp only; rw [hx])
      clear hR
      have hlt : i1 < ws.length := (List.getElem?_eq_some_iff.1 hx).1
      go_enter Tryd.func20, Tryd.ntmps20
      go_wp2_with (go_at_call 39; refine halt ?_)
      refine Halted.mk' ?_
      rw [HW1.out]
      refine (HL'.out).mono ?_
      rintro e w2 ⟨v, rfl, hv, hst2, hf⟩
      obtain ⟨vA, vc, rfl⟩ := ints_slice hv
      have r2 := hf.blk HR1.out hPR (by decide)
      obtain ⟨wv2, lv, ps, hmap, hb, hwr, hns, -, -⟩ := id hst2
      obtain ⟨wA2, wc2, rfl⟩ : ∃ A c, wv2 = .slice A ws.length c := by obtain ⟨A, c, e, _⟩ := hwr; exact ⟨A, c, e⟩
      obtain ⟨A', c', e', hword⟩ := (Hw.out.below (Hb1.out.trans (hf.below.mono (Nat.le_refl _))))
      cases e'
      obtain ⟨q, nv, rfl, hql, k0, k1, -⟩ := hword i1 y hx
      have c1 : w2.cell? ⟨w.heap.size + 1, 1, none⟩ = some (.int .i64 i1) := by simp [World.cell?, hb]
      have z0 : w2.cell? ⟨w.heap.size, 0, none⟩ = some (.slice none 0 0) := by simp [World.cell?, r2]
      have z1 : w2.cell? ⟨w.heap.size, 1, none⟩ = some (.slice none 0 0) := by simp [World.cell?, r2]
      have zf : w2.frozen? ⟨w.heap.size, 0, none⟩ = false := by simp [World.frozen?, r2]
      have zg : w2.frozen? ⟨w.heap.size, 1, none⟩ = false := by simp [World.frozen?, r2]
      have d6 : decide ((i1 : Int) < (ws.length : Int)) = true := by simp; omega
      have hRl : w.heap.size < w2.heap.size := World.heap_lt r2
      have Hf := Lib.hid hf
      clear hf hst2 hmap hb hwr hns r2 hv hword HL' hx Hw
      go_wp2
      go_region
      go_wp2
      refine bodyPost_ret (v := .tuple #[.agg #[.slice none 0 0, .slice none 0 0], .int .i64 y.at_, .int .i64 4]) (by simp [results, Tryd.results20, go_sem, z0, z1, hRl]) rfl ?_
      rw [HT.out]
      exact ⟨rfl, by repeat (first | exact Hb1.out.trans Hf.out.below | refine Below.drew ?_ | refine Below.setCell ?_ (by simp) _ | refine Below.alloc ?_ (by simp only [size_set]; omega) _)⟩
    | none =>
      have HT : Hid (treeF ws = .ok (top, nodes)) := Lib.hid (by unfold treeF; rw [hR]; dsimp only; rw [hx])
      have hge : ws.length ≤ i1 := List.getElem?_eq_none_iff.1 hx
      clear hR hx
      go_enter Tryd.func20, Tryd.ntmps20
      go_wp2_with (go_at_call 39; refine halt ?_)
      refine Halted.mk' ?_
      rw [HW1.out]
      refine (HL'.out).mono ?_
      rintro e w2 ⟨v, rfl, hv, hst2, hf⟩
      obtain ⟨vA, vc, rfl⟩ := ints_slice hv
      have r2 := hf.blk HR1.out hPR (by decide)
      obtain ⟨wv2, lv, ps, hmap, hb, hwr, hns, -, -⟩ := id hst2
      obtain ⟨LA, LC, rfl⟩ := nodes_slice hns
      have c1 : w2.cell? ⟨w.heap.size + 1, 1, none⟩ = some (.int .i64 i1) := by simp [World.cell?, hb]
      have c2 : w2.cell? ⟨w.heap.size + 1, 2, none⟩ = some (.slice LA ps.length LC) := by simp [World.cell?, hb]
      have c3 : w2.cell? ⟨w.heap.size + 1, 3, none⟩ = some (.slice none 0 0) := by simp [World.cell?, hb]
      have f3 : w2.frozen? ⟨w.heap.size + 1, 3, none⟩ = false := by simp [World.frozen?, hb]
      have d6 : decide ((i1 : Int) < (ws.length : Int)) = false := by simp; omega
      have hpl : ps.length ≤ 100000 := by have := congrArg List.length hmap; simp at this; omega
      have hPl : w.heap.size + 1 < w2.heap.size := World.heap_lt hb
      obtain ⟨W3, hW3⟩ : ∃ W3, w2.setCell ⟨w.heap.size + 1, 3, none⟩ (.slice vA top.length vc) = W3 := ⟨_, rfl⟩
      have hset := grown_set w2 (w.heap.size + 1) 3 (.slice vA top.length vc)
      rw [hW3] at hset
      have hP3 : ∃ cs, W3.heap[w.heap.size + 1]? = some (.cells cs 108) := by rw [← hW3]; exact ⟨_, blk_put hb 3 _⟩
      have hR3 : W3.heap[w.heap.size]? = some (.cells #[.slice none 0 0, .slice none 0 0] 26) := by rw [← hW3]; exact blk_far r2 (p := ⟨w.heap.size + 1, 3, none⟩) hPR _
      have hns3 : NodesAt w.heap.size w.heap.size (fun _ => False) W3 (.slice LA ps.length LC) ps := by
        refine (hns.mono (Y := fun _ => False) (fun k h => h.elim)).step (Nat.le_refl _) ⟨hset.os, hset.tape, hset.output, hset.size, fun k hk => hset.block k (by omega) (by simp; omega)⟩ (fun k c t hc ht => ?_)
        refine (hset.block k (World.heap_lt hc) (fun e => ?_)).trans hc
        cases e
        rw [hb] at hc
        cases hc
        rcases ht with h | ⟨h, -⟩ <;> cases h
      have hv3 : IntsAt W3 w.heap.size (.slice vA top.length vc) top := row_else (row_low hv Hb1.out.size) hset (fun k e => by cases e; exact ⟨_, hb⟩) (by decide)
      have hfr3 : Below w.heap.size w W3 := (Hb1.out.trans hf.below).trans ⟨hset.os, hset.tape, hset.output, hset.size, fun k hk => hset.block k (by omega) (by simp; omega)⟩
      have HC := copied_any w.heap.size w.heap.size ps (.slice LA ps.length LC) (.slice vA top.length vc) W3 (by omega) (fun p hp => Hk.out p.x (by rw [← hmap]; exact List.mem_map_of_mem hp)) (Nat.le_refl _) (by have := hset.size; omega) hns3 ⟨_, _, _, rfl⟩
      have Hmap := Lib.hid hmap
      have HC' := Lib.hid HC
      have HW3 := Lib.hid hW3
      have HR3 := Lib.hid hR3
      have HP3 := Lib.hid hP3
      have Hv3 := Lib.hid hv3
      have Hfr3 := Lib.hid hfr3
      clear HC hW3 hR3 hP3 hv3 hfr3 hns3 hset hmap hb hwr hns hst2 hv hf r2 HL' HR1 HP1 HW1 Hk Hw
      go_wp2_with (go_at_call 40; refine halt ?_)
      refine Halted.mk' ?_
      rw [HW3.out]
      refine (HC'.out).mono ?_
      rintro e w5 ⟨rfl, ⟨qs, hq1, hq2, hq3⟩, hfr5⟩
      have r5 := (hfr5 (w.heap.size + 1)).blk HR3.out hPR (by decide)
      have z0 : w5.cell? ⟨w.heap.size, 0, none⟩ = some (.slice none 0 0) := by simp [World.cell?, r5]
      have z1 : w5.cell? ⟨w.heap.size, 1, none⟩ = some (.slice none 0 0) := by simp [World.cell?, r5]
      have zf : w5.frozen? ⟨w.heap.size, 0, none⟩ = false := by simp [World.frozen?, r5]
      have zg : w5.frozen? ⟨w.heap.size, 1, none⟩ = false := by simp [World.frozen?, r5]
      have hv5 : IntsAt w5 w.heap.size (.slice vA top.length vc) top := by
        obtain ⟨cs, h⟩ := HP3.out
        exact ints_fr Hv3.out (hfr5 (w.heap.size + 1)) h (by decide)
      have Hq1 := Lib.hid hq1
      have Hq2 := Lib.hid hq2
      have Hq3 := Lib.hid hq3
      have Hr5 := Lib.hid r5
      have Hv5 := Lib.hid hv5
      have Hfr5 := Lib.hid (Hfr3.out.trans (hfr5 (w.heap.size + 1)).below)
      clear hq1 hq2 hq3 r5 hv5 hfr5 HC' HW3 HR3 HP3 Hv3 Hfr3 c1 c2 c3 f3
      go_wp2
      refine bodyPost_ret (v := .tuple #[.agg #[.slice LA ps.length LC, .slice vA top.length vc], .int .i64 0, .int .i64 0]) (by simp [results, Tryd.results20, go_sem, z0, z1]) rfl ?_
      rw [HT.out]
      have h1 := grown_set w5 w.heap.size 0 (.slice LA ps.length LC)
      have h2 := grown_set (w5.setCell ⟨w.heap.size, 0, none⟩ (.slice LA ps.length LC)) w.heap.size 1 (.slice vA top.length vc)
      have key : ∀ {e size n : Nat} {u : Value} {xs : List Value}, e ≠ 26 → w5.ownsRow w.heap.size e size u n xs → ((w5.setCell ⟨w.heap.size, 0, none⟩ (.slice LA ps.length LC)).setCell ⟨w.heap.size, 1, none⟩ (.slice vA top.length vc)).ownsRow w.heap.size e size u n xs := fun he h =>
        row_else (row_else h h1 (fun k e => by cases e; exact ⟨_, Hr5.out⟩) he) h2 (fun k e => by cases e; exact ⟨_, blk_put Hr5.out 0 _⟩) he
      refine ⟨_, _, rfl, ⟨⟨qs, Hq1.out.trans Hmap.out, key (by decide) Hq2.out, fun p hp => ?_⟩, key (by decide) Hv5.out⟩, ?_⟩
      · obtain ⟨a, b, c⟩ := Hq3.out p hp
        exact ⟨key (by decide) a, key (by decide) b, key (by decide) c⟩
      · repeat (first | exact Hfr5.out | refine Below.drew ?_ | refine Below.setCell ?_ (by simp) _)
end Go.Proofs.YtcggeaobonblfaaDoor

/- parse.Parse: walked. -/
namespace Go.Proofs.YtcggeaobonblfaaDoor
set_option linter.unusedSimpArgs false
set_option linter.unusedVariables false
open Go Go.RowKit
theorem wayF_short (s : List UInt8) : (wayF s).2.1.length ≤ 8 := by
  unfold wayF
  split
  · simp
  · split
    · simp
    · have key : ∀ r : List UInt8, (if ((dots r).all nameF && decide ((dots r).length ≤ 8)) = true then (Lib.hasPrefix s [36, 46], dots r, true) else (false, [], false)).2.1.length ≤ 8 := by
        intro r
        split
        · rename_i h
          rw [Bool.and_eq_true, decide_eq_true_eq] at h
          exact h.2
        · simp
      exact key _
theorem actionF_short (s : List UInt8) : (actionF s).2.2.1.length ≤ 8 := by
  unfold actionF
  dsimp only
  repeat' split
  all_goals first
    | exact wayF_short _
    | simp
theorem lexF_short : ∀ (n : Nat) (at_ : Int) (r : List UInt8), (lexF n at_ r).1.length ≤ r.length ∧ ∀ x ∈ (lexF n at_ r).1, x.names.length ≤ 8
  | 0, at_, r => by simp [lexF]
  | n + 1, at_, r => by
    unfold lexF
    by_cases h0 : r = []
    · rw [if_pos h0]; simp
    have hr : 0 < r.length := List.length_pos_iff.2 h0
    rw [if_neg h0]
    by_cases h1 : 0 < litLen r
    · rw [if_pos h1]
      obtain ⟨a, b⟩ := lexF_short n (at_ + litLen r) (r.drop (litLen r))
      have := litLen_le r
      refine ⟨by simp only [List.length_cons, List.length_drop] at a ⊢; omega, fun x hx => ?_⟩
      rcases List.mem_cons.1 hx with rfl | hx
      · simp
      · exact b x hx
    rw [if_neg h1]
    by_cases h2 : closeAt r < 0
    · rw [if_pos h2]; simp
    rw [if_neg h2]
    split
    · obtain ⟨a, b⟩ := lexF_short n (at_ + ((closeAt r).toNat + 2 : Nat)) (r.drop ((closeAt r).toNat + 2))
      refine ⟨by simp only [List.length_cons, List.length_drop] at a ⊢; omega, fun x hx => ?_⟩
      rcases List.mem_cons.1 hx with rfl | hx
      · exact actionF_short _
      · exact b x hx
    · simp
theorem lexAllF_short (s : List UInt8) : (lexAllF s).1.length ≤ 65536 ∧ ∀ x ∈ (lexAllF s).1, x.names.length ≤ 8 := by
  unfold lexAllF
  split
  · simp
  · split
    · simp
    · obtain ⟨a, b⟩ := lexF_short (s.length + 1) 0 s
      exact ⟨by unfold lexW; dsimp only; omega, b⟩

/-- No node has more names than its word. -/
def Short (nodes : List Node) : Prop := ∀ x ∈ nodes, x.names.length ≤ 8
def ShortL : ListR → Prop
  | .error _ => True
  | .ok (_, _, nodes) => Short nodes
def ShortB : Except Fault (Nat × List Node) → Prop
  | .error _ => True
  | .ok (_, nodes) => Short nodes
def ShortN : Except Fault (Int × Nat × List Node) → Prop
  | .error _ => True
  | .ok (_, _, nodes) => Short nodes
theorem short_modify {nodes : List Node} (h : Short nodes) (k : Nat) (f : Node → Node) (hf : ∀ x, (f x).names = x.names) : Short (nodes.modify k f) := by
  intro x hx
  obtain ⟨j, hj⟩ := List.getElem?_of_mem hx
  rw [List.getElem?_modify] at hj
  obtain ⟨y, hy, rfl⟩ := Option.map_eq_some_iff.1 hj
  split
  · rw [hf]; exact h y (List.mem_of_getElem? hy)
  · exact h y (List.mem_of_getElem? hy)
theorem finB_short {ws : List Word} {x : Word} {i : Nat} {nd : List Node} (h : Short nd) : ShortB (finB ws x i nd) := by
  unfold finB
  split
  · trivial
  · split
    · trivial
    · exact h
theorem bodyP_short {ws : List Word} {L : Nat → List Node → Nat → ListR} (hL : ∀ i nd d, Short nd → ShortL (L i nd d)) (i : Nat) (nodes : List Node) (k : Nat) (x : Word) (depth : Nat) (hn : Short nodes) :
    ShortB (bodyP L ws i nodes k x depth) := by
  unfold bodyP
  have h1 := hL i nodes (depth + 1) hn
  cases hR : L i nodes (depth + 1) with
  | error f => trivial
  | ok r =>
    obtain ⟨b, i1, nodes1⟩ := r
    rw [hR] at h1
    have h1' : Short (setBody nodes1 k b) := short_modify h1 k _ (fun _ => rfl)
    dsimp only
    split
    · exact finB_short h1'
    · split
      · split
        · trivial
        · have h2 := hL (i1 + 1) (setBody nodes1 k b) (depth + 1) h1'
          cases hR2 : L (i1 + 1) (setBody nodes1 k b) (depth + 1) with
          | error f => trivial
          | ok r2 =>
            obtain ⟨b2, i2, nodes2⟩ := r2
            rw [hR2] at h2
            exact finB_short (short_modify h2 k _ (fun _ => rfl))
      · exact finB_short h1'
theorem nodeP_short {ws : List Word} {L : Nat → List Node → Nat → ListR} (hL : ∀ i nd d, Short nd → ShortL (L i nd d)) (i : Nat) (nodes : List Node) (x : Word) (depth : Nat) (hn : Short nodes) (hx : x.names.length ≤ 8) :
    ShortN (nodeP L ws i nodes x depth) := by
  have h0 : Short (nodes ++ [newNode x]) := fun y hy => by
    rcases List.mem_append.1 hy with h | h
    · exact hn y h
    · simp at h; rw [h]; exact hx
  unfold nodeP
  split
  · split
    · trivial
    · have h := bodyP_short hL (ws := ws) i (nodes ++ [newNode x]) nodes.length x depth h0
      cases hR : bodyP L ws i (nodes ++ [newNode x]) nodes.length x depth with
      | error f => trivial
      | ok r =>
        obtain ⟨i1, nd⟩ := r
        rw [hR] at h
        exact short_modify h _ _ (fun _ => rfl)
  · exact short_modify h0 _ _ (fun _ => rfl)
theorem listP_short (ws : List Word) (hw : ∀ x ∈ ws, x.names.length ≤ 8) : ∀ n i nodes depth acc, Short nodes → ShortL (listP ws n i nodes depth acc) := by
  intro n
  induction n with
  | zero => intro i nodes depth acc hn; trivial
  | succ n ih =>
    intro i nodes depth acc hn
    unfold listP
    cases hx : ws[i]? with
    | none => exact hn
    | some y =>
      dsimp only
      split
      · exact hn
      · have h := nodeP_short (ws := ws) (L := fun i nd d => listP ws n i nd d []) (fun i nd d h => ih i nd d [] h) (i + 1) nodes y depth hn (hw y (List.mem_of_getElem? hx))
        cases hR : nodeP (fun i nd d => listP ws n i nd d []) ws (i + 1) nodes y depth with
        | error f => trivial
        | ok r =>
          obtain ⟨k, i1, nd⟩ := r
          rw [hR] at h
          exact ih i1 nd depth (acc ++ [k]) h

def parseF (s : List UInt8) : Except Fault (List Int × List Node) :=
  if (lexAllF s).2.2 = 0 then treeF (lexAllF s).1 else .error ((lexAllF s).2.1, (lexAllF s).2.2)

theorem TreeAt.low {W : World} {base base' : Nat} {nv tv : Value} {nodes : List Node} {top : List Int} (h : TreeAt W base nv tv nodes top) (hb : base' ≤ base) : TreeAt W base' nv tv nodes top := by
  obtain ⟨⟨qs, h1, h2, h3⟩, h4⟩ := h
  exact ⟨⟨qs, h1, row_low h2 hb, fun p hp => let ⟨a, b, c⟩ := h3 p hp; ⟨row_low a hb, row_low b hb, row_low c hb⟩⟩, row_low h4 hb⟩
/-- What turns a row of another type. -/
theorem TreeAt.step {W W' : World} {base t : Nat} {nv tv : Value} {nodes : List Node} {top : List Int} {r : Option Nat} (h : TreeAt W base nv tv nodes top) (hg : W.grownBy W' r) (hr : ∀ k, r = some k → ∃ c, W.heap[k]? = some (.cells c t)) (h1 : 66 ≠ t) (h2 : 9 ≠ t) (h3 : 3 ≠ t) : TreeAt W' base nv tv nodes top := by
  obtain ⟨⟨qs, a1, a2, a3⟩, a4⟩ := h
  exact ⟨⟨qs, a1, row_else a2 hg hr h1, fun p hp => let ⟨a, b, c⟩ := a3 p hp; ⟨row_else a hg hr h2, row_else b hg hr h3, row_else c hg hr h3⟩⟩, row_else a4 hg hr h3⟩

set_option maxRecDepth 100000 in
set_option maxHeartbeats 2000000 in
theorem parse_any (s : List UInt8) (w : World) (hs : s.length ≤ 140737488351232) (hm : MaxLenAt w) : Calls Tryd.prog 9 #[.string ⟨s.toArray⟩] w (TreePost w (parseF s)) := by
  obtain ⟨W1, hW1⟩ : ∃ W1, w.alloc (.cells #[.slice none 0 0, .slice none 0 0] 26) = W1 := ⟨_, rfl⟩
  have hb1 : Below w.heap.size w W1 := by rw [← hW1]; exact (Below.refl w.heap.size w).alloc (Nat.le_refl _) _
  have hR1 : W1.heap[w.heap.size]? = some (.cells #[.slice none 0 0, .slice none 0 0] 26) := by rw [← hW1]; exact World.alloc_heap_new w _
  have hL := lexAll_any s W1 hs (hm.below hb1)
  obtain ⟨hsh1, hsh2⟩ := lexAllF_short s
  have Hb1 := Lib.hid hb1
  have HR1 := Lib.hid hR1
  have HW1 := Lib.hid hW1
  have HL := Lib.hid hL
  have hsz : w.heap.size < W1.heap.size := World.heap_lt hR1
  clear hb1 hR1 hW1 hL hm
  obtain ⟨ws, pl, er, hr⟩ : ∃ a b c, lexAllF s = (a, b, c) := ⟨_, _, _, rfl⟩
  rw [hr] at hsh1 hsh2
  by_cases he : er = 0
  · have HP : Hid (parseF s = treeF ws) := Lib.hid (by unfold parseF; rw [hr]; exact if_pos he)
    subst he
    rw [hr] at HL
    clear hr
    go_enter Tryd.func9, Tryd.ntmps9
    go_wp2_with (go_at_call 19; refine halt ?_)
    refine Halted.mk' ?_
    rw [HW1.out]
    refine (HL.out).mono ?_
    rintro e w2 ⟨v, rfl, hws, hb⟩
    have hwr := words_rd hws (Nat.le_refl _)
    have HT := Lib.hid (tree_any v ws w2 (by omega) (fun top i nodes h => by
      have := listP_short ws hsh2 (ws.length + 1) 0 [] 0 [] (fun x hx => by cases hx)
      rw [h] at this
      exact fun x hx => Nat.le_trans (this x hx) (by omega)) hwr)
    have Hr2 := Lib.hid ((hb.block _ hsz).trans HR1.out)
    have Hb2 := Lib.hid (Hb1.out.trans (hb.mono (by omega)))
    clear hws hwr hb HL HW1 HR1
    cases hT : treeF ws with
    | error f =>
      rw [hT] at HT HP
      clear hT
      go_wp2_with (go_at_call 20; refine halt ?_)
      refine Halted.mk' ?_
      refine (HT.out).mono ?_
      rintro e w3 ⟨rfl, hb3⟩
      have r3 := (hb3.block _ (World.heap_lt Hr2.out)).trans Hr2.out
      have z0 : w3.cell? ⟨w.heap.size, 0, none⟩ = some (.slice none 0 0) := by simp [World.cell?, r3]
      have z1 : w3.cell? ⟨w.heap.size, 1, none⟩ = some (.slice none 0 0) := by simp [World.cell?, r3]
      have zf : w3.frozen? ⟨w.heap.size, 0, none⟩ = false := by simp [World.frozen?, r3]
      have zg : w3.frozen? ⟨w.heap.size, 1, none⟩ = false := by simp [World.frozen?, r3]
      have Hb3 := Lib.hid (Hb2.out.trans (hb3.mono (by have := Hb2.out.size; omega)))
      clear hb3 r3 HT
      go_wp2
      refine bodyPost_ret (v := .tuple #[.agg #[.slice none 0 0, .slice none 0 0], .int .i64 f.1, .int .i64 f.2]) (by simp [results, Tryd.results9, go_sem, z0, z1]) rfl ?_
      rw [HP.out]
      exact ⟨rfl, by repeat (first | exact Hb3.out | refine Below.drew ?_ | refine Below.setCell ?_ (by simp) _)⟩
    | ok r =>
      obtain ⟨top, nodes⟩ := r
      rw [hT] at HT HP
      clear hT
      go_wp2_with (go_at_call 20; refine halt ?_)
      refine Halted.mk' ?_
      refine (HT.out).mono ?_
      rintro e w3 ⟨nv, tv, rfl, ht, hb3⟩
      have r3 := (hb3.block _ (World.heap_lt Hr2.out)).trans Hr2.out
      have z0 : w3.cell? ⟨w.heap.size, 0, none⟩ = some (.slice none 0 0) := by simp [World.cell?, r3]
      have z1 : w3.cell? ⟨w.heap.size, 1, none⟩ = some (.slice none 0 0) := by simp [World.cell?, r3]
      have zf : w3.frozen? ⟨w.heap.size, 0, none⟩ = false := by simp [World.frozen?, r3]
      have zg : w3.frozen? ⟨w.heap.size, 1, none⟩ = false := by simp [World.frozen?, r3]
      have Hb3 := Lib.hid (Hb2.out.trans (hb3.mono (by have := Hb2.out.size; omega)))
      have Ht := Lib.hid (ht.low (base' := w.heap.size) (by have := Hb2.out.size; omega))
      have Hr3 := Lib.hid r3
      obtain ⟨NA, NN, NC, rfl⟩ : ∃ A n c, nv = .slice A n c := by
        obtain ⟨⟨qs, -, h, -⟩, -⟩ := ht
        rcases h.2 with ⟨rfl, _⟩ | ⟨g, cap, cur, rfl, _⟩
        · exact ⟨_, _, _, rfl⟩
        · exact ⟨_, _, _, rfl⟩
      obtain ⟨TA, TC, rfl⟩ := ints_slice ht.2
      clear hb3 r3 HT ht
      go_wp2
      refine bodyPost_ret (v := .tuple #[.agg #[.slice NA NN NC, .slice TA top.length TC], .int .i64 0, .int .i64 0]) (by simp [results, Tryd.results9, go_sem, z0, z1]) rfl ?_
      rw [HP.out]
      refine ⟨_, _, rfl, ?_, by repeat (first | exact Hb3.out | refine Below.drew ?_ | refine Below.setCell ?_ (by simp) _)⟩
      have h1 := grown_set w3 w.heap.size 0 (.slice NA NN NC)
      have h2 := grown_set (w3.setCell ⟨w.heap.size, 0, none⟩ (.slice NA NN NC)) w.heap.size 1 (.slice TA top.length TC)
      exact (Ht.out.step (t := 26) h1 (fun k e => by cases e; exact ⟨_, Hr3.out⟩) (by decide) (by decide) (by decide)).step (t := 26) h2 (fun k e => by cases e; exact ⟨_, blk_put Hr3.out 0 _⟩) (by decide) (by decide) (by decide)
  · have HP : Hid (parseF s = .error (pl, er)) := Lib.hid (by unfold parseF; rw [hr]; exact if_neg he)
    rw [hr] at HL
    clear hr
    have e1 : (er == 0) = false := k_false he
    go_enter Tryd.func9, Tryd.ntmps9
    go_wp2_with (go_at_call 19; refine halt ?_)
    refine Halted.mk' ?_
    rw [HW1.out]
    refine (HL.out).mono ?_
    rintro e w2 ⟨v, rfl, hws, hb⟩
    have r3 := (hb.block _ hsz).trans HR1.out
    have z0 : w2.cell? ⟨w.heap.size, 0, none⟩ = some (.slice none 0 0) := by simp [World.cell?, r3]
    have z1 : w2.cell? ⟨w.heap.size, 1, none⟩ = some (.slice none 0 0) := by simp [World.cell?, r3]
    have zf : w2.frozen? ⟨w.heap.size, 0, none⟩ = false := by simp [World.frozen?, r3]
    have zg : w2.frozen? ⟨w.heap.size, 1, none⟩ = false := by simp [World.frozen?, r3]
    have Hb2 := Lib.hid (Hb1.out.trans (hb.mono (by omega)))
    clear hws hb HL HW1 HR1 r3
    go_wp2
    refine bodyPost_ret (v := .tuple #[.agg #[.slice none 0 0, .slice none 0 0], .int .i64 pl, .int .i64 er]) (by simp [results, Tryd.results9, go_sem, z0, z1]) rfl ?_
    rw [HP.out]
    exact ⟨rfl, by repeat (first | exact Hb2.out | refine Below.drew ?_ | refine Below.setCell ?_ (by simp) _)⟩
end Go.Proofs.YtcggeaobonblfaaDoor

/- The recursive parse and the parse by a stack come to one tree. -/
namespace Go.Proofs.YtcggeaobonblfaaDoor
set_option linter.unusedSimpArgs false
set_option linter.unusedVariables false
open Go Go.RowKit
/-- What is open: its node, its word, whether its else began, the list that is being read. -/
structure Frame where
  (k : Nat) (w : Word) (els : Bool) (acc : List Int)
def fillNode (f : Frame) (x : Node) : Node := { x with kind := kindOf f.w.kind, body := if f.els then x.body else f.acc, els := if f.els then f.acc else x.els, has := f.els }
def fill : List Frame → List Node → List Node
  | [], nd => nd
  | f :: fs, nd => (fill fs nd).modify f.k (fillNode f)
def opn (f : Frame) : Opn := ⟨f.k, f.w.kind, f.els⟩
/-- The innermost list is acc. -/
def upd (fs : List Frame) (top acc : List Int) : List Frame × List Int :=
  match fs with
  | [] => ([], acc)
  | f :: fs' => ({ f with acc := acc } :: fs', top)
def Sx (u : List Frame) (t : List Int) (nodes : List Node) : RSt := ⟨fill u nodes, t, (u.map opn).reverse⟩
def St (fs : List Frame) (top acc : List Int) (nodes : List Node) : RSt := Sx (upd fs top acc).1 (upd fs top acc).2 nodes
theorem upd_opn (fs : List Frame) (top acc : List Int) : (upd fs top acc).1.map opn = fs.map opn := by cases fs <;> rfl
theorem upd_len (fs : List Frame) (top acc : List Int) : (upd fs top acc).1.length = fs.length := by cases fs <;> rfl
theorem upd_lt {fs : List Frame} {top acc : List Int} {m : Nat} (h : ∀ f ∈ fs, f.k < m) : ∀ f ∈ (upd fs top acc).1, f.k < m := by
  cases fs with
  | nil => exact h
  | cons f fs =>
    intro g hg
    rcases List.mem_cons.1 hg with rfl | hg
    · exact h f List.mem_cons_self
    · exact h g (List.mem_cons_of_mem _ hg)
def rest (r : RSt) (ws : List Word) (i : Nat) : Except Fault (List Int × List Node) := match runR r (ws.drop i) with | .error f => .error f | .ok r' => finR r'

theorem rest_step {r : RSt} {ws : List Word} {i : Nat} {x : Word} (h : ws[i]? = some x) : rest r ws i = match stepR r x with | .error f => .error f | .ok r' => rest r' ws (i + 1) := by
  have hlt := (List.getElem?_eq_some_iff.1 h).1
  unfold rest
  rw [List.drop_eq_getElem_cons hlt, (List.getElem?_eq_some_iff.1 h).2]
  cases hs : stepR r x with
  | error f => rw [runR_err hs]
  | ok r' => rw [runR_ok hs]
theorem rest_err {r : RSt} {ws : List Word} {i : Nat} {x : Word} {f : Fault} (h : ws[i]? = some x) (hs : stepR r x = .error f) : rest r ws i = .error f := by rw [rest_step h, hs]
theorem rest_ok {r r' : RSt} {ws : List Word} {i : Nat} {x : Word} (h : ws[i]? = some x) (hs : stepR r x = .ok r') : rest r ws i = rest r' ws (i + 1) := by rw [rest_step h, hs]
theorem rest_end {r : RSt} {ws : List Word} {i : Nat} (h : ws[i]? = none) : rest r ws i = finR r := by
  unfold rest
  rw [List.drop_eq_nil_of_le (List.getElem?_eq_none_iff.1 h)]
  rfl

/-! modify -/
theorem modify_two {α : Type} (l : List α) (k : Nat) (g h : α → α) : (l.modify k h).modify k g = l.modify k (fun x => g (h x)) := by
  apply List.ext_getElem?
  intro j
  rw [List.getElem?_modify, List.getElem?_modify, List.getElem?_modify]
  cases l[j]? with
  | none => rfl
  | some x => by_cases e : k = j <;> simp [e]
theorem modify_swap {α : Type} (l : List α) (k m : Nat) (g h : α → α) (hne : k ≠ m) : (l.modify k h).modify m g = (l.modify m g).modify k h := by
  apply List.ext_getElem?
  intro j
  rw [List.getElem?_modify, List.getElem?_modify, List.getElem?_modify, List.getElem?_modify]
  cases l[j]? with
  | none => rfl
  | some x =>
    by_cases e : k = j
    · have : ¬ m = j := fun e2 => hne (e.trans e2.symm)
      simp [e, this]
    · simp [e]
theorem modify_congr {α : Type} {l : List α} {k : Nat} {g h : α → α} (hx : ∀ x, l[k]? = some x → g x = h x) : l.modify k g = l.modify k h := by
  apply List.ext_getElem?
  intro j
  rw [List.getElem?_modify, List.getElem?_modify]
  cases hl : l[j]? with
  | none => rfl
  | some x =>
    by_cases e : k = j
    · subst e
      simp [hx x hl]
    · simp [e]
theorem modify_left {α : Type} (l m : List α) (k : Nat) (g : α → α) (h : k < l.length) : (l ++ m).modify k g = l.modify k g ++ m := by
  apply List.ext_getElem?
  intro j
  rw [List.getElem?_modify]
  rcases Nat.lt_or_ge j l.length with hj | hj
  · rw [List.getElem?_append_left hj, List.getElem?_append_left (by simpa using hj), List.getElem?_modify]
  · have e : ¬ k = j := by omega
    rw [List.getElem?_append_right hj, List.getElem?_append_right (by simpa using hj)]
    simp [e]
theorem modify_last {α : Type} (l : List α) (x : α) (g : α → α) : (l ++ [x]).modify l.length g = l ++ [g x] := by
  apply List.ext_getElem?
  intro j
  rw [List.getElem?_modify]
  rcases Nat.lt_or_ge j l.length with hj | hj
  · have e : ¬ l.length = j := by omega
    rw [List.getElem?_append_left hj, List.getElem?_append_left hj]
    simp [e]
  · rw [List.getElem?_append_right hj, List.getElem?_append_right hj]
    cases hjj : j - l.length with
    | zero =>
      have e : l.length = j := by omega
      simp [e]
    | succ m => simp

theorem modify_tail {α : Type} (l m : List α) (g : α → α) : (l ++ m).modify l.length g = l ++ m.modify 0 g := by
  apply List.ext_getElem?
  intro j
  rw [List.getElem?_modify]
  rcases Nat.lt_or_ge j l.length with hj | hj
  · have e : ¬ l.length = j := by omega
    rw [List.getElem?_append_left hj, List.getElem?_append_left hj]
    simp [e]
  · rw [List.getElem?_append_right hj, List.getElem?_append_right hj, List.getElem?_modify]
    by_cases e : l.length = j
    · have e2 : 0 = j - l.length := by omega
      simp only [if_pos e, if_pos e2]
    · have e2 : ¬ 0 = j - l.length := by omega
      simp only [if_neg e, if_neg e2]
theorem fill_length (fs : List Frame) (nd : List Node) : (fill fs nd).length = nd.length := by
  induction fs with
  | nil => rfl
  | cons f fs ih => unfold fill; simp [ih]
theorem fill_append (fs : List Frame) (nd ext : List Node) (h : ∀ f ∈ fs, f.k < nd.length) : fill fs (nd ++ ext) = fill fs nd ++ ext := by
  induction fs with
  | nil => rfl
  | cons f fs ih =>
    unfold fill
    rw [ih (fun g hg => h g (List.mem_cons_of_mem _ hg)), modify_left _ _ _ _ (by rw [fill_length]; exact h f List.mem_cons_self)]
theorem fill_modify (fs : List Frame) (nd : List Node) (k : Nat) (g : Node → Node) (h : ∀ f ∈ fs, f.k ≠ k) : fill fs (nd.modify k g) = (fill fs nd).modify k g := by
  induction fs with
  | nil => rfl
  | cons f fs ih =>
    unfold fill
    rw [ih (fun g hg => h g (List.mem_cons_of_mem _ hg)), modify_swap _ _ _ _ _ (fun e => h f List.mem_cons_self e.symm)]
theorem fill_at (fs : List Frame) (nd : List Node) (k : Nat) (h : ∀ f ∈ fs, f.k ≠ k) : (fill fs nd)[k]? = nd[k]? := by
  induction fs with
  | nil => rfl
  | cons f fs ih =>
    unfold fill
    rw [List.getElem?_modify, ih (fun g hg => h g (List.mem_cons_of_mem _ hg))]
    have : ¬ f.k = k := h f List.mem_cons_self
    simp [this]

/-- A node more, in both. -/
theorem add_more (fs : List Frame) (top acc : List Int) (nodes : List Node) (w : Word) (h : ∀ f ∈ fs, f.k < nodes.length) :
    addF ((St fs top acc nodes).nodes ++ [nodeOf w]) (St fs top acc nodes).top (St fs top acc nodes).st nodes.length = ((St fs top (acc ++ [(nodes.length : Int)]) (nodes ++ [nodeOf w])).nodes, (St fs top (acc ++ [(nodes.length : Int)]) (nodes ++ [nodeOf w])).top) := by
  cases fs with
  | nil => rfl
  | cons f fs =>
    have hf := h f List.mem_cons_self
    have hfs : ∀ g ∈ fs, g.k < nodes.length := fun g hg => h g (List.mem_cons_of_mem _ hg)
    have hl : (St (f :: fs) top acc nodes).st.getLast? = some (opn f) := by
      show ((({ f with acc := acc } : Frame) :: fs).map opn).reverse.getLast? = some (opn f)
      rw [List.map_cons, List.reverse_cons, List.getLast?_concat]
      rfl
    unfold addF
    rw [hl]
    dsimp only
    congr 1
    show (((fill fs nodes).modify f.k (fillNode { f with acc := acc })) ++ [nodeOf w]).modify ((f.k : Int)).toNat _ = (fill fs (nodes ++ [nodeOf w])).modify f.k (fillNode { f with acc := acc ++ [(nodes.length : Int)] })
    rw [fill_append fs nodes _ hfs, Int.toNat_natCast, ← modify_left _ _ _ _ (by rw [fill_length]; exact hf), modify_two]
    congr 1
    funext x
    unfold fillNode opn
    cases f.els <;> rfl

/-- How a list ends: at the end of the words, or ahead of an else or an end. -/
def Stops (ws : List Word) (i : Nat) : Prop := ∀ x, ws[i]? = some x → x.kind = 3 ∨ x.kind = 5
def SimL (ws : List Word) (L : Nat → List Node → Nat → ListR) (lo : Nat) : Prop :=
  ∀ i nodes fs top, lo ≤ i → i ≤ ws.length → (∀ f ∈ fs, f.k < nodes.length) →
    match L i nodes fs.length with
    | .error f => rest (St fs top [] nodes) ws i = .error f
    | .ok (acc', i', nodes') => i ≤ i' ∧ i' ≤ ws.length ∧ rest (St fs top [] nodes) ws i = rest (St fs top acc' nodes') ws i' ∧ (∃ ext, nodes' = nodes ++ ext) ∧ Stops ws i'
theorem st_len (fs : List Frame) (top acc : List Int) (nodes : List Node) : (St fs top acc nodes).st.length = fs.length := by
  show ((upd fs top acc).1.map opn).reverse.length = fs.length
  rw [upd_opn]
  simp
theorem sx_last (g : Frame) (u : List Frame) (t : List Int) (nodes : List Node) : (Sx (g :: u) t nodes).st.getLast? = some (opn g) := by
  show (((g :: u).map opn).reverse).getLast? = some (opn g)
  rw [List.map_cons, List.reverse_cons, List.getLast?_concat]
theorem sx_drop (g : Frame) (u : List Frame) (t : List Int) (nodes : List Node) : (Sx (g :: u) t nodes).st.dropLast = (u.map opn).reverse := by
  show (((g :: u).map opn).reverse).dropLast = _
  rw [List.map_cons, List.reverse_cons, List.dropLast_concat]
/-- The words within an open node: what its end, its else and the end of the words do. -/
theorem open_end {g : Frame} {u : List Frame} {t : List Int} {nodes : List Node} {ws : List Word} {i : Nat} (hx : ws[i]? = none) {y : Node} (hy : nodes[g.k]? = some y) (hu : ∀ f ∈ u, f.k ≠ g.k) (hat : y.at_ = g.w.at_) :
    rest (Sx (g :: u) t nodes) ws i = .error (g.w.at_, 4) := by
  rw [rest_end hx]
  unfold finR
  rw [sx_last]
  dsimp only
  have : (Sx (g :: u) t nodes).nodes[(opn g).node.toNat]? = some (fillNode g y) := by
    show ((fill u nodes).modify g.k (fillNode g))[((g.k : Int)).toNat]? = _
    rw [Int.toNat_natCast, List.getElem?_modify, fill_at u nodes g.k hu, hy]
    simp
  rw [this]
  show Except.error ((fillNode g y).at_, 4) = _
  have : (fillNode g y).at_ = y.at_ := rfl
  rw [this, hat]
theorem open_else_bad {g : Frame} {u : List Frame} {t : List Int} {nodes : List Node} {ws : List Word} {i : Nat} {x : Word} (hx : ws[i]? = some x) (h3 : x.kind = 3) (hb : g.w.kind ≠ 2 ∨ g.els = true) : rest (Sx (g :: u) t nodes) ws i = .error (x.at_, 4) := by
  refine rest_err hx ?_
  unfold stepR
  rw [if_pos h3, sx_last]
  dsimp only
  exact if_pos hb
theorem open_pop {g : Frame} {u : List Frame} {t : List Int} {nodes : List Node} {ws : List Word} {i : Nat} {x : Word} (hx : ws[i]? = some x) (h5 : x.kind = 5) (hu : ∀ f ∈ u, f.k ≠ g.k) : rest (Sx (g :: u) t nodes) ws i = rest (Sx u t (nodes.modify g.k (fillNode g))) ws (i + 1) := by
  refine rest_ok hx ?_
  unfold stepR
  rw [if_neg (by omega), if_pos h5, sx_last]
  dsimp only
  rw [sx_drop]
  show Except.ok (⟨(fill u nodes).modify g.k (fillNode g), t, _⟩ : RSt) = _
  rw [← fill_modify u nodes g.k _ hu]
  rfl
theorem open_else {k : Nat} {w : Word} {b : List Int} {u : List Frame} {t : List Int} {nodes : List Node} {ws : List Word} {i : Nat} {x : Word} (hx : ws[i]? = some x) (h3 : x.kind = 3) (hw : w.kind = 2) (hu : ∀ f ∈ u, f.k ≠ k)
    {y : Node} (hy : nodes[k]? = some y) (he : y.els = []) : rest (Sx (⟨k, w, false, b⟩ :: u) t nodes) ws i = rest (Sx (⟨k, w, true, []⟩ :: u) t (setBody nodes k b)) ws (i + 1) := by
  refine rest_ok hx ?_
  unfold stepR
  rw [if_pos h3, sx_last]
  dsimp only
  rw [if_neg (by unfold opn; simp [hw]), sx_drop]
  congr 1
  unfold Sx
  congr 1
  · show setHas ((fill u nodes).modify k (fillNode ⟨k, w, false, b⟩)) ((k : Int)).toNat = (fill u (setBody nodes k b)).modify k (fillNode ⟨k, w, true, []⟩)
    unfold setHas setBody
    rw [Int.toNat_natCast, modify_two, fill_modify u nodes k _ hu, modify_two]
    refine modify_congr (fun z hz => ?_)
    rw [fill_at u nodes k hu, hy] at hz
    cases hz
    unfold fillNode
    simp [he]
  · show (u.map opn).reverse ++ [{ opn ⟨k, w, false, b⟩ with els := true }] = ((⟨k, w, true, []⟩ :: u).map opn).reverse
    rw [List.map_cons, List.reverse_cons]
    rfl

def finN (r : Except Fault (Nat × List Node)) (n : Nat) (κ : Int) : Except Fault (Int × Nat × List Node) := match r with | .error f => .error f | .ok (i1, nd) => .ok (n, i1, setKind nd n κ)
def PostN (ws : List Word) (fs : List Frame) (top acc : List Int) (nodes : List Node) (i : Nat) (r : Except Fault (Int × Nat × List Node)) : Prop :=
  match r with
  | .error f => rest (St fs top acc nodes) ws i = .error f
  | .ok (k, i', nodes') => i + 1 ≤ i' ∧ i' ≤ ws.length ∧ k = nodes.length ∧ rest (St fs top acc nodes) ws i = rest (St fs top (acc ++ [k]) nodes') ws i' ∧ ∃ ext, nodes' = nodes ++ ext
theorem nodeP_open {L : Nat → List Node → Nat → ListR} {ws : List Word} {i : Nat} {nodes : List Node} {w : Word} {depth : Nat} (h : w.kind = 2 ∨ w.kind = 4) (hd : ¬ 16 ≤ depth) :
    nodeP L ws i nodes w depth = finN (bodyP L ws i (nodes ++ [newNode w]) nodes.length w depth) nodes.length (kindOf w.kind) := by
  unfold nodeP
  rw [if_pos h, if_neg hd]
  rfl
theorem sim_node {ws : List Word} {L : Nat → List Node → Nat → ListR} {lo : Nat} (hL : SimL ws L lo) (i : Nat) (nodes : List Node) (fs : List Frame) (top acc : List Int) (x : Word) (hx : ws[i]? = some x) (hlo : lo ≤ i + 1) (hk3 : x.kind ≠ 3) (hk5 : x.kind ≠ 5) (hf : ∀ f ∈ fs, f.k < nodes.length) : PostN ws fs top acc nodes i (nodeP L ws (i + 1) nodes x fs.length) := by
  have hlt := (List.getElem?_eq_some_iff.1 hx).1
  have hadd := add_more fs top acc nodes x hf
  have hsl := st_len fs top acc nodes
  have hnl : (St fs top acc nodes).nodes.length = nodes.length := fill_length _ _
  have hstep : stepR (St fs top acc nodes) x = if (x.kind = 2 ∨ x.kind = 4) ∧ 16 ≤ fs.length then .error (x.at_, 3) else
      .ok ⟨(St fs top (acc ++ [(nodes.length : Int)]) (nodes ++ [nodeOf x])).nodes, (St fs top (acc ++ [(nodes.length : Int)]) (nodes ++ [nodeOf x])).top, if x.kind = 2 ∨ x.kind = 4 then (fs.map opn).reverse ++ [⟨nodes.length, x.kind, false⟩] else (fs.map opn).reverse⟩ := by
    unfold stepR
    rw [if_neg hk3, if_neg hk5, hsl, hnl, hadd]
    have : (St fs top acc nodes).st = (fs.map opn).reverse := by show ((upd fs top acc).1.map opn).reverse = _; rw [upd_opn]
    rw [this]
  by_cases ho : x.kind = 2 ∨ x.kind = 4
  · by_cases hd : 16 ≤ fs.length
    · unfold nodeP
      rw [if_pos ho, if_pos hd]
      exact rest_err hx (by rw [hstep, if_pos ⟨ho, hd⟩])
    · rw [nodeP_open ho hd]
      obtain ⟨u, t, hu⟩ : ∃ u t, upd fs top (acc ++ [(nodes.length : Int)]) = (u, t) := ⟨_, _, rfl⟩
      have hul : u.length = fs.length := by have := upd_len fs top (acc ++ [(nodes.length : Int)]); rw [hu] at this; exact this
      have huo : u.map opn = fs.map opn := by have := upd_opn fs top (acc ++ [(nodes.length : Int)]); rw [hu] at this; exact this
      have hult : ∀ f ∈ u, f.k < nodes.length := by have := upd_lt (top := top) (acc := acc ++ [(nodes.length : Int)]) hf; rw [hu] at this; exact this
      have hune : ∀ f ∈ u, f.k ≠ nodes.length := fun f h => by have := hult f h; omega
      have hSt : ∀ nd, St fs top (acc ++ [(nodes.length : Int)]) nd = Sx u t nd := fun nd => by unfold St; rw [hu]
      have h0 : rest (St fs top acc nodes) ws i = rest (St (⟨nodes.length, x, false, []⟩ :: u) t [] (nodes ++ [newNode x])) ws (i + 1) := by
        refine rest_ok hx ?_
        rw [hstep, if_neg (fun h => hd h.2), if_pos ho]
        congr 1
        rw [hSt]
        show (⟨fill u (nodes ++ [nodeOf x]), t, _⟩ : RSt) = ⟨(fill u (nodes ++ [newNode x])).modify nodes.length (fillNode ⟨nodes.length, x, false, []⟩), t, ((⟨nodes.length, x, false, []⟩ :: u).map opn).reverse⟩
        rw [fill_append u nodes _ hult, fill_append u nodes _ hult]
        have hl : nodes.length = (fill u nodes).length := (fill_length _ _).symm
        congr 1
        · conv => rhs; rw [hl]
          rw [modify_last]
          rfl
        · rw [List.map_cons, List.reverse_cons, huo]
          rfl
      unfold bodyP
      have h1 := hL (i + 1) (nodes ++ [newNode x]) (⟨nodes.length, x, false, []⟩ :: u) t hlo hlt (fun f h => by
        rw [List.length_append, List.length_singleton]
        rcases List.mem_cons.1 h with rfl | h
        · exact Nat.lt_succ_self _
        · have := hult f h; omega)
      rw [List.length_cons, hul] at h1
      cases hR : L (i + 1) (nodes ++ [newNode x]) (fs.length + 1) with
      | error f =>
        rw [hR] at h1
        dsimp only at h1
        show rest (St fs top acc nodes) ws i = .error f
        rw [h0]
        exact h1
      | ok r =>
        obtain ⟨b, i1, nodes1⟩ := r
        rw [hR] at h1
        dsimp only at h1 ⊢
        obtain ⟨hi1, hl1, hr1, ⟨ext, hext⟩, hst1⟩ := h1
        have hr1' : rest (St fs top acc nodes) ws i = rest (Sx (⟨nodes.length, x, false, b⟩ :: u) t nodes1) ws i1 := h0.trans hr1
        have hn1 : nodes1[nodes.length]? = some (newNode x) := by rw [hext, List.getElem?_append_left (by simp), List.getElem?_append_right (Nat.le_refl _)]; simp
        have fin : ∀ {e : Bool} {a : List Int} {nd : List Node} {j : Nat}, rest (St fs top acc nodes) ws i = rest (Sx (⟨nodes.length, x, e, a⟩ :: u) t nd) ws j → i + 1 ≤ j → Stops ws j → (∃ y, nd[nodes.length]? = some y ∧ y.at_ = x.at_ ∧ (e = false → y.has = false ∧ y.els = [])) → (∃ ext', nd = nodes ++ ext') →
            (e = false → ∀ z, ws[j]? = some z → z.kind ≠ 3) →
            j ≤ ws.length → PostN ws fs top acc nodes i (finN (finB ws x j (if e then setEls nd nodes.length a else setBody nd nodes.length a)) nodes.length (kindOf x.kind)) := by
          intro e a nd j hr hj hs hy hnd he2 hjl
          obtain ⟨y, hy1, hy2, hy3⟩ := hy
          obtain ⟨ext', hnd⟩ := hnd
          unfold finB
          cases hz : ws[j]? with
          | none =>
            show rest (St fs top acc nodes) ws i = .error _
            rw [hr]
            exact open_end (g := ⟨nodes.length, x, e, a⟩) hz hy1 hune hy2
          | some z =>
            dsimp only
            rcases hs z hz with h3 | h5
            · rw [if_pos h3]
              show rest (St fs top acc nodes) ws i = .error _
              rw [hr]
              refine open_else_bad hz h3 ?_
              cases e with
              | true => exact .inr rfl
              | false => exact absurd h3 (he2 rfl z hz)
            · rw [if_neg (by omega)]
              have hzl := (List.getElem?_eq_some_iff.1 hz).1
              refine ⟨by omega, by omega, rfl, ?_, ?_⟩
              · rw [hr, open_pop (g := ⟨nodes.length, x, e, a⟩) hz h5 hune, hSt]
                congr 2
                unfold setKind setEls setBody
                cases e with
                | true =>
                  rw [if_pos rfl, modify_two]
                  refine modify_congr (fun q hq => ?_)
                  rfl
                | false =>
                  rw [if_neg (by simp), modify_two]
                  refine modify_congr (fun q hq => ?_)
                  rw [hy1] at hq
                  cases hq
                  unfold fillNode
                  simp [hy3 rfl]
              · unfold setKind setEls setBody
                rw [hnd]
                cases e with
                | true =>
                  rw [if_pos rfl, modify_two, modify_tail]
                  exact ⟨_, rfl⟩
                | false =>
                  rw [if_neg (by simp), modify_two, modify_tail]
                  exact ⟨_, rfl⟩
        have hext1 : ∃ ext', nodes1 = nodes ++ ext' := ⟨[newNode x] ++ ext, by rw [hext, List.append_assoc]⟩
        cases hz : ws[i1]? with
        | none =>
          have := fin (e := false) hr1' hi1 hst1 ⟨_, hn1, rfl, fun _ => ⟨rfl, rfl⟩⟩ hext1 (fun _ z h => by rw [hz] at h; cases h) hl1
          exact this
        | some y =>
          dsimp only
          by_cases h3 : y.kind = 3
          · rw [if_pos h3]
            by_cases h4 : x.kind = 4
            · rw [if_pos h4]
              show rest (St fs top acc nodes) ws i = .error _
              rw [hr1']
              exact open_else_bad hz h3 (.inl (by dsimp only; omega))
            · rw [if_neg h4]
              have h2 : x.kind = 2 := by omega
              have hr2 := open_else (b := b) (t := t) hz h3 h2 hune hn1 rfl
              have hbl : (setBody nodes1 nodes.length b).length = nodes1.length := by simp [setBody]
              have h5 := hL (i1 + 1) (setBody nodes1 nodes.length b) (⟨nodes.length, x, true, []⟩ :: u) t (by omega) (by have := (List.getElem?_eq_some_iff.1 hz).1; omega) (fun f h => by
                rw [hbl, hext, List.length_append, List.length_append, List.length_singleton]
                rcases List.mem_cons.1 h with rfl | h
                · show nodes.length < _; omega
                · have := hult f h; omega)
              rw [List.length_cons, hul] at h5
              cases hR2 : L (i1 + 1) (setBody nodes1 nodes.length b) (fs.length + 1) with
              | error f =>
                rw [hR2] at h5
                dsimp only at h5
                show rest (St fs top acc nodes) ws i = .error f
                rw [hr1', hr2]
                exact h5
              | ok r2 =>
                obtain ⟨e2, i2, nodes2⟩ := r2
                rw [hR2] at h5
                dsimp only at h5 ⊢
                obtain ⟨hi2, hl2, hr3, ⟨ext2, hext2⟩, hst2⟩ := h5
                have hb2 : (setBody nodes1 nodes.length b)[nodes.length]? = some { newNode x with body := b } := by
                  unfold setBody
                  rw [List.getElem?_modify, hn1]
                  simp
                have hn2 : nodes2[nodes.length]? = some { newNode x with body := b } := by
                  rw [hext2, List.getElem?_append_left (List.getElem?_eq_some_iff.1 hb2).1]
                  exact hb2
                have := fin (e := true) ((hr1'.trans hr2).trans hr3) (by omega) hst2 ⟨_, hn2, rfl, fun h => by cases h⟩ (by
                  rw [hext2, hext]
                  unfold setBody
                  rw [List.append_assoc nodes, modify_tail]
                  exact ⟨_, List.append_assoc _ _ _⟩) (fun h => by cases h) hl2
                exact this
          · rw [if_neg h3]
            have := fin (e := false) hr1' hi1 hst1 ⟨_, hn1, rfl, fun _ => ⟨rfl, rfl⟩⟩ hext1 (fun _ z h => by rw [hz] at h; cases h; exact h3) hl1
            exact this
  · unfold nodeP
    rw [if_neg ho]
    refine ⟨Nat.le_refl _, hlt, rfl, ?_, [nodeOf x], ?_⟩
    · rw [rest_ok hx (by rw [hstep, if_neg (fun h => ho h.1), if_neg ho])]
      congr 1
      unfold setKind
      rw [modify_last]
      show _ = St fs top (acc ++ [(nodes.length : Int)]) (nodes ++ [nodeOf x])
      have : (St fs top (acc ++ [(nodes.length : Int)]) (nodes ++ [nodeOf x])).st = (fs.map opn).reverse := by show ((upd fs top _).1.map opn).reverse = _; rw [upd_opn]
      rw [← this]
    · unfold setKind
      rw [modify_last]
      rfl

theorem sim_list (ws : List Word) : ∀ (n i : Nat) (nodes : List Node) (fs : List Frame) (top acc : List Int), ws.length + 1 ≤ i + n → i ≤ ws.length → (∀ f ∈ fs, f.k < nodes.length) →
    match listP ws n i nodes fs.length acc with
    | .error f => rest (St fs top acc nodes) ws i = .error f
    | .ok (acc', i', nodes') => i ≤ i' ∧ i' ≤ ws.length ∧ rest (St fs top acc nodes) ws i = rest (St fs top acc' nodes') ws i' ∧ (∃ ext, nodes' = nodes ++ ext) ∧ Stops ws i' := by
  intro n
  induction n with
  | zero =>
    intro i nodes fs top acc hn hi hf
    omega
  | succ n ih =>
    intro i nodes fs top acc hn hi hf
    unfold listP
    cases hx : ws[i]? with
    | none => exact ⟨Nat.le_refl _, hi, rfl, ⟨[], by simp⟩, fun x h => by rw [hx] at h; cases h⟩
    | some w =>
      have hlt := (List.getElem?_eq_some_iff.1 hx).1
      dsimp only
      by_cases hs : w.kind = 3 ∨ w.kind = 5
      · rw [if_pos hs]
        exact ⟨Nat.le_refl _, hi, rfl, ⟨[], by simp⟩, fun x h => by rw [hx] at h; cases h; exact hs⟩
      · rw [if_neg hs]
        have hL : SimL ws (fun i nd d => listP ws n i nd d []) (i + 1) := fun i' nodes' fs' top' hi' hl' hf' => ih i' nodes' fs' top' [] (by omega) hl' hf'
        have h1 := sim_node hL i nodes fs top acc w hx (Nat.le_refl _) (fun h => hs (.inl h)) (fun h => hs (.inr h)) hf
        cases hR : nodeP (fun i nd d => listP ws n i nd d []) ws (i + 1) nodes w fs.length with
        | error f =>
          rw [hR] at h1
          exact h1
        | ok r =>
          obtain ⟨k, i1, nd⟩ := r
          rw [hR] at h1
          dsimp only at h1 ⊢
          obtain ⟨a1, a0, a2, a3, ext, a4⟩ := h1
          have h2 := ih i1 nd fs top (acc ++ [k]) (by omega) a0 (fun f h => by have := hf f h; rw [a4, List.length_append]; omega)
          cases hR2 : listP ws n i1 nd fs.length (acc ++ [k]) with
          | error f =>
            rw [hR2] at h2
            dsimp only at h2 ⊢
            rw [a3]
            exact h2
          | ok r2 =>
            obtain ⟨acc2, i2, nd2⟩ := r2
            rw [hR2] at h2
            dsimp only at h2 ⊢
            obtain ⟨b1, b0, b2, ⟨ext2, b3⟩, b4⟩ := h2
            exact ⟨by omega, b0, a3.trans b2, ⟨ext ++ ext2, by rw [b3, a4, List.append_assoc]⟩, b4⟩
theorem tree_stack (ws : List Word) : treeF ws = stackR ws := by
  have h := sim_list ws (ws.length + 1) 0 [] [] [] [] (by omega) (Nat.zero_le _) (fun f h => by cases h)
  have h0 : rest (St [] [] [] []) ws 0 = stackR ws := by
    unfold rest stackR
    rw [List.drop_zero]
    rfl
  rw [h0] at h
  unfold treeF
  rw [List.length_nil] at h
  cases hR : listP ws (ws.length + 1) 0 [] 0 [] with
  | error f =>
    rw [hR] at h
    exact h.symm
  | ok r =>
    obtain ⟨top, i, nodes⟩ := r
    rw [hR] at h
    dsimp only at h ⊢
    obtain ⟨-, -, h2, -, h4⟩ := h
    rw [h2]
    cases hx : ws[i]? with
    | none =>
      rw [rest_end hx]
      rfl
    | some x =>
      dsimp only
      symm
      refine rest_err hx ?_
      unfold stepR
      rcases h4 x hx with h3 | h5
      · rw [if_pos h3]
        rfl
      · rw [if_neg (by omega), if_pos h5]
        rfl
theorem parse_ref (s : List UInt8) : parseF s = refParse s := by
  unfold parseF refParse lexAllF
  by_cases h1 : 65536 < s.length
  · rw [if_pos h1, if_pos h1]
    rfl
  · rw [if_neg h1, if_neg h1]
    by_cases h2 : 0 ≤ (lexW 0 s).2
    · rw [if_pos h2, if_pos h2]
      rfl
    · rw [if_neg h2, if_neg h2]
      dsimp only
      rw [if_pos rfl]
      exact tree_stack _
end Go.Proofs.YtcggeaobonblfaaDoor

/- The reference's names and blanks: what was printed of them answers as the plain functions say. -/
namespace Go.Proofs.YtcggeaobonblfaaDoor
open Go Go.RowKit Go.Proofs.YtcggeaobonblfaaDoorW.PrintWords Go.Proofs.YtcggeaobonblfaaDoor.PParseTrees
abbrev toB (l : List UInt8) : ByteArray := ⟨l.toArray⟩
theorem toB_size (l : List UInt8) : (toB l).size = l.length := by simp [toB, ByteArray.size]
theorem toB_list (l : List UInt8) : (toB l).toList = l := by rw [ByteArray.toList_eq]
theorem toB_bt (l : List UInt8) (i : Nat) (h : i < l.length) : bt (toB l) i = (l[i].toNat : Int) := by
  unfold bt
  rw [dif_pos (by simpa [toB_size] using h)]
  simp [toB, ByteArray.getElem_eq_getElem_data]
theorem w64 {n : Int} (h0 : -1 ≤ n) (h1 : n ≤ 1000000) : wrap64 n = n := by unfold wrap64; omega

/-- The loop of Name. -/
theorem name_loop (l : List UInt8) (hl : l.length ≤ 100000) : ∀ (m i : Nat), l.length - i = m → i ≤ l.length → (i = 0 → ∀ h : 0 < l.length, 97 ≤ l[0].toNat ∧ l[0].toNat ≤ 122) →
    Ev (fun k => bobbinref13_Name.l0 k (toB l) i) (okFrom i (l.drop i)) := by
  intro m
  induction m with
  | zero =>
    intro i hm hi h0
    refine Ev.step (f := fun _ => some (okFrom i (l.drop i))) (fun k => ?_) (Ev.now _)
    unfold bobbinref13_Name.l0
    rw [if_neg (by rw [toB_size]; omega)]
    have : l.drop i = [] := List.drop_eq_nil_of_le (by omega)
    rw [this]
    rfl
  | succ m ih =>
    intro i hm hi h0
    have hlt : i < l.length := by omega
    have hw : wrap64 ((i : Int) + 1) = ((i + 1 : Nat) : Int) := by rw [w64 (by omega) (by omega)]; omega
    have hd : l.drop i = l[i] :: l.drop (i + 1) := List.drop_eq_getElem_cons hlt
    have next := ih (i + 1) (by omega) (by omega) (by omega)
    have hb := toB_bt l i hlt
    have hok := okAt_iff i l[i]
    by_cases hk : okAt i l[i] = true
    · refine Ev.step (fun k => ?_) (f := fun k => bobbinref13_Name.l0 k (toB l) ((i + 1 : Nat) : Int)) ?_
      · conv => lhs; unfold bobbinref13_Name.l0
        rw [if_pos (by rw [toB_size]; omega), if_pos (by omega), hw, hb]
        have := hok.1 hk
        repeat' split
        all_goals first
          | rfl
          | omega
      · rw [hd]
        simpa [okFrom, hk] using next
    · refine Ev.step (fun k => ?_) (f := fun k => some false) ?_
      · conv => lhs; unfold bobbinref13_Name.l0
        rw [if_pos (by rw [toB_size]; omega), if_pos (by omega), hw, hb]
        have hn : ¬ ((97 ≤ l[i].toNat ∧ l[i].toNat ≤ 122) ∨ (0 < i ∧ ((48 ≤ l[i].toNat ∧ l[i].toNat ≤ 57) ∨ l[i].toNat = 95))) := fun h => hk (hok.2 h)
        have hz : i = 0 → 97 ≤ l[i].toNat ∧ l[i].toNat ≤ 122 := fun e => by subst e; exact h0 rfl hlt
        repeat' split
        all_goals first
          | rfl
          | omega
      · rw [hd]
        have : okFrom i (l[i] :: l.drop (i + 1)) = false := by simp [okFrom, hk]
        rw [this]
        exact Ev.now _
theorem name_ev (l : List UInt8) (hl : l.length ≤ 100000) : Ev (fun k => bobbinref13_Name.f k (toB l)) (nameF l) := by
  have j : ∀ b r, (b = true → r = false) → (b = false → Ev (fun k => bobbinref13_Name.l0 k (toB l) 0) r) → Ev (fun k => bobbinref13_Name.j0 k (toB l) b) r := by
    intro b r h1 h2
    cases b with
    | true =>
      refine Ev.step (fun k => ?_) (f := fun k => some false) (by rw [h1 rfl]; exact Ev.now _)
      unfold bobbinref13_Name.j0
      rfl
    | false =>
      refine Ev.step (fun k => ?_) (h2 rfl)
      conv => lhs; unfold bobbinref13_Name.j0
      rfl
  unfold bobbinref13_Name.f
  by_cases h0 : l.length = 0
  · have : nameF l = false := by unfold nameF; simp [h0]
    rw [this]
    refine Ev.congr (fun k => ?_) (j true false (fun _ => rfl) (fun h => by cases h))
    rw [if_pos (by rw [toB_size]; omega)]
  by_cases h1 : 32 < l.length
  · have : nameF l = false := by unfold nameF; simp; omega
    rw [this]
    refine Ev.congr (fun k => ?_) (j true false (fun _ => rfl) (fun h => by cases h))
    rw [if_neg (by rw [toB_size]; omega), if_pos (by rw [toB_size]; omega)]
  have hb := toB_bt l 0 (by omega)
  by_cases h2 : l[0].toNat < 97
  · have : nameF l = false := nameF_bad l 0 (by omega) (by
      have := okAt_iff 0 l[0]
      rw [← Bool.not_eq_true, this]; omega)
    rw [this]
    refine Ev.congr (fun k => ?_) (j true false (fun _ => rfl) (fun h => by cases h))
    rw [if_neg (by rw [toB_size]; omega), if_neg (by rw [toB_size]; omega), if_pos (by rw [toB_size]; omega), if_pos (by rw [show (0 : Int) = ((0 : Nat) : Int) from rfl, hb]; omega)]
  refine Ev.congr (fun k => ?_) (j (decide (bt (toB l) 0 > 122)) (nameF l) ?_ ?_)
  · rw [if_neg (by rw [toB_size]; omega), if_neg (by rw [toB_size]; omega), if_pos (by rw [toB_size]; omega), if_neg (by rw [show (0 : Int) = ((0 : Nat) : Int) from rfl, hb]; omega)]
  · intro h
    have h' : (122 : Int) < bt (toB l) ((0 : Nat) : Int) := by simpa using h
    rw [hb] at h'
    exact nameF_bad l 0 (by omega) (by
      have := okAt_iff 0 l[0]
      rw [← Bool.not_eq_true, this]; omega)
  · intro h
    have h' : ¬ (122 : Int) < bt (toB l) ((0 : Nat) : Int) := by simpa using h
    rw [hb] at h'
    have := name_loop l hl l.length 0 (by omega) (by omega) (fun _ _ => by omega)
    have e : nameF l = okFrom 0 (l.drop 0) := by
      unfold nameF
      rw [decide_eq_true (show 1 ≤ l.length by omega), decide_eq_true (show l.length ≤ 32 by omega)]
      simp
    rw [e]
    exact this

/-! trim -/
theorem rev_last (l : List UInt8) (h : 0 < l.length) : l.reverse = l[l.length - 1] :: (l.take (l.length - 1)).reverse := by
  have h1 : l = l.take (l.length - 1) ++ [l[l.length - 1]] := by
    have := List.take_append_getElem (show l.length - 1 < l.length by omega)
    rw [this, List.take_of_length_le (by omega)]
  conv => lhs; rw [h1]
  simp
theorem trim_right : ∀ (m : Nat) (l : List UInt8), l.length = m → l.length ≤ 100000 → Ev (fun k => bobbinref13_trim.l1 k (toB l)) (toB (Lib.trimRightB l 32)) := by
  intro m
  induction m with
  | zero =>
    intro l hm hl
    have : l = [] := List.length_eq_zero_iff.1 hm
    subst this
    refine Ev.step (f := fun _ => some (toB (Lib.trimRightB [] 32))) (fun k => ?_) (Ev.now _)
    unfold bobbinref13_trim.l1
    rw [if_neg (by rw [toB_size]; simp)]
    rfl
  | succ m ih =>
    intro l hm hl
    have hw : wrap64 (((toB l).size : Int) - 1) = ((l.length - 1 : Nat) : Int) := by rw [toB_size, w64 (by omega) (by omega)]; omega
    have hb := toB_bt l (l.length - 1) (by omega)
    by_cases h : l[l.length - 1] = 32
    · have e : Lib.trimRightB l 32 = Lib.trimRightB (l.take (l.length - 1)) 32 := by
        unfold Lib.trimRightB
        rw [rev_last l (by omega), List.dropWhile_cons_of_pos (by simp [h])]
      rw [e]
      refine Ev.step (f := fun k => bobbinref13_trim.l1 k (toB (l.take (l.length - 1)))) (fun k => ?_) (ih _ (by simp; omega) (by simp; omega))
      conv => lhs; unfold bobbinref13_trim.l1
      rw [hw, if_pos (by rw [toB_size]; omega), if_pos (by omega), if_pos (by rw [toB_size]; omega), if_pos (by rw [hb, h]; rfl), if_pos (by rw [toB_size]; omega)]
      simp only [Int.toNat_natCast]
      rw [ext_take]
    · have e : Lib.trimRightB l 32 = l := by
        unfold Lib.trimRightB
        rw [rev_last l (by omega), List.dropWhile_cons_of_neg (by simp [h]), ← rev_last l (by omega)]
        simp
      rw [e]
      refine Ev.step (f := fun k => some (toB l)) (fun k => ?_) (Ev.now _)
      conv => lhs; unfold bobbinref13_trim.l1
      rw [hw, if_pos (by rw [toB_size]; omega), if_pos (by omega), if_pos (by rw [toB_size]; omega), if_neg (by
        rw [hb]
        intro h2
        exact h (UInt8.toNat_inj.1 (by have h3 : (32 : UInt8).toNat = 32 := rfl; omega)))]
theorem trim_left : ∀ (m : Nat) (l : List UInt8), l.length = m → l.length ≤ 100000 → Ev (fun k => bobbinref13_trim.l0 k (toB l)) (toB (Lib.trimRightB (Lib.trimLeftB l 32) 32)) := by
  have j : ∀ l : List UInt8, l.length ≤ 100000 → Ev (fun k => bobbinref13_trim.j1 k (toB l)) (toB (Lib.trimRightB l 32)) := fun l hl =>
    Ev.step (f := fun k => bobbinref13_trim.l1 k (toB l)) (fun k => by conv => lhs; unfold bobbinref13_trim.j1) (trim_right _ l rfl hl)
  intro m
  induction m with
  | zero =>
    intro l hm hl
    have : l = [] := List.length_eq_zero_iff.1 hm
    subst this
    refine Ev.step (f := fun k => bobbinref13_trim.j1 k (toB [])) (fun k => ?_) (j [] (by simp))
    conv => lhs; unfold bobbinref13_trim.l0
    rw [if_neg (by rw [toB_size]; simp)]
  | succ m ih =>
    intro l hm hl
    cases l with
    | nil => simp at hm
    | cons b l =>
      have hb : bt (toB (b :: l)) ((0 : Nat) : Int) = (b.toNat : Int) := toB_bt (b :: l) 0 (by simp)
      have hs : (toB (b :: l)).size = l.length + 1 := by rw [toB_size]; rfl
      by_cases h : b = 32
      · have e : Lib.trimLeftB (b :: l) 32 = Lib.trimLeftB l 32 := by unfold Lib.trimLeftB; rw [List.dropWhile_cons_of_pos (by simp [h])]
        rw [e]
        refine Ev.step (f := fun k => bobbinref13_trim.l0 k (toB l)) (fun k => ?_) (ih l (by simpa using hm) (by simp at hl; omega))
        conv => lhs; unfold bobbinref13_trim.l0
        rw [if_pos (by omega), if_pos (by omega), if_pos (by rw [show (0 : Int) = ((0 : Nat) : Int) from rfl, hb, h]; rfl), if_pos (by omega), ext_drop _ _ _ (by rw [toB_size]; exact Nat.le_refl _)]
        rfl
      · have e : Lib.trimLeftB (b :: l) 32 = b :: l := by unfold Lib.trimLeftB; rw [List.dropWhile_cons_of_neg (by simp [h])]
        rw [e]
        refine Ev.step (f := fun k => bobbinref13_trim.j1 k (toB (b :: l))) (fun k => ?_) (j _ hl)
        conv => lhs; unfold bobbinref13_trim.l0
        rw [if_pos (by omega), if_pos (by omega), if_neg (by
          rw [show (0 : Int) = ((0 : Nat) : Int) from rfl, hb]
          intro h2
          exact h (UInt8.toNat_inj.1 (by have h3 : (32 : UInt8).toNat = 32 := rfl; omega)))]
/-- The two sides of a trim may be cut in either order. -/
theorem trim_right_cons (b : UInt8) (l : List UInt8) (c : UInt8) : Lib.trimRightB (b :: l) c = if Lib.trimRightB l c = [] then (if b = c then [] else [b]) else b :: Lib.trimRightB l c := by
  unfold Lib.trimRightB
  rw [List.reverse_cons, List.dropWhile_append]
  by_cases h : (l.reverse.dropWhile (· == c)) = []
  · rw [h]
    by_cases hb : b = c
    · subst hb
      simp
    · have hb' : (b == c) = false := by simpa using hb
      simp [hb, hb', List.dropWhile]
  · have h' : (l.reverse.dropWhile (· == c)).isEmpty = false := by
      rw [← Bool.not_eq_true, List.isEmpty_iff]; exact h
    rw [h']
    have h2 : (l.reverse.dropWhile (· == c)).reverse ≠ [] := by simpa using h
    rw [if_neg h2]
    simp
theorem trim_swap (l : List UInt8) (c : UInt8) : Lib.trimRightB (Lib.trimLeftB l c) c = Lib.trimB l c := by
  unfold Lib.trimB
  induction l with
  | nil => rfl
  | cons b l ih =>
    have hd : ∀ x : List UInt8, Lib.trimLeftB (b :: x) c = if b = c then Lib.trimLeftB x c else b :: x := fun x => by
      unfold Lib.trimLeftB
      by_cases hb : b = c
      · rw [if_pos hb, List.dropWhile_cons_of_pos (by simp [hb])]
      · rw [if_neg hb, List.dropWhile_cons_of_neg (by simp [hb])]
    rw [hd l]
    by_cases hb : b = c
    · rw [if_pos hb, ih, trim_right_cons]
      by_cases h : Lib.trimRightB l c = []
      · rw [if_pos h, if_pos hb, h]
      · rw [if_neg h, hd, if_pos hb]
    · rw [if_neg hb, trim_right_cons]
      by_cases h : Lib.trimRightB l c = []
      · rw [if_pos h, if_neg hb, hd, if_neg hb]
      · rw [if_neg h, hd, if_neg hb]
theorem trim_ev (l : List UInt8) (hl : l.length ≤ 100000) : Ev (fun k => bobbinref13_trim.f k (toB l)) (toB (Lib.trimB l 32)) := by
  rw [← trim_swap]
  exact trim_left _ l rfl hl
end Go.Proofs.YtcggeaobonblfaaDoor

/- The reference's ways: what was printed answers as wayF says. -/
namespace Go.Proofs.YtcggeaobonblfaaDoor
set_option linter.unusedSimpArgs false
open Go Go.RowKit Go.Proofs.YtcggeaobonblfaaDoorW.PrintWords Go.Proofs.YtcggeaobonblfaaDoor.PParseTrees
theorem dots_plain : ∀ (p : List UInt8), (∀ b ∈ p, b ≠ 46) → dots p = [p] ∧ ∀ r, dots (p ++ 46 :: r) = p :: dots r
  | [], _ => ⟨rfl, fun r => by simp [dots]⟩
  | b :: p, h => by
    obtain ⟨h1, h2⟩ := dots_plain p (fun x hx => h x (List.mem_cons_of_mem _ hx))
    have hb : b ≠ 46 := h b (List.mem_cons_self)
    refine ⟨by unfold dots; rw [if_neg hb, h1], fun r => ?_⟩
    rw [List.cons_append]
    conv => lhs; unfold dots
    rw [if_neg hb, h2]
/-- What the loop of Way comes to. -/
def wayEnd (root : Bool) (names parts : List (List UInt8)) : Bool × List ByteArray × Bool :=
  if parts.all nameF && decide (names.length + parts.length ≤ 8) then (root, (names ++ parts).map toB, true) else (false, [], false)
theorem wayEnd_cons (root : Bool) (names : List (List UInt8)) (p : List UInt8) (parts : List (List UInt8)) :
    wayEnd root names (p :: parts) = if nameF p = true ∧ names.length < 8 then wayEnd root (names ++ [p]) parts else (false, [], false) := by
  by_cases h : nameF p = true ∧ names.length < 8
  · conv => rhs; rw [if_pos h]
    unfold wayEnd
    simp [h.1, Nat.add_assoc, Nat.add_comm 1]
  · conv => rhs; rw [if_neg h]
    unfold wayEnd
    rw [if_neg]
    intro h2
    simp at h2
    exact h ⟨h2.1.1, by omega⟩
theorem way_loop (l : List UInt8) (hl : l.length ≤ 100000) (root : Bool) : ∀ (m f i : Nat) (names : List (List UInt8)), l.length + 1 - i = m → f ≤ i → i ≤ l.length → names.length ≤ 8 → (∀ j, f ≤ j → j < i → l[j]? ≠ some 46) →
    Ev (fun k => bobbinref13_Way.l0 k (toB l) f i root (names.map toB)) (wayEnd root names (dots (l.drop f))) := by
  intro m
  induction m with
  | zero => intro f i names hm hf hi; omega
  | succ m ih =>
    intro f i names hm hf hi hn hj
    have hw : wrap64 ((i : Int) + 1) = ((i + 1 : Nat) : Int) := by rw [w64 (by omega) (by omega)]; omega
    -- the part that ends here
    have cut : (i = l.length ∨ l[i]? = some 46) → Ev (fun k => bobbinref13_Way.j3 k (toB l) f i false root (names.map toB)) (wayEnd root names (dots (l.drop f))) := by
      intro hc
      have hplain : ∀ b ∈ (l.drop f).take (i - f), b ≠ 46 := by
        intro b hb e
        obtain ⟨j, hjl, hjb⟩ := List.getElem_of_mem hb
        subst e
        have hjl' : j < i - f := by simp at hjl; omega
        refine hj (f + j) (by omega) (by omega) ?_
        rw [List.getElem_take, List.getElem_drop] at hjb
        rw [← hjb]
        exact List.getElem?_eq_getElem _
      obtain ⟨d1, d2⟩ := dots_plain _ hplain
      have hdots : dots (l.drop f) = (l.drop f).take (i - f) :: (if i = l.length then [] else dots (l.drop (i + 1))) := by
        by_cases hil : i = l.length
        · rw [if_pos hil]
          have : (l.drop f).take (i - f) = l.drop f := List.take_of_length_le (by simp; omega)
          rw [this] at d1 ⊢
          exact d1
        · rw [if_neg hil]
          have h46 : l[i]? = some 46 := hc.resolve_left hil
          have hlt : i < l.length := by omega
          have : l.drop f = (l.drop f).take (i - f) ++ 46 :: l.drop (i + 1) := by
            have e1 := (List.take_append_drop (i - f) (l.drop f)).symm
            rw [List.drop_drop, show f + (i - f) = i by omega, List.drop_eq_getElem_cons hlt] at e1
            rw [List.getElem?_eq_getElem hlt] at h46
            rw [Option.some.inj h46] at e1
            exact e1
          conv => lhs; rw [this]
          exact d2 _
      rw [hdots, wayEnd_cons]
      have hpart := name_ev ((l.drop f).take (i - f)) (by simp; omega)
      have e0 : ∀ k, bobbinref13_Way.j3 (k + 1) (toB l) f i false root (names.map toB) = (bobbinref13_Name.f k (toB ((l.drop f).take (i - f)))).bind fun t122 => (if t122 = true then (if ((names.map toB).length : Int) ≥ 8 then (some (false, ([] : List ByteArray), false)) else (if (names.map toB).length < 8796093022208 then (bobbinref13_Way.l0 k (toB l) ((i + 1 : Nat) : Int) ((i + 1 : Nat) : Int) root ((names.map toB) ++ [toB ((l.drop f).take (i - f))])) else (none))) else (some (false, ([] : List ByteArray), false))) := fun k => by
        conv => lhs; unfold bobbinref13_Way.j3
        rw [if_neg (by simp), if_pos (by omega), if_pos (by omega), if_pos (by rw [toB_size]; omega), hw]
        simp only [Int.toNat_natCast]
        rw [ext_cut]
      refine Ev.step e0 (Ev.bind hpart ?_)
      by_cases h1 : nameF ((l.drop f).take (i - f)) = true
      · by_cases h2 : names.length < 8
        · rw [if_pos ⟨h1, h2⟩]
          have key : Ev (fun k => bobbinref13_Way.l0 k (toB l) ((i + 1 : Nat) : Int) ((i + 1 : Nat) : Int) root ((names ++ [(l.drop f).take (i - f)]).map toB)) (wayEnd root (names ++ [(l.drop f).take (i - f)]) (if i = l.length then [] else dots (l.drop (i + 1)))) := by
            by_cases hil : i = l.length
            · rw [if_pos hil]
              refine Ev.step (f := fun _ => some (wayEnd root (names ++ [(l.drop f).take (i - f)]) [])) (fun k => ?_) (Ev.now _)
              conv => lhs; unfold bobbinref13_Way.l0
              rw [if_neg (by rw [toB_size]; omega)]
              unfold wayEnd
              rw [if_pos (by simp; omega)]
              simp
            · rw [if_neg hil]
              exact ih (i + 1) (i + 1) _ (by omega) (Nat.le_refl _) (by omega) (by simp; omega) (fun j h1 h2 => by omega)
          refine Ev.congr (fun k => ?_) key
          rw [if_pos h1, if_neg (by simp; omega), if_pos (by simp; omega)]
          simp
        · rw [if_neg (fun h => h2 h.2)]
          refine Ev.congr (fun k => ?_) (Ev.now _)
          rw [if_pos h1, if_pos (by simp; omega)]
      · rw [if_neg (fun h => h1 h.1)]
        refine Ev.congr (fun k => ?_) (Ev.now _)
        rw [if_neg h1]
    by_cases hil : i = l.length
    · refine Ev.step (fun k => ?_) (cut (.inl hil))
      conv => lhs; unfold bobbinref13_Way.l0
      rw [if_pos (by rw [toB_size]; omega), if_neg (by rw [toB_size]; omega)]
    · have hlt : i < l.length := by omega
      have hb := toB_bt l i hlt
      by_cases h46 : l[i] = 46
      · refine Ev.step (fun k => ?_) (cut (.inr (by rw [List.getElem?_eq_getElem hlt, h46])))
        conv => lhs; unfold bobbinref13_Way.l0
        rw [if_pos (by rw [toB_size]; omega), if_pos (by rw [toB_size]; omega), if_pos (by omega), hb, h46]
        rfl
      · have hne : (((l[i].toNat : Int)) != 46) = true := by
          simp only [bne_iff_ne, ne_eq]
          intro h
          exact h46 (UInt8.toNat_inj.1 (by have h3 : (46 : UInt8).toNat = 46 := rfl; omega))
        refine Ev.step (f := fun k => bobbinref13_Way.j3 k (toB l) f i true root (names.map toB)) (fun k => ?_) ?_
        · conv => lhs; unfold bobbinref13_Way.l0
          rw [if_pos (by rw [toB_size]; omega), if_pos (by rw [toB_size]; omega), if_pos (by omega), hb, hne]
        refine Ev.step (f := fun k => bobbinref13_Way.l0 k (toB l) f ((i + 1 : Nat) : Int) root (names.map toB)) (fun k => ?_) ?_
        · conv => lhs; unfold bobbinref13_Way.j3
          rw [if_pos rfl, hw]
        · refine ih f (i + 1) names (by omega) (by omega) (by omega) hn (fun j h1 h2 => ?_)
          by_cases hji : j = i
          · subst hji
            rw [List.getElem?_eq_getElem hlt]
            exact fun h => h46 (Option.some.inj h)
          · exact hj j h1 (by omega)
/-- A way, with its names as the print has them. -/
def wayB (r : Bool × List (List UInt8) × Bool) : Bool × List ByteArray × Bool := (r.1, r.2.1.map toB, r.2.2)
theorem way_ev (l : List UInt8) (hl : l.length ≤ 100000) : Ev (fun k => bobbinref13_Way.f k (toB l)) (wayB (wayF l)) := by
  have j1 : ∀ (x : List UInt8) (root : Bool), x.length ≤ 100000 → Ev (fun k => bobbinref13_Way.j1 k (toB x) root) (wayEnd root [] (dots x)) := fun x root hx =>
    Ev.step (f := fun k => bobbinref13_Way.l0 k (toB x) ((0 : Nat) : Int) ((0 : Nat) : Int) root (([] : List (List UInt8)).map toB)) (fun k => by
      conv => lhs; unfold bobbinref13_Way.j1
      rfl)
      (by simpa using way_loop x hx root _ 0 0 [] rfl (Nat.le_refl _) (Nat.zero_le _) (by simp) (fun j h1 h2 => by omega))
  have hend : ∀ root x, wayEnd root [] x = wayB (if (x.all nameF && decide (x.length ≤ 8)) = true then (root, x, true) else (false, [], false)) := fun root x => by
    unfold wayEnd wayB
    by_cases h : (x.all nameF && decide (x.length ≤ 8)) = true
    · rw [if_pos h, if_pos (by simpa using h)]; simp
    · rw [if_neg h, if_neg (by simpa using h)]; rfl
  have j0f : ∀ x : List UInt8, x.length ≤ 100000 → Ev (fun k => bobbinref13_Way.j0 k (toB x) false false) (wayEnd false [] (dots x)) := fun x hx =>
    Ev.step (f := fun k => bobbinref13_Way.j1 k (toB x) false) (fun k => by
      conv => lhs; unfold bobbinref13_Way.j0
      rfl) (j1 x false hx)
  have hf : ∀ k, bobbinref13_Way.f k (toB l) = if l = [46] then (some (false, ([] : List ByteArray), true)) else (if l = [36] then (some (true, ([] : List ByteArray), true)) else (if ((toB l).size : Int) ≥ 2 then (if 0 < ((toB l).size : Int) then (if (bt (toB l) ((0 : Nat) : Int)) = 36 then (if 1 < ((toB l).size : Int) then (bobbinref13_Way.j0 k (toB l) ((bt (toB l) ((1 : Nat) : Int)) == 46) false) else (none)) else (bobbinref13_Way.j0 k (toB l) false false)) else (none)) else (bobbinref13_Way.j0 k (toB l) false false))) := fun k => by
    unfold bobbinref13_Way.f
    rw [toB_list]
    rfl
  unfold wayF
  by_cases h1 : l = [46]
  · rw [if_pos h1]
    refine Ev.congr (fun k => ?_) (Ev.now _)
    rw [hf, if_pos h1]; rfl
  rw [if_neg h1]
  by_cases h2 : l = [36]
  · rw [if_pos h2]
    refine Ev.congr (fun k => ?_) (Ev.now _)
    rw [hf, if_neg h1, if_pos h2]; rfl
  rw [if_neg h2]
  have h46 : ∀ b : UInt8, ((b.toNat : Int) == 46) = (b == 46) := fun b => by
    by_cases h : b = 46
    · subst h; rfl
    · have h' : (b == 46) = false := by simpa using h
      rw [h']
      simp only [beq_eq_false_iff_ne, ne_eq]
      exact fun e => h (UInt8.toNat_inj.1 (by have h3 : (46 : UInt8).toNat = 46 := rfl; omega))
  have h36 : ∀ b : UInt8, (b.toNat : Int) = 36 ↔ b = 36 := fun b =>
    ⟨fun e => UInt8.toNat_inj.1 (by have h3 : (36 : UInt8).toNat = 36 := rfl; omega), fun e => by subst e; rfl⟩
  have plain : Lib.hasPrefix l [36, 46] = false → (∀ k, bobbinref13_Way.f k (toB l) = bobbinref13_Way.j0 k (toB l) false false) → Ev (fun k => bobbinref13_Way.f k (toB l))
      (wayB (if ((dots (if Lib.hasPrefix l [36, 46] = true then l.drop 2 else l)).all nameF && decide ((dots (if Lib.hasPrefix l [36, 46] = true then l.drop 2 else l)).length ≤ 8)) = true then (Lib.hasPrefix l [36, 46], dots (if Lib.hasPrefix l [36, 46] = true then l.drop 2 else l), true) else (false, [], false))) := fun hp hk => by
    refine Ev.congr hk ?_
    have := j0f l hl
    rw [hend] at this
    simpa [hp] using this
  cases l with
  | nil =>
    refine plain rfl (fun k => ?_)
    rw [hf, if_neg h1, if_neg h2, if_neg (by rw [toB_size]; simp)]
  | cons a l =>
    cases l with
    | nil =>
      refine plain (by simp [Lib.hasPrefix, List.isPrefixOf]) (fun k => ?_)
      rw [hf, if_neg h1, if_neg h2, if_neg (by rw [toB_size]; simp)]
    | cons b r =>
      have hb0 : bt (toB (a :: b :: r)) ((0 : Nat) : Int) = (a.toNat : Int) := toB_bt (a :: b :: r) 0 (by simp)
      have hb1 : bt (toB (a :: b :: r)) ((1 : Nat) : Int) = (b.toNat : Int) := toB_bt (a :: b :: r) 1 (by simp)
      have hs : (toB (a :: b :: r)).size = r.length + 2 := by rw [toB_size]; rfl
      by_cases ha : a = 36
      · by_cases hb : b = 46
        · subst ha hb
          have hp : Lib.hasPrefix (36 :: 46 :: r) [36, 46] = true := by simp [Lib.hasPrefix, List.isPrefixOf]
          have := j1 r true (by simp at hl; omega)
          rw [hend] at this
          refine Ev.congr (f := fun k => bobbinref13_Way.j0 k (toB (36 :: 46 :: r)) true false) (fun k => ?_) (Ev.step (f := fun k => bobbinref13_Way.j1 k (toB r) true) (fun k => ?_) ?_)
          · rw [hf, if_neg h1, if_neg h2, if_pos (by omega), if_pos (by omega), if_pos (by rw [hb0]; rfl), if_pos (by omega), hb1]
            rfl
          · conv => lhs; unfold bobbinref13_Way.j0
            dsimp only
            rw [if_pos rfl, if_pos (by omega), ext_drop _ _ _ (by rw [toB_size]; exact Nat.le_refl _)]
            rfl
          · simpa [hp] using this
        · refine plain (by simp [Lib.hasPrefix, List.isPrefixOf]; exact fun _ h => hb h.symm) (fun k => ?_)
          have hb' : (b == 46) = false := by simpa using hb
          rw [hf, if_neg h1, if_neg h2, if_pos (by omega), if_pos (by omega), if_pos (by rw [hb0]; exact (h36 a).2 ha), if_pos (by omega), hb1, h46, hb']
      · refine plain (by simp [Lib.hasPrefix, List.isPrefixOf]; exact fun h => absurd h.symm ha) (fun k => ?_)
        rw [hf, if_neg h1, if_neg h2, if_pos (by omega), if_pos (by omega), if_neg (by rw [hb0]; exact fun h => ha ((h36 a).1 h))]
end Go.Proofs.YtcggeaobonblfaaDoor

/- The reference's actions: what was printed answers as actionF says. -/
namespace Go.Proofs.YtcggeaobonblfaaDoor
set_option linter.unusedSimpArgs false
open Go Go.RowKit Go.Proofs.YtcggeaobonblfaaDoorW.PrintWords Go.Proofs.YtcggeaobonblfaaDoor.PParseTrees
theorem prefix_iff (s t : List UInt8) : Lib.hasPrefix s (t ++ [32]) = true ↔ s.take t.length = t ∧ s[t.length]? = some 32 := by
  unfold Lib.hasPrefix
  rw [List.isPrefixOf_iff_prefix]
  constructor
  · rintro ⟨r, rfl⟩
    simp
  · rintro ⟨h1, h2⟩
    refine ⟨s.drop (t.length + 1), ?_⟩
    have hlt := (List.getElem?_eq_some_iff.1 h2).1
    have h3 := (List.getElem?_eq_some_iff.1 h2).2
    have e := List.take_append_drop t.length s
    rw [List.drop_eq_getElem_cons hlt, h1, h3] at e
    simpa using e
theorem begins_f (s t : List UInt8) (_hs : s.length ≤ 100000) : bobbinref13_begins.f (toB s) (toB t) = some (Lib.hasPrefix s (t ++ [32])) := by
  have hp := prefix_iff s t
  unfold bobbinref13_begins.f
  by_cases h : t.length < s.length
  · have hb := toB_bt s t.length h
    have hq : s[t.length]? = some s[t.length] := List.getElem?_eq_getElem h
    rw [if_pos (by rw [toB_size, toB_size]; omega), if_pos (by omega), if_pos (by rw [toB_size, toB_size]; omega)]
    simp only [toB_size, Int.toNat_natCast]
    rw [ext_take, toB_list, toB_list]
    by_cases h2 : s.take t.length = t
    · rw [if_pos h2, if_pos (by omega), hb]
      congr 1
      by_cases h3 : s[t.length] = 32
      · rw [h3, hp.2 ⟨h2, by rw [hq, h3]⟩]
        rfl
      · have : Lib.hasPrefix s (t ++ [32]) = false := by
          rw [← Bool.not_eq_true, hp]
          exact fun h4 => h3 (Option.some.inj (hq.symm.trans h4.2))
        rw [this]
        simp only [beq_eq_false_iff_ne, ne_eq]
        exact fun e => h3 (UInt8.toNat_inj.1 (by have h3 : (32 : UInt8).toNat = 32 := rfl; omega))
    · rw [if_neg h2]
      have : Lib.hasPrefix s (t ++ [32]) = false := by
        rw [← Bool.not_eq_true, hp]
        exact fun h4 => h2 h4.1
      rw [this]
  · rw [if_neg (by rw [toB_size, toB_size]; omega)]
    have : Lib.hasPrefix s (t ++ [32]) = false := by
      rw [← Bool.not_eq_true, hp]
      exact fun h4 => h (List.getElem?_eq_some_iff.1 h4.2).1
    rw [this]
theorem right_suffix (c : UInt8) : ∀ (p y : List UInt8), Lib.trimRightB (p ++ y) c = p ++ y → Lib.trimRightB y c = y
  | [], y, h => h
  | b :: p, y, h => by
    rw [List.cons_append, trim_right_cons] at h
    by_cases h1 : Lib.trimRightB (p ++ y) c = []
    · rw [if_pos h1] at h
      have : p ++ y = [] := by
        by_cases hb : b = c
        · rw [if_pos hb] at h; cases h
        · rw [if_neg hb] at h; simpa using h.symm
      have hy : y = [] := (List.append_eq_nil_iff.1 this).2
      rw [hy]
      rfl
    · rw [if_neg h1] at h
      exact right_suffix c p y (List.cons.inj h).2
theorem right_trim (s : List UInt8) (c : UInt8) : Lib.trimRightB (Lib.trimB s c) c = Lib.trimB s c := by
  have : ∀ x : List UInt8, Lib.trimRightB (Lib.trimRightB x c) c = Lib.trimRightB x c := fun x => by
    unfold Lib.trimRightB
    rw [List.reverse_reverse]
    congr 1
    induction x.reverse with
    | nil => rfl
    | cons b l ih =>
      by_cases hb : (b == c) = true
      · simp only [List.dropWhile_cons, hb, if_true]; exact ih
      · rw [Bool.not_eq_true] at hb
        simp [List.dropWhile_cons, hb]
  rw [← trim_swap]
  exact this _
/-- Behind 'if' or 'range' and a blank. -/
theorem trim_behind (s : List UInt8) (n : Nat) (h : (Lib.trimB s 32)[n]? = some 32) : Lib.trimB ((Lib.trimB s 32).drop n) 32 = Lib.trimLeftB ((Lib.trimB s 32).drop (n + 1)) 32 := by
  have hlt := (List.getElem?_eq_some_iff.1 h).1
  have h3 := (List.getElem?_eq_some_iff.1 h).2
  rw [List.drop_eq_getElem_cons hlt, h3, ← trim_swap]
  have e : Lib.trimLeftB (32 :: (Lib.trimB s 32).drop (n + 1)) 32 = Lib.trimLeftB ((Lib.trimB s 32).drop (n + 1)) 32 := by
    unfold Lib.trimLeftB
    rw [List.dropWhile_cons_of_pos (by simp)]
  rw [e]
  obtain ⟨p, hp⟩ : ∃ p, p ++ Lib.trimLeftB ((Lib.trimB s 32).drop (n + 1)) 32 = (Lib.trimB s 32).drop (n + 1) := List.dropWhile_suffix _
  refine right_suffix 32 ((Lib.trimB s 32).take (n + 1) ++ p) _ ?_
  rw [List.append_assoc, hp, List.take_append_drop]
  exact right_trim s 32
def actB (r : Int × Bool × List (List UInt8) × Bool) : Int × Int × ByteArray × Bool × List ByteArray × Bool := (r.1, 0, ⟨#[]⟩, r.2.1, r.2.2.1.map toB, r.2.2.2)
theorem trim_len (s : List UInt8) : (Lib.trimB s 32).length ≤ s.length := by
  unfold Lib.trimB Lib.trimLeftB Lib.trimRightB
  refine Nat.le_trans (List.dropWhile_suffix _).length_le ?_
  rw [List.length_reverse]
  refine Nat.le_trans (List.dropWhile_suffix _).length_le ?_
  rw [List.length_reverse]
  exact Nat.le_refl _
theorem action_ev (s : List UInt8) (hs : s.length ≤ 65536) : Ev (fun k => bobbinref13_Action.f k (toB s)) (actB (actionF s)) := by
  have htl := trim_len s
  have ht := trim_ev s (by omega)
  have hbeh2 := trim_behind s 2
  have hbeh5 := trim_behind s 5
  obtain ⟨t, hT⟩ : ∃ t, Lib.trimB s 32 = t := ⟨_, rfl⟩
  rw [hT] at ht hbeh2 hbeh5 htl
  unfold bobbinref13_Action.f
  refine Ev.bind ht ?_
  have hA : actionF s = if t = [101, 108, 115, 101] then (3, false, [], true)
    else if t = [101, 110, 100] then (5, false, [], true)
    else if t = [102, 108, 117, 115, 104] then (6, false, [], true)
    else if Lib.hasPrefix t [105, 102, 32] then (2, wayF (Lib.trimLeftB (t.drop 3) 32))
    else if Lib.hasPrefix t [114, 97, 110, 103, 101, 32] then (4, wayF (Lib.trimLeftB (t.drop 6) 32))
    else if t = [105, 102] ∨ t = [114, 97, 110, 103, 101] then (0, false, [], false)
    else (1, wayF t) := by unfold actionF; rw [hT]
  rw [hA]
  simp only [toB_list]
  by_cases c1 : t = [101, 108, 115, 101]
  · simp only [if_pos c1]; exact Ev.now _
  simp only [if_neg c1]
  by_cases c2 : t = [101, 110, 100]
  · simp only [if_pos c2]; exact Ev.now _
  simp only [if_neg c2]
  by_cases c3 : t = [102, 108, 117, 115, 104]
  · simp only [if_pos c3]; exact Ev.now _
  simp only [if_neg c3]
  by_cases c4 : t = [105, 102]
  · simp only [if_pos c4]
    subst c4
    exact Ev.now _
  simp only [if_neg c4]
  by_cases c5 : t = [114, 97, 110, 103, 101]
  · simp only [if_pos c5]
    subst c5
    exact Ev.now _
  simp only [if_neg c5]
  have b2 : bobbinref13_begins.f (toB t) (⟨#[105, 102]⟩ : ByteArray) = some (Lib.hasPrefix t [105, 102, 32]) := begins_f t [105, 102] (by omega)
  have b5 : bobbinref13_begins.f (toB t) (⟨#[114, 97, 110, 103, 101]⟩ : ByteArray) = some (Lib.hasPrefix t [114, 97, 110, 103, 101, 32]) := begins_f t [114, 97, 110, 103, 101] (by omega)
  have p2 := prefix_iff t [105, 102]
  have p5 := prefix_iff t [114, 97, 110, 103, 101]
  simp only [b2, Option.bind_some]
  by_cases c6 : Lib.hasPrefix t [105, 102, 32] = true
  · simp only [if_pos c6]
    have h2 : t[2]? = some 32 := (p2.1 c6).2
    have hlt := (List.getElem?_eq_some_iff.1 h2).1
    have e := hbeh2 h2
    have ht2 := trim_ev (t.drop 2) (by simp; omega)
    rw [e] at ht2
    have hw := way_ev (Lib.trimLeftB (t.drop 3) 32) (by
      have : (Lib.trimLeftB (t.drop 3) 32).length ≤ (t.drop 3).length := (List.dropWhile_suffix _).length_le
      simp at this; omega)
    have hx : (toB t).extract 2 (toB t).size = toB (t.drop 2) := ext_drop _ _ _ (by rw [toB_size]; exact Nat.le_refl _)
    simp only [hx, if_pos (show (2 : Int) ≤ ((toB t).size : Int) by rw [toB_size]; omega)]
    exact Ev.bind ht2 (Ev.bind hw (Ev.now _))
  simp only [if_neg c6, b5, Option.bind_some]
  by_cases c7 : Lib.hasPrefix t [114, 97, 110, 103, 101, 32] = true
  · simp only [if_pos c7]
    have h2 : t[5]? = some 32 := (p5.1 c7).2
    have hlt := (List.getElem?_eq_some_iff.1 h2).1
    have e := hbeh5 h2
    have ht2 := trim_ev (t.drop 5) (by simp; omega)
    rw [e] at ht2
    have hw := way_ev (Lib.trimLeftB (t.drop 6) 32) (by
      have : (Lib.trimLeftB (t.drop 6) 32).length ≤ (t.drop 6).length := (List.dropWhile_suffix _).length_le
      simp at this; omega)
    have hx : (toB t).extract 5 (toB t).size = toB (t.drop 5) := ext_drop _ _ _ (by rw [toB_size]; exact Nat.le_refl _)
    simp only [hx, if_pos (show (5 : Int) ≤ ((toB t).size : Int) by rw [toB_size]; omega)]
    exact Ev.bind ht2 (Ev.bind hw (Ev.now _))
  simp only [if_neg c7]
  rw [if_neg (by intro h; rcases h with h | h; exact c4 h; exact c5 h)]
  exact Ev.bind (way_ev t (by omega)) (Ev.now _)
end Go.Proofs.YtcggeaobonblfaaDoor

/- The reference's words: what was printed answers as lexW says. -/
namespace Go.Proofs.YtcggeaobonblfaaDoor
set_option linter.unusedSimpArgs false
set_option linter.unusedVariables false
open Go Go.RowKit Go.Proofs.YtcggeaobonblfaaDoorW.PrintWords Go.Proofs.YtcggeaobonblfaaDoor.PParseTrees
theorem at_f (s t : List UInt8) (i : Nat) (hi : i ≤ s.length) (hs : s.length ≤ 100000) (ht : t.length ≤ 100) : bobbinref13_at.f (toB s) i (toB t) = some (t.isPrefixOf (s.drop i)) := by
  have hp : t.isPrefixOf (s.drop i) = true ↔ (s.drop i).take t.length = t := by
    rw [List.isPrefixOf_iff_prefix]
    constructor
    · rintro ⟨r, hr⟩
      rw [← hr]; simp
    · intro h
      rw [← h]
      exact List.take_prefix _ _
  have hw1 : wrap64 (((toB s).size : Int) - (i : Int)) = (s.length : Int) - i := by
    rw [toB_size]; unfold wrap64; omega
  have hw2 : wrap64 ((i : Int) + ((toB t).size : Int)) = ((i + t.length : Nat) : Int) := by rw [toB_size, w64 (by omega) (by omega)]; omega
  unfold bobbinref13_at.f
  rw [if_pos (by omega), hw1, hw2]
  by_cases h : i + t.length ≤ s.length
  · rw [if_pos (by rw [toB_size]; omega), if_pos (by omega), if_pos (by omega), if_pos (by rw [toB_size]; omega)]
    simp only [Int.toNat_natCast]
    rw [ext_cut, toB_list, toB_list, show i + t.length - i = t.length by omega]
    congr 1
    by_cases h2 : (s.drop i).take t.length = t
    · rw [hp.2 h2, h2]; simp
    · have h3 : t.isPrefixOf (s.drop i) = false := by rw [← Bool.not_eq_true, hp]; exact h2
      rw [h3]
      simpa using h2
  · rw [if_neg (by rw [toB_size]; omega)]
    have h3 : t.isPrefixOf (s.drop i) = false := by
      rw [← Bool.not_eq_true, hp]
      intro h4
      have := congrArg List.length h4
      simp at this
      by_cases h0 : t.length = 0
      · omega
      · omega
    rw [h3]
/-- How far it is to the first instance, or to the end. -/
def fnd (r p : List UInt8) : Nat := if Lib.index r p < 0 then r.length else (Lib.index r p).toNat
theorem fnd_hit (r p : List UInt8) (hr : r ≠ []) (h : p.isPrefixOf r = true) : fnd r p = 0 := by
  cases r with
  | nil => exact absurd rfl hr
  | cons c l =>
    unfold fnd Lib.index
    rw [if_pos h]
    simp
theorem index_ge' (l p : List UInt8) : -1 ≤ Lib.index l p := Lib.index_ge l p
theorem fnd_miss (c : UInt8) (l p : List UInt8) (h : p.isPrefixOf (c :: l) = false) : fnd (c :: l) p = fnd l p + 1 := by
  have hg := index_ge' l p
  unfold fnd
  have e : Lib.index (c :: l) p = if Lib.index l p = -1 then -1 else Lib.index l p + 1 := by
    conv => lhs; unfold Lib.index
    rw [if_neg (by rw [h]; simp)]
    by_cases h1 : Lib.index l p = -1
    · rw [if_pos h1, if_pos (by simp [h1])]
    · rw [if_neg h1, if_neg (by simp [h1])]
  rw [e]
  by_cases h1 : Lib.index l p = -1
  · rw [if_pos h1, if_pos (by omega), if_pos (by omega)]; rfl
  · rw [if_neg h1, if_neg (by omega), if_neg (by omega)]; omega
theorem scan1 (s : List UInt8) (hs : s.length ≤ 65536) (out : List S76) (i : Nat) (r : List S76 × Int) : ∀ (m j : Nat), s.length - j = m → j ≤ s.length →
    Ev (fun k => bobbinref13_All.j2 k (toB s) out i ((j + fnd (s.drop j) [123, 123] : Nat) : Int)) r → Ev (fun k => bobbinref13_All.l1 k (toB s) out i (j : Int)) r := by
  intro m
  induction m with
  | zero =>
    intro j hm hj h
    have hd : s.drop j = [] := List.drop_eq_nil_of_le (by omega)
    rw [hd] at h
    refine Ev.step (fun k => ?_) h
    conv => lhs; unfold bobbinref13_All.l1
    rw [if_neg (by rw [toB_size]; omega)]
    rfl
  | succ m ih =>
    intro j hm hj h
    have hlt : j < s.length := by omega
    have hd : s.drop j = s[j] :: s.drop (j + 1) := List.drop_eq_getElem_cons hlt
    have hat : bobbinref13_at.f (toB s) j (⟨#[123, 123]⟩ : ByteArray) = some (List.isPrefixOf [123, 123] (s.drop j)) := at_f s [123, 123] j (by omega) (by omega) (by simp)
    have hw : wrap64 ((j : Int) + 1) = ((j + 1 : Nat) : Int) := by rw [w64 (by omega) (by omega)]; omega
    cases hp : List.isPrefixOf [123, 123] (s.drop j) with
    | true =>
      rw [fnd_hit _ _ (by rw [hd]; exact List.cons_ne_nil _ _) hp] at h
      refine Ev.step (fun k => ?_) h
      conv => lhs; unfold bobbinref13_All.l1
      rw [if_pos (by rw [toB_size]; omega), hat, hp]
      simp
    | false =>
      have hf : fnd (s.drop j) [123, 123] = fnd (s.drop (j + 1)) [123, 123] + 1 := by
        rw [hd] at hp ⊢
        exact fnd_miss _ _ _ hp
      rw [hf, show j + (fnd (s.drop (j + 1)) [123, 123] + 1) = j + 1 + fnd (s.drop (j + 1)) [123, 123] by omega] at h
      refine Ev.step (fun k => ?_) (ih (j + 1) (by omega) (by omega) h)
      conv => lhs; unfold bobbinref13_All.l1
      rw [if_pos (by rw [toB_size]; omega), hat, hp, hw]
      simp
theorem scan2 (s : List UInt8) (hs : s.length ≤ 65536) (out : List S76) (i : Nat) (r : List S76 × Int) : ∀ (m j : Nat), s.length - j = m → j ≤ s.length →
    Ev (fun k => bobbinref13_All.j4 k (toB s) out i ((j + fnd (s.drop j) [125, 125] : Nat) : Int)) r → Ev (fun k => bobbinref13_All.l2 k (toB s) out i (j : Int)) r := by
  intro m
  induction m with
  | zero =>
    intro j hm hj h
    have hd : s.drop j = [] := List.drop_eq_nil_of_le (by omega)
    rw [hd] at h
    refine Ev.step (fun k => ?_) h
    conv => lhs; unfold bobbinref13_All.l2
    rw [if_neg (by rw [toB_size]; omega)]
    rfl
  | succ m ih =>
    intro j hm hj h
    have hlt : j < s.length := by omega
    have hd : s.drop j = s[j] :: s.drop (j + 1) := List.drop_eq_getElem_cons hlt
    have hat : bobbinref13_at.f (toB s) j (⟨#[125, 125]⟩ : ByteArray) = some (List.isPrefixOf [125, 125] (s.drop j)) := at_f s [125, 125] j (by omega) (by omega) (by simp)
    have hw : wrap64 ((j : Int) + 1) = ((j + 1 : Nat) : Int) := by rw [w64 (by omega) (by omega)]; omega
    cases hp : List.isPrefixOf [125, 125] (s.drop j) with
    | true =>
      rw [fnd_hit _ _ (by rw [hd]; exact List.cons_ne_nil _ _) hp] at h
      refine Ev.step (fun k => ?_) h
      conv => lhs; unfold bobbinref13_All.l2
      rw [if_pos (by rw [toB_size]; omega), hat, hp]
      simp
    | false =>
      have hf : fnd (s.drop j) [125, 125] = fnd (s.drop (j + 1)) [125, 125] + 1 := by
        rw [hd] at hp ⊢
        exact fnd_miss _ _ _ hp
      rw [hf, show j + (fnd (s.drop (j + 1)) [125, 125] + 1) = j + 1 + fnd (s.drop (j + 1)) [125, 125] by omega] at h
      refine Ev.step (fun k => ?_) (ih (j + 1) (by omega) (by omega) h)
      conv => lhs; unfold bobbinref13_All.l2
      rw [if_pos (by rw [toB_size]; omega), hat, hp, hw]
      simp
/-- A word, as the print has it. -/
def toS (w : Word) : S76 := ⟨w.kind, w.at_, toB w.text, ⟨w.root, w.names.map toB⟩⟩
/-- The word of an action whose inside says F. -/
def wordOf (F : Int × Bool × List (List UInt8) × Bool) (i : Int) : Word := ⟨F.1, i, [], F.2.1, F.2.2.1⟩
/-- An action is closed at i + c. -/
theorem all_close (s : List UInt8) (hs : s.length ≤ 65536) (i c : Nat) (out : List Word) (hge : 2 ≤ c) (hle : i + c + 2 ≤ s.length) (hout : out.length ≤ i) (r : List S76 × Int)
    (F : Int × Bool × List (List UInt8) × Bool) (hF : actionF (((s.drop i).take c).drop 2) = F) (hbad : F.2.2.2 = false → r = (out.map toS, (i : Int)))
    (hgood : F.2.2.2 = true → Ev (fun k => bobbinref13_All.l0 k (toB s) ((out ++ [wordOf F i]).map toS) ((i + (c + 2) : Nat) : Int)) r) :
    Ev (fun k => bobbinref13_All.j4 k (toB s) (out.map toS) i ((i + c : Nat) : Int)) r := by
  have hlen : (((s.drop i).take c).drop 2).length ≤ 65536 := by
    have := List.length_take_le c (s.drop i)
    simp only [List.length_drop]
    omega
  have hact := action_ev (((s.drop i).take c).drop 2) hlen
  rw [hF] at hact
  have hxx : (toB s).extract (i + 2) (i + c) = toB (((s.drop i).take c).drop 2) := by
    rw [ext_cut]
    congr 2
    rw [List.drop_take, List.drop_drop]
    congr 1
    omega
  have hw : wrap64 ((i : Int) + 2) = ((i + 2 : Nat) : Int) := by rw [w64 (by omega) (by omega)]; omega
  have hw2 : wrap64 (((i + c : Nat) : Int) + 2) = ((i + (c + 2) : Nat) : Int) := by rw [w64 (by omega) (by omega)]; omega
  have hsz : ((toB s).size : Int) = (s.length : Int) := by rw [toB_size]
  have hol : (out.map toS).length < 2199023255552 := by rw [List.length_map]; omega
  refine Ev.step (f := fun k => (bobbinref13_Action.f k (toB (((s.drop i).take c).drop 2))).bind fun bt155 => (if bt155.2.2.2.2.2 = true then (if (out.map toS).length < 2199023255552 then (bobbinref13_All.l0 k (toB s) (out.map toS ++ [(⟨bt155.1, i, bt155.2.2.1, (⟨bt155.2.2.2.1, bt155.2.2.2.2.1⟩ : S63)⟩ : S76)]) ((i + (c + 2) : Nat) : Int)) else (none)) else (some (out.map toS, (i : Int))))) (fun k => ?_) ?_
  · conv => lhs; unfold bobbinref13_All.j4
    have c1 : ¬ ((i + c : Nat) : Int) ≥ ((toB s).size : Int) := by rw [hsz]; omega
    have c2 : (0 : Int) ≤ ((i + 2 : Nat) : Int) := by omega
    have c3 : ((i + 2 : Nat) : Int) ≤ ((i + c : Nat) : Int) := by omega
    have c4 : ((i + c : Nat) : Int) ≤ ((toB s).size : Int) := by rw [hsz]; omega
    rw [if_neg c1, hw, if_pos c2, if_pos c3, if_pos c4, hw2]
    simp only [Int.toNat_natCast]
    rw [hxx]
  · refine Ev.bind hact ?_
    cases hok : F.2.2.2 with
    | false =>
      rw [hbad hok]
      have : ¬ (actB F).2.2.2.2.2 = true := by unfold actB; rw [hok]; simp
      refine Ev.congr (fun k => ?_) (Ev.now (out.map toS, (i : Int)))
      rw [if_neg this]
    | true =>
      have h2 : (actB F).2.2.2.2.2 = true := hok
      have h3 := hgood hok
      rw [List.map_append] at h3
      refine Ev.congr (fun k => ?_) h3
      rw [if_pos h2, if_pos hol]
      rfl
theorem close_index (s : List UInt8) (i : Nat) (hd : s.drop i = 123 :: 123 :: s.drop (i + 2)) : closeAt (s.drop i) = if Lib.index (s.drop (i + 2)) [125, 125] = -1 then -1 else Lib.index (s.drop (i + 2)) [125, 125] + 2 := by
  unfold closeAt
  rw [hd]
  have hg := index_ge' (s.drop (i + 2)) [125, 125]
  conv => lhs; unfold Lib.index
  rw [if_neg (by simp [List.isPrefixOf])]
  have e2 : Lib.index (123 :: s.drop (i + 2)) [125, 125] = if Lib.index (s.drop (i + 2)) [125, 125] = -1 then -1 else Lib.index (s.drop (i + 2)) [125, 125] + 1 := by
    conv => lhs; unfold Lib.index
    rw [if_neg (by simp [List.isPrefixOf])]
    by_cases h : Lib.index (s.drop (i + 2)) [125, 125] = -1
    · rw [if_pos h, if_pos (by simp [h])]
    · rw [if_neg h, if_neg (by simp [h])]
  rw [e2]
  by_cases h : Lib.index (s.drop (i + 2)) [125, 125] = -1
  · rw [if_pos h, if_pos h, if_pos (by simp)]
  · rw [if_neg h, if_neg h, if_neg (by simp; omega)]
    omega
theorem open_here (s : List UInt8) (i : Nat) (hlt : i < s.length) (h1 : ¬ 0 < litLen (s.drop i)) : i + 2 ≤ s.length ∧ s.drop i = 123 :: 123 :: s.drop (i + 2) := by
  have hne : s.drop i ≠ [] := by intro h; have := congrArg List.length h; simp at this; omega
  have h1' : litLen (s.drop i) = 0 := by omega
  have hidx : ¬ Lib.index (s.drop i) [123, 123] < 0 := fun h => by
    unfold litLen at h1'
    rw [if_pos h] at h1'
    exact hne (List.length_eq_zero_iff.1 h1')
  obtain ⟨hl2, a0, a1⟩ := index_spec (s.drop i) 123 123 (by omega)
  have ez : (Lib.index (s.drop i) [123, 123]).toNat = 0 := by
    unfold litLen at h1'
    rw [if_neg hidx] at h1'
    exact h1'
  rw [ez] at hl2 a0 a1
  simp at hl2
  have hi2' : i + 2 ≤ s.length := by omega
  refine ⟨hi2', ?_⟩
  have hlt2 : i + 1 < s.length := by omega
  rw [List.drop_eq_getElem_cons hlt, List.drop_eq_getElem_cons hlt2]
  rw [List.getElem?_drop, List.getElem?_eq_getElem (by omega)] at a0 a1
  congr 1
  · exact Option.some.inj a0
  · congr 1
    exact Option.some.inj a1
theorem all_loop (s : List UInt8) (hs : s.length ≤ 65536) : ∀ (m i : Nat) (out : List Word), s.length - i = m → i ≤ s.length → out.length ≤ i →
    Ev (fun k => bobbinref13_All.l0 k (toB s) (out.map toS) i) ((out ++ (lexW i (s.drop i)).1).map toS, (lexW i (s.drop i)).2) := by
  intro m
  induction m using Nat.strongRecOn with
  | ind m ih =>
    intro i out hm hi hout
    by_cases hil : i = s.length
    · have hd : s.drop i = [] := List.drop_eq_nil_of_le (by omega)
      rw [hd, lexW_nil]
      refine Ev.step (f := fun _ => some (out.map toS, -1)) (fun k => ?_) (by simpa using Ev.now (out.map toS, (-1 : Int)))
      conv => lhs; unfold bobbinref13_All.l0
      rw [if_neg (by rw [toB_size]; omega)]
    have hlt : i < s.length := by omega
    have hne : s.drop i ≠ [] := by intro h; have := congrArg List.length h; simp at this; omega
    have hfl : fnd (s.drop i) [123, 123] = litLen (s.drop i) := rfl
    refine Ev.step (f := fun k => bobbinref13_All.l1 k (toB s) (out.map toS) i (i : Int)) (fun k => ?_) (scan1 s hs _ i _ _ i rfl hi ?_)
    · conv => lhs; unfold bobbinref13_All.l0
      rw [if_pos (by rw [toB_size]; omega)]
    rw [hfl]
    by_cases h1 : 0 < litLen (s.drop i)
    · have hle := litLen_le (s.drop i)
      simp at hle
      rw [lexW_lit _ _ hne h1, List.drop_drop, ← Int.natCast_add]
      have hi2 := ih (s.length - (i + litLen (s.drop i))) (by omega) (i + litLen (s.drop i)) (out ++ [⟨0, i, (s.drop i).take (litLen (s.drop i)), false, []⟩]) rfl (by omega) (by simp; omega)
      rw [List.append_assoc] at hi2
      refine Ev.step (fun k => ?_) hi2
      conv => lhs; unfold bobbinref13_All.j2
      rw [if_pos (by omega), if_pos (by omega), if_pos (by omega), if_pos (by rw [toB_size]; omega), if_pos (by simp; omega)]
      simp only [Int.toNat_natCast]
      rw [ext_cut, show i + litLen (s.drop i) - i = litLen (s.drop i) by omega]
      simp [toS]
    · obtain ⟨hi2', hd⟩ := open_here s i hlt h1
      have h1' : litLen (s.drop i) = 0 := by omega
      rw [h1', Nat.add_zero]
      have hw : wrap64 ((i : Int) + 2) = ((i + 2 : Nat) : Int) := by rw [w64 (by omega) (by omega)]; omega
      have hstep : ∀ k, bobbinref13_All.j2 (k + 1) (toB s) (out.map toS) i (i : Int) = bobbinref13_All.l2 k (toB s) (out.map toS) i ((i + 2 : Nat) : Int) := fun k => by
        conv => lhs; unfold bobbinref13_All.j2
        rw [if_neg (Int.lt_irrefl _), hw]
      refine Ev.step hstep (scan2 s hs (out.map toS) i _ _ (i + 2) rfl hi2' ?_)
      have hc := close_index s i hd
      have hg := index_ge' (s.drop (i + 2)) [125, 125]
      by_cases h2 : Lib.index (s.drop (i + 2)) [125, 125] = -1
      · rw [if_pos h2] at hc
        have hf : fnd (s.drop (i + 2)) [125, 125] = (s.drop (i + 2)).length := by unfold fnd; rw [if_pos (by omega)]
        rw [hf, lexW_open i (s.drop i) hne h1 (by omega)]
        refine Ev.step (f := fun _ => some (out.map toS, (i : Int))) (fun k => ?_) (by simpa using Ev.now (out.map toS, (i : Int)))
        conv => lhs; unfold bobbinref13_All.j4
        rw [if_pos (by rw [toB_size, List.length_drop]; omega)]
      · rw [if_neg h2] at hc
        have hcn : ¬ closeAt (s.drop i) < 0 := by omega
        obtain ⟨hge, hle⟩ := close_ge _ hne h1 hcn
        rw [List.length_drop] at hle
        have hf : i + 2 + fnd (s.drop (i + 2)) [125, 125] = i + (closeAt (s.drop i)).toNat := by unfold fnd; rw [if_neg (by omega)]; omega
        rw [hf]
        refine all_close s hs i (closeAt (s.drop i)).toNat out hge (by omega) hout _ _ rfl (fun hok => ?_) (fun hok => ?_)
        · rw [lexW_bad i (s.drop i) hne h1 hcn hok]
          simp
        · rw [lexW_act i (s.drop i) hne h1 hcn hok, List.drop_drop, ← Int.natCast_add]
          have hi2 := ih (s.length - (i + ((closeAt (s.drop i)).toNat + 2))) (by omega) (i + ((closeAt (s.drop i)).toNat + 2))
            (out ++ [wordOf (actionF (((s.drop i).take (closeAt (s.drop i)).toNat).drop 2)) i]) rfl (by omega) (by rw [List.length_append, List.length_singleton]; omega)
          rw [List.append_assoc] at hi2
          exact hi2
theorem all_ev (s : List UInt8) (hs : s.length ≤ 65536) : ∃ k, bobbinref13_All.f k (toB s) = some ((lexW 0 s).1.map toS, (lexW 0 s).2) := by
  have := all_loop s hs _ 0 [] rfl (Nat.zero_le _) (by simp)
  simp only [List.drop_zero, List.nil_append, List.map_nil] at this
  exact Ev.rounds this
end Go.Proofs.YtcggeaobonblfaaDoor

/- The reference's tree and stack: what each step does to them. -/
namespace Go.Proofs.YtcggeaobonblfaaDoor
set_option linter.unusedSimpArgs false
set_option linter.unusedVariables false
open Go Go.RowKit
/-- What turns a row of another type, or nothing. -/
theorem TS.other {B base : Nat} {W W' : World} {T t : Nat} {nv tv : Value} {ps : List NodeV} {top : List Int} {f : Nat → Nat} {r : Option Nat} (h : TS B base W T nv tv ps top f) (hg : W.grownBy W' r) (hr : ∀ k, r = some k → B ≤ k ∧ ∃ c, W.heap[k]? = some (.cells c t))
    (h1 : 26 ≠ t) (h2 : 66 ≠ t) (h3 : 3 ≠ t) : TS B base W' T nv tv ps top f := by
  have hTl := World.heap_lt h.block
  have hB := h.low
  have hBT := h.lowT
  have hr' : ∀ k, r = some k → ∃ c, W.heap[k]? = some (.cells c t) := fun k e => (hr k e).2
  refine ⟨(hg.block T hTl (fun e => ?_)).trans h.block, row_else h.row hg hr' h2, row_else h.top hg hr' h3, h.own, fun i p hp => ?_, hB, hBT⟩
  · obtain ⟨c, hc⟩ := hr' T e.symm
    rw [h.block] at hc
    cases hc
    exact h1 rfl
  · obtain ⟨a, b, c, d, e⟩ := h.rows i p hp
    exact ⟨names_grown (base := base) a hg (by omega) (fun k e => (hr k e).1), row_else b hg hr' h3, row_else c hg hr' h3, d, e⟩
theorem TS.later {B base : Nat} {W W' : World} {T : Nat} {nv tv : Value} {ps : List NodeV} {top : List Int} {f : Nat → Nat} (h : TS B base W T nv tv ps top f) (hb : Below W.heap.size W W') : TS B base W' T nv tv ps top f :=
  h.other (t := 0) (grown_below hb) (fun k e => by cases e) (by decide) (by decide) (by decide)
theorem TSt.later {B base : Nat} {W W' : World} {T : Nat} {nodes : List Node} {top : List Int} (h : TSt B base W T nodes top) (hb : Below W.heap.size W W') : TSt B base W' T nodes top := by
  obtain ⟨nv, tv, ps, f, h1, h2⟩ := h
  exact ⟨nv, tv, ps, f, h1, h2.later hb⟩
theorem TSt.other {B base : Nat} {W W' : World} {T t : Nat} {nodes : List Node} {top : List Int} {r : Option Nat} (h : TSt B base W T nodes top) (hg : W.grownBy W' r) (hr : ∀ k, r = some k → B ≤ k ∧ ∃ c, W.heap[k]? = some (.cells c t))
    (h1 : 26 ≠ t) (h2 : 66 ≠ t) (h3 : 3 ≠ t) : TSt B base W' T nodes top := by
  obtain ⟨nv, tv, ps, f, e, h⟩ := h
  exact ⟨nv, tv, ps, f, e, h.other hg hr h1 h2 h3⟩
/-- A node more. -/
theorem TS.addNode {B base : Nat} {W w1 : World} {T : Nat} {nv tv : Value} {ps : List NodeV} {top : List Int} {f : Nat → Nat} (h : TS B base W T nv tv ps top f) {g cap : Nat} {p : NodeV}
    (hnv : NamesRd B W p.nv p.x.names) (hbv : p.bv = .slice none 0 0) (hev : p.ev = .slice none 0 0) (hb0 : p.x.body = []) (he0 : p.x.els = [])
    (ho : w1.ownsRow base 66 9 (.slice (some ⟨g, 0, none⟩) (ps.length + 1) cap) (ps.length + 1) (ps.flatMap nodeCells ++ nodeCells p)) (hg : W.grownBy w1 nv.ownBlock) :
    w1.heap[T]? = some (.cells #[nv, tv] 26) ∧ TSt B base (w1.setCell ⟨T, 0, none⟩ (.slice (some ⟨g, 0, none⟩) (ps.length + 1) cap)) T (ps.map NodeV.x ++ [p.x]) top ∧
      FrT base T W (w1.setCell ⟨T, 0, none⟩ (.slice (some ⟨g, 0, none⟩) (ps.length + 1) cap)) := by
  have hnb : ∀ k, nv.ownBlock = some k → ∃ cells, W.heap[k]? = some (Obj.cells cells 66) := row_type h.row
  have hlow : ∀ k, nv.ownBlock = some k → base ≤ k := row_base h.row
  have hTl := World.heap_lt h.block
  have hB := h.low
  have hBT := h.lowT
  have hbT : w1.heap[T]? = some (.cells #[nv, tv] 26) := (hg.block T hTl (fun e => by obtain ⟨cs, h2⟩ := hnb _ e.symm; rw [h.block] at h2; cases h2)).trans h.block
  have hset := grown_set w1 T 0 (.slice (some ⟨g, 0, none⟩) (ps.length + 1) cap)
  have hl : ∀ k, some T = some k → ∃ c, w1.heap[k]? = some (.cells c 26) := fun k e => by cases e; exact ⟨_, hbT⟩
  have hz := hg.size
  have key : ∀ {v : Value} {xs : List Int}, IntsAt W base v xs → IntsAt (w1.setCell ⟨T, 0, none⟩ (.slice (some ⟨g, 0, none⟩) (ps.length + 1) cap)) base v xs := fun hv => row_else (row_else hv hg hnb (by decide)) hset hl (by decide)
  have nm : ∀ {v : Value} {xs : List (List UInt8)}, NamesRd B W v xs → NamesRd B (w1.setCell ⟨T, 0, none⟩ (.slice (some ⟨g, 0, none⟩) (ps.length + 1) cap)) v xs := fun a =>
    names_grown (base := base) (names_grown (base := base) a hg (by omega) (fun k hk => by have := hlow k hk; omega)) hset (by omega) (fun k e => by cases e; omega)
  refine ⟨hbT, ⟨_, tv, ps ++ [p], f, by simp, ?_, by simpa using row_else ho hset hl (by decide), key h.top, h.own, fun i q hq => ?_, hB, hBT⟩, ?_⟩
  · have := blk_put hbT 0 (.slice (some ⟨g, 0, none⟩) (ps.length + 1) cap)
    simpa using this
  · rcases Nat.lt_or_ge i ps.length with hi | hi
    · rw [List.getElem?_append_left hi] at hq
      obtain ⟨a, b, c, d, e⟩ := h.rows i q hq
      exact ⟨nm a, key b, key c, d, e⟩
    · rw [List.getElem?_append_right hi] at hq
      have : q = p := by
        cases hj : i - ps.length with
        | zero => rw [hj] at hq; simpa using hq.symm
        | succ j => rw [hj] at hq; simp at hq
      subst this
      rw [hbv, hev, hb0, he0]
      exact ⟨nm hnv, ints_none _ _, ints_none _ _, fun k e => by simp [Value.ownBlock] at e, fun k e => by simp [Value.ownBlock] at e⟩
  · exact (FrT.grow hg (by omega) (fun k hk => ⟨hlow k hk, by obtain ⟨c, hc⟩ := hnb k hk; exact ⟨c, _, hc, .inl rfl⟩⟩)).set (p := ⟨T, 0, none⟩) hBT (.inl rfl) _
/-- An else begins. -/
theorem TS.setHas {B base : Nat} {W : World} {T g cap : Nat} {tv : Value} {ps : List NodeV} {top : List Int} {f : Nat → Nat} (h : TS B base W T (.slice (some ⟨g, 0, none⟩) ps.length cap) tv ps top f) {k : Nat} (hk : k < ps.length) :
    (∃ u, W.cell? ⟨g, k * 9 + 7, none⟩ = some u) ∧ W.frozen? ⟨g, k * 9 + 7, none⟩ = false ∧ TSt B base (W.setCell ⟨g, k * 9 + 7, none⟩ (.bool true)) T (Go.Proofs.YtcggeaobonblfaaDoor.setHas (ps.map NodeV.x) k) top ∧ FrT base T W (W.setCell ⟨g, k * 9 + 7, none⟩ (.bool true)) := by
  obtain ⟨p, hp⟩ : ∃ p, ps[k]? = some p := ⟨_, List.getElem?_eq_getElem hk⟩
  have hB := h.low
  have hBT := h.lowT
  have hTl := World.heap_lt h.block
  obtain ⟨s1, s2⟩ := World.ownsRow.stored h.row (k * 9 + 7) (.bool true)
  obtain ⟨p', hp'⟩ : ∃ p' : NodeV, p' = { p with x := { p.x with has := true } } := ⟨_, rfl⟩
  have hc : nodeCells p' = (nodeCells p).set 7 (.bool true) := by rw [hp']; rfl
  rw [flat9_set ps k p p' 7 (.bool true) hp (by omega) hc] at s1
  obtain ⟨g', cap', e, hb, hlt, hcc⟩ := row_cell h.row (k * 9 + 7) (.bool p.x.has) (by rw [flat9 ps k p hp 7 (by omega)]; rfl)
  cases e
  obtain ⟨cells, hty⟩ := row_type h.row g rfl
  have hl : ∀ q, some g = some q → ∃ c, W.heap[q]? = some (.cells c 66) := fun q e => by cases e; exact ⟨_, hty⟩
  have hset := grown_set W g (k * 9 + 7) (.bool true)
  have hgT : T ≠ g := by rintro rfl; rw [h.block] at hty; cases hty
  refine ⟨⟨_, hcc⟩, World.ownsRow.frozenAt h.row _, ⟨_, tv, ps.set k p', f, ?_, blk_far h.block (p := ⟨g, _, none⟩) hgT _, by simpa using s1, row_else h.top hset hl (by decide), h.own, fun i q hq => ?_, hB, hBT⟩, (FrT.refl base T W).set (p := ⟨g, _, none⟩) hb (.inr ⟨_, _, hty, .inl rfl⟩) _⟩
  · rw [map_set ps (fun x => { x with has := true }) k p p' hp (by rw [hp'])]
    rfl
  · have key : NamesRd B W q.nv q.x.names ∧ IntsAt W base q.bv q.x.body ∧ IntsAt W base q.ev q.x.els ∧ (∀ k, q.bv.ownBlock = some k → f k = 2 * i + 1) ∧ (∀ k, q.ev.ownBlock = some k → f k = 2 * i + 2) := by
      by_cases hik : i = k
      · subst hik
        rw [List.getElem?_set_self hk] at hq
        injection hq with hq
        rw [← hq, hp']
        exact h.rows i p hp
      · rw [List.getElem?_set_ne (fun e => hik e.symm)] at hq
        exact h.rows i q hq
    obtain ⟨a, b, c, d, e⟩ := key
    exact ⟨names_grown (base := base) a hset (by omega) (fun k e => by cases e; omega), row_else b hset hl (by decide), row_else c hset hl (by decide), d, e⟩

/-! The stack. -/
theorem stack_none (W : World) (base : Nat) : StackAt W base (.slice none 0 0) [] := ⟨by simp, .inl ⟨rfl, rfl⟩⟩
theorem stack_len (st : List Opn) : (st.flatMap openCells).length = st.length * 3 := by
  induction st with
  | nil => rfl
  | cons a st ih => rw [List.flatMap_cons, List.length_append, ih]; simp [openCells]; omega
theorem stack_pop {W : World} {base g cap : Nat} {st : List Opn} {o : Opn} (h : StackAt W base (.slice (some ⟨g, 0, none⟩) (st.length + 1) cap) (st ++ [o])) : StackAt W base (.slice (some ⟨g, 0, none⟩) st.length cap) st := by
  have h2 : W.ownsRow base 78 3 (.slice (some ⟨g, 0, none⟩) (st ++ [o]).length cap) (st ++ [o]).length ((st ++ [o]).flatMap openCells) := by simpa [StackAt] using h
  have h3 := Go.Proofs.YtcggeaobonblfaaDoorW.PrintWords.own_take h2 (m := st.length) (by simp)
  have e : ((st ++ [o]).flatMap openCells).take (st.length * 3) = st.flatMap openCells := by
    rw [List.flatMap_append, List.take_append_of_le_length (by rw [stack_len]; exact Nat.le_refl _), List.take_of_length_le (by rw [stack_len]; exact Nat.le_refl _)]
  rw [e] at h3
  exact h3
theorem stack_els {W : World} {base g cap : Nat} {st : List Opn} {o : Opn} (h : StackAt W base (.slice (some ⟨g, 0, none⟩) (st.length + 1) cap) (st ++ [o])) :
    StackAt (W.setCell ⟨g, st.length * 3 + 2, none⟩ (.bool true)) base (.slice (some ⟨g, 0, none⟩) (st.length + 1) cap) (st ++ [{ o with els := true }]) ∧ W.frozen? ⟨g, st.length * 3 + 2, none⟩ = false ∧ ∃ c, W.heap[g]? = some (.cells c 78) := by
  have h2 : W.ownsRow base 78 3 (.slice (some ⟨g, 0, none⟩) (st ++ [o]).length cap) (st ++ [o]).length ((st ++ [o]).flatMap openCells) := by simpa [StackAt] using h
  obtain ⟨s1, s2⟩ := World.ownsRow.stored h2 (st.length * 3 + 2) (.bool true)
  refine ⟨?_, World.ownsRow.frozenAt h2 _, row_type h2 g rfl⟩
  have e : ((st ++ [o]).flatMap openCells).set (st.length * 3 + 2) (.bool true) = (st ++ [{ o with els := true }]).flatMap openCells := by
    rw [List.flatMap_append, List.set_append_right _ _ (by rw [stack_len]; omega), stack_len, List.flatMap_append]
    congr 1
    rw [show st.length * 3 + 2 - st.length * 3 = 2 by omega]
    rfl
  rw [e] at s1
  simpa [StackAt] using s1
theorem stack_else {W W' : World} {base t : Nat} {v : Value} {st : List Opn} {r : Option Nat} (h : StackAt W base v st) (hg : W.grownBy W' r) (hr : ∀ k, r = some k → ∃ c, W.heap[k]? = some (.cells c t)) (hne : 78 ≠ t) : StackAt W' base v st :=
  row_else h hg hr hne
theorem stack_later {W W' : World} {base : Nat} {v : Value} {st : List Opn} (h : StackAt W base v st) (hb : Below W.heap.size W W') : StackAt W' base v st := stack_else (t := 0) h (grown_below hb) (fun k e => by cases e) (by decide)
end Go.Proofs.YtcggeaobonblfaaDoor

/- The reference's comparisons of lists and ways: what was printed of them answers whether they are equal. -/
namespace Go.Proofs.YtcggeaobonblfaaDoor
set_option linter.unusedSimpArgs false
set_option linter.unusedVariables false
open Go Go.RowKit Go.Proofs.YtcggeaobonblfaaDoorW.PrintWords Go.Proofs.YtcggeaobonblfaaDoor.PParseTrees
theorem dec_cons {α : Type} [DecidableEq α] {x y : α} (l m : List α) (h : x = y) : decide (x :: l = y :: m) = decide (l = m) := by subst h; simp
theorem dec_cons_no {α : Type} [DecidableEq α] {x y : α} (l m : List α) (h : ¬ x = y) : decide (x :: l = y :: m) = false := by simp [h]
theorem numbers_loop (a b : List Int) (hl : a.length = b.length) (ha : a.length ≤ 140737488351232) : ∀ (m i : Nat), a.length - i = m → i ≤ a.length →
    Ev (fun k => bobbinref14_numbers.l0 k a b i) (decide (a.drop i = b.drop i)) := by
  intro m
  induction m with
  | zero =>
    intro i hm hi
    have h1 : a.drop i = [] := List.drop_eq_nil_of_le (by omega)
    have h2 : b.drop i = [] := List.drop_eq_nil_of_le (by omega)
    rw [h1, h2]
    refine Ev.step (f := fun _ => some true) (fun k => ?_) (Ev.now _)
    unfold bobbinref14_numbers.l0
    rw [if_neg (by omega)]
  | succ m ih =>
    intro i hm hi
    have hlt : i < a.length := by omega
    have hlt' : i < b.length := by omega
    have h1 : a.drop i = a[i] :: a.drop (i + 1) := List.drop_eq_getElem_cons hlt
    have h2 : b.drop i = b[i] :: b.drop (i + 1) := List.drop_eq_getElem_cons hlt'
    have e1 : rd a (i : Int) = a[i] := by unfold rd; simp [hlt]
    have e2 : rd b (i : Int) = b[i] := by unfold rd; simp [hlt']
    have hw : wrap64 ((i : Int) + 1) = ((i + 1 : Nat) : Int) := by unfold wrap64; omega
    rw [h1, h2]
    by_cases h : a[i] = b[i]
    · refine Ev.step (fun k => ?_) (f := fun k => bobbinref14_numbers.l0 k a b ((i + 1 : Nat) : Int)) ?_
      · conv => lhs; unfold bobbinref14_numbers.l0
        rw [if_pos (by omega), if_pos (by omega), if_pos (by omega), e1, e2, if_pos h, hw]
      · rw [dec_cons _ _ h]
        exact ih (i + 1) (by omega) (by omega)
    · refine Ev.step (fun k => ?_) (f := fun k => some false) ?_
      · conv => lhs; unfold bobbinref14_numbers.l0
        rw [if_pos (by omega), if_pos (by omega), if_pos (by omega), e1, e2, if_neg h]
      · rw [dec_cons_no _ _ h]
        exact Ev.now _
theorem numbers_ev (a b : List Int) (ha : a.length ≤ 140737488351232) : ∃ k, bobbinref14_numbers.f k a b = some (decide (a = b)) := by
  refine Ev.rounds ?_
  unfold bobbinref14_numbers.f
  by_cases h : a.length = b.length
  · refine Ev.congr (fun k => ?_) (numbers_loop a b h ha a.length 0 (by omega) (by omega))
    rw [if_pos (by omega)]
    rfl
  · refine Ev.congr (fun k => ?_) (f := fun _ => some false) ?_
    · rw [if_neg (by omega)]
    · have : ¬ a = b := fun e => h (by rw [e])
      simp [this, Ev.now]
/-- A list of numbers that is read. -/
abbrev IntsC (w : World) (A : Option Addr) (xs : List Int) : Prop := Kd.C (Kd.int .i64) w A xs.length xs
theorem numbers_any (A0 : Option Addr) (c0 : Nat) (l0 : List Int) (A1 : Option Addr) (c1 : Nat) (l1 : List Int) (w : World) (r : Bool) (hr : decide (l0 = l1) = r) (h0 : IntsC w A0 l0) (hc0 : l0.length ≤ c0) (h1 : IntsC w A1 l1) (hc1 : l1.length ≤ c1) (hl : l0.length ≤ 140737488351232) :
    Calls Tryd.prog 35 #[.slice A0 l0.length c0, .slice A1 l1.length c1] w fun e w' => e = .returned (.bool r) ∧ ∃ n, w' = w.drewN n := by
  subst hr
  obtain ⟨k, hk⟩ := numbers_ev l0 l1 hl
  exact (bobbinref14_numbers.calls k A0 c0 l0 A1 c1 l1 _ w h0 hc0 h1 hc1 hk).mono fun e w' ⟨he, ⟨hd⟩⟩ => ⟨he, hd⟩

theorem sameway_loop (p q : Bool) (a b : List ByteArray) (hl : a.length = b.length) (ha : a.length ≤ 140737488351232) : ∀ (m i : Nat), a.length - i = m → i ≤ a.length →
    Ev (fun k => bobbinref13_SameWay.l0 k i p a q b) (decide (a.drop i = b.drop i)) := by
  intro m
  induction m with
  | zero =>
    intro i hm hi
    have h1 : a.drop i = [] := List.drop_eq_nil_of_le (by omega)
    have h2 : b.drop i = [] := List.drop_eq_nil_of_le (by omega)
    rw [h1, h2]
    refine Ev.step (f := fun _ => some true) (fun k => ?_) (Ev.now _)
    unfold bobbinref13_SameWay.l0
    rw [if_neg (by omega)]
  | succ m ih =>
    intro i hm hi
    have hlt : i < a.length := by omega
    have hlt' : i < b.length := by omega
    have h1 : a.drop i = a[i] :: a.drop (i + 1) := List.drop_eq_getElem_cons hlt
    have h2 : b.drop i = b[i] :: b.drop (i + 1) := List.drop_eq_getElem_cons hlt'
    have e1 : rdOf ByteArray.empty a (i : Int) = a[i] := by unfold rdOf; simp [hlt]
    have e2 : rdOf ByteArray.empty b (i : Int) = b[i] := by unfold rdOf; simp [hlt']
    have hw : wrap64 ((i : Int) + 1) = ((i + 1 : Nat) : Int) := by unfold wrap64; omega
    have hba : ∀ x y : ByteArray, x.toList = y.toList ↔ x = y := fun x y => by
      rw [ByteArray.toList_eq, ByteArray.toList_eq]
      constructor
      · intro h
        cases x; cases y
        congr
        exact Array.toList_inj.1 h
      · intro h; rw [h]
    rw [h1, h2]
    by_cases h : a[i] = b[i]
    · refine Ev.step (fun k => ?_) (f := fun k => bobbinref13_SameWay.l0 k ((i + 1 : Nat) : Int) p a q b) ?_
      · conv => lhs; unfold bobbinref13_SameWay.l0
        rw [if_pos (by omega), if_pos (by omega), if_pos (by omega), e1, e2, if_pos ((hba _ _).2 h), hw]
      · rw [dec_cons _ _ h]
        exact ih (i + 1) (by omega) (by omega)
    · refine Ev.step (fun k => ?_) (f := fun k => some false) ?_
      · conv => lhs; unfold bobbinref13_SameWay.l0
        rw [if_pos (by omega), if_pos (by omega), if_pos (by omega), e1, e2, if_neg (fun h' => h ((hba _ _).1 h'))]
      · rw [dec_cons_no _ _ h]
        exact Ev.now _
theorem sameway_ev (p q : Bool) (a b : List ByteArray) (ha : a.length ≤ 140737488351232) : ∃ k, bobbinref13_SameWay.f k p a q b = some (decide (p = q ∧ a = b)) := by
  have j : ∀ b' r, (b' = true → r = false) → (b' = false → Ev (fun k => bobbinref13_SameWay.l0 k 0 p a q b) r) → Ev (fun k => bobbinref13_SameWay.j0 k b' p a q b) r := by
    intro b' r h1 h2
    cases b' with
    | true =>
      refine Ev.step (fun k => ?_) (f := fun k => some false) (by rw [h1 rfl]; exact Ev.now _)
      unfold bobbinref13_SameWay.j0
      rfl
    | false =>
      refine Ev.step (fun k => ?_) (h2 rfl)
      conv => lhs; unfold bobbinref13_SameWay.j0
      rfl
  refine Ev.rounds ?_
  unfold bobbinref13_SameWay.f
  by_cases hp : p = q
  · subst hp
    refine Ev.congr (fun k => by rw [if_neg (by simp)]) (j _ _ ?_ ?_)
    · intro h
      have : a ≠ b := fun e => by subst e; simp at h
      simp [this]
    · intro h
      have hl : a.length = b.length := by simp at h; omega
      have := sameway_loop p p a b hl ha a.length 0 (by omega) (by omega)
      simpa using this
  · refine Ev.congr (fun k => by rw [if_pos (by simpa using hp)]) (j true _ ?_ (fun h => by cases h))
    intro _
    simp [hp]
/-- Texts that are read. -/
abbrev StrsC (w : World) (A : Option Addr) (xs : List ByteArray) : Prop := Kd.C Kd.string w A xs.length xs
theorem sameway_any (p : Bool) (A0 : Option Addr) (c0 : Nat) (l0 : List ByteArray) (q : Bool) (A1 : Option Addr) (c1 : Nat) (l1 : List ByteArray) (w : World) (r : Bool) (hr : decide (p = q ∧ l0 = l1) = r) (h0 : StrsC w A0 l0) (hc0 : l0.length ≤ c0) (h1 : StrsC w A1 l1) (hc1 : l1.length ≤ c1) (hl : l0.length ≤ 140737488351232) :
    Calls Tryd.prog 36 #[.agg #[.bool p, .slice A0 l0.length c0], .agg #[.bool q, .slice A1 l1.length c1]] w fun e w' => e = .returned (.bool r) ∧ Below w.heap.size w w' := by
  subst hr
  obtain ⟨k, hk⟩ := sameway_ev p q l0 l1 hl
  exact bobbinref13_SameWay.calls k p A0 c0 l0 q A1 c1 l1 _ w h0 hc0 h1 hc1 hk
end Go.Proofs.YtcggeaobonblfaaDoor

/- bobbinref14.Alike and Same: they answer whether two trees are equal. -/
namespace Go.Proofs.YtcggeaobonblfaaDoor
set_option linter.unusedSimpArgs false
set_option linter.unusedVariables false
open Go Go.RowKit Go.Proofs.YtcggeaobonblfaaDoorW.PrintWords Go.Proofs.YtcggeaobonblfaaDoor.PParseTrees
/-- Two nodes are one, but for the kinds of holes. -/
def nodeB (x y : S66) : Bool := (x.f0 == y.f0) && ((x.f1 == y.f1) && (decide (x.f2.toList = y.f2.toList) && ((x.f6 == y.f6) && (decide (x.f3.f0 = y.f3.f0 ∧ x.f3.f1 = y.f3.f1) && (decide (x.f4 = y.f4) && decide (x.f5 = y.f5))))))
def alikeB (l0 : List S66) (t0 : List Int) (l1 : List S66) (t1 : List Int) : Bool := decide (l0.length = l1.length ∧ t0 = t1 ∧ ∀ i : Nat, i < l0.length → nodeB (rd_T66 l0 i) (rd_T66 l1 i) = true)
/-- A tree that is read. -/
structure TreeC (w : World) (A : Option Addr) (c : Nat) (l : List S66) (B : Option Addr) (d : Nat) (t : List Int) : Prop where
  nodes : Kd.C k66 w A l.length l
  cap : l.length ≤ c
  top : IntsC w B t
  tcap : t.length ≤ d
  small : l.length ≤ 140737488351232
  tsmall : t.length ≤ 140737488351232
  inner : ∀ x ∈ l, x.f3.f1.length ≤ 140737488351232 ∧ x.f4.length ≤ 140737488351232 ∧ x.f5.length ≤ 140737488351232
theorem TreeC.below {w w1 : World} {A : Option Addr} {c : Nat} {l : List S66} {B : Option Addr} {d : Nat} {t : List Int} (h : TreeC w A c l B d t) (hb : Below w.heap.size w w1) : TreeC w1 A c l B d t :=
  ⟨Kd.C_below h.nodes hb, h.cap, Kd.C_below h.top hb, h.tcap, h.small, h.tsmall, h.inner⟩
theorem two_new (w : World) (o o' : Obj) : ((w.alloc o).alloc o').drew.heap[w.heap.size]? = some o ∧ ((w.alloc o).alloc o').drew.heap[w.heap.size + 1]? = some o' ∧ Below w.heap.size w ((w.alloc o).alloc o').drew := by
  refine ⟨(heap_old (by simp)).trans (World.alloc_heap_new w o), ?_, (((Below.refl w.heap.size w).alloc (Nat.le_refl _) o).alloc (by simp) o').drew⟩
  have := World.alloc_heap_new (w.alloc o) o'
  show ((w.alloc o).alloc o').heap[w.heap.size + 1]? = some o'
  simpa using this
/-- Boxes that lie there still. -/
theorem box_later {W W' : World} {g : Nat} {o : Obj} (h : W.heap[g]? = some o) (hb : Below W.heap.size W W') : W'.heap[g]? = some o := (hb.block g (World.heap_lt h)).trans h
theorem rd_mem (l : List S66) (i : Nat) (h : i < l.length) : rd_T66 l i ∈ l := by
  unfold rd_T66
  simp [h]

set_option maxRecDepth 100000 in
set_option maxHeartbeats 2000000 in
theorem alike_any (A0 : Option Addr) (c0 : Nat) (l0 : List S66) (B0 : Option Addr) (d0 : Nat) (t0 : List Int) (A1 : Option Addr) (c1 : Nat) (l1 : List S66) (B1 : Option Addr) (d1 : Nat) (t1 : List Int) (w : World)
    (h0 : TreeC w A0 c0 l0 B0 d0 t0) (h1 : TreeC w A1 c1 l1 B1 d1 t1) :
    Calls Tryd.prog 18 #[.agg #[.slice A0 l0.length c0, .slice B0 t0.length d0], .agg #[.slice A1 l1.length c1, .slice B1 t1.length d1]] w fun e w' => e = .returned (.bool (alikeB l0 t0 l1 t1)) ∧ Below w.heap.size w w' := by
  have b0 := h0.small
  have b1 := h1.small
  by_cases hl : l0.length = l1.length
  · have Hl := Lib.hid hl
    have hbl : ((l0.length : Int) != (l1.length : Int)) = false := by simp [hl]
    have H0 := Lib.hid h0
    have H1 := Lib.hid h1
    clear hl h0 h1
    have hN := fun (W : World) (r : Bool) hr hb => numbers_any B0 d0 t0 B1 d1 t1 W r hr ((H0.out.below hb).top) H0.out.tcap ((H1.out.below hb).top) H1.out.tcap H0.out.tsmall
    have HN := Lib.hid hN
    clear hN
    go_enter Tryd.func18, Tryd.ntmps18
    obtain ⟨W1, hW1⟩ : ∃ W1, (w.alloc (.cells #[.slice A0 l0.length c0, .slice B0 t0.length d0] 26)).alloc (.cells #[.slice A1 l1.length c1, .slice B1 t1.length d1] 26) = W1 := ⟨_, rfl⟩
    have hB1 : Below w.heap.size w W1 := by rw [← hW1]; exact ((Below.refl w.heap.size w).alloc (Nat.le_refl _) _).alloc (by simp) _
    have x0 : W1.heap[w.heap.size]? = some (.cells #[.slice A0 l0.length c0, .slice B0 t0.length d0] 26) := by rw [← hW1]; exact (heap_old (by simp)).trans (World.alloc_heap_new w _)
    have x1 : W1.heap[w.heap.size + 1]? = some (.cells #[.slice A1 l1.length c1, .slice B1 t1.length d1] 26) := by
      rw [← hW1]
      have := World.alloc_heap_new (w.alloc (.cells #[.slice A0 l0.length c0, .slice B0 t0.length d0] 26)) (.cells #[.slice A1 l1.length c1, .slice B1 t1.length d1] 26)
      simpa using this
    have X0 := Lib.hid x0
    have X1 := Lib.hid x1
    have HB1 := Lib.hid hB1
    have HW1 := Lib.hid hW1
    clear x0 x1 hB1 hW1
    by_cases ht : t0 = t1
    · have Ht := Lib.hid ht
      clear ht
      go_wp2_with fail
      rw [HW1.out]
      refine (HN.out W1 true (by simpa using Ht.out) HB1.out).mono ?_
      rintro e w2 ⟨rfl, n2, rfl⟩
      clear HW1
      have hsz : w.heap.size + 1 < W1.heap.size := World.heap_lt X1.out
      have hst : Below w.heap.size w (W1.drewN n2) := pw_below_drewN HB1.out n2
      have y0 : (W1.drewN n2).heap[w.heap.size]? = some (.cells #[.slice A0 l0.length c0, .slice B0 t0.length d0] 26) := X0.out
      have y1 : (W1.drewN n2).heap[w.heap.size + 1]? = some (.cells #[.slice A1 l1.length c1, .slice B1 t1.length d1] 26) := X1.out
      have Hst := Lib.hid hst
      have Y0 := Lib.hid y0
      have Y1 := Lib.hid y1
      clear hst y0 y1 HN X0 X1 HB1
      go_wp2_with fail
      go_loopw [5] (fun a wr => ∃ j : Nat, j ≤ l0.length ∧ a = .int .i64 j ∧ Hid (∀ i : Nat, i < j → nodeB (rd_T66 l0 i) (rd_T66 l1 i) = true) ∧ Hid (Below w.heap.size w wr) ∧
        Hid (wr.heap[w.heap.size]? = some (.cells #[.slice A0 l0.length c0, .slice B0 t0.length d0] 26)) ∧ Hid (wr.heap[w.heap.size + 1]? = some (.cells #[.slice A1 l1.length c1, .slice B1 t1.length d1] 26)) ∧ w.heap.size + 1 < wr.heap.size) (fun a _ => l0.length - (intOf a).toNat)
      case atStart => exact ⟨0, Nat.zero_le _, rfl, Lib.hid (fun i hi => by omega), Hst, Y0, Y1, hsz⟩
      case round =>
        clear Y0 Y1 Hst hsz
        obtain ⟨j, hj, rfl, hall, hb, y0, y1, hsz⟩ := hrel
        have k00 : wr.cell? ⟨w.heap.size, 0, none⟩ = some (.slice A0 l0.length c0) := by have := y0.out; simp [World.cell?, this]
        have k10 : wr.cell? ⟨w.heap.size + 1, 0, none⟩ = some (.slice A1 l1.length c1) := by have := y1.out; simp [World.cell?, this]
        by_cases hlt : j < l0.length
        · have hx := at_T66 (H0.out.below hb.out).nodes (j : Int) (by omega) (by omega)
          have hy := at_T66 (H1.out.below hb.out).nodes (j : Int) (by omega) (by have := Hl.out; omega)
          have hin0 := H0.out.inner _ (rd_mem l0 j hlt)
          obtain ⟨x, hxe⟩ : ∃ x, rd_T66 l0 (j : Int) = x := ⟨_, rfl⟩
          obtain ⟨y, hye⟩ : ∃ y, rd_T66 l1 (j : Int) = y := ⟨_, rfl⟩
          rw [hxe] at hx hin0
          rw [hye] at hy
          obtain ⟨i0, i1, i2⟩ := hin0
          have Hx := Lib.hid hxe
          have Hy := Lib.hid hye
          clear hxe hye
          obtain ⟨p, P4, e4, P5, e5, P6, e6, rfl, p0, p1, p2, p3, p4, p5, p6, p7, p8, l4, g4, l5, g5, l6, g6⟩ := hx
          obtain ⟨q, Q4, f4, Q5, f5, Q6, f6, rfl, q0, q1, q2, q3, q4, q5, q6, q7, q8, m4, n4, m5, n5, m6, n6⟩ := hy
          have jl0 : (j : Int) < (l0.length : Int) := by omega
          have jl1 : (j : Int) < (l1.length : Int) := by have := Hl.out; omega
          simp only [Int.toNat_natCast] at p0 p1 p2 p3 p4 p5 p6 p7 p8 q0 q1 q2 q3 q4 q5 q6 q7 q8
          go_upto_region 6 with (fail)
          have hwp : p.block < wr.heap.size ∨ True := .inr trivial
          go_cut [6, 7] from 23 to 89 (fun s6 s7 wx => ∃ g h : Nat, s6 = .pointer (some ⟨g, 0, none⟩) ∧ s7 = .pointer (some ⟨h, 0, none⟩) ∧ Hid (wx.heap[g]? = some (.cells #[.int .u8 x.f0, .int .i64 x.f1, .string x.f2, .bool x.f3.f0, .slice P4 x.f3.f1.length e4, .slice P5 x.f4.length e5, .slice P6 x.f5.length e6, .bool x.f6, .int .u8 x.f7] 66)) ∧
            Hid (wx.heap[h]? = some (.cells #[.int .u8 y.f0, .int .i64 y.f1, .string y.f2, .bool y.f3.f0, .slice Q4 y.f3.f1.length f4, .slice Q5 y.f4.length f5, .slice Q6 y.f5.length f6, .bool y.f6, .int .u8 y.f7] 66)) ∧ Hid (Below wr.heap.size wr wx))
          case first =>
            have nk00 := World.new_ne wr _ k00
            have nk10 := World.new_ne wr _ k10
            have np0 := World.new_ne wr _ p0
            have np1 := World.new_ne wr _ p1
            have np2 := World.new_ne wr _ p2
            have np3 := World.new_ne wr _ p3
            have np4 := World.new_ne wr _ p4
            have np5 := World.new_ne wr _ p5
            have np6 := World.new_ne wr _ p6
            have np7 := World.new_ne wr _ p7
            have np8 := World.new_ne wr _ p8
            have nq0 := World.new_ne wr _ q0
            have nq1 := World.new_ne wr _ q1
            have nq2 := World.new_ne wr _ q2
            have nq3 := World.new_ne wr _ q3
            have nq4 := World.new_ne wr _ q4
            have nq5 := World.new_ne wr _ q5
            have nq6 := World.new_ne wr _ q6
            have nq7 := World.new_ne wr _ q7
            have nq8 := World.new_ne wr _ q8
            go_region_held3 (fun w' => w'.cell? ⟨w.heap.size, 0, none⟩ = some (.slice (some p) l0.length c0) ∧ w'.cell? ⟨w.heap.size + 1, 0, none⟩ = some (.slice (some q) l1.length c1) ∧ w'.cell? (p.add (j * 9)) = some (.int .u8 x.f0) ∧ w'.cell? ⟨(p.add (j * 9)).block, (p.add (j * 9)).off + 1, none⟩ = some (.int .i64 x.f1) ∧ w'.cell? ⟨(p.add (j * 9)).block, (p.add (j * 9)).off + 2, none⟩ = some (.string x.f2) ∧ w'.cell? ⟨(p.add (j * 9)).block, (p.add (j * 9)).off + 3, none⟩ = some (.bool x.f3.f0) ∧ w'.cell? ⟨(p.add (j * 9)).block, (p.add (j * 9)).off + 4, none⟩ = some (.slice P4 x.f3.f1.length e4) ∧ w'.cell? ⟨(p.add (j * 9)).block, (p.add (j * 9)).off + 5, none⟩ = some (.slice P5 x.f4.length e5) ∧ w'.cell? ⟨(p.add (j * 9)).block, (p.add (j * 9)).off + 6, none⟩ = some (.slice P6 x.f5.length e6) ∧ w'.cell? ⟨(p.add (j * 9)).block, (p.add (j * 9)).off + 7, none⟩ = some (.bool x.f6) ∧ w'.cell? ⟨(p.add (j * 9)).block, (p.add (j * 9)).off + 8, none⟩ = some (.int .u8 x.f7) ∧ w'.cell? (q.add (j * 9)) = some (.int .u8 y.f0) ∧ w'.cell? ⟨(q.add (j * 9)).block, (q.add (j * 9)).off + 1, none⟩ = some (.int .i64 y.f1) ∧ w'.cell? ⟨(q.add (j * 9)).block, (q.add (j * 9)).off + 2, none⟩ = some (.string y.f2) ∧ w'.cell? ⟨(q.add (j * 9)).block, (q.add (j * 9)).off + 3, none⟩ = some (.bool y.f3.f0) ∧ w'.cell? ⟨(q.add (j * 9)).block, (q.add (j * 9)).off + 4, none⟩ = some (.slice Q4 y.f3.f1.length f4) ∧ w'.cell? ⟨(q.add (j * 9)).block, (q.add (j * 9)).off + 5, none⟩ = some (.slice Q5 y.f4.length f5) ∧ w'.cell? ⟨(q.add (j * 9)).block, (q.add (j * 9)).off + 6, none⟩ = some (.slice Q6 y.f5.length f6) ∧ w'.cell? ⟨(q.add (j * 9)).block, (q.add (j * 9)).off + 7, none⟩ = some (.bool y.f6) ∧ w'.cell? ⟨(q.add (j * 9)).block, (q.add (j * 9)).off + 8, none⟩ = some (.int .u8 y.f7)) (go_keep) (fail)
            all_goals (go_wp2_with fail; go_meet)
            · obtain ⟨a1, a2, a3⟩ := two_new wr (.cells #[.int .u8 x.f0, .int .i64 x.f1, .string x.f2, .bool x.f3.f0, .slice P4 x.f3.f1.length e4, .slice P5 x.f4.length e5, .slice P6 x.f5.length e6, .bool x.f6, .int .u8 x.f7] 66) (.cells #[.int .u8 y.f0, .int .i64 y.f1, .string y.f2, .bool y.f3.f0, .slice Q4 y.f3.f1.length f4, .slice Q5 y.f4.length f5, .slice Q6 y.f5.length f6, .bool y.f6, .int .u8 y.f7] 66)
              exact ⟨_, _, rfl, rfl, Lib.hid a1, Lib.hid a2, Lib.hid a3⟩
            · obtain ⟨a1, a2, a3⟩ := two_new wr (.cells #[.int .u8 y.f0, .int .i64 y.f1, .string y.f2, .bool y.f3.f0, .slice Q4 y.f3.f1.length f4, .slice Q5 y.f4.length f5, .slice Q6 y.f5.length f6, .bool y.f6, .int .u8 y.f7] 66) (.cells #[.int .u8 x.f0, .int .i64 x.f1, .string x.f2, .bool x.f3.f0, .slice P4 x.f3.f1.length e4, .slice P5 x.f4.length e5, .slice P6 x.f5.length e6, .bool x.f6, .int .u8 x.f7] 66)
              exact ⟨_, _, rfl, rfl, Lib.hid a2, Lib.hid a1, Lib.hid a3⟩
          case rest =>
            obtain ⟨g, h, rfl, rfl, hg, hh, hbx⟩ := hcut
            clear p0 p1 p2 p3 p4 p5 p6 p7 p8 q0 q1 q2 q3 q4 q5 q6 q7 q8 k00 k10
            have hHS := Lib.hid (fun (W : World) (r : Bool) hr (hb : Below wr.heap.size wr W) => sameway_any x.f3.f0 P4 e4 x.f3.f1 y.f3.f0 Q4 f4 y.f3.f1 W r hr (Kd.C_below g4 hb) l4 (Kd.C_below n4 hb) m4 i0)
            have hHB := Lib.hid (fun (W : World) (r : Bool) hr (hb : Below wr.heap.size wr W) => numbers_any P5 e5 x.f4 Q5 f5 y.f4 W r hr (Kd.C_below g5 hb) l5 (Kd.C_below n5 hb) m5 i1)
            have hHE := Lib.hid (fun (W : World) (r : Bool) hr (hb : Below wr.heap.size wr W) => numbers_any P6 e6 x.f5 Q6 f6 y.f5 W r hr (Kd.C_below g6 hb) l6 (Kd.C_below n6 hb) m6 i2)
            have a0 : wc.cell? ⟨g, 0, none⟩ = some (.int .u8 x.f0) := by have := hg.out; simp [World.cell?, this]
            have a1 : wc.cell? ⟨g, 1, none⟩ = some (.int .i64 x.f1) := by have := hg.out; simp [World.cell?, this]
            have a2 : wc.cell? ⟨g, 2, none⟩ = some (.string x.f2) := by have := hg.out; simp [World.cell?, this]
            have a3 : wc.cell? ⟨g, 3, none⟩ = some (.bool x.f3.f0) := by have := hg.out; simp [World.cell?, this]
            have a4 : wc.cell? ⟨g, 4, none⟩ = some (.slice P4 x.f3.f1.length e4) := by have := hg.out; simp [World.cell?, this]
            have a6 : wc.cell? ⟨g, 7, none⟩ = some (.bool x.f6) := by have := hg.out; simp [World.cell?, this]
            have b0 : wc.cell? ⟨h, 0, none⟩ = some (.int .u8 y.f0) := by have := hh.out; simp [World.cell?, this]
            have b1 : wc.cell? ⟨h, 1, none⟩ = some (.int .i64 y.f1) := by have := hh.out; simp [World.cell?, this]
            have b2 : wc.cell? ⟨h, 2, none⟩ = some (.string y.f2) := by have := hh.out; simp [World.cell?, this]
            have b3 : wc.cell? ⟨h, 3, none⟩ = some (.bool y.f3.f0) := by have := hh.out; simp [World.cell?, this]
            have b4 : wc.cell? ⟨h, 4, none⟩ = some (.slice Q4 y.f3.f1.length f4) := by have := hh.out; simp [World.cell?, this]
            have b6 : wc.cell? ⟨h, 7, none⟩ = some (.bool y.f6) := by have := hh.out; simp [World.cell?, this]
            clear i0 i1 i2 l4 g4 l5 g5 l6 g6 m4 n4 m5 n5 m6 n6
            have HBad : Hid (nodeB x y = false → alikeB l0 t0 l1 t1 = false) := Lib.hid (fun h => by
              unfold alikeB
              rw [decide_eq_false_iff_not]
              rintro ⟨-, -, h3⟩
              have := h3 j hlt
              rw [Hx.out, Hy.out, h] at this
              cases this)
            have HW : Hid (Below w.heap.size w wc) := Lib.hid (hb.out.trans (hbx.out.mono (by omega)))
            have hgl : g < wc.heap.size := World.heap_lt hg.out
            have hhl : h < wc.heap.size := World.heap_lt hh.out
            have c5 : Hid (wc.cell? ⟨g, 5, none⟩ = some (.slice P5 x.f4.length e5)) := Lib.hid (by have := hg.out; simp [World.cell?, this])
            have c6 : Hid (wc.cell? ⟨g, 6, none⟩ = some (.slice P6 x.f5.length e6)) := Lib.hid (by have := hg.out; simp [World.cell?, this])
            have d5 : Hid (wc.cell? ⟨h, 5, none⟩ = some (.slice Q5 y.f4.length f5)) := Lib.hid (by have := hh.out; simp [World.cell?, this])
            have d6 : Hid (wc.cell? ⟨h, 6, none⟩ = some (.slice Q6 y.f5.length f6)) := Lib.hid (by have := hh.out; simp [World.cell?, this])
            go_wp2_with fail
            all_goals try (go_ret; exact ⟨ret_bool (HBad.out (by unfold nodeB; simp [*])).symm, HW.out⟩)
            have HE4 : Hid (x.f0 = y.f0 ∧ x.f1 = y.f1 ∧ x.f2.toList = y.f2.toList ∧ x.f6 = y.f6) := Lib.hid ⟨by assumption, by assumption, by assumption, by assumption⟩
            by_cases hS : x.f3.f0 = y.f3.f0 ∧ x.f3.f1 = y.f3.f1
            · refine (hHS.out wc true (by simpa using hS) hbx.out).mono ?_
              rintro e w3 ⟨rfl, hb3⟩
              have HW3 := Lib.hid (HW.out.trans (hb3.mono HW.out.size))
              have HX3 := Lib.hid (hbx.out.trans (hb3.mono hbx.out.size))
              have hS' := Lib.hid hS
              have g3 := box_later hg.out hb3
              have h3 := box_later hh.out hb3
              have k5 : w3.cell? ⟨g, 5, none⟩ = some (.slice P5 x.f4.length e5) := by simp [World.cell?, g3]
              have k6 : w3.cell? ⟨g, 6, none⟩ = some (.slice P6 x.f5.length e6) := by simp [World.cell?, g3]
              have m5 : w3.cell? ⟨h, 5, none⟩ = some (.slice Q5 y.f4.length f5) := by simp [World.cell?, h3]
              have m6 : w3.cell? ⟨h, 6, none⟩ = some (.slice Q6 y.f5.length f6) := by simp [World.cell?, h3]
              have Y0 := Lib.hid (box_later y0.out HX3.out)
              have Y1 := Lib.hid (box_later y1.out HX3.out)
              have hz3 : w.heap.size + 1 < w3.heap.size := World.heap_lt Y1.out
              clear hS hb3 g3 h3 a0 a1 a2 a3 a4 a6 b0 b1 b2 b3 b4 b6
              by_cases hB : x.f4 = y.f4
              · have hB' := Lib.hid hB
                clear hB
                go_wp2_with fail
                refine (hHB.out w3 true (by simpa using hB'.out) HX3.out).mono ?_
                rintro e w4 ⟨rfl, n4, rfl⟩
                by_cases hE : x.f5 = y.f5
                · have hE' := Lib.hid hE
                  clear hE
                  go_wp2_with fail
                  refine (hHE.out (w3.drewN n4) true (by simpa using hE'.out) (pw_below_drewN HX3.out n4)).mono ?_
                  rintro e w5 ⟨rfl, n5, rfl⟩
                  go_wp2_with fail
                  go_roundw
                  case rel =>
                    refine ⟨j + 1, by omega, by go_num, Lib.hid (fun i hi => ?_), Lib.hid (pw_below_drewN HW3.out _), Lib.hid Y0.out, Lib.hid Y1.out, hz3⟩
                    rcases Nat.lt_succ_iff_lt_or_eq.1 hi with h2 | rfl
                    · exact hall.out i h2
                    · rw [Hx.out, Hy.out]
                      obtain ⟨z1, z2, z3, z4⟩ := HE4.out
                      unfold nodeB
                      simp [z1, z2, z3, z4, hS'.out, hB'.out, hE'.out]
                  case measure => simp [intOf]; omega
                · have hE' := Lib.hid hE
                  clear hE
                  go_wp2_with fail
                  refine (hHE.out (w3.drewN n4) false (by simpa using hE'.out) (pw_below_drewN HX3.out n4)).mono ?_
                  rintro e w5 ⟨rfl, n5, rfl⟩
                  go_wp2_with fail
                  go_ret
                  exact ⟨ret_bool (HBad.out (by unfold nodeB; simp [hE'.out])).symm, pw_below_drewN HW3.out _⟩
              · have hB' := Lib.hid hB
                clear hB
                go_wp2_with fail
                refine (hHB.out w3 false (by simpa using hB'.out) HX3.out).mono ?_
                rintro e w4 ⟨rfl, n4, rfl⟩
                go_wp2_with fail
                go_ret
                exact ⟨ret_bool (HBad.out (by unfold nodeB; simp [hB'.out])).symm, pw_below_drewN HW3.out n4⟩
            · refine (hHS.out wc false (by simpa using hS) hbx.out).mono ?_
              rintro e w3 ⟨rfl, hb3⟩
              have HW3 := Lib.hid (HW.out.trans (hb3.mono HW.out.size))
              clear hb3
              have hS' := Lib.hid hS
              clear hS
              go_wp2_with fail
              go_ret
              exact ⟨ret_bool (HBad.out (by unfold nodeB; simp [hS'.out])).symm, HW3.out⟩
        · obtain rfl : j = l0.length := by omega
          have HG : Hid (alikeB l0 t0 l1 t1 = true) := Lib.hid (by unfold alikeB; rw [decide_eq_true_eq]; exact ⟨Hl.out, Ht.out, hall.out⟩)
          go_wp2
          go_ret
          exact ⟨ret_bool HG.out.symm, hb.out⟩
    · have Ht := Lib.hid ht
      clear ht
      go_wp2_with fail
      rw [HW1.out]
      refine (HN.out W1 false (by simpa using Ht.out) HB1.out).mono ?_
      rintro e w2 ⟨rfl, n2, rfl⟩
      clear HW1
      go_wp2
      go_ret
      exact ⟨ret_bool (by unfold alikeB; simp [Ht.out]), pw_below_drewN HB1.out n2⟩
  · have Hl := Lib.hid hl
    have hbl : ((l0.length : Int) != (l1.length : Int)) = true := by simpa using (fun h : (l0.length : Int) = l1.length => hl (by omega))
    clear hl h0 h1
    go_enter Tryd.func18, Tryd.ntmps18
    go_wp2
    go_ret
    exact ⟨ret_bool (by unfold alikeB; simp [Hl.out]), ((Below.refl w.heap.size w).alloc (Nat.le_refl _) _).alloc (by simp) _⟩
end Go.Proofs.YtcggeaobonblfaaDoor

/- bobbinref14.Same: it answers whether two trees are equal, the kinds of holes too. -/
namespace Go.Proofs.YtcggeaobonblfaaDoor
set_option linter.unusedSimpArgs false
set_option linter.unusedVariables false
open Go Go.RowKit Go.Proofs.YtcggeaobonblfaaDoorW.PrintWords Go.Proofs.YtcggeaobonblfaaDoor.PParseTrees
def sameB (l0 : List S66) (t0 : List Int) (l1 : List S66) (t1 : List Int) : Bool := alikeB l0 t0 l1 t1 && decide (∀ i : Nat, i < l0.length → (rd_T66 l0 i).f7 = (rd_T66 l1 i).f7)
theorem alikeB_len {l0 : List S66} {t0 : List Int} {l1 : List S66} {t1 : List Int} (h : alikeB l0 t0 l1 t1 = true) : l0.length = l1.length := by
  unfold alikeB at h
  rw [decide_eq_true_eq] at h
  exact h.1

set_option maxRecDepth 100000 in
set_option maxHeartbeats 2000000 in
theorem same_any (A0 : Option Addr) (c0 : Nat) (l0 : List S66) (B0 : Option Addr) (d0 : Nat) (t0 : List Int) (A1 : Option Addr) (c1 : Nat) (l1 : List S66) (B1 : Option Addr) (d1 : Nat) (t1 : List Int) (w : World)
    (h0 : TreeC w A0 c0 l0 B0 d0 t0) (h1 : TreeC w A1 c1 l1 B1 d1 t1) :
    Calls Tryd.prog 11 #[.agg #[.slice A0 l0.length c0, .slice B0 t0.length d0], .agg #[.slice A1 l1.length c1, .slice B1 t1.length d1]] w fun e w' => e = .returned (.bool (sameB l0 t0 l1 t1)) ∧ Below w.heap.size w w' := by
  have b0 := h0.small
  have b1 := h1.small
  have H0 := Lib.hid h0
  have H1 := Lib.hid h1
  clear h0 h1
  obtain ⟨W1, hW1⟩ : ∃ W1, (w.alloc (.cells #[.slice A0 l0.length c0, .slice B0 t0.length d0] 26)).alloc (.cells #[.slice A1 l1.length c1, .slice B1 t1.length d1] 26) = W1 := ⟨_, rfl⟩
  have hB1 : Below w.heap.size w W1 := by rw [← hW1]; exact ((Below.refl w.heap.size w).alloc (Nat.le_refl _) _).alloc (by simp) _
  have x0 : W1.heap[w.heap.size]? = some (.cells #[.slice A0 l0.length c0, .slice B0 t0.length d0] 26) := by rw [← hW1]; exact (heap_old (by simp)).trans (World.alloc_heap_new w _)
  have x1 : W1.heap[w.heap.size + 1]? = some (.cells #[.slice A1 l1.length c1, .slice B1 t1.length d1] 26) := by
    rw [← hW1]
    have := World.alloc_heap_new (w.alloc (.cells #[.slice A0 l0.length c0, .slice B0 t0.length d0] 26)) (.cells #[.slice A1 l1.length c1, .slice B1 t1.length d1] 26)
    simpa using this
  have X0 := Lib.hid x0
  have X1 := Lib.hid x1
  have HB1 := Lib.hid hB1
  have HW1 := Lib.hid hW1
  clear x0 x1 hB1 hW1
  obtain ⟨r, hr⟩ : ∃ r, alikeB l0 t0 l1 t1 = r := ⟨_, rfl⟩
  have HA := Lib.hid (alike_any A0 c0 l0 B0 d0 t0 A1 c1 l1 B1 d1 t1 W1 (H0.out.below HB1.out) (H1.out.below HB1.out))
  rw [hr] at HA
  have Hr := Lib.hid hr
  clear hr
  go_enter Tryd.func11, Tryd.ntmps11
  go_wp2_with fail
  rw [HW1.out]
  refine (HA.out).mono ?_
  rintro e w2 ⟨rfl, hb2⟩
  have Y0 := Lib.hid (box_later X0.out hb2)
  have Y1 := Lib.hid (box_later X1.out hb2)
  have HB2 := Lib.hid (HB1.out.trans (hb2.mono HB1.out.size))
  clear hb2 HW1 HA X0 X1
  have hsz : w.heap.size + 1 < w2.heap.size := World.heap_lt Y1.out
  cases r with
  | false =>
    go_wp2
    go_ret
    exact ⟨ret_bool (by unfold sameB; simp [Hr.out]), HB2.out⟩
  | true =>
    have Hl := Lib.hid (alikeB_len Hr.out)
    go_wp2_with fail
    go_loopw [5] (fun a wr => ∃ j : Nat, j ≤ l0.length ∧ a = .int .i64 j ∧ Hid (∀ i : Nat, i < j → (rd_T66 l0 i).f7 = (rd_T66 l1 i).f7) ∧ Hid (Below w.heap.size w wr) ∧
      Hid (wr.heap[w.heap.size]? = some (.cells #[.slice A0 l0.length c0, .slice B0 t0.length d0] 26)) ∧ Hid (wr.heap[w.heap.size + 1]? = some (.cells #[.slice A1 l1.length c1, .slice B1 t1.length d1] 26)) ∧ w.heap.size + 1 < wr.heap.size) (fun a _ => l0.length - (intOf a).toNat)
    case atStart => exact ⟨0, Nat.zero_le _, rfl, Lib.hid (fun i hi => by omega), HB2, Y0, Y1, hsz⟩
    case round =>
      clear Y0 Y1 HB2 hsz
      obtain ⟨j, hj, rfl, hall, hb, y0, y1, hsz⟩ := hrel
      have k00 : wr.cell? ⟨w.heap.size, 0, none⟩ = some (.slice A0 l0.length c0) := by have := y0.out; simp [World.cell?, this]
      have k10 : wr.cell? ⟨w.heap.size + 1, 0, none⟩ = some (.slice A1 l1.length c1) := by have := y1.out; simp [World.cell?, this]
      by_cases hlt : j < l0.length
      · have hx := at_T66 (H0.out.below hb.out).nodes (j : Int) (by omega) (by omega)
        have hy := at_T66 (H1.out.below hb.out).nodes (j : Int) (by omega) (by have := Hl.out; omega)
        obtain ⟨x, hxe⟩ : ∃ x, rd_T66 l0 (j : Int) = x := ⟨_, rfl⟩
        obtain ⟨y, hye⟩ : ∃ y, rd_T66 l1 (j : Int) = y := ⟨_, rfl⟩
        rw [hxe] at hx
        rw [hye] at hy
        have Hx := Lib.hid hxe
        have Hy := Lib.hid hye
        clear hxe hye
        obtain ⟨p, P4, e4, P5, e5, P6, e6, rfl, p0, p1, p2, p3, p4, p5, p6, p7, p8, l4, g4, l5, g5, l6, g6⟩ := hx
        obtain ⟨q, Q4, f4, Q5, f5, Q6, f6, rfl, q0, q1, q2, q3, q4, q5, q6, q7, q8, m4, n4, m5, n5, m6, n6⟩ := hy
        have jl0 : (j : Int) < (l0.length : Int) := by omega
        have jl1 : (j : Int) < (l1.length : Int) := by have := Hl.out; omega
        simp only [Int.toNat_natCast] at p8 q8
        clear p0 p1 p2 p3 p4 p5 p6 p7 l4 g4 l5 g5 l6 g6 q0 q1 q2 q3 q4 q5 q6 q7 m4 n4 m5 n5 m6 n6
        go_wp2_with fail
        go_quiet (fail)
        go_wp2
        · have hne : ¬ x.f7 = y.f7 := by have h : (x.f7 != y.f7) = true := by assumption
                                         simpa using h
          go_ret
          refine ⟨ret_bool ?_, ?_⟩
          · unfold sameB
            rw [Hr.out]
            symm
            rw [Bool.true_and, decide_eq_false_iff_not]
            intro h3
            have := h3 j hlt
            rw [Hx.out, Hy.out] at this
            exact hne this
          · first
              | exact pw_below_drewN hb.out _
              | exact hb.out.drew
        · have heq : x.f7 = y.f7 := by have h : (x.f7 != y.f7) = false := by assumption
                                       simpa using h
          go_roundw
          case rel =>
            refine ⟨j + 1, by omega, by go_num, Lib.hid (fun i hi => ?_), Lib.hid ?_, Lib.hid y0.out, Lib.hid y1.out, hsz⟩
            · rcases Nat.lt_succ_iff_lt_or_eq.1 hi with h2 | rfl
              · exact hall.out i h2
              · rw [Hx.out, Hy.out]
                exact heq
            · first
                | exact pw_below_drewN hb.out _
                | exact hb.out.drew
          case measure => simp [intOf]; omega
      · obtain rfl : j = l0.length := by omega
        have HG : Hid (sameB l0 t0 l1 t1 = true) := Lib.hid (by unfold sameB; rw [Hr.out, Bool.true_and, decide_eq_true_eq]; exact hall.out)
        go_wp2
        go_ret
        exact ⟨ret_bool HG.out.symm, hb.out⟩
end Go.Proofs.YtcggeaobonblfaaDoor

/- The reference's words in memory; trees in memory that are read. -/
namespace Go.Proofs.YtcggeaobonblfaaDoor
set_option linter.unusedSimpArgs false
set_option linter.unusedVariables false
open Go Go.RowKit Go.Proofs.YtcggeaobonblfaaDoorW.PrintWords Go.Proofs.YtcggeaobonblfaaDoor.PParseTrees
theorem cell_R {w : World} {base : Nat} {ok : Nat → Prop} {v : Value} {xs : List ByteArray} (h : Kd.R Kd.string 9 w base ok v xs) (j : Nat) (x : ByteArray) (hx : xs[j]? = some x) :
    ∃ g cap, v = .slice (some ⟨g, 0, none⟩) xs.length cap ∧ g < w.heap.size ∧ w.cell? ⟨g, j, none⟩ = some (.string x) := by
  have hj := (List.getElem?_eq_some_iff.1 hx).1
  obtain ⟨g, cap, rfl, -, hg, -⟩ := Kd.R_form h (by omega)
  obtain ⟨-, -, hC⟩ := Kd.R_reads' h
  obtain ⟨ad, ha, hc⟩ := Kd.at_string hC (j : Int) (by omega) (by omega)
  cases ha
  refine ⟨g, cap, rfl, hg, ?_⟩
  have e : rdOf ByteArray.empty xs (j : Int) = x := by unfold rdOf; simp [hx]
  rw [e, addr_add] at hc
  simpa using hc
theorem names_R {w : World} {base : Nat} {ok : Nat → Prop} {v : Value} {xs : List (List UInt8)} (h : Kd.R Kd.string 9 w base ok v (xs.map toB)) : NamesRd w.heap.size w v xs := by
  obtain ⟨A, c, rfl, hcap, -⟩ := Kd.R_reads h
  refine ⟨A, c, by simp, fun j x hx => ?_, by simpa using hcap⟩
  obtain ⟨g, cap, e, hg, hc⟩ := cell_R h j (toB x) (by simp [hx])
  cases e
  exact ⟨g, rfl, hg, hc⟩
theorem words_S {w : World} {base : Nat} {ok : Nat → Prop} {v : Value} {ws : List Word} (h : Kd.S k76 76 w base ok v (ws.map toS)) : WordsRd w.heap.size w v ws := by
  obtain ⟨A, c, rfl⟩ := Kd.S_slice h
  refine ⟨A, c, by simp, fun i x hx => ?_⟩
  have hi := (List.getElem?_eq_some_iff.1 hx).1
  obtain ⟨g, cap, e, -, hg, -⟩ := Kd.S_form h (by simp; omega)
  cases e
  obtain ⟨cs, hcl, hM, hc⟩ := Kd.R_getA (Kd.S_R h) z76 (i : Int) (by omega) (by simp; omega)
  have e : (ws.map toS).getD (i : Int).toNat z76 = toS x := by simp [hx]
  rw [e] at hM
  obtain ⟨v4, rfl, hR⟩ := k76_openM hM
  have hcc : ∀ j u, [Value.int .u8 (toS x).f0, .int .i64 (toS x).f1, .string (toS x).f2, .bool (toS x).f3.f0, v4][j]? = some u → w.cell? ⟨g, i * 5 + j, none⟩ = some u := fun j u hu => by
    have := hc j u hu
    rw [addr_add] at this
    exact this
  exact ⟨g, v4, rfl, hg, hcc 0 _ rfl, hcc 1 _ rfl, hcc 2 _ rfl, hcc 3 _ rfl, hcc 4 _ rfl, names_R hR⟩
theorem all_any (s : List UInt8) (w : World) (hs : s.length ≤ 65536) :
    Calls Tryd.prog 21 #[.string ⟨s.toArray⟩] w fun e w' => ∃ v, e = .returned (.tuple #[v, .int .i64 (lexW 0 s).2]) ∧ WordsRd w'.heap.size w' v (lexW 0 s).1 ∧ Below w.heap.size w w' := by
  obtain ⟨k, hk⟩ := all_ev s hs
  exact (bobbinref13_All.calls k (toB s) _ _ w hk).mono fun e w' ⟨v, he, hS, hb⟩ => ⟨v, he, words_S hS, hb⟩

/-- A node, as the print has it. -/
def toN (x : Node) : S66 := ⟨x.kind, x.at_, toB x.text, ⟨x.root, x.names.map toB⟩, x.body, x.els, x.has, x.hole⟩
theorem own_cap {W : World} {base e size n c : Nat} {A : Option Addr} {xs : List Value} (h : W.ownsRow base e size (.slice A n c) n xs) : n ≤ c ∧ n ≤ 9223372036854775807 := by
  rcases h.2 with ⟨h1, h0⟩ | ⟨g, cap, cur, h1, _, _, h2, h3, _⟩
  · cases h1; exact ⟨Nat.le_refl _, by omega⟩
  · cases h1
    unfold maxLen at h3
    exact ⟨h2, by omega⟩
theorem ints_C {W : World} {base : Nat} {v : Value} {xs : List Int} (h : IntsAt W base v xs) : ∃ A c, v = .slice A xs.length c ∧ xs.length ≤ c ∧ IntsC W A xs := by
  obtain ⟨A, c, rfl⟩ := ints_slice h
  obtain ⟨h1, h2⟩ := own_cap h
  refine ⟨A, c, rfl, h1, rfl, h2, fun hp => ?_⟩
  obtain ⟨x, hx⟩ : ∃ x, (xs.map (Value.int .i64))[0]? = some x := ⟨_, List.getElem?_eq_getElem (by simpa using hp)⟩
  obtain ⟨g, cap, e, -, -, -⟩ := row_cell h 0 x hx
  injection e with e1 e2 e3
  refine ⟨⟨g, 0, none⟩, e1, fun j p hj => ⟨[.int .i64 p], rfl, rfl, fun i u hu => ?_⟩⟩
  cases i with
  | succ i => simp at hu
  | zero =>
    simp at hu
    subst hu
    obtain ⟨g2, cap2, e', -, -, hc⟩ := row_cell h j (.int .i64 p) (by simp [hj])
    injection e' with e4 e5 e6
    rw [e1] at e4
    cases e4
    rw [addr_add]
    have : j * (Kd.int IntKind.i64).sz + 0 = j := by show j * 1 + 0 = j; omega
    rw [this]
    exact hc
theorem names_C {B : Nat} {W : World} {v : Value} {names : List (List UInt8)} (h : NamesRd B W v names) (hl : names.length ≤ 100000) : ∃ A c, v = .slice A names.length c ∧ names.length ≤ c ∧ StrsC W A (names.map toB) := by
  obtain ⟨A, c, rfl, hj, hcap⟩ := h
  refine ⟨A, c, rfl, hcap, by simp, by simp; omega, fun hp => ?_⟩
  obtain ⟨x, hx⟩ : ∃ x, names[0]? = some x := ⟨_, List.getElem?_eq_getElem (by simpa using hp)⟩
  obtain ⟨b, ha, -, -⟩ := hj 0 x hx
  refine ⟨⟨b, 0, none⟩, ha, fun j p hjp => ⟨[.string p], rfl, rfl, fun i u hu => ?_⟩⟩
  cases i with
  | succ i => simp at hu
  | zero =>
    simp at hu
    subst hu
    obtain ⟨y, hy, rfl⟩ : ∃ y, names[j]? = some y ∧ toB y = p := by simpa using hjp
    obtain ⟨b2, hb2, -, hc⟩ := hj j y hy
    rw [ha] at hb2
    cases hb2
    rw [addr_add]
    have : j * Kd.string.sz + 0 = j := by show j * 1 + 0 = j; omega
    rw [this]
    exact hc
/-- A tree that is owned can be read. -/
theorem tree_C {W : World} {base : Nat} {nv tv : Value} {ps : List NodeV} {top : List Int} (hr : W.ownsRow base 66 9 nv ps.length (ps.flatMap nodeCells)) (ht : IntsAt W base tv top)
    (hp : ∀ p ∈ ps, (∃ A c, p.nv = .slice A p.x.names.length c ∧ p.x.names.length ≤ c ∧ StrsC W A (p.x.names.map toB)) ∧ IntsAt W base p.bv p.x.body ∧ IntsAt W base p.ev p.x.els)
    (h1 : ps.length ≤ 100000) (h2 : top.length ≤ 100000) (h3 : ∀ p ∈ ps, p.x.names.length ≤ 100000 ∧ p.x.body.length ≤ 100000 ∧ p.x.els.length ≤ 100000) :
    ∃ A c B d, nv = .slice A (ps.map NodeV.x).length c ∧ tv = .slice B top.length d ∧ TreeC W A c ((ps.map NodeV.x).map toN) B d top := by
  obtain ⟨B, d, rfl, hd, htC⟩ := ints_C ht
  obtain ⟨A, c, rfl⟩ : ∃ A c, nv = .slice A ps.length c := by
    rcases hr.2 with ⟨rfl, h0⟩ | ⟨g, cap, cur, rfl, _⟩
    · rw [h0]; exact ⟨_, _, rfl⟩
    · exact ⟨_, _, rfl⟩
  obtain ⟨hc, hm⟩ := own_cap hr
  refine ⟨A, c, B, d, by simp, rfl, ⟨⟨by simp, by simpa using hm, fun hpos => ?_⟩, by simpa using hc, htC, hd, by simp; omega, by omega, fun x hx => ?_⟩⟩
  · have hpos' : 0 < ps.length := by simpa using hpos
    obtain ⟨p0, hp0⟩ : ∃ p, ps[0]? = some p := ⟨_, List.getElem?_eq_getElem hpos'⟩
    obtain ⟨g, cap, e, -, -, -⟩ := row_cell hr (0 * 9 + 0) _ (by rw [flat9 ps 0 p0 hp0 0 (by omega)]; rfl)
    injection e with e1 e2 e3
    refine ⟨⟨g, 0, none⟩, e1, fun j x hj => ?_⟩
    obtain ⟨p, hpj, rfl⟩ : ∃ p, ps[j]? = some p ∧ toN p.x = x := by simpa using hj
    obtain ⟨⟨NA, NC, hn1, hn2, hn3⟩, hb, he⟩ := hp p (List.mem_of_getElem? hpj)
    obtain ⟨BA, BC, hb1, hb2, hb3⟩ := ints_C hb
    obtain ⟨EA, EC, he1, he2, he3⟩ := ints_C he
    have hK := k66_mk W (toN p.x) (A4 := NA) (c4 := NC) (by simpa [toN] using hn2) hn3 (A5 := BA) (c5 := BC) hb2 hb3 (A6 := EA) (c6 := EC) he2 he3
    refine ⟨_, rfl, hK, fun i u hu => ?_⟩
    have hi : i < 9 := (List.getElem?_eq_some_iff.1 hu).1
    have hcells : [Value.int .u8 (toN p.x).f0, .int .i64 (toN p.x).f1, .string (toN p.x).f2, .bool (toN p.x).f3.f0, .slice NA (toN p.x).f3.f1.length NC, .slice BA (toN p.x).f4.length BC, .slice EA (toN p.x).f5.length EC, .bool (toN p.x).f6, .int .u8 (toN p.x).f7] = nodeCells p := by
      unfold nodeCells toN
      rw [hn1, hb1, he1]
      simp
    rw [hcells] at hu
    obtain ⟨g2, cap2, e', -, -, hcc⟩ := row_cell hr (j * 9 + i) u (by rw [flat9 ps j p hpj i hi]; exact hu)
    injection e' with e4 e5 e6
    rw [e1] at e4
    cases e4
    rw [addr_add]
    exact hcc
  · obtain ⟨y, hy, rfl⟩ := List.mem_map.1 hx
    obtain ⟨p, hpm, rfl⟩ := List.mem_map.1 hy
    obtain ⟨a, b, c⟩ := h3 p hpm
    exact ⟨by simp [toN]; omega, by simp [toN]; omega, by simp [toN]; omega⟩
end Go.Proofs.YtcggeaobonblfaaDoor
