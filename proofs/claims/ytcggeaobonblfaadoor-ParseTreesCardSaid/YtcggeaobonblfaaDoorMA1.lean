/- Lemmas and contracts for RowParseTrees, part 1: R14e, R14f, Copied, TreeW, Parse, R14p, R13x3. -/
import Derived.Test.YtcggeaobonblfaaDoorMA0
import Derived.Test.YtcggeaobonblfaaDoorPParseTreesx0
/- bobbinref14.add: a node within the innermost that is open. -/
namespace Go.Proofs.YtcggeaobonblfaaDoor
set_option linter.unusedSimpArgs false
set_option linter.unusedVariables false
open Go Go.RowKit Go.Proofs.YtcggeaobonblfaaDoorW.PrintLast
/-- An if or a range that hasn't ended. -/
structure Opn where
  (node kind : Int) (els : Bool)
def openCells (o : Opn) : List Value := [.int .i64 o.node, .int .i64 o.kind, .bool o.els]
def StackAt (W : World) (base : Nat) (v : Value) (st : List Opn) : Prop := W.ownsRow base 78 3 v st.length (st.flatMap openCells)
theorem stack_slice {W : World} {base : Nat} {v : Value} {st : List Opn} (h : StackAt W base v st) : ∃ A c, v = .slice A st.length c := by
  rcases h.2 with ⟨rfl, h0⟩ | ⟨g, cap, cur, rfl, _⟩
  · rw [h0]; exact ⟨_, _, rfl⟩
  · exact ⟨_, _, rfl⟩
theorem stack_flat (st : List Opn) (o : Opn) (j : Nat) (hj : j < 3) : ((st ++ [o]).flatMap openCells)[st.length * 3 + j]? = (openCells o)[j]? := by
  have hl : (st.flatMap openCells).length = st.length * 3 := by
    induction st with
    | nil => rfl
    | cons a st ih => rw [List.flatMap_cons, List.length_append, ih]; simp [openCells]; omega
  rw [List.flatMap_append, List.getElem?_append_right (by omega), hl]
  simp [openCells]
theorem stack_last {W : World} {base : Nat} {v : Value} {st : List Opn} {o : Opn} (h : StackAt W base v (st ++ [o])) : ∃ g cap, v = .slice (some ⟨g, 0, none⟩) (st.length + 1) cap ∧ base ≤ g ∧ g < W.heap.size ∧
    W.cell? ⟨g, st.length * 3, none⟩ = some (.int .i64 o.node) ∧ W.cell? ⟨g, st.length * 3 + 1, none⟩ = some (.int .i64 o.kind) ∧ W.cell? ⟨g, st.length * 3 + 2, none⟩ = some (.bool o.els) := by
  obtain ⟨g, cap, rfl, h1, h2, c0⟩ := row_cell h (st.length * 3 + 0) _ (by rw [stack_flat st o 0 (by omega)]; rfl)
  obtain ⟨g1, cap1, e1, -, -, c1⟩ := row_cell h (st.length * 3 + 1) _ (by rw [stack_flat st o 1 (by omega)]; rfl)
  cases e1
  obtain ⟨g2, cap2, e2, -, -, c2⟩ := row_cell h (st.length * 3 + 2) _ (by rw [stack_flat st o 2 (by omega)]; rfl)
  cases e2
  exact ⟨g, cap, by simp, h1, h2, c0, c1, c2⟩
/-- A row of another type is kept. -/
theorem FrT.row {base T b e size n : Nat} {W W' : World} {v : Value} {xs : List Value} {cs : Array Value} {t : TypeId} (hf : FrT base T W W') (h : W.ownsRow b e size v n xs) (hT : W.heap[T]? = some (.cells cs t)) (ht : e ≠ t) (h1 : e ≠ 66) (h2 : e ≠ 3) : W'.ownsRow b e size v n xs := by
  refine ⟨h.1, ?_⟩
  rcases h.2 with hn | ⟨g, cap, cur, rfl, hb, hg, rest⟩
  · exact .inl hn
  · refine .inr ⟨g, cap, cur, rfl, hb, hf.blk hg ?_ h1 h2, rest⟩
    rintro rfl
    rw [hg] at hT
    cases hT
    exact ht rfl
/-- append to a row of the call's own, as one step of a region that draws its order; where the new row lies. -/
theorem step_grow_at {P : Program} {ops : Array Oper} {o : Oper} {a : Act} {K : Act → World → Prop} {Q : Exit → Act → World → Prop} {E : Prop} {W : World} (hgd : o.guard = none) (s x : Operand) (t : TypeId)
    (ho : o.op = .call { callee := .builtin .append, args := #[s, x], argTypes := #[t, t] })
    (base : Nat) (e : TypeId) (i : TypeInfo) (z : Value) (size bytes : Nat) (ht : P.underlying t = some (.slice e)) (hi : P.info? e = some i) (hz : i.zero = some z)
    (hsize : i.size = size) (hby : i.bytes = bytes) (hzs : z.cells.size = size) (hsz : 0 < size)
    (v : Value) (n : Nat) (xs : List Value) (hs : a.eval s = v) (hown : W.ownsRow base e size v n xs)
    (ad : Addr) (m c : Nat) (news : List Value) (hx : a.eval x = .slice (some ad) m c) (hl : news.length = m * size) (hnews : ∀ j u, news[j]? = some u → W.cell? (ad.add j) = some u) (h1 : ∀ u ∈ news, u.oneCell' = true)
    (h63 : n + m ≤ maxLen) (hbytes : (n + m) * bytes ≤ 140737488355328) (hbase : base ≤ W.heap.size)
    (h : ∀ v' w', w'.ownsRow base e size v' (n + m) (xs ++ news) → W.grownBy w' v.ownBlock → (v'.ownBlock = v.ownBlock ∨ v'.ownBlock = some W.heap.size) → K (a.put o.dst v') w') :
    if Region.wanted o (yielded ops a.tmps) = true then Oper.wp P o a W K Q else E := by
  rw [if_pos (by simp [Region.wanted, hgd])]
  obtain ⟨v', w', hr, h2, h3, h4, h5⟩ := run_append_own_at (P := P) W base t o.type e i z size bytes ht hi hz hsize hby hzs hsz v n xs hown ad m c news hl hnews h1 h63 hbytes hbase
  unfold Oper.wp execOp
  simp only [ho, resolve, invoke, builtin, Sem.run_bind, Sem.run_pure, Result.andThen_ok, List.map_toArray, List.map_cons, List.map_nil, hs, hx, hr]
  exact h v' w' h2 h3 h5
def addF (nodes : List Node) (top : List Int) (st : List Opn) (n : Int) : List Node × List Int :=
  match st.getLast? with
  | none => (nodes, top ++ [n])
  | some o => (nodes.modify o.node.toNat (fun x => if o.els then { x with els := x.els ++ [n] } else { x with body := x.body ++ [n] }), top)
def AddPost (B base T : Nat) (w : World) (r : List Node × List Int) (e : Ending) (w' : World) : Prop := e = .returned (.tuple #[]) ∧ TSt B base w' T r.1 r.2 ∧ FrT base T w w'

set_option maxRecDepth 100000 in
set_option maxHeartbeats 2000000 in
theorem add_any (B base sb T : Nat) (nodes : List Node) (top : List Int) (st : List Opn) (sv : Value) (n : Int) (w : World) (hT : TSt B base w T nodes top) (hs : StackAt w sb sv st) (hl : top.length ≤ 100000)
    (hb : ∀ x ∈ nodes, x.body.length ≤ 100000 ∧ x.els.length ≤ 100000) (hst : st.length ≤ 1000) (hlast : ∀ o, st.getLast? = some o → 0 ≤ o.node ∧ o.node < nodes.length) (hnl : nodes.length ≤ 100000) :
    Calls Tryd.prog 22 #[.pointer (some ⟨T, 0, none⟩), sv, .int .i64 n] w (AddPost B base T w (addF nodes top st n)) := by
  obtain ⟨nv, tv, ps, f, hmap, hts⟩ := hT
  obtain ⟨i0, hi0, hz0, hz1, hz2⟩ := info_parts Tryd.info3
  have hTl := World.heap_lt hts.block
  have hB := hts.low
  have hBT := hts.lowT
  have b0 : w.cell? ⟨T, 0, none⟩ = some nv := by have := hts.block; simp [World.cell?, this]
  have b1 : w.cell? ⟨T, 1, none⟩ = some tv := by have := hts.block; simp [World.cell?, this]
  rcases List.eq_nil_or_concat st with rfl | ⟨st', o, rfl⟩
  · have HF : Hid (addF nodes top [] n = (nodes, top ++ [n])) := Lib.hid rfl
    obtain ⟨A, c, rfl⟩ := stack_slice hs
    obtain ⟨TA, TC, rfl⟩ := ints_slice hts.top
    have Hts := Lib.hid hts
    have Hmap := Lib.hid hmap
    clear hts hmap hs hb hlast
    go_enter Tryd.func22, Tryd.ntmps22
    go_wp2_with (at_builtin; refine halt ?_)
    refine Halted.mk' ?_
    refine wpList_append_own_at _ rfl _ _ 24 rfl base 3 i0 _ 1 8 Tryd.underlying24 hi0 hz0 hz1 hz2 rfl (by decide) (.slice TA top.length TC) top.length (top.map (Value.int .i64)) rfl (World.ownsRow.alloc Hts.out.top _) ⟨_, 0, none⟩ 1 1 [.int .i64 n] rfl rfl (cells_new _ [.int .i64 n] _ _ (by simp)) ?_ ?_ ?_ ?_ ?_
    · simp [Value.oneCell']
    · unfold maxLen; omega
    · omega
    · simp; omega
    intro v' w1 hown' hgrow _ hat
    obtain ⟨g', cap', rfl⟩ := ownsRow_succ hown'
    have hgw := grown_two (World.grownBy_alloc w (.cells #[.int .i64 n] 3) none) hgrow
    obtain ⟨h1, h2, h3⟩ := Hts.out.addTop (v' := .slice (some ⟨g', 0, none⟩) (top.length + 1) cap') (n := n) (by simpa [IntsAt] using hown') hgw (hat.imp id (fun e => ⟨_, e, by simp⟩))
    have H2 := Lib.hid h2
    have H3 := Lib.hid h3
    have k1 : w1.cell? ⟨T, 1, none⟩ = some (.slice TA top.length TC) := by simp [World.cell?, h1]
    have k2 : w1.frozen? ⟨T, 1, none⟩ = false := by simp [World.frozen?, h1]
    clear h1 h2 h3 hown' hgrow hat hgw hi0 hz0 hz1 hz2 b0 b1
    go_wp2
    refine bodyPost_ret (v := .tuple #[]) (by simp [results, Tryd.results22, go_sem]) rfl ?_
    rw [HF.out, ← Hmap.out]
    exact ⟨rfl, H2.out, H3.out⟩
  · rw [List.concat_eq_append] at hs hlast hst ⊢
    have hlo : (st' ++ [o]).getLast? = some o := by simp
    obtain ⟨hn0, hn1⟩ := hlast o hlo
    obtain ⟨k, hk⟩ := Int.eq_ofNat_of_zero_le hn0
    have hlen : nodes.length = ps.length := by rw [← hmap]; simp
    have hkl : k < ps.length := by omega
    obtain ⟨p, hp⟩ : ∃ p, ps[k]? = some p := ⟨_, List.getElem?_eq_getElem hkl⟩
    obtain ⟨sg, sc, rfl, -, hsl, so0, so1, so2⟩ := stack_last hs
    rw [hk] at so0
    obtain ⟨g, cap, rfl, hbg, hgl, pc0⟩ := row_cell hts.row (k * 9 + 0) _ (by rw [flat9 ps k p hp 0 (by omega)]; rfl)
    obtain ⟨-, hbv, hev, -, -⟩ := hts.rows k p hp
    have hpm : p.x ∈ nodes := by rw [← hmap]; exact List.mem_map_of_mem (List.mem_of_getElem? hp)
    obtain ⟨hb1, hb2⟩ := hb p.x hpm
    have hi : ((st'.length : Int) + 1 - 1) = (st'.length : Int) := by omega
    have HF : Hid (addF nodes top (st' ++ [o]) n = (nodes.modify k (fun x => if o.els then { x with els := x.els ++ [n] } else { x with body := x.body ++ [n] }), top)) := Lib.hid (by unfold addF; rw [hlo]; dsimp only; rw [hk]; rfl)
    have hst' : st'.length ≤ 1000 := by simp at hst; omega
    have Hts := Lib.hid hts
    have Hmap := Lib.hid hmap
    have hkz : (k : Int) < (ps.length : Int) := by omega
    clear hts hmap hs hb hlast hst hlo hn0 hn1 hpm hlen b1 hkl
    cases hels : o.els with
    | true =>
      rw [hels] at so2 HF
      obtain ⟨RA, RC, hre⟩ := ints_slice hev
      have pc : w.cell? ⟨g, k * 9 + 6, none⟩ = some (.slice RA p.x.els.length RC) := by
        obtain ⟨g2, cap2, e2, -, -, c2⟩ := row_cell Hts.out.row (k * 9 + 6) _ (by rw [flat9 ps k p hp 6 (by omega)]; rfl)
        cases e2
        rw [← hre]; exact c2
      rw [hre] at hev
      have Hrow := Lib.hid hev
      have Hre := Lib.hid hre
      have Hk := Lib.hid hk
      have Hp := Lib.hid hp
      clear hev hbv hre hk hels hp pc0
      go_enter Tryd.func22, Tryd.ntmps22
      go_wp2
      refine start_ (n := 21) (S := fun w' => w'.cell? ⟨T, 0, none⟩ = some (.slice (some ⟨g, 0, none⟩) ps.length cap) ∧ w'.cell? ⟨w.heap.size, 0, none⟩ = some (.int .i64 k) ∧ w'.cell? ⟨g, k * 9 + 6, none⟩ = some (.slice RA p.x.els.length RC)) (ds := [20]) #[false, false, false, false, false, false, false, false, false, false, false, false, false, false, false, false, false, false, false, false, false] (by kernel_rfl) rfl rfl ⟨(World.cell?_alloc_past _ _ _ hTl).trans b0, by simp, (World.cell?_alloc_past _ _ _ hgl).trans pc⟩ (fun hHeld => ?_)
      refine pure_ (i := 0) (N := (some 28)) (v := ?_) (a' := ?_) #[true, false, false, false, false, false, false, false, false, false, false, false, false, false, false, false, false, false, false, false, false] rfl rfl (by kernel_rfl) (fun _ _ _ h => h) (Or.inl ⟨by rfl, ?_⟩) ?_ ?_
      rotate_left
      · intro w'
        go_simp
        with_reducible rfl
      rotate_left
      · simp only [Act.put, List.setIfInBounds_toArray, List.set_cons_zero, List.set_cons_succ, i64_w, i32_w]
        rfl
      refine pure_ (i := 1) (N := (some 29)) (v := ?_) (a' := ?_) #[true, true, false, false, false, false, false, false, false, false, false, false, false, false, false, false, false, false, false, false, false] rfl rfl (by kernel_rfl) (fun _ _ _ h => h) (Or.inl ⟨by rfl, ?_⟩) ?_ ?_
      rotate_left
      · intro w'
        go_simp
        with_reducible rfl
      rotate_left
      · simp only [Act.put, List.setIfInBounds_toArray, List.set_cons_zero, List.set_cons_succ, i64_w, i32_w]
        rfl
      refine pure_ (i := 2) (N := (some 30)) (v := ?_) (a' := ?_) #[true, true, true, false, false, false, false, false, false, false, false, false, false, false, false, false, false, false, false, false, false] rfl rfl (by kernel_rfl) (fun _ _ _ h => h) (Or.inl ⟨by rfl, ?_⟩) ?_ ?_
      rotate_left
      · intro w'
        go_simp
        with_reducible rfl
      rotate_left
      · simp only [Act.put, List.setIfInBounds_toArray, List.set_cons_zero, List.set_cons_succ, i64_w, i32_w]
        rfl
      refine take_ (i := 3) (N := (some 31)) (v := ?_) (a' := ?_) #[true, true, true, true, false, false, false, false, false, false, false, false, false, false, false, false, false, false, false, false, false] rfl rfl (by kernel_rfl) (fun _ _ _ h => h) (Or.inl ⟨by rfl, ?_⟩) hHeld ?_ ?_
      rotate_left
      · rintro w' ⟨s0, s1, s2⟩
        go_simp
        with_reducible rfl
      rotate_left
      · simp only [Act.put, List.setIfInBounds_toArray, List.set_cons_zero, List.set_cons_succ, i64_w, i32_w]
        rfl
      refine pure_ (i := 4) (N := (some 32)) (v := ?_) (a' := ?_) #[true, true, true, true, true, false, false, false, false, false, false, false, false, false, false, false, false, false, false, false, false] rfl rfl (by kernel_rfl) (fun _ _ _ h => h) (Or.inl ⟨by rfl, ?_⟩) ?_ ?_
      rotate_left
      · intro w'
        go_simp
        with_reducible rfl
      rotate_left
      · simp only [Act.put, List.setIfInBounds_toArray, List.set_cons_zero, List.set_cons_succ, i64_w, i32_w]
        rfl
      refine take_ (i := 5) (N := (some 33)) (v := ?_) (a' := ?_) #[true, true, true, true, true, true, false, false, false, false, false, false, false, false, false, false, false, false, false, false, false] rfl rfl (by kernel_rfl) (fun _ _ _ h => h) (Or.inl ⟨by rfl, ?_⟩) hHeld ?_ ?_
      rotate_left
      · rintro w' ⟨s0, s1, s2⟩
        go_simp
        with_reducible rfl
      rotate_left
      · simp only [Act.put, List.setIfInBounds_toArray, List.set_cons_zero, List.set_cons_succ, i64_w, i32_w]
        rfl
      refine pure_ (i := 6) (N := (some 34)) (v := ?_) (a' := ?_) #[true, true, true, true, true, true, true, false, false, false, false, false, false, false, false, false, false, false, false, false, false] rfl rfl (by kernel_rfl) (fun _ _ _ h => h) (Or.inl ⟨by rfl, ?_⟩) ?_ ?_
      rotate_left
      · intro w'
        go_simp
        with_reducible rfl
      rotate_left
      · simp only [Act.put, List.setIfInBounds_toArray, List.set_cons_zero, List.set_cons_succ, i64_w, i32_w]
        rfl
      refine pure_ (i := 7) (N := (some 35)) (v := ?_) (a' := ?_) #[true, true, true, true, true, true, true, true, false, false, false, false, false, false, false, false, false, false, false, false, false] rfl rfl (by kernel_rfl) (fun _ _ _ h => h) (Or.inl ⟨by rfl, ?_⟩) ?_ ?_
      rotate_left
      · intro w'
        go_simp
        with_reducible rfl
      rotate_left
      · simp only [Act.put, List.setIfInBounds_toArray, List.set_cons_zero, List.set_cons_succ, i64_w, i32_w]
        rfl
      refine pure_ (i := 8) (N := (some 36)) (v := ?_) (a' := ?_) #[true, true, true, true, true, true, true, true, true, false, false, false, false, false, false, false, false, false, false, false, false] rfl rfl (by kernel_rfl) (fun _ _ _ h => h) (Or.inl ⟨by rfl, ?_⟩) ?_ ?_
      rotate_left
      · intro w'
        go_simp
        with_reducible rfl
      rotate_left
      · simp only [Act.put, List.setIfInBounds_toArray, List.set_cons_zero, List.set_cons_succ, i64_w, i32_w]
        rfl
      refine take_ (i := 9) (N := (some 37)) (v := ?_) (a' := ?_) #[true, true, true, true, true, true, true, true, true, true, false, false, false, false, false, false, false, false, false, false, false] rfl rfl (by kernel_rfl) (fun _ _ _ h => h) (Or.inl ⟨by rfl, ?_⟩) hHeld ?_ ?_
      rotate_left
      · rintro w' ⟨s0, s1, s2⟩
        go_simp
        with_reducible rfl
      rotate_left
      · simp only [Act.put, List.setIfInBounds_toArray, List.set_cons_zero, List.set_cons_succ, i64_w, i32_w]
        rfl
      refine pure_ (i := 10) (N := (some 38)) (v := ?_) (a' := ?_) #[true, true, true, true, true, true, true, true, true, true, true, false, false, false, false, false, false, false, false, false, false] rfl rfl (by kernel_rfl) (fun _ _ _ h => h) (Or.inl ⟨by rfl, ?_⟩) ?_ ?_
      rotate_left
      · intro w'
        go_simp
        with_reducible rfl
      rotate_left
      · simp only [Act.put, List.setIfInBounds_toArray, List.set_cons_zero, List.set_cons_succ, i64_w, i32_w]
        rfl
      refine take_ (i := 11) (N := (some 39)) (v := ?_) (a' := ?_) #[true, true, true, true, true, true, true, true, true, true, true, true, false, false, false, false, false, false, false, false, false] rfl rfl (by kernel_rfl) (fun _ _ _ h => h) (Or.inl ⟨by rfl, ?_⟩) hHeld ?_ ?_
      rotate_left
      · rintro w' ⟨s0, s1, s2⟩
        go_simp
        with_reducible rfl
      rotate_left
      · simp only [Act.put, List.setIfInBounds_toArray, List.set_cons_zero, List.set_cons_succ, i64_w, i32_w]
        rfl
      refine pure_ (i := 12) (N := (some 40)) (v := ?_) (a' := ?_) #[true, true, true, true, true, true, true, true, true, true, true, true, true, false, false, false, false, false, false, false, false] rfl rfl (by kernel_rfl) (fun _ _ _ h => h) (Or.inl ⟨by rfl, ?_⟩) ?_ ?_
      rotate_left
      · intro w'
        go_simp
        with_reducible rfl
      rotate_left
      · simp only [Act.put, List.setIfInBounds_toArray, List.set_cons_zero, List.set_cons_succ, i64_w, i32_w]
        rfl
      refine pure_ (i := 13) (N := (some 41)) (v := ?_) (a' := ?_) #[true, true, true, true, true, true, true, true, true, true, true, true, true, true, false, false, false, false, false, false, false] rfl rfl (by kernel_rfl) (fun _ _ _ h => h) (Or.inl ⟨by rfl, ?_⟩) ?_ ?_
      rotate_left
      · intro w'
        go_simp
        with_reducible rfl
      rotate_left
      · simp only [Act.put, List.setIfInBounds_toArray, List.set_cons_zero, List.set_cons_succ, i64_w, i32_w]
        rfl
      refine take_ (i := 14) (N := (some 42)) (v := ?_) (a' := ?_) #[true, true, true, true, true, true, true, true, true, true, true, true, true, true, true, false, false, false, false, false, false] rfl rfl (by kernel_rfl) (fun _ _ _ h => h) (Or.inl ⟨by rfl, ?_⟩) hHeld ?_ ?_
      rotate_left
      · rintro w' ⟨s0, s1, s2⟩
        go_simp
        with_reducible rfl
      rotate_left
      · simp only [Act.put, List.setIfInBounds_toArray, List.set_cons_zero, List.set_cons_succ, i64_w, i32_w]
        rfl
      refine pure_ (i := 15) (N := (some 43)) (v := ?_) (a' := ?_) #[true, true, true, true, true, true, true, true, true, true, true, true, true, true, true, true, false, false, false, false, false] rfl rfl (by kernel_rfl) (fun _ _ _ h => h) (Or.inl ⟨by rfl, ?_⟩) ?_ ?_
      rotate_left
      · intro w'
        go_simp
        with_reducible rfl
      rotate_left
      · simp only [Act.put, List.setIfInBounds_toArray, List.set_cons_zero, List.set_cons_succ, i64_w, i32_w]
        rfl
      refine one_ (i := 16) (N := (some 44)) #[true, true, true, true, true, true, true, true, true, true, true, true, true, true, true, true, true, false, false, false, false] rfl rfl (by kernel_rfl) (by decide) (fun K hK => ?_)
      refine value_ (w1 := ?_) (v := ?_) (by rfl) rfl ?_ ?_
      rotate_left 2
      · go_simp
        constructor
        · rfl
        · rfl
      obtain ⟨s0, s1, s2⟩ := hHeld
      refine hK.out _ _ ⟨(World.cell?_alloc_past _ _ _ (by simp; omega)).trans s0, (World.cell?_alloc_past _ _ _ (by simp)).trans s1, (World.cell?_alloc_past _ _ _ (by simp; omega)).trans s2⟩ (fun hHeld => ?_)
      clear hK K s0 s1 s2
      refine norm_ (a' := ?_) ?_ ?_
      rotate_left
      · show Act.put _ (some 44) _ = _
        simp only [Act.put, List.setIfInBounds_toArray, List.set_cons_zero, List.set_cons_succ, i64_w, i32_w]
        rfl
      refine one_ (i := 17) (N := (some 45)) #[true, true, true, true, true, true, true, true, true, true, true, true, true, true, true, true, true, true, false, false, false] rfl rfl (by kernel_rfl) (by decide) (fun K hK => ?_)
      refine step_grow_at rfl _ _ 24 rfl base 3 i0 _ 1 8 Tryd.underlying24 hi0 hz0 hz1 hz2 rfl (by decide) (.slice RA p.x.els.length RC) p.x.els.length (p.x.els.map (Value.int .i64)) rfl ((World.ownsRow.alloc Hrow.out _).alloc _) ⟨_, 0, none⟩ 1 1 [.int .i64 n] rfl rfl (cells_new _ [.int .i64 n] _ _ (by simp)) (by simp [Value.oneCell']) (by unfold maxLen; omega) (by omega) (by simp; omega) ?_
      intro v' w1 hown' hgrow hat
      obtain ⟨g', cap', rfl⟩ := ownsRow_succ hown'
      have hgw := grown_two (World.grownBy_alloc w _ none) (grown_two (World.grownBy_alloc _ _ none) (grown_drew hgrow))
      have hty : ∀ q, (Value.slice RA p.x.els.length RC).ownBlock = some q → ∃ c, w.heap[q]? = some (.cells c 3) := row_type Hrow.out
      have hgty : ∃ c, w.heap[g]? = some (.cells c 66) := row_type Hts.out.row g rfl
      have hnT : some T ≠ (Value.slice RA p.x.els.length RC).ownBlock := fun e => by obtain ⟨c, h⟩ := hty T e.symm; have h2 := Hts.out.block; rw [h2] at h; cases h
      have hng : some g ≠ (Value.slice RA p.x.els.length RC).ownBlock := fun e => by obtain ⟨c, h⟩ := hty g e.symm; obtain ⟨c2, h2⟩ := hgty; rw [h2] at h; cases h
      have hnr : some w.heap.size ≠ (Value.slice RA p.x.els.length RC).ownBlock := fun e => by obtain ⟨cs, h⟩ := hty _ e.symm; have := World.heap_lt h; omega
      obtain ⟨h1, h2, h3, h4, h5⟩ := Hts.out.addIn Hp.out true (v' := .slice (some ⟨g', 0, none⟩) (p.x.els.length + 1) cap') (n := n) (by simpa [IntsAt] using hown') (by rw [if_pos rfl, Hre.out]; exact hgw) (by rw [if_pos rfl, Hre.out]; exact hat.imp id (fun e => ⟨_, e, by simp; omega⟩))
      simp only [Bool.false_eq_true, if_true, if_false] at h2 h3 h4 h5
      rw [Hre.out] at h2
      rw [Hmap.out] at h4
      have H4 := Lib.hid h4
      have H5 := Lib.hid h5
      obtain ⟨s0, s1, s2⟩ := hHeld
      refine hK.out _ _ ⟨hgrow.cell s0 hnT, hgrow.cell s1 hnr, hgrow.cell s2 hng⟩ (fun hHeld => ?_)
      clear hK K s0 s1 s2 h1 h4 h5 hown' hgrow hat hgw hty hgty hi0 hz0 hz1 hz2 hnT hng hnr b0 pc
      refine norm_ (a' := ?_) ?_ ?_
      rotate_left
      · show Act.put _ (some 45) _ = _
        simp only [Act.put, List.setIfInBounds_toArray, List.set_cons_zero, List.set_cons_succ, i64_w, i32_w]
        rfl
      refine pure_ (i := 18) (N := (some 46)) (v := ?_) (a' := ?_) #[true, true, true, true, true, true, true, true, true, true, true, true, true, true, true, true, true, true, true, false, false] rfl rfl (by kernel_rfl) (fun _ _ _ h => h) (Or.inl ⟨by rfl, ?_⟩) ?_ ?_
      rotate_left
      · intro w'
        go_simp
        with_reducible rfl
      rotate_left
      · simp only [Act.put, List.setIfInBounds_toArray, List.set_cons_zero, List.set_cons_succ, i64_w, i32_w]
        rfl
      refine pure_ (i := 19) (N := (some 47)) (v := ?_) (a' := ?_) #[true, true, true, true, true, true, true, true, true, true, true, true, true, true, true, true, true, true, true, true, false] rfl rfl (by kernel_rfl) (fun _ _ _ h => h) (Or.inl ⟨by rfl, ?_⟩) ?_ ?_
      rotate_left
      · intro w'
        go_simp
        with_reducible rfl
      rotate_left
      · simp only [Act.put, List.setIfInBounds_toArray, List.set_cons_zero, List.set_cons_succ, i64_w, i32_w]
        rfl
      refine last_ (i := 20) (N := none) #[true, true, true, true, true, true, true, true, true, true, true, true, true, true, true, true, true, true, true, true, true] rfl rfl (by kernel_rfl) (by decide) (fun K hK => ?_)
      refine skip_ (w1 := ?_) (by rfl) rfl ?_ ?_
      rotate_left
      · go_simp
        rfl
      refine hK.out _ _ ?_
      clear hK K hHeld h2 h3
      refine done_ (by kernel_rfl) ?_
      refine bodyPost_ret (v := .tuple #[]) (by simp [results, Tryd.results22, go_sem]) rfl ?_
      rw [HF.out]
      exact ⟨rfl, H4.out, H5.out⟩
    | false =>
      rw [hels] at so2 HF
      obtain ⟨RA, RC, hre⟩ := ints_slice hbv
      have pc : w.cell? ⟨g, k * 9 + 5, none⟩ = some (.slice RA p.x.body.length RC) := by
        obtain ⟨g2, cap2, e2, -, -, c2⟩ := row_cell Hts.out.row (k * 9 + 5) _ (by rw [flat9 ps k p hp 5 (by omega)]; rfl)
        cases e2
        rw [← hre]; exact c2
      rw [hre] at hbv
      have Hrow := Lib.hid hbv
      have Hre := Lib.hid hre
      have Hk := Lib.hid hk
      have Hp := Lib.hid hp
      clear hev hbv hre hk hels hp pc0
      go_enter Tryd.func22, Tryd.ntmps22
      go_wp2
      refine start_ (n := 21) (S := fun w' => w'.cell? ⟨T, 0, none⟩ = some (.slice (some ⟨g, 0, none⟩) ps.length cap) ∧ w'.cell? ⟨w.heap.size, 0, none⟩ = some (.int .i64 k) ∧ w'.cell? ⟨g, k * 9 + 5, none⟩ = some (.slice RA p.x.body.length RC)) (ds := [20]) #[false, false, false, false, false, false, false, false, false, false, false, false, false, false, false, false, false, false, false, false, false] (by kernel_rfl) rfl rfl ⟨(World.cell?_alloc_past _ _ _ hTl).trans b0, by simp, (World.cell?_alloc_past _ _ _ hgl).trans pc⟩ (fun hHeld => ?_)
      refine pure_ (i := 0) (N := (some 48)) (v := ?_) (a' := ?_) #[true, false, false, false, false, false, false, false, false, false, false, false, false, false, false, false, false, false, false, false, false] rfl rfl (by kernel_rfl) (fun _ _ _ h => h) (Or.inl ⟨by rfl, ?_⟩) ?_ ?_
      rotate_left
      · intro w'
        go_simp
        with_reducible rfl
      rotate_left
      · simp only [Act.put, List.setIfInBounds_toArray, List.set_cons_zero, List.set_cons_succ, i64_w, i32_w]
        rfl
      refine pure_ (i := 1) (N := (some 49)) (v := ?_) (a' := ?_) #[true, true, false, false, false, false, false, false, false, false, false, false, false, false, false, false, false, false, false, false, false] rfl rfl (by kernel_rfl) (fun _ _ _ h => h) (Or.inl ⟨by rfl, ?_⟩) ?_ ?_
      rotate_left
      · intro w'
        go_simp
        with_reducible rfl
      rotate_left
      · simp only [Act.put, List.setIfInBounds_toArray, List.set_cons_zero, List.set_cons_succ, i64_w, i32_w]
        rfl
      refine pure_ (i := 2) (N := (some 50)) (v := ?_) (a' := ?_) #[true, true, true, false, false, false, false, false, false, false, false, false, false, false, false, false, false, false, false, false, false] rfl rfl (by kernel_rfl) (fun _ _ _ h => h) (Or.inl ⟨by rfl, ?_⟩) ?_ ?_
      rotate_left
      · intro w'
        go_simp
        with_reducible rfl
      rotate_left
      · simp only [Act.put, List.setIfInBounds_toArray, List.set_cons_zero, List.set_cons_succ, i64_w, i32_w]
        rfl
      refine take_ (i := 3) (N := (some 51)) (v := ?_) (a' := ?_) #[true, true, true, true, false, false, false, false, false, false, false, false, false, false, false, false, false, false, false, false, false] rfl rfl (by kernel_rfl) (fun _ _ _ h => h) (Or.inl ⟨by rfl, ?_⟩) hHeld ?_ ?_
      rotate_left
      · rintro w' ⟨s0, s1, s2⟩
        go_simp
        with_reducible rfl
      rotate_left
      · simp only [Act.put, List.setIfInBounds_toArray, List.set_cons_zero, List.set_cons_succ, i64_w, i32_w]
        rfl
      refine pure_ (i := 4) (N := (some 52)) (v := ?_) (a' := ?_) #[true, true, true, true, true, false, false, false, false, false, false, false, false, false, false, false, false, false, false, false, false] rfl rfl (by kernel_rfl) (fun _ _ _ h => h) (Or.inl ⟨by rfl, ?_⟩) ?_ ?_
      rotate_left
      · intro w'
        go_simp
        with_reducible rfl
      rotate_left
      · simp only [Act.put, List.setIfInBounds_toArray, List.set_cons_zero, List.set_cons_succ, i64_w, i32_w]
        rfl
      refine take_ (i := 5) (N := (some 53)) (v := ?_) (a' := ?_) #[true, true, true, true, true, true, false, false, false, false, false, false, false, false, false, false, false, false, false, false, false] rfl rfl (by kernel_rfl) (fun _ _ _ h => h) (Or.inl ⟨by rfl, ?_⟩) hHeld ?_ ?_
      rotate_left
      · rintro w' ⟨s0, s1, s2⟩
        go_simp
        with_reducible rfl
      rotate_left
      · simp only [Act.put, List.setIfInBounds_toArray, List.set_cons_zero, List.set_cons_succ, i64_w, i32_w]
        rfl
      refine pure_ (i := 6) (N := (some 54)) (v := ?_) (a' := ?_) #[true, true, true, true, true, true, true, false, false, false, false, false, false, false, false, false, false, false, false, false, false] rfl rfl (by kernel_rfl) (fun _ _ _ h => h) (Or.inl ⟨by rfl, ?_⟩) ?_ ?_
      rotate_left
      · intro w'
        go_simp
        with_reducible rfl
      rotate_left
      · simp only [Act.put, List.setIfInBounds_toArray, List.set_cons_zero, List.set_cons_succ, i64_w, i32_w]
        rfl
      refine pure_ (i := 7) (N := (some 55)) (v := ?_) (a' := ?_) #[true, true, true, true, true, true, true, true, false, false, false, false, false, false, false, false, false, false, false, false, false] rfl rfl (by kernel_rfl) (fun _ _ _ h => h) (Or.inl ⟨by rfl, ?_⟩) ?_ ?_
      rotate_left
      · intro w'
        go_simp
        with_reducible rfl
      rotate_left
      · simp only [Act.put, List.setIfInBounds_toArray, List.set_cons_zero, List.set_cons_succ, i64_w, i32_w]
        rfl
      refine pure_ (i := 8) (N := (some 56)) (v := ?_) (a' := ?_) #[true, true, true, true, true, true, true, true, true, false, false, false, false, false, false, false, false, false, false, false, false] rfl rfl (by kernel_rfl) (fun _ _ _ h => h) (Or.inl ⟨by rfl, ?_⟩) ?_ ?_
      rotate_left
      · intro w'
        go_simp
        with_reducible rfl
      rotate_left
      · simp only [Act.put, List.setIfInBounds_toArray, List.set_cons_zero, List.set_cons_succ, i64_w, i32_w]
        rfl
      refine take_ (i := 9) (N := (some 57)) (v := ?_) (a' := ?_) #[true, true, true, true, true, true, true, true, true, true, false, false, false, false, false, false, false, false, false, false, false] rfl rfl (by kernel_rfl) (fun _ _ _ h => h) (Or.inl ⟨by rfl, ?_⟩) hHeld ?_ ?_
      rotate_left
      · rintro w' ⟨s0, s1, s2⟩
        go_simp
        with_reducible rfl
      rotate_left
      · simp only [Act.put, List.setIfInBounds_toArray, List.set_cons_zero, List.set_cons_succ, i64_w, i32_w]
        rfl
      refine pure_ (i := 10) (N := (some 58)) (v := ?_) (a' := ?_) #[true, true, true, true, true, true, true, true, true, true, true, false, false, false, false, false, false, false, false, false, false] rfl rfl (by kernel_rfl) (fun _ _ _ h => h) (Or.inl ⟨by rfl, ?_⟩) ?_ ?_
      rotate_left
      · intro w'
        go_simp
        with_reducible rfl
      rotate_left
      · simp only [Act.put, List.setIfInBounds_toArray, List.set_cons_zero, List.set_cons_succ, i64_w, i32_w]
        rfl
      refine take_ (i := 11) (N := (some 59)) (v := ?_) (a' := ?_) #[true, true, true, true, true, true, true, true, true, true, true, true, false, false, false, false, false, false, false, false, false] rfl rfl (by kernel_rfl) (fun _ _ _ h => h) (Or.inl ⟨by rfl, ?_⟩) hHeld ?_ ?_
      rotate_left
      · rintro w' ⟨s0, s1, s2⟩
        go_simp
        with_reducible rfl
      rotate_left
      · simp only [Act.put, List.setIfInBounds_toArray, List.set_cons_zero, List.set_cons_succ, i64_w, i32_w]
        rfl
      refine pure_ (i := 12) (N := (some 60)) (v := ?_) (a' := ?_) #[true, true, true, true, true, true, true, true, true, true, true, true, true, false, false, false, false, false, false, false, false] rfl rfl (by kernel_rfl) (fun _ _ _ h => h) (Or.inl ⟨by rfl, ?_⟩) ?_ ?_
      rotate_left
      · intro w'
        go_simp
        with_reducible rfl
      rotate_left
      · simp only [Act.put, List.setIfInBounds_toArray, List.set_cons_zero, List.set_cons_succ, i64_w, i32_w]
        rfl
      refine pure_ (i := 13) (N := (some 61)) (v := ?_) (a' := ?_) #[true, true, true, true, true, true, true, true, true, true, true, true, true, true, false, false, false, false, false, false, false] rfl rfl (by kernel_rfl) (fun _ _ _ h => h) (Or.inl ⟨by rfl, ?_⟩) ?_ ?_
      rotate_left
      · intro w'
        go_simp
        with_reducible rfl
      rotate_left
      · simp only [Act.put, List.setIfInBounds_toArray, List.set_cons_zero, List.set_cons_succ, i64_w, i32_w]
        rfl
      refine take_ (i := 14) (N := (some 62)) (v := ?_) (a' := ?_) #[true, true, true, true, true, true, true, true, true, true, true, true, true, true, true, false, false, false, false, false, false] rfl rfl (by kernel_rfl) (fun _ _ _ h => h) (Or.inl ⟨by rfl, ?_⟩) hHeld ?_ ?_
      rotate_left
      · rintro w' ⟨s0, s1, s2⟩
        go_simp
        with_reducible rfl
      rotate_left
      · simp only [Act.put, List.setIfInBounds_toArray, List.set_cons_zero, List.set_cons_succ, i64_w, i32_w]
        rfl
      refine pure_ (i := 15) (N := (some 63)) (v := ?_) (a' := ?_) #[true, true, true, true, true, true, true, true, true, true, true, true, true, true, true, true, false, false, false, false, false] rfl rfl (by kernel_rfl) (fun _ _ _ h => h) (Or.inl ⟨by rfl, ?_⟩) ?_ ?_
      rotate_left
      · intro w'
        go_simp
        with_reducible rfl
      rotate_left
      · simp only [Act.put, List.setIfInBounds_toArray, List.set_cons_zero, List.set_cons_succ, i64_w, i32_w]
        rfl
      refine one_ (i := 16) (N := (some 64)) #[true, true, true, true, true, true, true, true, true, true, true, true, true, true, true, true, true, false, false, false, false] rfl rfl (by kernel_rfl) (by decide) (fun K hK => ?_)
      refine value_ (w1 := ?_) (v := ?_) (by rfl) rfl ?_ ?_
      rotate_left 2
      · go_simp
        constructor
        · rfl
        · rfl
      obtain ⟨s0, s1, s2⟩ := hHeld
      refine hK.out _ _ ⟨(World.cell?_alloc_past _ _ _ (by simp; omega)).trans s0, (World.cell?_alloc_past _ _ _ (by simp)).trans s1, (World.cell?_alloc_past _ _ _ (by simp; omega)).trans s2⟩ (fun hHeld => ?_)
      clear hK K s0 s1 s2
      refine norm_ (a' := ?_) ?_ ?_
      rotate_left
      · show Act.put _ (some 64) _ = _
        simp only [Act.put, List.setIfInBounds_toArray, List.set_cons_zero, List.set_cons_succ, i64_w, i32_w]
        rfl
      refine one_ (i := 17) (N := (some 65)) #[true, true, true, true, true, true, true, true, true, true, true, true, true, true, true, true, true, true, false, false, false] rfl rfl (by kernel_rfl) (by decide) (fun K hK => ?_)
      refine step_grow_at rfl _ _ 24 rfl base 3 i0 _ 1 8 Tryd.underlying24 hi0 hz0 hz1 hz2 rfl (by decide) (.slice RA p.x.body.length RC) p.x.body.length (p.x.body.map (Value.int .i64)) rfl ((World.ownsRow.alloc Hrow.out _).alloc _) ⟨_, 0, none⟩ 1 1 [.int .i64 n] rfl rfl (cells_new _ [.int .i64 n] _ _ (by simp)) (by simp [Value.oneCell']) (by unfold maxLen; omega) (by omega) (by simp; omega) ?_
      intro v' w1 hown' hgrow hat
      obtain ⟨g', cap', rfl⟩ := ownsRow_succ hown'
      have hgw := grown_two (World.grownBy_alloc w _ none) (grown_two (World.grownBy_alloc _ _ none) (grown_drew hgrow))
      have hty : ∀ q, (Value.slice RA p.x.body.length RC).ownBlock = some q → ∃ c, w.heap[q]? = some (.cells c 3) := row_type Hrow.out
      have hgty : ∃ c, w.heap[g]? = some (.cells c 66) := row_type Hts.out.row g rfl
      have hnT : some T ≠ (Value.slice RA p.x.body.length RC).ownBlock := fun e => by obtain ⟨c, h⟩ := hty T e.symm; have h2 := Hts.out.block; rw [h2] at h; cases h
      have hng : some g ≠ (Value.slice RA p.x.body.length RC).ownBlock := fun e => by obtain ⟨c, h⟩ := hty g e.symm; obtain ⟨c2, h2⟩ := hgty; rw [h2] at h; cases h
      have hnr : some w.heap.size ≠ (Value.slice RA p.x.body.length RC).ownBlock := fun e => by obtain ⟨cs, h⟩ := hty _ e.symm; have := World.heap_lt h; omega
      obtain ⟨h1, h2, h3, h4, h5⟩ := Hts.out.addIn Hp.out false (v' := .slice (some ⟨g', 0, none⟩) (p.x.body.length + 1) cap') (n := n) (by simpa [IntsAt] using hown') (by rw [if_neg (by simp), Hre.out]; exact hgw) (by rw [if_neg (by simp), Hre.out]; exact hat.imp id (fun e => ⟨_, e, by simp; omega⟩))
      simp only [Bool.false_eq_true, if_true, if_false] at h2 h3 h4 h5
      rw [Hre.out] at h2
      rw [Hmap.out] at h4
      have H4 := Lib.hid h4
      have H5 := Lib.hid h5
      obtain ⟨s0, s1, s2⟩ := hHeld
      refine hK.out _ _ ⟨hgrow.cell s0 hnT, hgrow.cell s1 hnr, hgrow.cell s2 hng⟩ (fun hHeld => ?_)
      clear hK K s0 s1 s2 h1 h4 h5 hown' hgrow hat hgw hty hgty hi0 hz0 hz1 hz2 hnT hng hnr b0 pc
      refine norm_ (a' := ?_) ?_ ?_
      rotate_left
      · show Act.put _ (some 65) _ = _
        simp only [Act.put, List.setIfInBounds_toArray, List.set_cons_zero, List.set_cons_succ, i64_w, i32_w]
        rfl
      refine pure_ (i := 18) (N := (some 66)) (v := ?_) (a' := ?_) #[true, true, true, true, true, true, true, true, true, true, true, true, true, true, true, true, true, true, true, false, false] rfl rfl (by kernel_rfl) (fun _ _ _ h => h) (Or.inl ⟨by rfl, ?_⟩) ?_ ?_
      rotate_left
      · intro w'
        go_simp
        with_reducible rfl
      rotate_left
      · simp only [Act.put, List.setIfInBounds_toArray, List.set_cons_zero, List.set_cons_succ, i64_w, i32_w]
        rfl
      refine pure_ (i := 19) (N := (some 67)) (v := ?_) (a' := ?_) #[true, true, true, true, true, true, true, true, true, true, true, true, true, true, true, true, true, true, true, true, false] rfl rfl (by kernel_rfl) (fun _ _ _ h => h) (Or.inl ⟨by rfl, ?_⟩) ?_ ?_
      rotate_left
      · intro w'
        go_simp
        with_reducible rfl
      rotate_left
      · simp only [Act.put, List.setIfInBounds_toArray, List.set_cons_zero, List.set_cons_succ, i64_w, i32_w]
        rfl
      refine last_ (i := 20) (N := none) #[true, true, true, true, true, true, true, true, true, true, true, true, true, true, true, true, true, true, true, true, true] rfl rfl (by kernel_rfl) (by decide) (fun K hK => ?_)
      refine skip_ (w1 := ?_) (by rfl) rfl ?_ ?_
      rotate_left
      · go_simp
        rfl
      refine hK.out _ _ ?_
      clear hK K hHeld h2 h3
      refine done_ (by kernel_rfl) ?_
      refine bodyPost_ret (v := .tuple #[]) (by simp [results, Tryd.results22, go_sem]) rfl ?_
      rw [HF.out]
      exact ⟨rfl, H4.out, H5.out⟩
end Go.Proofs.YtcggeaobonblfaaDoor

/- The reference's parse as a plain function: a stack of what is open. -/
namespace Go.Proofs.YtcggeaobonblfaaDoor
set_option linter.unusedSimpArgs false
set_option linter.unusedVariables false
open Go Go.RowKit
structure RSt where
  (nodes : List Node) (top : List Int) (st : List Opn)
def nodeOf (w : Word) : Node := { newNode w with kind := kindOf w.kind }
def setHas (nodes : List Node) (k : Nat) : List Node := nodes.modify k fun x => { x with has := true }
def stepR (r : RSt) (w : Word) : Except Fault RSt :=
  if w.kind = 3 then
    match r.st.getLast? with
    | none => .error (w.at_, 4)
    | some o => if o.kind ≠ 2 ∨ o.els = true then .error (w.at_, 4) else .ok ⟨setHas r.nodes o.node.toNat, r.top, r.st.dropLast ++ [{ o with els := true }]⟩
  else if w.kind = 5 then
    match r.st.getLast? with
    | none => .error (w.at_, 4)
    | some _ => .ok ⟨r.nodes, r.top, r.st.dropLast⟩
  else if (w.kind = 2 ∨ w.kind = 4) ∧ 16 ≤ r.st.length then .error (w.at_, 3)
  else .ok ⟨(addF (r.nodes ++ [nodeOf w]) r.top r.st r.nodes.length).1, (addF (r.nodes ++ [nodeOf w]) r.top r.st r.nodes.length).2, if w.kind = 2 ∨ w.kind = 4 then r.st ++ [⟨r.nodes.length, w.kind, false⟩] else r.st⟩
def runR : RSt → List Word → Except Fault RSt
  | r, [] => .ok r
  | r, w :: ws => match stepR r w with | .error f => .error f | .ok r' => runR r' ws
def r0 : RSt := ⟨[], [], []⟩
def finR (r : RSt) : Except Fault (List Int × List Node) :=
  match r.st.getLast? with
  | none => .ok (r.top, r.nodes)
  | some o => .error (match r.nodes[o.node.toNat]? with | some x => x.at_ | none => 0, 4)
def stackR (ws : List Word) : Except Fault (List Int × List Node) := match runR r0 ws with | .error f => .error f | .ok r => finR r
def refParse (s : List UInt8) : Except Fault (List Int × List Node) :=
  if 65536 < s.length then .error (0, 2) else if 0 ≤ (lexW 0 s).2 then .error ((lexW 0 s).2, 4) else stackR (lexW 0 s).1

theorem runR_ok {r r' : RSt} {w : Word} {ws : List Word} (h : stepR r w = .ok r') : runR r (w :: ws) = runR r' ws := by rw [runR, h]
theorem runR_err {r : RSt} {f : Fault} {w : Word} {ws : List Word} (h : stepR r w = .error f) : runR r (w :: ws) = .error f := by rw [runR, h]
theorem runR_append {ws vs : List Word} : ∀ {r r' : RSt}, runR r ws = .ok r' → runR r (ws ++ vs) = runR r' vs := by
  induction ws with
  | nil =>
    intro r r' h
    injection h with h
    rw [h]
    rfl
  | cons w ws ih =>
    intro r r' h
    rw [List.cons_append]
    cases hs : stepR r w with
    | error f => rw [runR_err hs] at h; cases h
    | ok r1 =>
      rw [runR_ok hs] at h ⊢
      exact ih h
theorem runR_append_err {ws vs : List Word} {f : Fault} : ∀ {r : RSt}, runR r ws = .error f → runR r (ws ++ vs) = .error f := by
  induction ws with
  | nil => intro r h; cases h
  | cons w ws ih =>
    intro r h
    rw [List.cons_append]
    cases hs : stepR r w with
    | error f' =>
      rw [runR_err hs] at h ⊢
      exact h
    | ok r1 =>
      rw [runR_ok hs] at h ⊢
      exact ih h
/-- What a word more does. -/
theorem runR_next {ws : List Word} {r : RSt} {k : Nat} {x : Word} (h : runR r0 (ws.take k) = .ok r) (hx : ws[k]? = some x) : runR r0 (ws.take (k + 1)) = stepR r x := by
  have hlt := (List.getElem?_eq_some_iff.1 hx).1
  have e : ws.take (k + 1) = ws.take k ++ [x] := by
    rw [List.take_succ_eq_append_getElem hlt, (List.getElem?_eq_some_iff.1 hx).2]
  rw [e, runR_append h]
  cases hs : stepR r x with
  | error f => exact runR_err hs
  | ok r' => rw [runR_ok hs]; rfl
theorem runR_stop {ws : List Word} {r : RSt} {k : Nat} {x : Word} {f : Fault} (h : runR r0 (ws.take k) = .ok r) (hx : ws[k]? = some x) (hf : stepR r x = .error f) : stackR ws = .error f := by
  have h1 := runR_next h hx
  rw [hf] at h1
  have e : ws = ws.take (k + 1) ++ ws.drop (k + 1) := (List.take_append_drop _ _).symm
  unfold stackR
  rw [e, runR_append_err h1]

/-- What holds of the state behind k words. -/
structure RInv (k : Nat) (r : RSt) : Prop where
  nodes : r.nodes.length ≤ k
  top : r.top.length ≤ k
  lists : ∀ x ∈ r.nodes, x.body.length ≤ k ∧ x.els.length ≤ k
  deep : r.st.length ≤ 16
  opens : ∀ o ∈ r.st, 0 ≤ o.node ∧ o.node < r.nodes.length
theorem mem_modify {α : Type} {l : List α} {k : Nat} {g : α → α} {x : α} (h : x ∈ l.modify k g) : x ∈ l ∨ ∃ y ∈ l, x = g y := by
  obtain ⟨j, hj⟩ := List.mem_iff_getElem?.1 h
  rw [List.getElem?_modify] at hj
  cases hl : l[j]? with
  | none => rw [hl] at hj; simp at hj
  | some y =>
    rw [hl, Option.map_eq_map, Option.map_some] at hj
    have hm := List.mem_of_getElem? hl
    by_cases e : k = j
    · rw [if_pos e] at hj
      exact .inr ⟨y, hm, by simpa using hj.symm⟩
    · rw [if_neg e] at hj
      exact .inl (by have : y = x := by simpa using hj
                     rw [← this]; exact hm)
theorem addF_inv {nodes : List Node} {top : List Int} {st : List Opn} {n : Int} {k : Nat} (ht : top.length ≤ k) (hl : ∀ x ∈ nodes, x.body.length ≤ k ∧ x.els.length ≤ k) :
    (addF nodes top st n).1.length = nodes.length ∧ (addF nodes top st n).2.length ≤ k + 1 ∧ ∀ x ∈ (addF nodes top st n).1, x.body.length ≤ k + 1 ∧ x.els.length ≤ k + 1 := by
  unfold addF
  cases st.getLast? with
  | none => exact ⟨rfl, by simp; omega, fun x hx => by have := hl x hx; omega⟩
  | some o =>
    refine ⟨by simp, by dsimp only; omega, fun x hx => ?_⟩
    rcases mem_modify hx with h | ⟨y, hy, rfl⟩
    · have := hl x h; omega
    · have := hl y hy
      cases o.els <;> simp <;> omega
theorem stepR_inv {k : Nat} {r r' : RSt} {w : Word} (h : RInv k r) (hs : stepR r w = .ok r') : RInv (k + 1) r' := by
  have h1 := h.nodes
  have h2 := h.top
  have h3 := h.lists
  have h4 := h.deep
  have h5 := h.opens
  unfold stepR at hs
  by_cases k3 : w.kind = 3
  · rw [if_pos k3] at hs
    cases hl : r.st.getLast? with
    | none => rw [hl] at hs; cases hs
    | some o =>
      rw [hl] at hs
      dsimp only at hs
      split at hs
      · cases hs
      · injection hs with hs
        subst hs
        have ho : o ∈ r.st := List.mem_of_getLast? hl
        have hp : 0 < r.st.length := List.length_pos_of_mem ho
        refine ⟨by simp [setHas]; omega, by dsimp only; omega, fun x hx => ?_, by simp; omega, fun q hq => ?_⟩
        · rcases mem_modify hx with h | ⟨y, hy, rfl⟩
          · have := h3 x h; omega
          · have := h3 y hy; exact ⟨by dsimp only; omega, by dsimp only; omega⟩
        · have e : (setHas r.nodes o.node.toNat).length = r.nodes.length := by simp [setHas]
          rw [e]
          rcases List.mem_append.1 hq with hq | hq
          · exact h5 q (List.dropLast_subset _ hq)
          · simp at hq
            subst hq
            exact h5 o ho
  rw [if_neg k3] at hs
  by_cases k5 : w.kind = 5
  · rw [if_pos k5] at hs
    cases hl : r.st.getLast? with
    | none => rw [hl] at hs; cases hs
    | some o =>
      rw [hl] at hs
      injection hs with hs
      subst hs
      exact ⟨by dsimp only; omega, by dsimp only; omega, fun x hx => by have := h3 x hx; omega, by simp; omega, fun q hq => h5 q (List.dropLast_subset _ hq)⟩
  rw [if_neg k5] at hs
  split at hs
  · cases hs
  · rename_i hd
    injection hs with hs
    subst hs
    have hnl : ∀ x ∈ r.nodes ++ [nodeOf w], x.body.length ≤ k ∧ x.els.length ≤ k := fun x hx => by
      rcases List.mem_append.1 hx with hx | hx
      · exact h3 x hx
      · simp at hx
        subst hx
        exact ⟨Nat.zero_le _, Nat.zero_le _⟩
    obtain ⟨a1, a2, a3⟩ := addF_inv (st := r.st) (n := (r.nodes.length : Int)) h2 hnl
    refine ⟨by dsimp only; rw [a1]; simp; omega, a2, a3, ?_, fun q hq => ?_⟩
    · dsimp only
      split
      · rename_i hk
        simp
        rcases Nat.lt_or_ge r.st.length 16 with h | h
        · omega
        · exact absurd ⟨hk, h⟩ hd
      · exact h4
    · dsimp only at hq ⊢
      rw [a1]
      simp only [List.length_append, List.length_singleton]
      have key : ∀ q ∈ r.st, 0 ≤ q.node ∧ q.node < ((r.nodes.length + 1 : Nat) : Int) := fun q hq => by have := h5 q hq; omega
      split at hq
      · rcases List.mem_append.1 hq with hq | hq
        · exact key q hq
        · simp at hq
          subst hq
          exact ⟨by dsimp only; omega, by dsimp only; omega⟩
      · exact key q hq
theorem runR_inv (ws : List Word) : ∀ (k : Nat) (r r' : RSt), RInv k r → runR r ws = .ok r' → RInv (k + ws.length) r' := by
  induction ws with
  | nil =>
    intro k r r' h hr
    injection hr with hr
    subst hr
    exact h
  | cons w ws ih =>
    intro k r r' h hr
    unfold runR at hr
    cases hs : stepR r w with
    | error f => rw [hs] at hr; cases hr
    | ok r1 =>
      rw [hs] at hr
      have := ih (k + 1) r1 r' (stepR_inv h hs) hr
      rw [List.length_cons, show k + (ws.length + 1) = k + 1 + ws.length by omega]
      exact this
theorem r0_inv : RInv 0 r0 := ⟨Nat.le_refl 0, Nat.le_refl 0, fun x hx => (by cases hx), (by decide), fun o ho => (by cases ho)⟩
theorem run_inv {ws : List Word} {k : Nat} {r : RSt} (h : runR r0 (ws.take k) = .ok r) : RInv k r := by
  have := runR_inv (ws.take k) 0 r0 r r0_inv h
  have hl : (ws.take k).length ≤ k := List.length_take_le _ _
  obtain ⟨a, b, c, d, e⟩ := this
  exact ⟨by omega, by omega, fun x hx => by have := c x hx; omega, d, e⟩
/-- The nodes' ways are those of the words. -/
theorem addF_names {nodes : List Node} {top : List Int} {st : List Opn} {n : Int} {m : Nat} (hl : ∀ x ∈ nodes, x.names.length ≤ m) : ∀ x ∈ (addF nodes top st n).1, x.names.length ≤ m := by
  unfold addF
  cases st.getLast? with
  | none => exact hl
  | some o =>
    intro x hx
    rcases mem_modify hx with h | ⟨y, hy, rfl⟩
    · exact hl x h
    · have := hl y hy
      cases o.els <;> exact this
theorem stepR_names {r r' : RSt} {w : Word} {m : Nat} (h : ∀ x ∈ r.nodes, x.names.length ≤ m) (hw : w.names.length ≤ m) (hs : stepR r w = .ok r') : ∀ x ∈ r'.nodes, x.names.length ≤ m := by
  unfold stepR at hs
  by_cases k3 : w.kind = 3
  · rw [if_pos k3] at hs
    cases hl : r.st.getLast? with
    | none => rw [hl] at hs; cases hs
    | some o =>
      rw [hl] at hs
      dsimp only at hs
      split at hs
      · cases hs
      · injection hs with hs
        subst hs
        intro x hx
        rcases mem_modify hx with h1 | ⟨y, hy, rfl⟩
        · exact h x h1
        · exact h y hy
  rw [if_neg k3] at hs
  by_cases k5 : w.kind = 5
  · rw [if_pos k5] at hs
    cases hl : r.st.getLast? with
    | none => rw [hl] at hs; cases hs
    | some o =>
      rw [hl] at hs
      injection hs with hs
      subst hs
      exact h
  rw [if_neg k5] at hs
  split at hs
  · cases hs
  · injection hs with hs
    subst hs
    exact addF_names (fun x hx => by
      rcases List.mem_append.1 hx with hx | hx
      · exact h x hx
      · simp at hx
        subst hx
        exact hw)
theorem runR_names {m : Nat} (ws : List Word) : ∀ (r r' : RSt), (∀ x ∈ r.nodes, x.names.length ≤ m) → (∀ w ∈ ws, w.names.length ≤ m) → runR r ws = .ok r' → ∀ x ∈ r'.nodes, x.names.length ≤ m := by
  induction ws with
  | nil =>
    intro r r' h hw hr
    injection hr with hr
    subst hr
    exact h
  | cons w ws ih =>
    intro r r' h hw hr
    cases hs : stepR r w with
    | error f => rw [runR_err hs] at hr; cases hr
    | ok r1 =>
      rw [runR_ok hs] at hr
      exact ih r1 r' (stepR_names h (hw w List.mem_cons_self) hs) (fun v hv => hw v (List.mem_cons_of_mem _ hv)) hr
/-- The words' kinds. -/
theorem actionF_kind (s : List UInt8) : 0 ≤ (actionF s).1 ∧ (actionF s).1 < 7 := by
  unfold actionF
  dsimp only
  repeat' split
  all_goals (constructor <;> (dsimp only; omega))
theorem lexF_kind : ∀ (n : Nat) (at_ : Int) (r : List UInt8), ∀ x ∈ (lexF n at_ r).1, 0 ≤ x.kind ∧ x.kind < 7
  | 0, at_, r => by simp [lexF]
  | n + 1, at_, r => by
    unfold lexF
    by_cases h0 : r = []
    · rw [if_pos h0]; simp
    rw [if_neg h0]
    by_cases h1 : 0 < litLen r
    · rw [if_pos h1]
      intro x hx
      rcases List.mem_cons.1 hx with rfl | hx
      · exact ⟨by dsimp only; omega, by dsimp only; omega⟩
      · exact lexF_kind n _ _ x hx
    rw [if_neg h1]
    by_cases h2 : closeAt r < 0
    · rw [if_pos h2]; simp
    rw [if_neg h2]
    split
    · intro x hx
      rcases List.mem_cons.1 hx with rfl | hx
      · exact actionF_kind _
      · exact lexF_kind n _ _ x hx
    · simp
end Go.Proofs.YtcggeaobonblfaaDoor

/- parse.copied: walked. -/
namespace Go.Proofs.YtcggeaobonblfaaDoor
set_option linter.unusedSimpArgs false
set_option linter.unusedVariables false
open Go Go.RowKit Go.Proofs.YtcggeaobonblfaaDoorW.PrintLast
/-- Between two rounds: the first j nodes have their own names. -/
def CopyInv (B base : Nat) (ps : List NodeV) (nv tv : Value) (w : World) (j : Nat) (W : World) : Prop :=
  ∃ qs : List NodeV, qs.map NodeV.x = ps.map NodeV.x ∧ W.ownsRow base 66 9 nv qs.length (qs.flatMap nodeCells) ∧
    (∀ i p, qs[i]? = some p → (i < j → WayAt W base p.nv p.x.names) ∧ (j ≤ i → NamesRd B W p.nv p.x.names) ∧ IntsAt W base p.bv p.x.body ∧ IntsAt W base p.ev p.x.els) ∧
    (∀ P, Fr base P w W) ∧ W.heap[w.heap.size]? = some (.cells #[nv, tv] 26) ∧ W.heap[w.heap.size + 1]? = some (.cells #[.slice none 0 0, .slice none 0 0] 26)
def CopyPost (base : Nat) (ps : List NodeV) (nv tv : Value) (w : World) (e : Ending) (W : World) : Prop :=
  e = .returned (.agg #[nv, tv]) ∧ (∃ qs : List NodeV, qs.map NodeV.x = ps.map NodeV.x ∧ W.ownsRow base 66 9 nv qs.length (qs.flatMap nodeCells) ∧
    (∀ p ∈ qs, WayAt W base p.nv p.x.names ∧ IntsAt W base p.bv p.x.body ∧ IntsAt W base p.ev p.x.els)) ∧ (∀ P, Fr base P w W)

theorem set_case {α : Type} {l : List α} {i k : Nat} {a x : α} (h : (l.set i a)[k]? = some x) : (k = i ∧ x = a) ∨ (k ≠ i ∧ l[k]? = some x) := by
  by_cases e : i = k
  · subst e
    have hlt := (List.getElem?_eq_some_iff.1 h).1
    rw [List.getElem?_set_self (by simpa using hlt)] at h
    exact .inl ⟨rfl, (Option.some.inj h).symm⟩
  · rw [List.getElem?_set_ne e] at h
    exact .inr ⟨fun h2 => e h2.symm, h⟩
/-- One round's doing. -/
theorem copy_step {B base : Nat} {ps : List NodeV} {tv : Value} {w W w1 : World} {j g n c : Nat} {qs : List NodeV} {p : NodeV} {v : Value} {o : Obj} (hB : B ≤ base) (hbw : base ≤ w.heap.size)
    (hmap : qs.map NodeV.x = ps.map NodeV.x) (ho : W.ownsRow base 66 9 (.slice (some ⟨g, 0, none⟩) n c) qs.length (qs.flatMap nodeCells))
    (hq : ∀ i p, qs[i]? = some p → (i < j → WayAt W base p.nv p.x.names) ∧ (j ≤ i → NamesRd B W p.nv p.x.names) ∧ IntsAt W base p.bv p.x.body ∧ IntsAt W base p.ev p.x.els)
    (hfr : ∀ P, Fr base P w W) (hbox : W.heap[w.heap.size]? = some (.cells #[.slice (some ⟨g, 0, none⟩) n c, tv] 26)) (hres : W.heap[w.heap.size + 1]? = some (.cells #[.slice none 0 0, .slice none 0 0] 26))
    (hp : qs[j]? = some p) (hgrow : (W.alloc o).grownBy w1 none) (hown : WayAt w1 base v p.x.names) :
    CopyInv B base ps (.slice (some ⟨g, 0, none⟩) n c) tv w (j + 1) (w1.setCell ⟨g, j * 9 + 4, none⟩ v) := by
  obtain rfl : n = qs.length := by
    rcases ho.2 with ⟨e, h0⟩ | ⟨g', cap, cur, e, _⟩
    · cases e
    · cases e; rfl
  have hg1 : W.grownBy w1 none := grown_two (World.grownBy_alloc W _ none) hgrow
  obtain ⟨cells, hty⟩ := row_type ho g rfl
  have hbg : base ≤ g := row_base ho g rfl
  have hty1 : w1.heap[g]? = some (.cells cells 66) := (hg1.block g (World.heap_lt hty) (by simp)).trans hty
  have ho1 := ho.kept hg1 (.inr (by simp [Value.ownBlock]))
  have hst := (World.ownsRow.stored ho1 (j * 9 + 4) v).1
  rw [flat9_set qs j p { p with nv := v } 4 v hp (by omega) rfl] at hst
  have hset := grown_set w1 g (j * 9 + 4) v
  have key : ∀ {e size n : Nat} {u : Value} {xs : List Value}, e ≠ 66 → W.ownsRow base e size u n xs → (w1.setCell ⟨g, j * 9 + 4, none⟩ v).ownsRow base e size u n xs := fun he h =>
    row_else (World.ownsRow.kept h hg1 (Decidable.em _)) hset (fun k e => by cases e; exact ⟨_, hty1⟩) he
  refine ⟨qs.set j { p with nv := v }, ?_, by simpa using hst, ?_, ?_, ?_, ?_⟩
  · rw [map_set qs id j p { p with nv := v } hp rfl, ← hmap]
    simp [List.modify_id]
  · intro i q hiq
    rcases set_case hiq with ⟨rfl, rfl⟩ | ⟨hne, hiq'⟩
    · obtain ⟨-, -, h3, h4⟩ := hq i p hp
      exact ⟨fun _ => row_else hown hset (fun k e => by cases e; exact ⟨_, hty1⟩) (by decide), fun h => by omega, key (by decide) h3, key (by decide) h4⟩
    · obtain ⟨h1, h2, h3, h4⟩ := hq i q hiq'
      refine ⟨fun h => key (by decide) (h1 (by omega)), fun h => ?_, key (by decide) h3, key (by decide) h4⟩
      exact ((h2 (by omega)).below (Below.refl _ _ |>.grown hg1 (by have := (hfr 0).size; omega) (fun k e => by cases e))).below ((Below.refl _ _).setCell (p := ⟨g, j * 9 + 4, none⟩) (by dsimp only; omega) _)
  · intro P
    exact (fr_grow ((hfr P).alloc hbw o) hgrow hbw (fun k e => by cases e)).set (p := ⟨g, j * 9 + 4, none⟩) hbg (.inr ⟨_, hty1⟩) _
  · exact blk_far ((hg1.block _ (World.heap_lt hbox) (by simp)).trans hbox) (p := ⟨g, j * 9 + 4, none⟩) (by rintro rfl; rw [hty] at hbox; cases hbox) _
  · exact blk_far ((hg1.block _ (World.heap_lt hres) (by simp)).trans hres) (p := ⟨g, j * 9 + 4, none⟩) (by intro e; rw [e, hty] at hres; cases hres) _

/-- append([]string(nil), names...), as one step of a region that draws its order. -/
theorem step_names {P : Program} {ops : Array Oper} {o : Oper} {a : Act} {K : Act → World → Prop} {Q : Exit → Act → World → Prop} {E : Prop} {W : World} (hgd : o.guard = none) (s x : Operand) (t : TypeId)
    (ho : o.op = .call { callee := .builtin .append, args := #[s, x], argTypes := #[t, t] })
    (base : Nat) (i : TypeInfo) (z : Value) (ht : P.underlying t = some (.slice 9)) (hi : P.info? 9 = some i) (hz : i.zero = some z)
    (hsize : i.size = 1) (hby : i.bytes = 16) (hzs : z.cells.size = 1) (hs : a.eval s = .slice none 0 0) (names : List (List UInt8)) (A : Option Addr) (c : Nat) (hx : a.eval x = .slice A names.length c)
    (hnj : ∀ (j : Nat) n, names[j]? = some n → ∃ b, A = some ⟨b, 0, none⟩ ∧ W.cell? ⟨b, j, none⟩ = some (encS n)) (hl : names.length ≤ 100000) (hbase : base ≤ W.heap.size)
    (h : ∀ v' w', WayAt w' base v' names → W.grownBy w' none → K (a.put o.dst v') w') :
    if Region.wanted o (yielded ops a.tmps) = true then Oper.wp P o a W K Q else E := by
  cases A with
  | none =>
    have hnil : names = [] := by
      cases names with
      | nil => rfl
      | cons n r => obtain ⟨b, e, _⟩ := hnj 0 n rfl; cases e
    subst hnil
    rw [if_pos (by simp [Region.wanted, hgd])]
    have hr : (Builtin.append_ #[t, t] o.type #[.slice none 0 0, .slice none 0 c]).run P W = .ok (.slice none 0 0) W := by
      simp [Builtin.append_, run_underlying ht, sizeOf, typeInfo, hi, Builtin.lenOf, Builtin.firstCells]
    unfold Oper.wp execOp
    simp only [ho, resolve, invoke, builtin, Sem.run_bind, Sem.run_pure, Result.andThen_ok, List.map_toArray, List.map_cons, List.map_nil, hs, hx, List.length_nil, hr]
    exact h _ _ (way_none _ _) ⟨rfl, rfl, rfl, Nat.le_refl _, fun _ _ _ => rfl⟩
  | some ad =>
    refine step_grow hgd s x t ho base 9 i z 1 16 ht hi hz hsize hby hzs (by decide) (.slice none 0 0) 0 [] hs (World.ownsRow_nil W base 9 1) ad names.length c (names.map encS) hx (by simp) ?_ ?_ ?_ ?_ hbase ?_
    · intro j u hu
      obtain ⟨n, hn, rfl⟩ : ∃ n, names[j]? = some n ∧ encS n = u := by simpa using hu
      obtain ⟨b, e, hc⟩ := hnj j n hn
      cases e
      rw [addr_add]
      exact hc
    · intro u hu
      obtain ⟨n, -, rfl⟩ := List.mem_map.1 hu
      rfl
    · unfold maxLen; omega
    · omega
    · intro v' w' h1 h2
      exact h v' w' (by simpa [WayAt] using h1) h2

set_option maxRecDepth 100000 in
set_option maxHeartbeats 2000000 in
theorem copied_any (B base : Nat) (ps : List NodeV) (nv tv : Value) (w : World) (hl : ps.length ≤ 100000) (hk : ∀ p ∈ ps, p.x.names.length ≤ 100000) (hB : B ≤ base) (hbw : base ≤ w.heap.size)
    (hns : NodesAt B base (fun _ => False) w nv ps) (htv : ∃ A n c, tv = .slice A n c) :
    Calls Tryd.prog 40 #[.agg #[nv, tv]] w (CopyPost base ps nv tv w) := by
  obtain ⟨TA, TN, TC, rfl⟩ := htv
  obtain ⟨LA, LC, rfl⟩ := nodes_slice hns
  have Hk := Lib.hid hk
  have Hns := Lib.hid hns
  clear hk hns
  go_enter Tryd.func40, Tryd.ntmps40
  go_wp2_with fail
  have H0 : Hid (CopyInv B base ps (.slice LA ps.length LC) (.slice TA TN TC) w 0 ((w.alloc (.cells #[.slice LA ps.length LC, .slice TA TN TC] 26)).alloc (.cells #[.slice none 0 0, .slice none 0 0] 26))) := Lib.hid (by
    have hb := ((Below.refl w.heap.size w).alloc (Nat.le_refl _) (.cells #[.slice LA ps.length LC, .slice TA TN TC] 26)).alloc (by simp) (.cells #[.slice none 0 0, .slice none 0 0] 26)
    refine ⟨ps, rfl, (Hns.out.1.alloc _).alloc _, fun i p hp => ?_, fun P => Fr.of_below hb hbw, ?_, ?_⟩
    · obtain ⟨h1, h2, h3, -, -⟩ := Hns.out.2 p (List.mem_of_getElem? hp)
      exact ⟨fun h => by omega, fun _ => h1.below (hb.mono (by omega)), (World.ownsRow.alloc h2 _).alloc _, (World.ownsRow.alloc h3 _).alloc _⟩
    · exact (heap_old (by simp)).trans (World.alloc_heap_new w _)
    · have := World.alloc_heap_new (w.alloc (.cells #[.slice LA ps.length LC, .slice TA TN TC] 26)) (.cells #[.slice none 0 0, .slice none 0 0] 26)
      simpa using this)
  go_loopw [8] (fun a wr => ∃ j : Nat, j ≤ ps.length ∧ a = .int .i64 j ∧ Hid (CopyInv B base ps (.slice LA ps.length LC) (.slice TA TN TC) w j wr)) (fun a _ => ps.length - (intOf a).toNat)
  case atStart => exact ⟨0, Nat.zero_le _, rfl, H0⟩
  case round =>
    clear H0 Hns
    obtain ⟨j, hj, rfl, hI⟩ := hrel
    obtain ⟨qs, hmap, ho, hq, hfr, hbox, hres⟩ := hI.out
    have hql : qs.length = ps.length := by simpa using congrArg List.length hmap
    by_cases hlt : j < ps.length
    · obtain ⟨p, hp⟩ : ∃ p, qs[j]? = some p := ⟨_, List.getElem?_eq_getElem (by omega)⟩
      have hp' : p.x ∈ ps.map NodeV.x := by rw [← hmap]; exact List.mem_map_of_mem (List.mem_of_getElem? hp)
      have hkp : p.x.names.length ≤ 100000 := by
        obtain ⟨q, hq1, hq2⟩ := List.mem_map.1 hp'
        rw [← hq2]; exact Hk.out q hq1
      obtain ⟨-, hnr, hbv, hev⟩ := hq j p hp
      obtain ⟨NA, NC, hnv, hnj, -⟩ := hnr (Nat.le_refl _)
      obtain ⟨BA, BC, hbe⟩ := ints_slice hbv
      obtain ⟨EA, EC, hee⟩ := ints_slice hev
      have hcell : ∀ c u, c < 9 → (nodeCells p)[c]? = some u → ∃ g, LA = some ⟨g, 0, none⟩ ∧ base ≤ g ∧ g < wr.heap.size ∧ wr.cell? ⟨g, j * 9 + c, none⟩ = some u := fun c u hc hu => by
        obtain ⟨g, cap, e, hb, hlt, hcc⟩ := row_cell ho (j * 9 + c) u (by rw [flat9 qs j p hp c hc]; exact hu)
        injection e with e1 e2 e3
        exact ⟨g, e1, hb, hlt, hcc⟩
      obtain ⟨g, hLA, hbg, hgl, m0⟩ := hcell 0 _ (by omega) rfl
      rw [hLA] at ho hbox ⊢
      obtain ⟨_, e1, -, -, m1⟩ := hcell 1 _ (by omega) rfl; rw [hLA] at e1; cases e1
      obtain ⟨_, e1, -, -, m2⟩ := hcell 2 _ (by omega) rfl; rw [hLA] at e1; cases e1
      obtain ⟨_, e1, -, -, m3⟩ := hcell 3 _ (by omega) rfl; rw [hLA] at e1; cases e1
      obtain ⟨_, e1, -, -, m4⟩ := hcell 4 _ (by omega) rfl; rw [hLA] at e1; cases e1
      obtain ⟨_, e1, -, -, m5⟩ := hcell 5 _ (by omega) rfl; rw [hLA] at e1; cases e1
      obtain ⟨_, e1, -, -, m6⟩ := hcell 6 _ (by omega) rfl; rw [hLA] at e1; cases e1
      obtain ⟨_, e1, -, -, m7⟩ := hcell 7 _ (by omega) rfl; rw [hLA] at e1; cases e1
      obtain ⟨_, e1, -, -, m8⟩ := hcell 8 _ (by omega) rfl; rw [hLA] at e1; cases e1
      rw [Nat.add_zero] at m0
      rw [hnv] at m4
      rw [hbe] at m5
      rw [hee] at m6
      have b0 : wr.cell? ⟨w.heap.size, 0, none⟩ = some (.slice (some ⟨g, 0, none⟩) ps.length LC) := by simp [World.cell?, hbox]
      have hbl : w.heap.size < wr.heap.size := World.heap_lt hbox
      have hgn : g ≠ w.heap.size := by obtain ⟨cells, hty⟩ := row_type ho g rfl; rintro rfl; rw [hty] at hbox; cases hbox
      have Hmap := Lib.hid hmap
      have Ho := Lib.hid ho
      have Hq := Lib.hid hq
      have Hfr := Lib.hid hfr
      have Hbox := Lib.hid hbox
      have Hres := Lib.hid hres
      have Hp := Lib.hid hp
      have Hnj := Lib.hid hnj
      have Hnv := Lib.hid hnv
      have hfz : wr.frozen? ⟨g, j * 9 + 4, none⟩ = false := World.ownsRow.frozenAt (hql ▸ ho) _
      clear hmap ho hq hfr hbox hres hp hnr hbv hev hnj hnv hbe hee hp' hcell hI
      obtain ⟨i0, hi0, hz0, hz1, hz2⟩ := info_parts Tryd.info9
      go_wp2_with fail
      refine start_ (n := 11) (S := fun w' => w'.cell? ⟨w.heap.size, 0, none⟩ = some (.slice (some ⟨g, 0, none⟩) ps.length LC) ∧ w'.cell? ⟨wr.heap.size, 4, none⟩ = some (.slice NA p.x.names.length NC)) (ds := [10]) #[false, false, false, false, false, false, false, false, false, false, false] (by kernel_rfl) rfl rfl ⟨(World.cell?_alloc_past _ _ _ hbl).trans b0, by simp⟩ (fun hHeld => ?_)
      refine pure_ (i := 0) (N := (some 13)) (v := ?_) (a' := ?_) #[true, false, false, false, false, false, false, false, false, false, false] rfl rfl (by kernel_rfl) (fun _ _ _ h => h) (Or.inl ⟨by rfl, ?_⟩) ?_ ?_
      rotate_left
      · intro w'
        go_simp
        with_reducible rfl
      rotate_left
      · simp only [Act.put, List.setIfInBounds_toArray, List.set_cons_zero, List.set_cons_succ, i64_w, i32_w]
        rfl
      refine take_ (i := 1) (N := (some 14)) (v := ?_) (a' := ?_) #[true, true, false, false, false, false, false, false, false, false, false] rfl rfl (by kernel_rfl) (fun _ _ _ h => h) (Or.inl ⟨by rfl, ?_⟩) hHeld ?_ ?_
      rotate_left
      · rintro w' ⟨s0, s1⟩
        go_simp
        with_reducible rfl
      rotate_left
      · simp only [Act.put, List.setIfInBounds_toArray, List.set_cons_zero, List.set_cons_succ, i64_w, i32_w]
        rfl
      refine pure_ (i := 2) (N := (some 15)) (v := ?_) (a' := ?_) #[true, true, true, false, false, false, false, false, false, false, false] rfl rfl (by kernel_rfl) (fun _ _ _ h => h) (Or.inl ⟨by rfl, ?_⟩) ?_ ?_
      rotate_left
      · intro w'
        go_simp
        with_reducible rfl
      rotate_left
      · simp only [Act.put, List.setIfInBounds_toArray, List.set_cons_zero, List.set_cons_succ, i64_w, i32_w]
        rfl
      refine pure_ (i := 3) (N := (some 16)) (v := ?_) (a' := ?_) #[true, true, true, true, false, false, false, false, false, false, false] rfl rfl (by kernel_rfl) (fun _ _ _ h => h) (Or.inl ⟨by rfl, ?_⟩) ?_ ?_
      rotate_left
      · intro w'
        go_simp
        with_reducible rfl
      rotate_left
      · simp only [Act.put, List.setIfInBounds_toArray, List.set_cons_zero, List.set_cons_succ, i64_w, i32_w]
        rfl
      refine pure_ (i := 4) (N := (some 17)) (v := ?_) (a' := ?_) #[true, true, true, true, true, false, false, false, false, false, false] rfl rfl (by kernel_rfl) (fun _ _ _ h => h) (Or.inl ⟨by rfl, ?_⟩) ?_ ?_
      rotate_left
      · intro w'
        go_simp
        with_reducible rfl
      rotate_left
      · simp only [Act.put, List.setIfInBounds_toArray, List.set_cons_zero, List.set_cons_succ, i64_w, i32_w]
        rfl
      refine take_ (i := 5) (N := (some 18)) (v := ?_) (a' := ?_) #[true, true, true, true, true, true, false, false, false, false, false] rfl rfl (by kernel_rfl) (fun _ _ _ h => h) (Or.inl ⟨by rfl, ?_⟩) hHeld ?_ ?_
      rotate_left
      · rintro w' ⟨s0, s1⟩
        go_simp
        with_reducible rfl
      rotate_left
      · simp only [Act.put, List.setIfInBounds_toArray, List.set_cons_zero, List.set_cons_succ, i64_w, i32_w]
        rfl
      refine one_ (i := 6) (N := (some 19)) #[true, true, true, true, true, true, true, false, false, false, false] rfl rfl (by kernel_rfl) (by decide) (fun K hK => ?_)
      refine step_names rfl _ _ 61 rfl base i0 _ Tryd.underlying61 hi0 hz0 hz1 hz2 rfl rfl p.x.names NA NC rfl (fun k n hn => by
        obtain ⟨b, e, hb, hc⟩ := Hnj.out k n hn
        exact ⟨b, e, (World.cell?_alloc_past _ _ _ (by omega)).trans hc⟩) hkp (by simp; omega) ?_
      intro v' w1 hown hgrow
      obtain ⟨VA, VC, rfl⟩ := way_slice hown
      obtain ⟨s0, s1⟩ := hHeld
      refine hK.out _ _ ⟨hgrow.cell s0 (by simp), hgrow.cell s1 (by simp)⟩ (fun hHeld => ?_)
      have hst : Hid (CopyInv B base ps (.slice (some ⟨g, 0, none⟩) ps.length LC) (.slice TA TN TC) w (j + 1) (w1.setCell ⟨g, j * 9 + 4, none⟩ (.slice VA p.x.names.length VC))) :=
        Lib.hid (copy_step (o := .cells #[.int .u8 p.x.kind, .int .i64 p.x.at_, .string ⟨p.x.text.toArray⟩, .bool p.x.root, .slice NA p.x.names.length NC, .slice BA p.x.body.length BC, .slice EA p.x.els.length EC, .bool p.x.has, .int .u8 p.x.hole] 66) hB hbw Hmap.out Ho.out Hq.out Hfr.out Hbox.out Hres.out Hp.out (grown_drew hgrow) hown)
      have t4 : w1.cell? ⟨g, j * 9 + 4, none⟩ = some (.slice NA p.x.names.length NC) := (grown_drew hgrow).cell ((World.cell?_alloc_past _ _ _ hgl).trans m4) (by simp)
      have tf : w1.frozen? ⟨g, j * 9 + 4, none⟩ = false := (World.frozen?_of_block (a := ⟨g, j * 9 + 4, none⟩) ((grown_drew hgrow).block g (by simp; omega) (by simp))).trans ((World.frozen?_of_block (a := ⟨g, j * 9 + 4, none⟩) (heap_old hgl)).trans hfz)
      clear hK K s0 s1 hown hgrow hi0 hz0 hz1 hz2 Hmap Ho Hq Hfr Hbox Hres Hp Hnj Hnv m0 m1 m2 m3 m4 m5 m6 m7 m8 b0 hfz
      refine norm_ (a' := ?_) ?_ ?_
      rotate_left
      · show Act.put _ (some 19) _ = _
        simp only [Act.put, List.setIfInBounds_toArray, List.set_cons_zero, List.set_cons_succ, i64_w, i32_w]
        rfl
      refine pure_ (i := 7) (N := (some 20)) (v := ?_) (a' := ?_) #[true, true, true, true, true, true, true, true, false, false, false] rfl rfl (by kernel_rfl) (fun _ _ _ h => h) (Or.inl ⟨by rfl, ?_⟩) ?_ ?_
      rotate_left
      · intro w'
        go_simp
        with_reducible rfl
      rotate_left
      · simp only [Act.put, List.setIfInBounds_toArray, List.set_cons_zero, List.set_cons_succ, i64_w, i32_w]
        rfl
      refine pure_ (i := 8) (N := (some 21)) (v := ?_) (a' := ?_) #[true, true, true, true, true, true, true, true, true, false, false] rfl rfl (by kernel_rfl) (fun _ _ _ h => h) (Or.inl ⟨by rfl, ?_⟩) ?_ ?_
      rotate_left
      · intro w'
        go_simp
        with_reducible rfl
      rotate_left
      · simp only [Act.put, List.setIfInBounds_toArray, List.set_cons_zero, List.set_cons_succ, i64_w, i32_w]
        rfl
      refine pure_ (i := 9) (N := (some 22)) (v := ?_) (a' := ?_) #[true, true, true, true, true, true, true, true, true, true, false] rfl rfl (by kernel_rfl) (fun _ _ _ h => h) (Or.inl ⟨by rfl, ?_⟩) ?_ ?_
      rotate_left
      · intro w'
        go_simp
        with_reducible rfl
      rotate_left
      · simp only [Act.put, List.setIfInBounds_toArray, List.set_cons_zero, List.set_cons_succ, i64_w, i32_w]
        rfl
      refine last_ (i := 10) (N := none) #[true, true, true, true, true, true, true, true, true, true, true] rfl rfl (by kernel_rfl) (by decide) (fun K hK => ?_)
      refine skip_ (w1 := ?_) (by rfl) rfl ?_ ?_
      rotate_left
      · go_simp
        rfl
      refine hK.out _ _ ?_
      clear hK K hHeld t4 tf
      refine done_ (by kernel_rfl) ?_
      obtain ⟨W9, hW9⟩ : ∃ W9, w1.setCell ⟨g, j * 9 + 4, none⟩ (.slice VA p.x.names.length VC) = W9 := ⟨_, rfl⟩
      rw [hW9] at hst ⊢
      clear hW9
      go_wp2
      exact ⟨⟨j + 1, by omega, by simp, hst⟩, by simp [intOf]; omega⟩
    · have hje : j = ps.length := by omega
      subst hje
      have b0 : wr.cell? ⟨w.heap.size, 0, none⟩ = some (.slice LA ps.length LC) := by simp [World.cell?, hbox]
      have b1 : wr.cell? ⟨w.heap.size, 1, none⟩ = some (.slice TA TN TC) := by simp [World.cell?, hbox]
      have r0 : wr.cell? ⟨w.heap.size + 1, 0, none⟩ = some (.slice none 0 0) := by simp [World.cell?, hres]
      have r1 : wr.cell? ⟨w.heap.size + 1, 1, none⟩ = some (.slice none 0 0) := by simp [World.cell?, hres]
      have q0 : wr.frozen? ⟨w.heap.size + 1, 0, none⟩ = false := by simp [World.frozen?, hres]
      have q1 : wr.frozen? ⟨w.heap.size + 1, 1, none⟩ = false := by simp [World.frozen?, hres]
      clear hbox hres hmap ho hq hfr hql
      go_wp2
      refine bodyPost_ret (v := .agg #[.slice LA ps.length LC, .slice TA TN TC]) (by simp [results, Tryd.results40, go_sem, r0, r1]) rfl ⟨rfl, ?_, ?_⟩
      all_goals obtain ⟨qs, hmap, ho, hq, hfr, hbox, hres⟩ := hI.out
      all_goals have hql : qs.length = ps.length := by simpa using congrArg List.length hmap
      · have h1 := grown_set wr (w.heap.size + 1) 0 (.slice LA ps.length LC)
        have h2 := grown_set (wr.setCell ⟨w.heap.size + 1, 0, none⟩ (.slice LA ps.length LC)) (w.heap.size + 1) 1 (.slice TA TN TC)
        have key : ∀ {e size n : Nat} {u : Value} {xs : List Value}, e ≠ 26 → wr.ownsRow base e size u n xs → ((wr.setCell ⟨w.heap.size + 1, 0, none⟩ (.slice LA ps.length LC)).setCell ⟨w.heap.size + 1, 1, none⟩ (.slice TA TN TC)).ownsRow base e size u n xs := fun he h =>
          row_else (row_else h h1 (fun k e => by cases e; exact ⟨_, hres⟩) he) h2 (fun k e => by cases e; exact ⟨_, blk_put hres 0 _⟩) he
        refine ⟨qs, hmap, key (by decide) ho, fun p hp => ?_⟩
        obtain ⟨i, hi⟩ := List.getElem?_of_mem hp
        obtain ⟨a, -, b, c⟩ := hq i p hi
        exact ⟨key (by decide) (a (by have := (List.getElem?_eq_some_iff.1 hi).1; omega)), key (by decide) b, key (by decide) c⟩
      · intro P
        exact fr_grow (fr_grow (hfr P) (grown_set wr (w.heap.size + 1) 0 _) hbw (fun k e => by cases e; omega)) (grown_set _ (w.heap.size + 1) 1 _) hbw (fun k e => by cases e; omega)
end Go.Proofs.YtcggeaobonblfaaDoor

/- parse.tree: walked. -/
namespace Go.Proofs.YtcggeaobonblfaaDoor
set_option linter.unusedSimpArgs false
set_option linter.unusedVariables false
open Go Go.RowKit
def treeF (ws : List Word) : Except Fault (List Int × List Node) :=
  match listP ws (ws.length + 1) 0 [] 0 [] with
  | .error f => .error f
  | .ok (top, i, nodes) => match ws[i]? with
    | some x => .error (x.at_, 4)
    | none => .ok (top, nodes)
/-- A tree in memory of the call's own. -/
def TreeAt (W : World) (base : Nat) (nv tv : Value) (nodes : List Node) (top : List Int) : Prop :=
  (∃ qs : List NodeV, qs.map NodeV.x = nodes ∧ W.ownsRow base 66 9 nv qs.length (qs.flatMap nodeCells) ∧
    (∀ p ∈ qs, WayAt W base p.nv p.x.names ∧ IntsAt W base p.bv p.x.body ∧ IntsAt W base p.ev p.x.els)) ∧ IntsAt W base tv top
def TreePost (w : World) (r : Except Fault (List Int × List Node)) (e : Ending) (w' : World) : Prop :=
  match r with
  | .error f => e = .returned (.tuple #[.agg #[.slice none 0 0, .slice none 0 0], .int .i64 f.1, .int .i64 f.2]) ∧ Below w.heap.size w w'
  | .ok (top, nodes) => ∃ nv tv, e = .returned (.tuple #[.agg #[nv, tv], .int .i64 0, .int .i64 0]) ∧ TreeAt w' w.heap.size nv tv nodes top ∧ Below w.heap.size w w'

theorem list_none (W : World) (B base P : Nat) (X : Nat → Prop) (wv : Value) (ws : List Word) (h : W.heap[P]? = some (.cells #[wv, .int .i64 0, .slice none 0 0, .slice none 0 0] 108)) (hw : WordsRd B W wv ws) (hB : B ≤ base) (hP : base ≤ P) :
    PSt B base X W P ws 0 [] :=
  ⟨wv, .slice none 0 0, [], rfl, h, hw, ⟨World.ownsRow_nil W base 66 9, fun p hp => by cases hp⟩, hB, hP⟩

set_option maxRecDepth 100000 in
set_option maxHeartbeats 2000000 in
theorem tree_any (wv : Value) (ws : List Word) (w : World) (hws : ws.length ≤ 100000) (hk : ∀ top i nodes, listP ws (ws.length + 1) 0 [] 0 [] = .ok (top, i, nodes) → ∀ x ∈ nodes, x.names.length ≤ 100000) (hw : WordsRd w.heap.size w wv ws) :
    Calls Tryd.prog 20 #[wv] w (TreePost w (treeF ws)) := by
  obtain ⟨wA, wc, rfl⟩ : ∃ A c, wv = .slice A ws.length c := by obtain ⟨A, c, e, _⟩ := hw; exact ⟨A, c, e⟩
  obtain ⟨W1, hW1⟩ : ∃ W1, (w.alloc (.cells #[.slice none 0 0, .slice none 0 0] 26)).alloc (.cells #[.slice wA ws.length wc, .int .i64 0, .slice none 0 0, .slice none 0 0] 108) = W1 := ⟨_, rfl⟩
  have hb1 : Below w.heap.size w W1 := by rw [← hW1]; exact ((Below.refl w.heap.size w).alloc (Nat.le_refl _) _).alloc (by simp) _
  have hP1 : W1.heap[w.heap.size + 1]? = some (.cells #[.slice wA ws.length wc, .int .i64 0, .slice none 0 0, .slice none 0 0] 108) := by
    rw [← hW1]
    have := World.alloc_heap_new (w.alloc (.cells #[.slice none 0 0, .slice none 0 0] 26)) (.cells #[.slice wA ws.length wc, .int .i64 0, .slice none 0 0, .slice none 0 0] 108)
    simpa using this
  have hR1 : W1.heap[w.heap.size]? = some (.cells #[.slice none 0 0, .slice none 0 0] 26) := by
    rw [← hW1]
    exact (heap_old (by simp)).trans (World.alloc_heap_new w _)
  have hst := list_none W1 w.heap.size w.heap.size (w.heap.size + 1) (fun _ => False) _ ws hP1 (hw.below hb1) (Nat.le_refl _) (by omega)
  have HL : Calls Tryd.prog 39 #[.pointer (some ⟨w.heap.size + 1, 0, none⟩), .int .i64 0] W1 (ListPost w.heap.size w.heap.size (fun _ => False) (w.heap.size + 1) ws W1 (listP ws (ws.length + 1) 0 [] 0 [])) :=
    (list_any w.heap.size w.heap.size (w.heap.size + 1) ws hws (ws.length + 1) (fun _ => False) 0 [] 0 W1 (by omega) (by omega) (by simp) (by omega) hst (fun k h => h.elim)).1
  have HG := listP_goes ws (ws.length + 1) 0 [] 0 [] (Nat.zero_le _) (Nat.le_refl _)
  have Hb1 := Lib.hid hb1
  have HR1 := Lib.hid hR1
  have HP1 := Lib.hid hP1
  have HW1 := Lib.hid hW1
  have Hw := Lib.hid hw
  have hPR : w.heap.size ≠ w.heap.size + 1 := by omega
  clear hb1 hP1 hR1 hst hW1 hw
  cases hR : listP ws (ws.length + 1) 0 [] 0 [] with
  | error f =>
    have HT : Hid (treeF ws = .error f) := Lib.hid (by unfold treeF; rw [hR])
    rw [hR] at HL
    have HL' := Lib.hid HL
    clear HL HG hk hR
    go_enter Tryd.func20, Tryd.ntmps20
    go_wp2_with (go_at_call 39; refine halt ?_)
    refine Halted.mk' ?_
    rw [HW1.out]
    refine (HL'.out).mono ?_
    rintro e w2 ⟨v, rfl, ⟨q, rfl, hq⟩, hf⟩
    have r2 := hf.blk HR1.out hPR (by decide)
    have hqR : q ≠ w.heap.size := by rintro rfl; rw [hq] at r2; cases r2
    have hqR' : w.heap.size ≠ q := fun e => hqR e.symm
    have v0 : w2.cell? ⟨q, 0, none⟩ = some (.int .i64 f.1) := by simp [World.cell?, hq]
    have v1 : w2.cell? ⟨q, 1, none⟩ = some (.int .i64 f.2) := by simp [World.cell?, hq]
    have z0 : w2.cell? ⟨w.heap.size, 0, none⟩ = some (.slice none 0 0) := by simp [World.cell?, r2]
    have z1 : w2.cell? ⟨w.heap.size, 1, none⟩ = some (.slice none 0 0) := by simp [World.cell?, r2]
    have zf : w2.frozen? ⟨w.heap.size, 0, none⟩ = false := by simp [World.frozen?, r2]
    have zg : w2.frozen? ⟨w.heap.size, 1, none⟩ = false := by simp [World.frozen?, r2]
    have Hf := Lib.hid hf
    clear hf hq HL' r2
    go_wp2
    go_region
    go_wp2
    refine bodyPost_ret (v := .tuple #[.agg #[.slice none 0 0, .slice none 0 0], .int .i64 f.1, .int .i64 f.2]) (by simp [results, Tryd.results20, go_sem, z0, z1]) rfl ?_
    rw [HT.out]
    exact ⟨rfl, by repeat (first | exact Hb1.out.trans Hf.out.below | refine Below.drew ?_ | refine Below.setCell ?_ (by simp) _ | refine Below.alloc ?_ (by simp only [size_set]; omega) _)⟩
  | ok r =>
    obtain ⟨top, i1, nodes⟩ := r
    rw [hR] at HL HG
    obtain ⟨-, hi1, -, hn1⟩ := HG
    have HL' := Lib.hid HL
    have Hk := Lib.hid (hk top i1 nodes hR)
    clear HL hk
    cases hx : ws[i1]? with
    | some y =>
      have HT : Hid (treeF ws = .error (y.at_, 4)) := Lib.hid (by unfold treeF; rw [hR]; dsimp only; rw [hx])
      clear hR
      have hlt : i1 < ws.length := (List.getElem?_eq_some_iff.1 hx).1
      go_enter Tryd.func20, Tryd.ntmps20
      go_wp2_with (go_at_call 39; refine halt ?_)
      refine Halted.mk' ?_
      rw [HW1.out]
      refine (HL'.out).mono ?_
      rintro e w2 ⟨v, rfl, hv, hst2, hf⟩
      obtain ⟨vA, vc, rfl⟩ := ints_slice hv
      have r2 := hf.blk HR1.out hPR (by decide)
      obtain ⟨wv2, lv, ps, hmap, hb, hwr, hns, -, -⟩ := id hst2
      obtain ⟨wA2, wc2, rfl⟩ : ∃ A c, wv2 = .slice A ws.length c := by obtain ⟨A, c, e, _⟩ := hwr; exact ⟨A, c, e⟩
      obtain ⟨A', c', e', hword⟩ := (Hw.out.below (Hb1.out.trans (hf.below.mono (Nat.le_refl _))))
      cases e'
      obtain ⟨q, nv, rfl, hql, k0, k1, -⟩ := hword i1 y hx
      have c1 : w2.cell? ⟨w.heap.size + 1, 1, none⟩ = some (.int .i64 i1) := by simp [World.cell?, hb]
      have z0 : w2.cell? ⟨w.heap.size, 0, none⟩ = some (.slice none 0 0) := by simp [World.cell?, r2]
      have z1 : w2.cell? ⟨w.heap.size, 1, none⟩ = some (.slice none 0 0) := by simp [World.cell?, r2]
      have zf : w2.frozen? ⟨w.heap.size, 0, none⟩ = false := by simp [World.frozen?, r2]
      have zg : w2.frozen? ⟨w.heap.size, 1, none⟩ = false := by simp [World.frozen?, r2]
      have d6 : decide ((i1 : Int) < (ws.length : Int)) = true := by simp; omega
      have hRl : w.heap.size < w2.heap.size := World.heap_lt r2
      have Hf := Lib.hid hf
      clear hf hst2 hmap hb hwr hns r2 hv hword HL' hx Hw
      go_wp2
      go_region
      go_wp2
      refine bodyPost_ret (v := .tuple #[.agg #[.slice none 0 0, .slice none 0 0], .int .i64 y.at_, .int .i64 4]) (by simp [results, Tryd.results20, go_sem, z0, z1, hRl]) rfl ?_
      rw [HT.out]
      exact ⟨rfl, by repeat (first | exact Hb1.out.trans Hf.out.below | refine Below.drew ?_ | refine Below.setCell ?_ (by simp) _ | refine Below.alloc ?_ (by simp only [size_set]; omega) _)⟩
    | none =>
      have HT : Hid (treeF ws = .ok (top, nodes)) := Lib.hid (by unfold treeF; rw [hR]; dsimp only; rw [hx])
      have hge : ws.length ≤ i1 := List.getElem?_eq_none_iff.1 hx
      clear hR hx
      go_enter Tryd.func20, Tryd.ntmps20
      go_wp2_with (go_at_call 39; refine halt ?_)
      refine Halted.mk' ?_
      rw [HW1.out]
      refine (HL'.out).mono ?_
      rintro e w2 ⟨v, rfl, hv, hst2, hf⟩
      obtain ⟨vA, vc, rfl⟩ := ints_slice hv
      have r2 := hf.blk HR1.out hPR (by decide)
      obtain ⟨wv2, lv, ps, hmap, hb, hwr, hns, -, -⟩ := id hst2
      obtain ⟨LA, LC, rfl⟩ := nodes_slice hns
      have c1 : w2.cell? ⟨w.heap.size + 1, 1, none⟩ = some (.int .i64 i1) := by simp [World.cell?, hb]
      have c2 : w2.cell? ⟨w.heap.size + 1, 2, none⟩ = some (.slice LA ps.length LC) := by simp [World.cell?, hb]
      have c3 : w2.cell? ⟨w.heap.size + 1, 3, none⟩ = some (.slice none 0 0) := by simp [World.cell?, hb]
      have f3 : w2.frozen? ⟨w.heap.size + 1, 3, none⟩ = false := by simp [World.frozen?, hb]
      have d6 : decide ((i1 : Int) < (ws.length : Int)) = false := by simp; omega
      have hpl : ps.length ≤ 100000 := by have := congrArg List.length hmap; simp at this; omega
      have hPl : w.heap.size + 1 < w2.heap.size := World.heap_lt hb
      obtain ⟨W3, hW3⟩ : ∃ W3, w2.setCell ⟨w.heap.size + 1, 3, none⟩ (.slice vA top.length vc) = W3 := ⟨_, rfl⟩
      have hset := grown_set w2 (w.heap.size + 1) 3 (.slice vA top.length vc)
      rw [hW3] at hset
      have hP3 : ∃ cs, W3.heap[w.heap.size + 1]? = some (.cells cs 108) := by rw [← hW3]; exact ⟨_, blk_put hb 3 _⟩
      have hR3 : W3.heap[w.heap.size]? = some (.cells #[.slice none 0 0, .slice none 0 0] 26) := by rw [← hW3]; exact blk_far r2 (p := ⟨w.heap.size + 1, 3, none⟩) hPR _
      have hns3 : NodesAt w.heap.size w.heap.size (fun _ => False) W3 (.slice LA ps.length LC) ps := by
        refine (hns.mono (Y := fun _ => False) (fun k h => h.elim)).step (Nat.le_refl _) ⟨hset.os, hset.tape, hset.output, hset.size, fun k hk => hset.block k (by omega) (by simp; omega)⟩ (fun k c t hc ht => ?_)
        refine (hset.block k (World.heap_lt hc) (fun e => ?_)).trans hc
        cases e
        rw [hb] at hc
        cases hc
        rcases ht with h | ⟨h, -⟩ <;> cases h
      have hv3 : IntsAt W3 w.heap.size (.slice vA top.length vc) top := row_else (row_low hv Hb1.out.size) hset (fun k e => by cases e; exact ⟨_, hb⟩) (by decide)
      have hfr3 : Below w.heap.size w W3 := (Hb1.out.trans hf.below).trans ⟨hset.os, hset.tape, hset.output, hset.size, fun k hk => hset.block k (by omega) (by simp; omega)⟩
      have HC := copied_any w.heap.size w.heap.size ps (.slice LA ps.length LC) (.slice vA top.length vc) W3 (by omega) (fun p hp => Hk.out p.x (by rw [← hmap]; exact List.mem_map_of_mem hp)) (Nat.le_refl _) (by have := hset.size; omega) hns3 ⟨_, _, _, rfl⟩
      have Hmap := Lib.hid hmap
      have HC' := Lib.hid HC
      have HW3 := Lib.hid hW3
      have HR3 := Lib.hid hR3
      have HP3 := Lib.hid hP3
      have Hv3 := Lib.hid hv3
      have Hfr3 := Lib.hid hfr3
      clear HC hW3 hR3 hP3 hv3 hfr3 hns3 hset hmap hb hwr hns hst2 hv hf r2 HL' HR1 HP1 HW1 Hk Hw
      go_wp2_with (go_at_call 40; refine halt ?_)
      refine Halted.mk' ?_
      rw [HW3.out]
      refine (HC'.out).mono ?_
      rintro e w5 ⟨rfl, ⟨qs, hq1, hq2, hq3⟩, hfr5⟩
      have r5 := (hfr5 (w.heap.size + 1)).blk HR3.out hPR (by decide)
      have z0 : w5.cell? ⟨w.heap.size, 0, none⟩ = some (.slice none 0 0) := by simp [World.cell?, r5]
      have z1 : w5.cell? ⟨w.heap.size, 1, none⟩ = some (.slice none 0 0) := by simp [World.cell?, r5]
      have zf : w5.frozen? ⟨w.heap.size, 0, none⟩ = false := by simp [World.frozen?, r5]
      have zg : w5.frozen? ⟨w.heap.size, 1, none⟩ = false := by simp [World.frozen?, r5]
      have hv5 : IntsAt w5 w.heap.size (.slice vA top.length vc) top := by
        obtain ⟨cs, h⟩ := HP3.out
        exact ints_fr Hv3.out (hfr5 (w.heap.size + 1)) h (by decide)
      have Hq1 := Lib.hid hq1
      have Hq2 := Lib.hid hq2
      have Hq3 := Lib.hid hq3
      have Hr5 := Lib.hid r5
      have Hv5 := Lib.hid hv5
      have Hfr5 := Lib.hid (Hfr3.out.trans (hfr5 (w.heap.size + 1)).below)
      clear hq1 hq2 hq3 r5 hv5 hfr5 HC' HW3 HR3 HP3 Hv3 Hfr3 c1 c2 c3 f3
      go_wp2
      refine bodyPost_ret (v := .tuple #[.agg #[.slice LA ps.length LC, .slice vA top.length vc], .int .i64 0, .int .i64 0]) (by simp [results, Tryd.results20, go_sem, z0, z1]) rfl ?_
      rw [HT.out]
      have h1 := grown_set w5 w.heap.size 0 (.slice LA ps.length LC)
      have h2 := grown_set (w5.setCell ⟨w.heap.size, 0, none⟩ (.slice LA ps.length LC)) w.heap.size 1 (.slice vA top.length vc)
      have key : ∀ {e size n : Nat} {u : Value} {xs : List Value}, e ≠ 26 → w5.ownsRow w.heap.size e size u n xs → ((w5.setCell ⟨w.heap.size, 0, none⟩ (.slice LA ps.length LC)).setCell ⟨w.heap.size, 1, none⟩ (.slice vA top.length vc)).ownsRow w.heap.size e size u n xs := fun he h =>
        row_else (row_else h h1 (fun k e => by cases e; exact ⟨_, Hr5.out⟩) he) h2 (fun k e => by cases e; exact ⟨_, blk_put Hr5.out 0 _⟩) he
      refine ⟨_, _, rfl, ⟨⟨qs, Hq1.out.trans Hmap.out, key (by decide) Hq2.out, fun p hp => ?_⟩, key (by decide) Hv5.out⟩, ?_⟩
      · obtain ⟨a, b, c⟩ := Hq3.out p hp
        exact ⟨key (by decide) a, key (by decide) b, key (by decide) c⟩
      · repeat (first | exact Hfr5.out | refine Below.drew ?_ | refine Below.setCell ?_ (by simp) _)
end Go.Proofs.YtcggeaobonblfaaDoor

/- parse.Parse: walked. -/
namespace Go.Proofs.YtcggeaobonblfaaDoor
set_option linter.unusedSimpArgs false
set_option linter.unusedVariables false
open Go Go.RowKit
theorem wayF_short (s : List UInt8) : (wayF s).2.1.length ≤ 8 := by
  unfold wayF
  split
  · simp
  · split
    · simp
    · have key : ∀ r : List UInt8, (if ((dots r).all nameF && decide ((dots r).length ≤ 8)) = true then (Lib.hasPrefix s [36, 46], dots r, true) else (false, [], false)).2.1.length ≤ 8 := by
        intro r
        split
        · rename_i h
          rw [Bool.and_eq_true, decide_eq_true_eq] at h
          exact h.2
        · simp
      exact key _
theorem actionF_short (s : List UInt8) : (actionF s).2.2.1.length ≤ 8 := by
  unfold actionF
  dsimp only
  repeat' split
  all_goals first
    | exact wayF_short _
    | simp
theorem lexF_short : ∀ (n : Nat) (at_ : Int) (r : List UInt8), (lexF n at_ r).1.length ≤ r.length ∧ ∀ x ∈ (lexF n at_ r).1, x.names.length ≤ 8
  | 0, at_, r => by simp [lexF]
  | n + 1, at_, r => by
    unfold lexF
    by_cases h0 : r = []
    · rw [if_pos h0]; simp
    have hr : 0 < r.length := List.length_pos_iff.2 h0
    rw [if_neg h0]
    by_cases h1 : 0 < litLen r
    · rw [if_pos h1]
      obtain ⟨a, b⟩ := lexF_short n (at_ + litLen r) (r.drop (litLen r))
      have := litLen_le r
      refine ⟨by simp only [List.length_cons, List.length_drop] at a ⊢; omega, fun x hx => ?_⟩
      rcases List.mem_cons.1 hx with rfl | hx
      · simp
      · exact b x hx
    rw [if_neg h1]
    by_cases h2 : closeAt r < 0
    · rw [if_pos h2]; simp
    rw [if_neg h2]
    split
    · obtain ⟨a, b⟩ := lexF_short n (at_ + ((closeAt r).toNat + 2 : Nat)) (r.drop ((closeAt r).toNat + 2))
      refine ⟨by simp only [List.length_cons, List.length_drop] at a ⊢; omega, fun x hx => ?_⟩
      rcases List.mem_cons.1 hx with rfl | hx
      · exact actionF_short _
      · exact b x hx
    · simp
theorem lexAllF_short (s : List UInt8) : (lexAllF s).1.length ≤ 65536 ∧ ∀ x ∈ (lexAllF s).1, x.names.length ≤ 8 := by
  unfold lexAllF
  split
  · simp
  · split
    · simp
    · obtain ⟨a, b⟩ := lexF_short (s.length + 1) 0 s
      exact ⟨by unfold lexW; dsimp only; omega, b⟩

/-- No node has more names than its word. -/
def Short (nodes : List Node) : Prop := ∀ x ∈ nodes, x.names.length ≤ 8
def ShortL : ListR → Prop
  | .error _ => True
  | .ok (_, _, nodes) => Short nodes
def ShortB : Except Fault (Nat × List Node) → Prop
  | .error _ => True
  | .ok (_, nodes) => Short nodes
def ShortN : Except Fault (Int × Nat × List Node) → Prop
  | .error _ => True
  | .ok (_, _, nodes) => Short nodes
theorem short_modify {nodes : List Node} (h : Short nodes) (k : Nat) (f : Node → Node) (hf : ∀ x, (f x).names = x.names) : Short (nodes.modify k f) := by
  intro x hx
  obtain ⟨j, hj⟩ := List.getElem?_of_mem hx
  rw [List.getElem?_modify] at hj
  obtain ⟨y, hy, rfl⟩ := Option.map_eq_some_iff.1 hj
  split
  · rw [hf]; exact h y (List.mem_of_getElem? hy)
  · exact h y (List.mem_of_getElem? hy)
theorem finB_short {ws : List Word} {x : Word} {i : Nat} {nd : List Node} (h : Short nd) : ShortB (finB ws x i nd) := by
  unfold finB
  split
  · trivial
  · split
    · trivial
    · exact h
theorem bodyP_short {ws : List Word} {L : Nat → List Node → Nat → ListR} (hL : ∀ i nd d, Short nd → ShortL (L i nd d)) (i : Nat) (nodes : List Node) (k : Nat) (x : Word) (depth : Nat) (hn : Short nodes) :
    ShortB (bodyP L ws i nodes k x depth) := by
  unfold bodyP
  have h1 := hL i nodes (depth + 1) hn
  cases hR : L i nodes (depth + 1) with
  | error f => trivial
  | ok r =>
    obtain ⟨b, i1, nodes1⟩ := r
    rw [hR] at h1
    have h1' : Short (setBody nodes1 k b) := short_modify h1 k _ (fun _ => rfl)
    dsimp only
    split
    · exact finB_short h1'
    · split
      · split
        · trivial
        · have h2 := hL (i1 + 1) (setBody nodes1 k b) (depth + 1) h1'
          cases hR2 : L (i1 + 1) (setBody nodes1 k b) (depth + 1) with
          | error f => trivial
          | ok r2 =>
            obtain ⟨b2, i2, nodes2⟩ := r2
            rw [hR2] at h2
            exact finB_short (short_modify h2 k _ (fun _ => rfl))
      · exact finB_short h1'
theorem nodeP_short {ws : List Word} {L : Nat → List Node → Nat → ListR} (hL : ∀ i nd d, Short nd → ShortL (L i nd d)) (i : Nat) (nodes : List Node) (x : Word) (depth : Nat) (hn : Short nodes) (hx : x.names.length ≤ 8) :
    ShortN (nodeP L ws i nodes x depth) := by
  have h0 : Short (nodes ++ [newNode x]) := fun y hy => by
    rcases List.mem_append.1 hy with h | h
    · exact hn y h
    · simp at h; rw [h]; exact hx
  unfold nodeP
  split
  · split
    · trivial
    · have h := bodyP_short hL (ws := ws) i (nodes ++ [newNode x]) nodes.length x depth h0
      cases hR : bodyP L ws i (nodes ++ [newNode x]) nodes.length x depth with
      | error f => trivial
      | ok r =>
        obtain ⟨i1, nd⟩ := r
        rw [hR] at h
        exact short_modify h _ _ (fun _ => rfl)
  · exact short_modify h0 _ _ (fun _ => rfl)
theorem listP_short (ws : List Word) (hw : ∀ x ∈ ws, x.names.length ≤ 8) : ∀ n i nodes depth acc, Short nodes → ShortL (listP ws n i nodes depth acc) := by
  intro n
  induction n with
  | zero => intro i nodes depth acc hn; trivial
  | succ n ih =>
    intro i nodes depth acc hn
    unfold listP
    cases hx : ws[i]? with
    | none => exact hn
    | some y =>
      dsimp only
      split
      · exact hn
      · have h := nodeP_short (ws := ws) (L := fun i nd d => listP ws n i nd d []) (fun i nd d h => ih i nd d [] h) (i + 1) nodes y depth hn (hw y (List.mem_of_getElem? hx))
        cases hR : nodeP (fun i nd d => listP ws n i nd d []) ws (i + 1) nodes y depth with
        | error f => trivial
        | ok r =>
          obtain ⟨k, i1, nd⟩ := r
          rw [hR] at h
          exact ih i1 nd depth (acc ++ [k]) h

def parseF (s : List UInt8) : Except Fault (List Int × List Node) :=
  if (lexAllF s).2.2 = 0 then treeF (lexAllF s).1 else .error ((lexAllF s).2.1, (lexAllF s).2.2)

theorem TreeAt.low {W : World} {base base' : Nat} {nv tv : Value} {nodes : List Node} {top : List Int} (h : TreeAt W base nv tv nodes top) (hb : base' ≤ base) : TreeAt W base' nv tv nodes top := by
  obtain ⟨⟨qs, h1, h2, h3⟩, h4⟩ := h
  exact ⟨⟨qs, h1, row_low h2 hb, fun p hp => let ⟨a, b, c⟩ := h3 p hp; ⟨row_low a hb, row_low b hb, row_low c hb⟩⟩, row_low h4 hb⟩
/-- What turns a row of another type. -/
theorem TreeAt.step {W W' : World} {base t : Nat} {nv tv : Value} {nodes : List Node} {top : List Int} {r : Option Nat} (h : TreeAt W base nv tv nodes top) (hg : W.grownBy W' r) (hr : ∀ k, r = some k → ∃ c, W.heap[k]? = some (.cells c t)) (h1 : 66 ≠ t) (h2 : 9 ≠ t) (h3 : 3 ≠ t) : TreeAt W' base nv tv nodes top := by
  obtain ⟨⟨qs, a1, a2, a3⟩, a4⟩ := h
  exact ⟨⟨qs, a1, row_else a2 hg hr h1, fun p hp => let ⟨a, b, c⟩ := a3 p hp; ⟨row_else a hg hr h2, row_else b hg hr h3, row_else c hg hr h3⟩⟩, row_else a4 hg hr h3⟩

set_option maxRecDepth 100000 in
set_option maxHeartbeats 2000000 in
theorem parse_any (s : List UInt8) (w : World) (hs : s.length ≤ 140737488351232) (hm : MaxLenAt w) : Calls Tryd.prog 9 #[.string ⟨s.toArray⟩] w (TreePost w (parseF s)) := by
  obtain ⟨W1, hW1⟩ : ∃ W1, w.alloc (.cells #[.slice none 0 0, .slice none 0 0] 26) = W1 := ⟨_, rfl⟩
  have hb1 : Below w.heap.size w W1 := by rw [← hW1]; exact (Below.refl w.heap.size w).alloc (Nat.le_refl _) _
  have hR1 : W1.heap[w.heap.size]? = some (.cells #[.slice none 0 0, .slice none 0 0] 26) := by rw [← hW1]; exact World.alloc_heap_new w _
  have hL := lexAll_any s W1 hs (hm.below hb1)
  obtain ⟨hsh1, hsh2⟩ := lexAllF_short s
  have Hb1 := Lib.hid hb1
  have HR1 := Lib.hid hR1
  have HW1 := Lib.hid hW1
  have HL := Lib.hid hL
  have hsz : w.heap.size < W1.heap.size := World.heap_lt hR1
  clear hb1 hR1 hW1 hL hm
  obtain ⟨ws, pl, er, hr⟩ : ∃ a b c, lexAllF s = (a, b, c) := ⟨_, _, _, rfl⟩
  rw [hr] at hsh1 hsh2
  by_cases he : er = 0
  · have HP : Hid (parseF s = treeF ws) := Lib.hid (by unfold parseF; rw [hr]; exact if_pos he)
    subst he
    rw [hr] at HL
    clear hr
    go_enter Tryd.func9, Tryd.ntmps9
    go_wp2_with (go_at_call 19; refine halt ?_)
    refine Halted.mk' ?_
    rw [HW1.out]
    refine (HL.out).mono ?_
    rintro e w2 ⟨v, rfl, hws, hb⟩
    have hwr := words_rd hws (Nat.le_refl _)
    have HT := Lib.hid (tree_any v ws w2 (by omega) (fun top i nodes h => by
      have := listP_short ws hsh2 (ws.length + 1) 0 [] 0 [] (fun x hx => by cases hx)
      rw [h] at this
      exact fun x hx => Nat.le_trans (this x hx) (by omega)) hwr)
    have Hr2 := Lib.hid ((hb.block _ hsz).trans HR1.out)
    have Hb2 := Lib.hid (Hb1.out.trans (hb.mono (by omega)))
    clear hws hwr hb HL HW1 HR1
    cases hT : treeF ws with
    | error f =>
      rw [hT] at HT HP
      clear hT
      go_wp2_with (go_at_call 20; refine halt ?_)
      refine Halted.mk' ?_
      refine (HT.out).mono ?_
      rintro e w3 ⟨rfl, hb3⟩
      have r3 := (hb3.block _ (World.heap_lt Hr2.out)).trans Hr2.out
      have z0 : w3.cell? ⟨w.heap.size, 0, none⟩ = some (.slice none 0 0) := by simp [World.cell?, r3]
      have z1 : w3.cell? ⟨w.heap.size, 1, none⟩ = some (.slice none 0 0) := by simp [World.cell?, r3]
      have zf : w3.frozen? ⟨w.heap.size, 0, none⟩ = false := by simp [World.frozen?, r3]
      have zg : w3.frozen? ⟨w.heap.size, 1, none⟩ = false := by simp [World.frozen?, r3]
      have Hb3 := Lib.hid (Hb2.out.trans (hb3.mono (by have := Hb2.out.size; omega)))
      clear hb3 r3 HT
      go_wp2
      refine bodyPost_ret (v := .tuple #[.agg #[.slice none 0 0, .slice none 0 0], .int .i64 f.1, .int .i64 f.2]) (by simp [results, Tryd.results9, go_sem, z0, z1]) rfl ?_
      rw [HP.out]
      exact ⟨rfl, by repeat (first | exact Hb3.out | refine Below.drew ?_ | refine Below.setCell ?_ (by simp) _)⟩
    | ok r =>
      obtain ⟨top, nodes⟩ := r
      rw [hT] at HT HP
      clear hT
      go_wp2_with (go_at_call 20; refine halt ?_)
      refine Halted.mk' ?_
      refine (HT.out).mono ?_
      rintro e w3 ⟨nv, tv, rfl, ht, hb3⟩
      have r3 := (hb3.block _ (World.heap_lt Hr2.out)).trans Hr2.out
      have z0 : w3.cell? ⟨w.heap.size, 0, none⟩ = some (.slice none 0 0) := by simp [World.cell?, r3]
      have z1 : w3.cell? ⟨w.heap.size, 1, none⟩ = some (.slice none 0 0) := by simp [World.cell?, r3]
      have zf : w3.frozen? ⟨w.heap.size, 0, none⟩ = false := by simp [World.frozen?, r3]
      have zg : w3.frozen? ⟨w.heap.size, 1, none⟩ = false := by simp [World.frozen?, r3]
      have Hb3 := Lib.hid (Hb2.out.trans (hb3.mono (by have := Hb2.out.size; omega)))
      have Ht := Lib.hid (ht.low (base' := w.heap.size) (by have := Hb2.out.size; omega))
      have Hr3 := Lib.hid r3
      obtain ⟨NA, NN, NC, rfl⟩ : ∃ A n c, nv = .slice A n c := by
        obtain ⟨⟨qs, -, h, -⟩, -⟩ := ht
        rcases h.2 with ⟨rfl, _⟩ | ⟨g, cap, cur, rfl, _⟩
        · exact ⟨_, _, _, rfl⟩
        · exact ⟨_, _, _, rfl⟩
      obtain ⟨TA, TC, rfl⟩ := ints_slice ht.2
      clear hb3 r3 HT ht
      go_wp2
      refine bodyPost_ret (v := .tuple #[.agg #[.slice NA NN NC, .slice TA top.length TC], .int .i64 0, .int .i64 0]) (by simp [results, Tryd.results9, go_sem, z0, z1]) rfl ?_
      rw [HP.out]
      refine ⟨_, _, rfl, ?_, by repeat (first | exact Hb3.out | refine Below.drew ?_ | refine Below.setCell ?_ (by simp) _)⟩
      have h1 := grown_set w3 w.heap.size 0 (.slice NA NN NC)
      have h2 := grown_set (w3.setCell ⟨w.heap.size, 0, none⟩ (.slice NA NN NC)) w.heap.size 1 (.slice TA top.length TC)
      exact (Ht.out.step (t := 26) h1 (fun k e => by cases e; exact ⟨_, Hr3.out⟩) (by decide) (by decide) (by decide)).step (t := 26) h2 (fun k e => by cases e; exact ⟨_, blk_put Hr3.out 0 _⟩) (by decide) (by decide) (by decide)
  · have HP : Hid (parseF s = .error (pl, er)) := Lib.hid (by unfold parseF; rw [hr]; exact if_neg he)
    rw [hr] at HL
    clear hr
    have e1 : (er == 0) = false := k_false he
    go_enter Tryd.func9, Tryd.ntmps9
    go_wp2_with (go_at_call 19; refine halt ?_)
    refine Halted.mk' ?_
    rw [HW1.out]
    refine (HL.out).mono ?_
    rintro e w2 ⟨v, rfl, hws, hb⟩
    have r3 := (hb.block _ hsz).trans HR1.out
    have z0 : w2.cell? ⟨w.heap.size, 0, none⟩ = some (.slice none 0 0) := by simp [World.cell?, r3]
    have z1 : w2.cell? ⟨w.heap.size, 1, none⟩ = some (.slice none 0 0) := by simp [World.cell?, r3]
    have zf : w2.frozen? ⟨w.heap.size, 0, none⟩ = false := by simp [World.frozen?, r3]
    have zg : w2.frozen? ⟨w.heap.size, 1, none⟩ = false := by simp [World.frozen?, r3]
    have Hb2 := Lib.hid (Hb1.out.trans (hb.mono (by omega)))
    clear hws hb HL HW1 HR1 r3
    go_wp2
    refine bodyPost_ret (v := .tuple #[.agg #[.slice none 0 0, .slice none 0 0], .int .i64 pl, .int .i64 er]) (by simp [results, Tryd.results9, go_sem, z0, z1]) rfl ?_
    rw [HP.out]
    exact ⟨rfl, by repeat (first | exact Hb2.out | refine Below.drew ?_ | refine Below.setCell ?_ (by simp) _)⟩
end Go.Proofs.YtcggeaobonblfaaDoor

/- The recursive parse and the parse by a stack come to one tree. -/
namespace Go.Proofs.YtcggeaobonblfaaDoor
set_option linter.unusedSimpArgs false
set_option linter.unusedVariables false
open Go Go.RowKit
/-- What is open: its node, its word, whether its else began, the list that is being read. -/
structure Frame where
  (k : Nat) (w : Word) (els : Bool) (acc : List Int)
def fillNode (f : Frame) (x : Node) : Node := { x with kind := kindOf f.w.kind, body := if f.els then x.body else f.acc, els := if f.els then f.acc else x.els, has := f.els }
def fill : List Frame → List Node → List Node
  | [], nd => nd
  | f :: fs, nd => (fill fs nd).modify f.k (fillNode f)
def opn (f : Frame) : Opn := ⟨f.k, f.w.kind, f.els⟩
/-- The innermost list is acc. -/
def upd (fs : List Frame) (top acc : List Int) : List Frame × List Int :=
  match fs with
  | [] => ([], acc)
  | f :: fs' => ({ f with acc := acc } :: fs', top)
def Sx (u : List Frame) (t : List Int) (nodes : List Node) : RSt := ⟨fill u nodes, t, (u.map opn).reverse⟩
def St (fs : List Frame) (top acc : List Int) (nodes : List Node) : RSt := Sx (upd fs top acc).1 (upd fs top acc).2 nodes
theorem upd_opn (fs : List Frame) (top acc : List Int) : (upd fs top acc).1.map opn = fs.map opn := by cases fs <;> rfl
theorem upd_len (fs : List Frame) (top acc : List Int) : (upd fs top acc).1.length = fs.length := by cases fs <;> rfl
theorem upd_lt {fs : List Frame} {top acc : List Int} {m : Nat} (h : ∀ f ∈ fs, f.k < m) : ∀ f ∈ (upd fs top acc).1, f.k < m := by
  cases fs with
  | nil => exact h
  | cons f fs =>
    intro g hg
    rcases List.mem_cons.1 hg with rfl | hg
    · exact h f List.mem_cons_self
    · exact h g (List.mem_cons_of_mem _ hg)
def rest (r : RSt) (ws : List Word) (i : Nat) : Except Fault (List Int × List Node) := match runR r (ws.drop i) with | .error f => .error f | .ok r' => finR r'

theorem rest_step {r : RSt} {ws : List Word} {i : Nat} {x : Word} (h : ws[i]? = some x) : rest r ws i = match stepR r x with | .error f => .error f | .ok r' => rest r' ws (i + 1) := by
  have hlt := (List.getElem?_eq_some_iff.1 h).1
  unfold rest
  rw [List.drop_eq_getElem_cons hlt, (List.getElem?_eq_some_iff.1 h).2]
  cases hs : stepR r x with
  | error f => rw [runR_err hs]
  | ok r' => rw [runR_ok hs]
theorem rest_err {r : RSt} {ws : List Word} {i : Nat} {x : Word} {f : Fault} (h : ws[i]? = some x) (hs : stepR r x = .error f) : rest r ws i = .error f := by rw [rest_step h, hs]
theorem rest_ok {r r' : RSt} {ws : List Word} {i : Nat} {x : Word} (h : ws[i]? = some x) (hs : stepR r x = .ok r') : rest r ws i = rest r' ws (i + 1) := by rw [rest_step h, hs]
theorem rest_end {r : RSt} {ws : List Word} {i : Nat} (h : ws[i]? = none) : rest r ws i = finR r := by
  unfold rest
  rw [List.drop_eq_nil_of_le (List.getElem?_eq_none_iff.1 h)]
  rfl

/-! modify -/
theorem modify_two {α : Type} (l : List α) (k : Nat) (g h : α → α) : (l.modify k h).modify k g = l.modify k (fun x => g (h x)) := by
  apply List.ext_getElem?
  intro j
  rw [List.getElem?_modify, List.getElem?_modify, List.getElem?_modify]
  cases l[j]? with
  | none => rfl
  | some x => by_cases e : k = j <;> simp [e]
theorem modify_swap {α : Type} (l : List α) (k m : Nat) (g h : α → α) (hne : k ≠ m) : (l.modify k h).modify m g = (l.modify m g).modify k h := by
  apply List.ext_getElem?
  intro j
  rw [List.getElem?_modify, List.getElem?_modify, List.getElem?_modify, List.getElem?_modify]
  cases l[j]? with
  | none => rfl
  | some x =>
    by_cases e : k = j
    · have : ¬ m = j := fun e2 => hne (e.trans e2.symm)
      simp [e, this]
    · simp [e]
theorem modify_congr {α : Type} {l : List α} {k : Nat} {g h : α → α} (hx : ∀ x, l[k]? = some x → g x = h x) : l.modify k g = l.modify k h := by
  apply List.ext_getElem?
  intro j
  rw [List.getElem?_modify, List.getElem?_modify]
  cases hl : l[j]? with
  | none => rfl
  | some x =>
    by_cases e : k = j
    · subst e
      simp [hx x hl]
    · simp [e]
theorem modify_left {α : Type} (l m : List α) (k : Nat) (g : α → α) (h : k < l.length) : (l ++ m).modify k g = l.modify k g ++ m := by
  apply List.ext_getElem?
  intro j
  rw [List.getElem?_modify]
  rcases Nat.lt_or_ge j l.length with hj | hj
  · rw [List.getElem?_append_left hj, List.getElem?_append_left (by simpa using hj), List.getElem?_modify]
  · have e : ¬ k = j := by omega
    rw [List.getElem?_append_right hj, List.getElem?_append_right (by simpa using hj)]
    simp [e]
theorem modify_last {α : Type} (l : List α) (x : α) (g : α → α) : (l ++ [x]).modify l.length g = l ++ [g x] := by
  apply List.ext_getElem?
  intro j
  rw [List.getElem?_modify]
  rcases Nat.lt_or_ge j l.length with hj | hj
  · have e : ¬ l.length = j := by omega
    rw [List.getElem?_append_left hj, List.getElem?_append_left hj]
    simp [e]
  · rw [List.getElem?_append_right hj, List.getElem?_append_right hj]
    cases hjj : j - l.length with
    | zero =>
      have e : l.length = j := by omega
      simp [e]
    | succ m => simp

theorem modify_tail {α : Type} (l m : List α) (g : α → α) : (l ++ m).modify l.length g = l ++ m.modify 0 g := by
  apply List.ext_getElem?
  intro j
  rw [List.getElem?_modify]
  rcases Nat.lt_or_ge j l.length with hj | hj
  · have e : ¬ l.length = j := by omega
    rw [List.getElem?_append_left hj, List.getElem?_append_left hj]
    simp [e]
  · rw [List.getElem?_append_right hj, List.getElem?_append_right hj, List.getElem?_modify]
    by_cases e : l.length = j
    · have e2 : 0 = j - l.length := by omega
      simp only [if_pos e, if_pos e2]
    · have e2 : ¬ 0 = j - l.length := by omega
      simp only [if_neg e, if_neg e2]
theorem fill_length (fs : List Frame) (nd : List Node) : (fill fs nd).length = nd.length := by
  induction fs with
  | nil => rfl
  | cons f fs ih => unfold fill; simp [ih]
theorem fill_append (fs : List Frame) (nd ext : List Node) (h : ∀ f ∈ fs, f.k < nd.length) : fill fs (nd ++ ext) = fill fs nd ++ ext := by
  induction fs with
  | nil => rfl
  | cons f fs ih =>
    unfold fill
    rw [ih (fun g hg => h g (List.mem_cons_of_mem _ hg)), modify_left _ _ _ _ (by rw [fill_length]; exact h f List.mem_cons_self)]
theorem fill_modify (fs : List Frame) (nd : List Node) (k : Nat) (g : Node → Node) (h : ∀ f ∈ fs, f.k ≠ k) : fill fs (nd.modify k g) = (fill fs nd).modify k g := by
  induction fs with
  | nil => rfl
  | cons f fs ih =>
    unfold fill
    rw [ih (fun g hg => h g (List.mem_cons_of_mem _ hg)), modify_swap _ _ _ _ _ (fun e => h f List.mem_cons_self e.symm)]
theorem fill_at (fs : List Frame) (nd : List Node) (k : Nat) (h : ∀ f ∈ fs, f.k ≠ k) : (fill fs nd)[k]? = nd[k]? := by
  induction fs with
  | nil => rfl
  | cons f fs ih =>
    unfold fill
    rw [List.getElem?_modify, ih (fun g hg => h g (List.mem_cons_of_mem _ hg))]
    have : ¬ f.k = k := h f List.mem_cons_self
    simp [this]

/-- A node more, in both. -/
theorem add_more (fs : List Frame) (top acc : List Int) (nodes : List Node) (w : Word) (h : ∀ f ∈ fs, f.k < nodes.length) :
    addF ((St fs top acc nodes).nodes ++ [nodeOf w]) (St fs top acc nodes).top (St fs top acc nodes).st nodes.length = ((St fs top (acc ++ [(nodes.length : Int)]) (nodes ++ [nodeOf w])).nodes, (St fs top (acc ++ [(nodes.length : Int)]) (nodes ++ [nodeOf w])).top) := by
  cases fs with
  | nil => rfl
  | cons f fs =>
    have hf := h f List.mem_cons_self
    have hfs : ∀ g ∈ fs, g.k < nodes.length := fun g hg => h g (List.mem_cons_of_mem _ hg)
    have hl : (St (f :: fs) top acc nodes).st.getLast? = some (opn f) := by
      show ((({ f with acc := acc } : Frame) :: fs).map opn).reverse.getLast? = some (opn f)
      rw [List.map_cons, List.reverse_cons, List.getLast?_concat]
      rfl
    unfold addF
    rw [hl]
    dsimp only
    congr 1
    show (((fill fs nodes).modify f.k (fillNode { f with acc := acc })) ++ [nodeOf w]).modify ((f.k : Int)).toNat _ = (fill fs (nodes ++ [nodeOf w])).modify f.k (fillNode { f with acc := acc ++ [(nodes.length : Int)] })
    rw [fill_append fs nodes _ hfs, Int.toNat_natCast, ← modify_left _ _ _ _ (by rw [fill_length]; exact hf), modify_two]
    congr 1
    funext x
    unfold fillNode opn
    cases f.els <;> rfl

/-- How a list ends: at the end of the words, or ahead of an else or an end. -/
def Stops (ws : List Word) (i : Nat) : Prop := ∀ x, ws[i]? = some x → x.kind = 3 ∨ x.kind = 5
def SimL (ws : List Word) (L : Nat → List Node → Nat → ListR) (lo : Nat) : Prop :=
  ∀ i nodes fs top, lo ≤ i → i ≤ ws.length → (∀ f ∈ fs, f.k < nodes.length) →
    match L i nodes fs.length with
    | .error f => rest (St fs top [] nodes) ws i = .error f
    | .ok (acc', i', nodes') => i ≤ i' ∧ i' ≤ ws.length ∧ rest (St fs top [] nodes) ws i = rest (St fs top acc' nodes') ws i' ∧ (∃ ext, nodes' = nodes ++ ext) ∧ Stops ws i'
theorem st_len (fs : List Frame) (top acc : List Int) (nodes : List Node) : (St fs top acc nodes).st.length = fs.length := by
  show ((upd fs top acc).1.map opn).reverse.length = fs.length
  rw [upd_opn]
  simp
theorem sx_last (g : Frame) (u : List Frame) (t : List Int) (nodes : List Node) : (Sx (g :: u) t nodes).st.getLast? = some (opn g) := by
  show (((g :: u).map opn).reverse).getLast? = some (opn g)
  rw [List.map_cons, List.reverse_cons, List.getLast?_concat]
theorem sx_drop (g : Frame) (u : List Frame) (t : List Int) (nodes : List Node) : (Sx (g :: u) t nodes).st.dropLast = (u.map opn).reverse := by
  show (((g :: u).map opn).reverse).dropLast = _
  rw [List.map_cons, List.reverse_cons, List.dropLast_concat]
/-- The words within an open node: what its end, its else and the end of the words do. -/
theorem open_end {g : Frame} {u : List Frame} {t : List Int} {nodes : List Node} {ws : List Word} {i : Nat} (hx : ws[i]? = none) {y : Node} (hy : nodes[g.k]? = some y) (hu : ∀ f ∈ u, f.k ≠ g.k) (hat : y.at_ = g.w.at_) :
    rest (Sx (g :: u) t nodes) ws i = .error (g.w.at_, 4) := by
  rw [rest_end hx]
  unfold finR
  rw [sx_last]
  dsimp only
  have : (Sx (g :: u) t nodes).nodes[(opn g).node.toNat]? = some (fillNode g y) := by
    show ((fill u nodes).modify g.k (fillNode g))[((g.k : Int)).toNat]? = _
    rw [Int.toNat_natCast, List.getElem?_modify, fill_at u nodes g.k hu, hy]
    simp
  rw [this]
  show Except.error ((fillNode g y).at_, 4) = _
  have : (fillNode g y).at_ = y.at_ := rfl
  rw [this, hat]
theorem open_else_bad {g : Frame} {u : List Frame} {t : List Int} {nodes : List Node} {ws : List Word} {i : Nat} {x : Word} (hx : ws[i]? = some x) (h3 : x.kind = 3) (hb : g.w.kind ≠ 2 ∨ g.els = true) : rest (Sx (g :: u) t nodes) ws i = .error (x.at_, 4) := by
  refine rest_err hx ?_
  unfold stepR
  rw [if_pos h3, sx_last]
  dsimp only
  exact if_pos hb
theorem open_pop {g : Frame} {u : List Frame} {t : List Int} {nodes : List Node} {ws : List Word} {i : Nat} {x : Word} (hx : ws[i]? = some x) (h5 : x.kind = 5) (hu : ∀ f ∈ u, f.k ≠ g.k) : rest (Sx (g :: u) t nodes) ws i = rest (Sx u t (nodes.modify g.k (fillNode g))) ws (i + 1) := by
  refine rest_ok hx ?_
  unfold stepR
  rw [if_neg (by omega), if_pos h5, sx_last]
  dsimp only
  rw [sx_drop]
  show Except.ok (⟨(fill u nodes).modify g.k (fillNode g), t, _⟩ : RSt) = _
  rw [← fill_modify u nodes g.k _ hu]
  rfl
theorem open_else {k : Nat} {w : Word} {b : List Int} {u : List Frame} {t : List Int} {nodes : List Node} {ws : List Word} {i : Nat} {x : Word} (hx : ws[i]? = some x) (h3 : x.kind = 3) (hw : w.kind = 2) (hu : ∀ f ∈ u, f.k ≠ k)
    {y : Node} (hy : nodes[k]? = some y) (he : y.els = []) : rest (Sx (⟨k, w, false, b⟩ :: u) t nodes) ws i = rest (Sx (⟨k, w, true, []⟩ :: u) t (setBody nodes k b)) ws (i + 1) := by
  refine rest_ok hx ?_
  unfold stepR
  rw [if_pos h3, sx_last]
  dsimp only
  rw [if_neg (by unfold opn; simp [hw]), sx_drop]
  congr 1
  unfold Sx
  congr 1
  · show setHas ((fill u nodes).modify k (fillNode ⟨k, w, false, b⟩)) ((k : Int)).toNat = (fill u (setBody nodes k b)).modify k (fillNode ⟨k, w, true, []⟩)
    unfold setHas setBody
    rw [Int.toNat_natCast, modify_two, fill_modify u nodes k _ hu, modify_two]
    refine modify_congr (fun z hz => ?_)
    rw [fill_at u nodes k hu, hy] at hz
    cases hz
    unfold fillNode
    simp [he]
  · show (u.map opn).reverse ++ [{ opn ⟨k, w, false, b⟩ with els := true }] = ((⟨k, w, true, []⟩ :: u).map opn).reverse
    rw [List.map_cons, List.reverse_cons]
    rfl

def finN (r : Except Fault (Nat × List Node)) (n : Nat) (κ : Int) : Except Fault (Int × Nat × List Node) := match r with | .error f => .error f | .ok (i1, nd) => .ok (n, i1, setKind nd n κ)
def PostN (ws : List Word) (fs : List Frame) (top acc : List Int) (nodes : List Node) (i : Nat) (r : Except Fault (Int × Nat × List Node)) : Prop :=
  match r with
  | .error f => rest (St fs top acc nodes) ws i = .error f
  | .ok (k, i', nodes') => i + 1 ≤ i' ∧ i' ≤ ws.length ∧ k = nodes.length ∧ rest (St fs top acc nodes) ws i = rest (St fs top (acc ++ [k]) nodes') ws i' ∧ ∃ ext, nodes' = nodes ++ ext
theorem nodeP_open {L : Nat → List Node → Nat → ListR} {ws : List Word} {i : Nat} {nodes : List Node} {w : Word} {depth : Nat} (h : w.kind = 2 ∨ w.kind = 4) (hd : ¬ 16 ≤ depth) :
    nodeP L ws i nodes w depth = finN (bodyP L ws i (nodes ++ [newNode w]) nodes.length w depth) nodes.length (kindOf w.kind) := by
  unfold nodeP
  rw [if_pos h, if_neg hd]
  rfl
theorem sim_node {ws : List Word} {L : Nat → List Node → Nat → ListR} {lo : Nat} (hL : SimL ws L lo) (i : Nat) (nodes : List Node) (fs : List Frame) (top acc : List Int) (x : Word) (hx : ws[i]? = some x) (hlo : lo ≤ i + 1) (hk3 : x.kind ≠ 3) (hk5 : x.kind ≠ 5) (hf : ∀ f ∈ fs, f.k < nodes.length) : PostN ws fs top acc nodes i (nodeP L ws (i + 1) nodes x fs.length) := by
  have hlt := (List.getElem?_eq_some_iff.1 hx).1
  have hadd := add_more fs top acc nodes x hf
  have hsl := st_len fs top acc nodes
  have hnl : (St fs top acc nodes).nodes.length = nodes.length := fill_length _ _
  have hstep : stepR (St fs top acc nodes) x = if (x.kind = 2 ∨ x.kind = 4) ∧ 16 ≤ fs.length then .error (x.at_, 3) else
      .ok ⟨(St fs top (acc ++ [(nodes.length : Int)]) (nodes ++ [nodeOf x])).nodes, (St fs top (acc ++ [(nodes.length : Int)]) (nodes ++ [nodeOf x])).top, if x.kind = 2 ∨ x.kind = 4 then (fs.map opn).reverse ++ [⟨nodes.length, x.kind, false⟩] else (fs.map opn).reverse⟩ := by
    unfold stepR
    rw [if_neg hk3, if_neg hk5, hsl, hnl, hadd]
    have : (St fs top acc nodes).st = (fs.map opn).reverse := by show ((upd fs top acc).1.map opn).reverse = _; rw [upd_opn]
    rw [this]
  by_cases ho : x.kind = 2 ∨ x.kind = 4
  · by_cases hd : 16 ≤ fs.length
    · unfold nodeP
      rw [if_pos ho, if_pos hd]
      exact rest_err hx (by rw [hstep, if_pos ⟨ho, hd⟩])
    · rw [nodeP_open ho hd]
      obtain ⟨u, t, hu⟩ : ∃ u t, upd fs top (acc ++ [(nodes.length : Int)]) = (u, t) := ⟨_, _, rfl⟩
      have hul : u.length = fs.length := by have := upd_len fs top (acc ++ [(nodes.length : Int)]); rw [hu] at this; exact this
      have huo : u.map opn = fs.map opn := by have := upd_opn fs top (acc ++ [(nodes.length : Int)]); rw [hu] at this; exact this
      have hult : ∀ f ∈ u, f.k < nodes.length := by have := upd_lt (top := top) (acc := acc ++ [(nodes.length : Int)]) hf; rw [hu] at this; exact this
      have hune : ∀ f ∈ u, f.k ≠ nodes.length := fun f h => by have := hult f h; omega
      have hSt : ∀ nd, St fs top (acc ++ [(nodes.length : Int)]) nd = Sx u t nd := fun nd => by unfold St; rw [hu]
      have h0 : rest (St fs top acc nodes) ws i = rest (St (⟨nodes.length, x, false, []⟩ :: u) t [] (nodes ++ [newNode x])) ws (i + 1) := by
        refine rest_ok hx ?_
        rw [hstep, if_neg (fun h => hd h.2), if_pos ho]
        congr 1
        rw [hSt]
        show (⟨fill u (nodes ++ [nodeOf x]), t, _⟩ : RSt) = ⟨(fill u (nodes ++ [newNode x])).modify nodes.length (fillNode ⟨nodes.length, x, false, []⟩), t, ((⟨nodes.length, x, false, []⟩ :: u).map opn).reverse⟩
        rw [fill_append u nodes _ hult, fill_append u nodes _ hult]
        have hl : nodes.length = (fill u nodes).length := (fill_length _ _).symm
        congr 1
        · conv => rhs; rw [hl]
          rw [modify_last]
          rfl
        · rw [List.map_cons, List.reverse_cons, huo]
          rfl
      unfold bodyP
      have h1 := hL (i + 1) (nodes ++ [newNode x]) (⟨nodes.length, x, false, []⟩ :: u) t hlo hlt (fun f h => by
        rw [List.length_append, List.length_singleton]
        rcases List.mem_cons.1 h with rfl | h
        · exact Nat.lt_succ_self _
        · have := hult f h; omega)
      rw [List.length_cons, hul] at h1
      cases hR : L (i + 1) (nodes ++ [newNode x]) (fs.length + 1) with
      | error f =>
        rw [hR] at h1
        dsimp only at h1
        show rest (St fs top acc nodes) ws i = .error f
        rw [h0]
        exact h1
      | ok r =>
        obtain ⟨b, i1, nodes1⟩ := r
        rw [hR] at h1
        dsimp only at h1 ⊢
        obtain ⟨hi1, hl1, hr1, ⟨ext, hext⟩, hst1⟩ := h1
        have hr1' : rest (St fs top acc nodes) ws i = rest (Sx (⟨nodes.length, x, false, b⟩ :: u) t nodes1) ws i1 := h0.trans hr1
        have hn1 : nodes1[nodes.length]? = some (newNode x) := by rw [hext, List.getElem?_append_left (by simp), List.getElem?_append_right (Nat.le_refl _)]; simp
        have fin : ∀ {e : Bool} {a : List Int} {nd : List Node} {j : Nat}, rest (St fs top acc nodes) ws i = rest (Sx (⟨nodes.length, x, e, a⟩ :: u) t nd) ws j → i + 1 ≤ j → Stops ws j → (∃ y, nd[nodes.length]? = some y ∧ y.at_ = x.at_ ∧ (e = false → y.has = false ∧ y.els = [])) → (∃ ext', nd = nodes ++ ext') →
            (e = false → ∀ z, ws[j]? = some z → z.kind ≠ 3) →
            j ≤ ws.length → PostN ws fs top acc nodes i (finN (finB ws x j (if e then setEls nd nodes.length a else setBody nd nodes.length a)) nodes.length (kindOf x.kind)) := by
          intro e a nd j hr hj hs hy hnd he2 hjl
          obtain ⟨y, hy1, hy2, hy3⟩ := hy
          obtain ⟨ext', hnd⟩ := hnd
          unfold finB
          cases hz : ws[j]? with
          | none =>
            show rest (St fs top acc nodes) ws i = .error _
            rw [hr]
            exact open_end (g := ⟨nodes.length, x, e, a⟩) hz hy1 hune hy2
          | some z =>
            dsimp only
            rcases hs z hz with h3 | h5
            · rw [if_pos h3]
              show rest (St fs top acc nodes) ws i = .error _
              rw [hr]
              refine open_else_bad hz h3 ?_
              cases e with
              | true => exact .inr rfl
              | false => exact absurd h3 (he2 rfl z hz)
            · rw [if_neg (by omega)]
              have hzl := (List.getElem?_eq_some_iff.1 hz).1
              refine ⟨by omega, by omega, rfl, ?_, ?_⟩
              · rw [hr, open_pop (g := ⟨nodes.length, x, e, a⟩) hz h5 hune, hSt]
                congr 2
                unfold setKind setEls setBody
                cases e with
                | true =>
                  rw [if_pos rfl, modify_two]
                  refine modify_congr (fun q hq => ?_)
                  rfl
                | false =>
                  rw [if_neg (by simp), modify_two]
                  refine modify_congr (fun q hq => ?_)
                  rw [hy1] at hq
                  cases hq
                  unfold fillNode
                  simp [hy3 rfl]
              · unfold setKind setEls setBody
                rw [hnd]
                cases e with
                | true =>
                  rw [if_pos rfl, modify_two, modify_tail]
                  exact ⟨_, rfl⟩
                | false =>
                  rw [if_neg (by simp), modify_two, modify_tail]
                  exact ⟨_, rfl⟩
        have hext1 : ∃ ext', nodes1 = nodes ++ ext' := ⟨[newNode x] ++ ext, by rw [hext, List.append_assoc]⟩
        cases hz : ws[i1]? with
        | none =>
          have := fin (e := false) hr1' hi1 hst1 ⟨_, hn1, rfl, fun _ => ⟨rfl, rfl⟩⟩ hext1 (fun _ z h => by rw [hz] at h; cases h) hl1
          exact this
        | some y =>
          dsimp only
          by_cases h3 : y.kind = 3
          · rw [if_pos h3]
            by_cases h4 : x.kind = 4
            · rw [if_pos h4]
              show rest (St fs top acc nodes) ws i = .error _
              rw [hr1']
              exact open_else_bad hz h3 (.inl (by dsimp only; omega))
            · rw [if_neg h4]
              have h2 : x.kind = 2 := by omega
              have hr2 := open_else (b := b) (t := t) hz h3 h2 hune hn1 rfl
              have hbl : (setBody nodes1 nodes.length b).length = nodes1.length := by simp [setBody]
              have h5 := hL (i1 + 1) (setBody nodes1 nodes.length b) (⟨nodes.length, x, true, []⟩ :: u) t (by omega) (by have := (List.getElem?_eq_some_iff.1 hz).1; omega) (fun f h => by
                rw [hbl, hext, List.length_append, List.length_append, List.length_singleton]
                rcases List.mem_cons.1 h with rfl | h
                · show nodes.length < _; omega
                · have := hult f h; omega)
              rw [List.length_cons, hul] at h5
              cases hR2 : L (i1 + 1) (setBody nodes1 nodes.length b) (fs.length + 1) with
              | error f =>
                rw [hR2] at h5
                dsimp only at h5
                show rest (St fs top acc nodes) ws i = .error f
                rw [hr1', hr2]
                exact h5
              | ok r2 =>
                obtain ⟨e2, i2, nodes2⟩ := r2
                rw [hR2] at h5
                dsimp only at h5 ⊢
                obtain ⟨hi2, hl2, hr3, ⟨ext2, hext2⟩, hst2⟩ := h5
                have hb2 : (setBody nodes1 nodes.length b)[nodes.length]? = some { newNode x with body := b } := by
                  unfold setBody
                  rw [List.getElem?_modify, hn1]
                  simp
                have hn2 : nodes2[nodes.length]? = some { newNode x with body := b } := by
                  rw [hext2, List.getElem?_append_left (List.getElem?_eq_some_iff.1 hb2).1]
                  exact hb2
                have := fin (e := true) ((hr1'.trans hr2).trans hr3) (by omega) hst2 ⟨_, hn2, rfl, fun h => by cases h⟩ (by
                  rw [hext2, hext]
                  unfold setBody
                  rw [List.append_assoc nodes, modify_tail]
                  exact ⟨_, List.append_assoc _ _ _⟩) (fun h => by cases h) hl2
                exact this
          · rw [if_neg h3]
            have := fin (e := false) hr1' hi1 hst1 ⟨_, hn1, rfl, fun _ => ⟨rfl, rfl⟩⟩ hext1 (fun _ z h => by rw [hz] at h; cases h; exact h3) hl1
            exact this
  · unfold nodeP
    rw [if_neg ho]
    refine ⟨Nat.le_refl _, hlt, rfl, ?_, [nodeOf x], ?_⟩
    · rw [rest_ok hx (by rw [hstep, if_neg (fun h => ho h.1), if_neg ho])]
      congr 1
      unfold setKind
      rw [modify_last]
      show _ = St fs top (acc ++ [(nodes.length : Int)]) (nodes ++ [nodeOf x])
      have : (St fs top (acc ++ [(nodes.length : Int)]) (nodes ++ [nodeOf x])).st = (fs.map opn).reverse := by show ((upd fs top _).1.map opn).reverse = _; rw [upd_opn]
      rw [← this]
    · unfold setKind
      rw [modify_last]
      rfl

theorem sim_list (ws : List Word) : ∀ (n i : Nat) (nodes : List Node) (fs : List Frame) (top acc : List Int), ws.length + 1 ≤ i + n → i ≤ ws.length → (∀ f ∈ fs, f.k < nodes.length) →
    match listP ws n i nodes fs.length acc with
    | .error f => rest (St fs top acc nodes) ws i = .error f
    | .ok (acc', i', nodes') => i ≤ i' ∧ i' ≤ ws.length ∧ rest (St fs top acc nodes) ws i = rest (St fs top acc' nodes') ws i' ∧ (∃ ext, nodes' = nodes ++ ext) ∧ Stops ws i' := by
  intro n
  induction n with
  | zero =>
    intro i nodes fs top acc hn hi hf
    omega
  | succ n ih =>
    intro i nodes fs top acc hn hi hf
    unfold listP
    cases hx : ws[i]? with
    | none => exact ⟨Nat.le_refl _, hi, rfl, ⟨[], by simp⟩, fun x h => by rw [hx] at h; cases h⟩
    | some w =>
      have hlt := (List.getElem?_eq_some_iff.1 hx).1
      dsimp only
      by_cases hs : w.kind = 3 ∨ w.kind = 5
      · rw [if_pos hs]
        exact ⟨Nat.le_refl _, hi, rfl, ⟨[], by simp⟩, fun x h => by rw [hx] at h; cases h; exact hs⟩
      · rw [if_neg hs]
        have hL : SimL ws (fun i nd d => listP ws n i nd d []) (i + 1) := fun i' nodes' fs' top' hi' hl' hf' => ih i' nodes' fs' top' [] (by omega) hl' hf'
        have h1 := sim_node hL i nodes fs top acc w hx (Nat.le_refl _) (fun h => hs (.inl h)) (fun h => hs (.inr h)) hf
        cases hR : nodeP (fun i nd d => listP ws n i nd d []) ws (i + 1) nodes w fs.length with
        | error f =>
          rw [hR] at h1
          exact h1
        | ok r =>
          obtain ⟨k, i1, nd⟩ := r
          rw [hR] at h1
          dsimp only at h1 ⊢
          obtain ⟨a1, a0, a2, a3, ext, a4⟩ := h1
          have h2 := ih i1 nd fs top (acc ++ [k]) (by omega) a0 (fun f h => by have := hf f h; rw [a4, List.length_append]; omega)
          cases hR2 : listP ws n i1 nd fs.length (acc ++ [k]) with
          | error f =>
            rw [hR2] at h2
            dsimp only at h2 ⊢
            rw [a3]
            exact h2
          | ok r2 =>
            obtain ⟨acc2, i2, nd2⟩ := r2
            rw [hR2] at h2
            dsimp only at h2 ⊢
            obtain ⟨b1, b0, b2, ⟨ext2, b3⟩, b4⟩ := h2
            exact ⟨by omega, b0, a3.trans b2, ⟨ext ++ ext2, by rw [b3, a4, List.append_assoc]⟩, b4⟩
theorem tree_stack (ws : List Word) : treeF ws = stackR ws := by
  have h := sim_list ws (ws.length + 1) 0 [] [] [] [] (by omega) (Nat.zero_le _) (fun f h => by cases h)
  have h0 : rest (St [] [] [] []) ws 0 = stackR ws := by
    unfold rest stackR
    rw [List.drop_zero]
    rfl
  rw [h0] at h
  unfold treeF
  rw [List.length_nil] at h
  cases hR : listP ws (ws.length + 1) 0 [] 0 [] with
  | error f =>
    rw [hR] at h
    exact h.symm
  | ok r =>
    obtain ⟨top, i, nodes⟩ := r
    rw [hR] at h
    dsimp only at h ⊢
    obtain ⟨-, -, h2, -, h4⟩ := h
    rw [h2]
    cases hx : ws[i]? with
    | none =>
      rw [rest_end hx]
      rfl
    | some x =>
      dsimp only
      symm
      refine rest_err hx ?_
      unfold stepR
      rcases h4 x hx with h3 | h5
      · rw [if_pos h3]
        rfl
      · rw [if_neg (by omega), if_pos h5]
        rfl
theorem parse_ref (s : List UInt8) : parseF s = refParse s := by
  unfold parseF refParse lexAllF
  by_cases h1 : 65536 < s.length
  · rw [if_pos h1, if_pos h1]
    rfl
  · rw [if_neg h1, if_neg h1]
    by_cases h2 : 0 ≤ (lexW 0 s).2
    · rw [if_pos h2, if_pos h2]
      rfl
    · rw [if_neg h2, if_neg h2]
      dsimp only
      rw [if_pos rfl]
      exact tree_stack _
end Go.Proofs.YtcggeaobonblfaaDoor

/- What print.sh wrote of these functions, with a contract of begins of my own (wip/mend.py). -/
namespace Go.Proofs.YtcggeaobonblfaaDoor.PParseTrees
open Go.RowKit Go.Proofs.YtcggeaobonblfaaDoorW.PrintWords Go.Proofs.YtcggeaobonblfaaDoorW.PrintLast Go.Proofs.YtcggeaobonblfaaDoorW.PrintMore
attribute [local go_sem] max2_int min2_int max_two min_two max_three min_three max_four min_four   -- for this text's walks alone
set_option linter.unusedVariables false
set_option linter.unusedSimpArgs false
/-! ### bobbinref13_trim: function 62 -/
mutual
def bobbinref13_trim.j1 : Nat → ByteArray → Option (ByteArray)
  | 0, _ => none
  | k + 1, x0 => bobbinref13_trim.l1 k x0
def bobbinref13_trim.l1 : Nat → ByteArray → Option (ByteArray)
  | 0, _ => none
  | k + 1, x0 => if (x0.size : Int) > 0 then (if 0 ≤ (wrap64 ((x0.size : Int) - 1)) then (if (wrap64 ((x0.size : Int) - 1)) < (x0.size : Int) then (if (bt x0 (wrap64 ((x0.size : Int) - 1))) = 32 then (if (wrap64 ((x0.size : Int) - 1)) ≤ (x0.size : Int) then (bobbinref13_trim.l1 k (x0.extract 0 ((wrap64 ((x0.size : Int) - 1)) : Int).toNat)) else (none)) else (some x0)) else (none)) else (none)) else (some x0)
def bobbinref13_trim.l0 : Nat → ByteArray → Option (ByteArray)
  | 0, _ => none
  | k + 1, x0 => if (x0.size : Int) > 0 then (if 0 < (x0.size : Int) then (if (bt x0 0) = 32 then (if 1 ≤ (x0.size : Int) then (bobbinref13_trim.l0 k (x0.extract 1 x0.size)) else (none)) else (bobbinref13_trim.j1 k x0)) else (none)) else (bobbinref13_trim.j1 k x0)
end
def bobbinref13_trim.f (k : Nat) (a0 : ByteArray) : Option (ByteArray) := bobbinref13_trim.l0 k a0
theorem bobbinref13_trim.mono_l : ∀ k, (∀ y0, LeO (bobbinref13_trim.j1 k y0) (bobbinref13_trim.j1 (k + 1) y0)) ∧ (∀ y0, LeO (bobbinref13_trim.l1 k y0) (bobbinref13_trim.l1 (k + 1) y0)) ∧ (∀ y0, LeO (bobbinref13_trim.l0 k y0) (bobbinref13_trim.l0 (k + 1) y0))
  | 0 => ⟨fun _ r h => by simp [bobbinref13_trim.j1] at h, fun _ r h => by simp [bobbinref13_trim.l1] at h, fun _ r h => by simp [bobbinref13_trim.l0] at h⟩
  | k + 1 => by
    obtain ⟨ih0, ih1, ih2⟩ := bobbinref13_trim.mono_l k
    refine ⟨?_, ?_, ?_⟩
    · intro y0
      unfold bobbinref13_trim.j1
      repeat' first
      | (with_reducible exact ih0 _)
      | (with_reducible exact ih1 _)
      | (with_reducible exact ih2 _)
      | (with_reducible exact LeO.refl _)
      | (with_reducible exact LeO.none _)
      | (with_reducible refine LeO.ite ?_ ?_)
      | (with_reducible refine LeO.bind ?_ (fun _ => ?_))
      | exact ih0 _
      | exact ih1 _
      | exact ih2 _
      | exact LeO.none _
      | refine LeO.ite ?_ ?_
      | refine LeO.bind ?_ (fun _ => ?_)
    · intro y0
      unfold bobbinref13_trim.l1
      repeat' first
      | (with_reducible exact ih0 _)
      | (with_reducible exact ih1 _)
      | (with_reducible exact ih2 _)
      | (with_reducible exact LeO.refl _)
      | (with_reducible exact LeO.none _)
      | (with_reducible refine LeO.ite ?_ ?_)
      | (with_reducible refine LeO.bind ?_ (fun _ => ?_))
      | exact ih0 _
      | exact ih1 _
      | exact ih2 _
      | exact LeO.none _
      | refine LeO.ite ?_ ?_
      | refine LeO.bind ?_ (fun _ => ?_)
    · intro y0
      unfold bobbinref13_trim.l0
      repeat' first
      | (with_reducible exact ih0 _)
      | (with_reducible exact ih1 _)
      | (with_reducible exact ih2 _)
      | (with_reducible exact LeO.refl _)
      | (with_reducible exact LeO.none _)
      | (with_reducible refine LeO.ite ?_ ?_)
      | (with_reducible refine LeO.bind ?_ (fun _ => ?_))
      | exact ih0 _
      | exact ih1 _
      | exact ih2 _
      | exact LeO.none _
      | refine LeO.ite ?_ ?_
      | refine LeO.bind ?_ (fun _ => ?_)
theorem bobbinref13_trim.mono : ∀ a0 k, LeO (bobbinref13_trim.f k a0) (bobbinref13_trim.f (k + 1) a0) := by
  intro a0 k
  obtain ⟨ih0, ih1, ih2⟩ := bobbinref13_trim.mono_l k
  unfold bobbinref13_trim.f
  repeat' first
      | (with_reducible exact ih0 _)
      | (with_reducible exact ih1 _)
      | (with_reducible exact ih2 _)
      | (with_reducible exact LeO.refl _)
      | (with_reducible exact LeO.none _)
      | (with_reducible refine LeO.ite ?_ ?_)
      | (with_reducible refine LeO.bind ?_ (fun _ => ?_))
      | exact ih0 _
      | exact ih1 _
      | exact ih2 _
      | exact LeO.none _
      | refine LeO.ite ?_ ?_
      | refine LeO.bind ?_ (fun _ => ?_)
set_option maxHeartbeats 8000000 in
set_option maxRecDepth 100000 in
theorem bobbinref13_trim.calls (k : Nat) (a0 : ByteArray) (r : ByteArray) (w : World) (h : bobbinref13_trim.f k a0 = some r) :
    Calls Tryd.prog 62 #[.string a0] w fun e w' => e = .returned (.string r) ∧ Drawn0 w w' := by
  have H : (bobbinref13_trim.l0 k a0) = some r := h
  clear h
  have HC2 := Aside0.mk H
  clear H
  go_enter Tryd.func62, Tryd.ntmps62
  go_upto_block 0 with (fail)
  go_cut [0] (fun v0 wc => ∃ (kq : Nat) (x0_1 : ByteArray), v0 = .string x0_1 ∧ Aside0 (bobbinref13_trim.j1 kq x0_1 = some r) ∧ Aside0 (kq ≤ k) ∧ Drawn0 w wc)
  case first =>
    have H := HC2.out
    clear HC2
    have H' := Aside0.mk H
    clear H
    go_wp2
    go_loopg [0] k (fun kq v0 w' => ∃ (x0_1 : ByteArray), v0 = .string x0_1 ∧ Aside0 (bobbinref13_trim.l0 kq x0_1 = some r) ∧ Aside0 (kq ≤ k) ∧ Drawn0 w w')
    case atStart => exact ⟨(a0), (by first | rfl | (simp; done) | (simp [*]; done)), H', ⟨Nat.le_refl _⟩, by repeat (first | exact Drawn0.refl _ | apply Drawn0.step)⟩
    case round =>
      clear H'
      try clear p2
      obtain ⟨x0_1, rfl, HA, HK1, ⟨m1, rfl⟩⟩ := hrel
      cases gk with
      | zero => exact absurd HA.out (by simp [bobbinref13_trim.l0])
      | succ k1 =>
        have H := HA.out
        clear HA
        simp only [bobbinref13_trim.l0] at H
        by_cases c3 : (x0_1.size : Int) > 0
        · rw [if_pos c3] at H
          have c3b0 : decide (0 < (x0_1.size : Int)) = true := decide_eq_true c3
          have c3b1 : decide (0 < x0_1.size) = true := decide_eq_true (by omega)
          clear c3
          (first | rw [c3b0] | (simp only [i64_w, i32_w]; rw [c3b0]) | skip)
          by_cases c4 : 0 < (x0_1.size : Int)
          · rw [if_pos c4] at H
            have c4b0 : decide (0 < (x0_1.size : Int)) = true := decide_eq_true c4
            have c4b1 : decide (0 < x0_1.size) = true := decide_eq_true (by omega)
            clear c4
            by_cases c6 : (bt x0_1 0) = 32
            · rw [if_pos c6] at H
              have c6b0 : ((bt x0_1 0) == 32) = true := beq_iff_eq.mpr c6
              have c6b1 : ((bt x0_1 0) != 32) = false := bne_eq_false_iff_eq.mpr c6
              clear c6
              by_cases c7 : 1 ≤ (x0_1.size : Int)
              · rw [if_pos c7] at H
                have c7b0 := eq_true c7
                have c7b1 : decide (1 ≤ (x0_1.size : Int)) = true := decide_eq_true c7
                clear c7
                have H' := Aside0.mk H
                clear H
                have p5 : 0 ≤ (0 : Int) := (by omega)
                have q5 : 0 < x0_1.size := (by have : (0 : Int) < (x0_1.size : Int) := of_decide_eq_true (by first | (with_reducible assumption) | assumption); omega)
                have hx5 : ∀ h : 0 < x0_1.size, ((x0_1[0]'h).toNat : Int) = bt x0_1 0 := bt_at x0_1 0
                clear p5
                have qi5 : (0 < (x0_1.size : Int)) = True := eq_true (of_decide_eq_true (by first | (with_reducible assumption) | assumption))
                replace q5 := eq_true q5
                go_wp2
                go_roundg k1
                case measure => have := HK1.out; omega
                case rel => exact ⟨(x0_1.extract 1 x0_1.size), (by first | rfl | (simp; done) | (simp [*]; done)), H', ⟨by have := HK1.out; omega⟩, by repeat (first | exact Drawn0.refl _ | apply Drawn0.step)⟩
              · rw [if_neg c7] at H
                exact absurd H (by simp)
            · rw [if_neg c6] at H
              have c6b0 : ((bt x0_1 0) == 32) = false := beq_eq_false_iff_ne.mpr c6
              have c6b1 : ((bt x0_1 0) != 32) = true := bne_iff_ne.mpr c6
              have H' := Aside0.mk H
              clear H
              have p5 : 0 ≤ (0 : Int) := (by omega)
              have q5 : 0 < x0_1.size := (by have : (0 : Int) < (x0_1.size : Int) := of_decide_eq_true (by first | (with_reducible assumption) | assumption); omega)
              have hx5 : ∀ h : 0 < x0_1.size, ((x0_1[0]'h).toNat : Int) = bt x0_1 0 := bt_at x0_1 0
              clear p5
              have qi5 : (0 < (x0_1.size : Int)) = True := eq_true (of_decide_eq_true (by first | (with_reducible assumption) | assumption))
              replace q5 := eq_true q5
              go_wp2
              go_meet
              case rel => exact ⟨_, (x0_1), (by first | rfl | (simp; done) | (simp [*]; done)), H', ⟨by have := HK1.out; first | omega | exact Nat.le_refl _⟩, by repeat (first | exact Drawn0.refl _ | apply Drawn0.step)⟩
          · rw [if_neg c4] at H
            exact absurd H (by simp)
        · rw [if_neg c3] at H
          have c3b0 : decide (0 < (x0_1.size : Int)) = false := decide_eq_false c3
          have c3b1 : decide (0 < x0_1.size) = false := decide_eq_false (by omega)
          clear c3
          (first | rw [c3b0] | (simp only [i64_w, i32_w]; rw [c3b0]) | skip)
          have H' := Aside0.mk H
          clear H
          go_wp2
          go_meet
          case rel => exact ⟨_, (x0_1), (by first | rfl | (simp; done) | (simp [*]; done)), H', ⟨by have := HK1.out; first | omega | exact Nat.le_refl _⟩, by repeat (first | exact Drawn0.refl _ | apply Drawn0.step)⟩
  case rest =>
    clear HC2
    try clear p2
    try clear c3
    try clear c3b0
    try clear c3b1
    try clear c4
    try clear c4b0
    try clear c4b1
    try clear p5
    try clear q5
    try clear hx5
    try clear qi5
    try clear c6
    try clear c6b0
    try clear c6b1
    try clear c7
    try clear c7b0
    try clear c7b1
    try clear p2
    try clear p5
    try clear q5
    obtain ⟨kq, x0_1, rfl, HA, HJ1, ⟨mc1, rfl⟩⟩ := hcut
    cases kq with
    | zero => exact absurd HA.out (by simp [bobbinref13_trim.j1])
    | succ kj1 =>
      have H := HA.out
      clear HA
      simp only [bobbinref13_trim.j1] at H
      have H' := Aside0.mk H
      clear H
      go_wp2
      go_loopg [0] kj1 (fun kq v0 w' => ∃ (x0_2 : ByteArray), v0 = .string x0_2 ∧ Aside0 (bobbinref13_trim.l1 kq x0_2 = some r) ∧ Aside0 (kq ≤ kj1) ∧ Drawn0 w w')
      case atStart => exact ⟨(x0_1), (by first | rfl | (simp; done) | (simp [*]; done)), H', ⟨Nat.le_refl _⟩, by repeat (first | exact Drawn0.refl _ | apply Drawn0.step)⟩
      case round =>
        clear H'
        try clear c1
        try clear p2
        try clear c3
        try clear c3b0
        try clear c3b1
        try clear c4
        try clear c4b0
        try clear c4b1
        try clear p5
        try clear q5
        try clear hx5
        try clear qi5
        try clear c6
        try clear c6b0
        try clear c6b1
        try clear c7
        try clear c7b0
        try clear c7b1
        try clear p2
        try clear p5
        try clear q5
        obtain ⟨x0_2, rfl, HA, HK2, ⟨m2, rfl⟩⟩ := hrel
        cases gk with
        | zero => exact absurd HA.out (by simp [bobbinref13_trim.l1])
        | succ k2 =>
          have H := HA.out
          clear HA
          simp only [bobbinref13_trim.l1] at H
          by_cases c8 : (x0_2.size : Int) > 0
          · rw [if_pos c8] at H
            have c8b0 : decide (0 < (x0_2.size : Int)) = true := decide_eq_true c8
            have c8b1 : decide (0 < x0_2.size) = true := decide_eq_true (by omega)
            clear c8
            obtain ⟨ji9, hji9⟩ : ∃ j_ : Int, (wrap64 ((x0_2.size : Int) - 1)) = j_ := ⟨_, rfl⟩
            replace H : (if 0 ≤ (ji9) then (if (ji9) < (x0_2.size : Int) then (if (bt x0_2 (ji9)) = 32 then (if (ji9) ≤ (x0_2.size : Int) then (bobbinref13_trim.l1 k2 (x0_2.extract 0 ((ji9) : Int).toNat)) else (none)) else (some x0_2)) else (none)) else (none)) = some r := by first | (rw [hji9] at H; exact H) | (simp only [hji9] at H ⊢; exact H)
            have hji9w : (IntKind.i64.wrap ((x0_2.size : Int) - 1)) = ji9 := (i64_w _).trans hji9
            by_cases c10 : 0 ≤ (ji9)
            · rw [if_pos c10] at H
              have c10b0 : decide (0 ≤ (ji9)) = true := decide_eq_true c10
              clear c10
              by_cases c11 : (ji9) < (x0_2.size : Int)
              · rw [if_pos c11] at H
                have c11b0 : decide ((ji9) < (x0_2.size : Int)) = true := decide_eq_true c11
                clear c11
                by_cases c13 : (bt x0_2 (ji9)) = 32
                · rw [if_pos c13] at H
                  have c13b0 : ((bt x0_2 (ji9)) == 32) = true := beq_iff_eq.mpr c13
                  have c13b1 : ((bt x0_2 (ji9)) != 32) = false := bne_eq_false_iff_eq.mpr c13
                  clear c13
                  have c14b0 := eq_true (of_decide_eq_true (by first | (with_reducible assumption) | assumption) : 0 ≤ (ji9))
                  by_cases c15 : (ji9) ≤ (x0_2.size : Int)
                  · rw [if_pos c15] at H
                    have c15b0 := eq_true c15
                    have c15b1 : decide ((ji9) ≤ (x0_2.size : Int)) = true := decide_eq_true c15
                    clear c15
                    have H' := Aside0.mk H
                    clear H
                    have p12 : 0 ≤ ((ji9) : Int) := of_decide_eq_true (by first | (with_reducible assumption) | assumption)
                    have q12 : (ji9) < (x0_2.size : Int) := of_decide_eq_true (by first | (with_reducible assumption) | assumption)
                    have hx12 := bt_at x0_2 (ji9)
                    replace p12 := eq_true p12
                    replace q12 := eq_true q12
                    go_wp2
                    go_roundg k2
                    case measure => have := HJ1.out; have := HK2.out; omega
                    case rel => exact ⟨(x0_2.extract 0 ((ji9) : Int).toNat), (by first | rfl | (simp; done) | (simp only [← hji9] <;> (first | rfl | simp)) | (simp [*]; done)), H', ⟨by have := HJ1.out; have := HK2.out; omega⟩, by repeat (first | exact Drawn0.refl _ | apply Drawn0.step)⟩
                  · rw [if_neg c15] at H
                    exact absurd H (by simp)
                · rw [if_neg c13] at H
                  have c13b0 : ((bt x0_2 (ji9)) == 32) = false := beq_eq_false_iff_ne.mpr c13
                  have c13b1 : ((bt x0_2 (ji9)) != 32) = true := bne_iff_ne.mpr c13
                  obtain rfl := Option.some.inj H
                  have p12 : 0 ≤ ((ji9) : Int) := of_decide_eq_true (by first | (with_reducible assumption) | assumption)
                  have q12 : (ji9) < (x0_2.size : Int) := of_decide_eq_true (by first | (with_reducible assumption) | assumption)
                  have hx12 := bt_at x0_2 (ji9)
                  replace p12 := eq_true p12
                  replace q12 := eq_true q12
                  go_wp2
                  go_ret
                  exact ⟨by first | rfl | (simp; done) | (simp only [← hji9] <;> (first | rfl | simp)) | (simp [*]; done), by repeat (first | exact Drawn0.refl _ | apply Drawn0.step)⟩
              · rw [if_neg c11] at H
                exact absurd H (by simp)
            · rw [if_neg c10] at H
              exact absurd H (by simp)
          · rw [if_neg c8] at H
            have c8b0 : decide (0 < (x0_2.size : Int)) = false := decide_eq_false c8
            have c8b1 : decide (0 < x0_2.size) = false := decide_eq_false (by omega)
            clear c8
            obtain rfl := Option.some.inj H
            go_wp2
            go_ret
            exact ⟨by first | rfl | (simp; done) | (simp [*]; done), by repeat (first | exact Drawn0.refl _ | apply Drawn0.step)⟩

/-! ### bobbinref13_begins: function 63 -/
def bobbinref13_begins.f (a0 : ByteArray) (a1 : ByteArray) : Option (Bool) := if (a0.size : Int) > (a1.size : Int) then (if 0 ≤ (a1.size : Int) then (if (a1.size : Int) ≤ (a0.size : Int) then (if (a0.extract 0 ((a1.size : Int) : Int).toNat).toList = a1.toList then (if (a1.size : Int) < (a0.size : Int) then (some ((bt a0 (a1.size : Int)) == 32)) else (none)) else (some false)) else (none)) else (none)) else (some false)
set_option maxHeartbeats 8000000 in
set_option maxRecDepth 100000 in
theorem bobbinref13_begins.calls (a0 : ByteArray) (a1 : ByteArray) (r : Bool) (w : World) (h : bobbinref13_begins.f a0 a1 = some r) :
    Calls Tryd.prog 63 #[.string a0, .string a1] w fun e w' => e = .returned (.bool r) ∧ Drawn0 w w' := by
  have H : (if (a0.size : Int) > (a1.size : Int) then (if 0 ≤ (a1.size : Int) then (if (a1.size : Int) ≤ (a0.size : Int) then (if (a0.extract 0 ((a1.size : Int) : Int).toNat).toList = a1.toList then (if (a1.size : Int) < (a0.size : Int) then (some ((bt a0 (a1.size : Int)) == 32)) else (none)) else (some false)) else (none)) else (none)) else (some false)) = some r := h
  clear h
  by_cases c3 : (a0.size : Int) > (a1.size : Int)
  · rw [if_pos c3] at H
    have c3b0 : decide ((a1.size : Int) < (a0.size : Int)) = true := decide_eq_true c3
    have c3b1 : decide (a1.size < a0.size) = true := decide_eq_true (Int.ofNat_lt.mp c3)
    clear c3
    by_cases c4 : 0 ≤ (a1.size : Int)
    · rw [if_pos c4] at H
      have c4b0 := eq_true c4
      have c4b1 : decide (0 ≤ (a1.size : Int)) = true := decide_eq_true c4
      clear c4
      by_cases c5 : (a1.size : Int) ≤ (a0.size : Int)
      · rw [if_pos c5] at H
        have c5b0 := eq_true c5
        have c5b1 : decide ((a1.size : Int) ≤ (a0.size : Int)) = true := decide_eq_true c5
        clear c5
        by_cases c6 : (a0.extract 0 ((a1.size : Int) : Int).toNat).toList = a1.toList
        · rw [if_pos c6] at H
          have c6b0 : ((a0.extract 0 ((a1.size : Int) : Int).toNat).toList == a1.toList) = true := beq_iff_eq.mpr c6
          have c6b1 : ((a0.extract 0 ((a1.size : Int) : Int).toNat).toList != a1.toList) = false := bne_eq_false_iff_eq.mpr c6
          clear c6
          by_cases c7 : (a1.size : Int) < (a0.size : Int)
          · rw [if_pos c7] at H
            have c7b0 : decide ((a1.size : Int) < (a0.size : Int)) = true := decide_eq_true c7
            have c7b1 : decide (a1.size < a0.size) = true := decide_eq_true (Int.ofNat_lt.mp c7)
            clear c7
            obtain rfl := Option.some.inj H
            have p8 : 0 ≤ ((a1.size : Int) : Int) := of_decide_eq_true (by first | (with_reducible assumption) | assumption)
            have q8 : (a1.size : Int) < (a0.size : Int) := of_decide_eq_true (by first | (with_reducible assumption) | assumption)
            have hx8 := bt_at a0 (a1.size : Int)
            replace p8 := eq_true p8
            replace q8 := eq_true q8
            rw [Int.toNat_natCast] at c6b0 c6b1
            go_enter Tryd.func63, Tryd.ntmps63
            go_wp2
            go_ret
            exact ⟨by (have hx9 := hx8 (by simpa using of_decide_eq_true c7b1)); (simp only [Int.toNat_natCast] at hx9); rw [← hx9]; rfl, by repeat (first | exact Drawn0.refl _ | apply Drawn0.step)⟩
          · rw [if_neg c7] at H
            exact absurd H (by simp)
        · rw [if_neg c6] at H
          have c6b0 : ((a0.extract 0 ((a1.size : Int) : Int).toNat).toList == a1.toList) = false := beq_eq_false_iff_ne.mpr c6
          have c6b1 : ((a0.extract 0 ((a1.size : Int) : Int).toNat).toList != a1.toList) = true := bne_iff_ne.mpr c6
          obtain rfl := Option.some.inj H
          go_enter Tryd.func63, Tryd.ntmps63
          go_wp2
          go_ret
          exact ⟨by first | rfl | (simp; done) | (simp [*]; done), by repeat (first | exact Drawn0.refl _ | apply Drawn0.step)⟩
      · rw [if_neg c5] at H
        exact absurd H (by simp)
    · rw [if_neg c4] at H
      exact absurd H (by simp)
  · rw [if_neg c3] at H
    have c3b0 : decide ((a1.size : Int) < (a0.size : Int)) = false := decide_eq_false c3
    have c3b1 : decide (a1.size < a0.size) = false := decide_eq_false (fun h => c3 (Int.ofNat_lt.mpr h))
    clear c3
    obtain rfl := Option.some.inj H
    go_enter Tryd.func63, Tryd.ntmps63
    go_wp2
    go_ret
    exact ⟨by first | rfl | (simp; done) | (simp [*]; done), by repeat (first | exact Drawn0.refl _ | apply Drawn0.step)⟩

/-! ### bobbinref13_Name: function 89 -/
mutual
def bobbinref13_Name.j0 : Nat → ByteArray → Bool → Option (Bool)
  | 0, _, _ => none
  | k + 1, x0, x22 => if x22 = true then (some false) else (bobbinref13_Name.l0 k x0 0)
def bobbinref13_Name.l0 : Nat → ByteArray → Int → Option (Bool)
  | 0, _, _ => none
  | k + 1, x0, x3 => if x3 < (x0.size : Int) then (if 0 ≤ x3 then (if (bt x0 x3) ≥ 97 then (if (bt x0 x3) ≤ 122 then (bobbinref13_Name.l0 k x0 (wrap64 (x3 + 1))) else (if (bt x0 x3) ≥ 48 then (if (bt x0 x3) ≤ 57 then (bobbinref13_Name.l0 k x0 (wrap64 (x3 + 1))) else (if ((bt x0 x3) = 95) then (bobbinref13_Name.l0 k x0 (wrap64 (x3 + 1))) else (some false))) else (if ((bt x0 x3) = 95) then (bobbinref13_Name.l0 k x0 (wrap64 (x3 + 1))) else (some false)))) else (if (bt x0 x3) ≥ 48 then (if (bt x0 x3) ≤ 57 then (bobbinref13_Name.l0 k x0 (wrap64 (x3 + 1))) else (if ((bt x0 x3) = 95) then (bobbinref13_Name.l0 k x0 (wrap64 (x3 + 1))) else (some false))) else (if ((bt x0 x3) = 95) then (bobbinref13_Name.l0 k x0 (wrap64 (x3 + 1))) else (some false)))) else (none)) else (some true)
end
def bobbinref13_Name.f (k : Nat) (a0 : ByteArray) : Option (Bool) := if (a0.size : Int) = 0 then (bobbinref13_Name.j0 k a0 true) else (if (a0.size : Int) > 32 then (bobbinref13_Name.j0 k a0 true) else (if 0 < (a0.size : Int) then (if (bt a0 0) < 97 then (bobbinref13_Name.j0 k a0 true) else (bobbinref13_Name.j0 k a0 (decide ((bt a0 0) > 122)))) else (none)))
theorem bobbinref13_Name.mono_l : ∀ k, (∀ y0 y1, LeO (bobbinref13_Name.j0 k y0 y1) (bobbinref13_Name.j0 (k + 1) y0 y1)) ∧ (∀ y0 y1, LeO (bobbinref13_Name.l0 k y0 y1) (bobbinref13_Name.l0 (k + 1) y0 y1))
  | 0 => ⟨fun _ _ r h => by simp [bobbinref13_Name.j0] at h, fun _ _ r h => by simp [bobbinref13_Name.l0] at h⟩
  | k + 1 => by
    obtain ⟨ih0, ih1⟩ := bobbinref13_Name.mono_l k
    refine ⟨?_, ?_⟩
    · intro y0 y1
      unfold bobbinref13_Name.j0
      repeat' first
      | (with_reducible exact ih0 _ _)
      | (with_reducible exact ih1 _ _)
      | (with_reducible exact LeO.refl _)
      | (with_reducible exact LeO.none _)
      | (with_reducible refine LeO.ite ?_ ?_)
      | (with_reducible refine LeO.bind ?_ (fun _ => ?_))
      | exact ih0 _ _
      | exact ih1 _ _
      | exact LeO.none _
      | refine LeO.ite ?_ ?_
      | refine LeO.bind ?_ (fun _ => ?_)
    · intro y0 y1
      unfold bobbinref13_Name.l0
      repeat' first
      | (with_reducible exact ih0 _ _)
      | (with_reducible exact ih1 _ _)
      | (with_reducible exact LeO.refl _)
      | (with_reducible exact LeO.none _)
      | (with_reducible refine LeO.ite ?_ ?_)
      | (with_reducible refine LeO.bind ?_ (fun _ => ?_))
      | exact ih0 _ _
      | exact ih1 _ _
      | exact LeO.none _
      | refine LeO.ite ?_ ?_
      | refine LeO.bind ?_ (fun _ => ?_)
theorem bobbinref13_Name.mono : ∀ a0 k, LeO (bobbinref13_Name.f k a0) (bobbinref13_Name.f (k + 1) a0) := by
  intro a0 k
  obtain ⟨ih0, ih1⟩ := bobbinref13_Name.mono_l k
  unfold bobbinref13_Name.f
  repeat' first
      | (with_reducible exact ih0 _ _)
      | (with_reducible exact ih1 _ _)
      | (with_reducible exact LeO.refl _)
      | (with_reducible exact LeO.none _)
      | (with_reducible refine LeO.ite ?_ ?_)
      | (with_reducible refine LeO.bind ?_ (fun _ => ?_))
      | exact ih0 _ _
      | exact ih1 _ _
      | exact LeO.none _
      | refine LeO.ite ?_ ?_
      | refine LeO.bind ?_ (fun _ => ?_)
set_option maxHeartbeats 8000000 in
set_option maxRecDepth 100000 in
theorem bobbinref13_Name.calls (k : Nat) (a0 : ByteArray) (r : Bool) (w : World) (h : bobbinref13_Name.f k a0 = some r) :
    Calls Tryd.prog 89 #[.string a0] w fun e w' => e = .returned (.bool r) ∧ Drawn0 w w' := by
  have H : (if (a0.size : Int) = 0 then (bobbinref13_Name.j0 k a0 true) else (if (a0.size : Int) > 32 then (bobbinref13_Name.j0 k a0 true) else (if 0 < (a0.size : Int) then (if (bt a0 0) < 97 then (bobbinref13_Name.j0 k a0 true) else (bobbinref13_Name.j0 k a0 (decide ((bt a0 0) > 122)))) else (none)))) = some r := h
  clear h
  have HC2 := Aside0.mk H
  clear H
  go_enter Tryd.func89, Tryd.ntmps89
  go_upto_region 1 with (fail)
  go_cut [22] (fun v22 wc => ∃ (kq : Nat) (x22_1 : Bool), v22 = .bool x22_1 ∧ Aside0 (bobbinref13_Name.j0 kq a0 x22_1 = some r) ∧ Aside0 (kq ≤ k) ∧ Drawn0 w wc)
  case first =>
    have H := HC2.out
    clear HC2
    by_cases c3 : (a0.size : Int) = 0
    · rw [if_pos c3] at H
      have c3b0 : ((a0.size : Int) == 0) = true := beq_iff_eq.mpr c3
      have c3b1 : ((a0.size : Int) != 0) = false := bne_eq_false_iff_eq.mpr c3
      clear c3
      (first | rw [c3b0] | (simp only [i64_w, i32_w]; rw [c3b0]) | skip)
      have H' := Aside0.mk H
      clear H
      go_wp2
      go_meet
      case rel => exact ⟨_, (true), (by first | rfl | (simp; done) | (simp [*]; done)), H', ⟨by first | omega | exact Nat.le_refl _⟩, by repeat (first | exact Drawn0.refl _ | apply Drawn0.step)⟩
    · rw [if_neg c3] at H
      have c3b0 : ((a0.size : Int) == 0) = false := beq_eq_false_iff_ne.mpr c3
      have c3b1 : ((a0.size : Int) != 0) = true := bne_iff_ne.mpr c3
      (first | rw [c3b0] | (simp only [i64_w, i32_w]; rw [c3b0]) | skip)
      by_cases c4 : (a0.size : Int) > 32
      · rw [if_pos c4] at H
        have c4b0 : decide (32 < (a0.size : Int)) = true := decide_eq_true c4
        have c4b1 : decide (32 < a0.size) = true := decide_eq_true (by omega)
        clear c4
        have H' := Aside0.mk H
        clear H
        go_wp2
        go_meet
        case rel => exact ⟨_, (true), (by first | rfl | (simp; done) | (simp [*]; done)), H', ⟨by first | omega | exact Nat.le_refl _⟩, by repeat (first | exact Drawn0.refl _ | apply Drawn0.step)⟩
      · rw [if_neg c4] at H
        have c4b0 : decide (32 < (a0.size : Int)) = false := decide_eq_false c4
        have c4b1 : decide (32 < a0.size) = false := decide_eq_false (by omega)
        clear c4
        by_cases c5 : 0 < (a0.size : Int)
        · rw [if_pos c5] at H
          have c5b0 : decide (0 < (a0.size : Int)) = true := decide_eq_true c5
          have c5b1 : decide (0 < a0.size) = true := decide_eq_true (by omega)
          clear c5
          by_cases c7 : (bt a0 0) < 97
          · rw [if_pos c7] at H
            have c7b0 : decide ((bt a0 0) < 97) = true := decide_eq_true c7
            clear c7
            have H' := Aside0.mk H
            clear H
            have p6 : 0 ≤ (0 : Int) := (by omega)
            have q6 : 0 < a0.size := (by have : (0 : Int) < (a0.size : Int) := of_decide_eq_true (by first | (with_reducible assumption) | assumption); omega)
            have hx6 : ∀ h : 0 < a0.size, ((a0[0]'h).toNat : Int) = bt a0 0 := bt_at a0 0
            clear p6
            have qi6 : (0 < (a0.size : Int)) = True := eq_true (of_decide_eq_true (by first | (with_reducible assumption) | assumption))
            replace q6 := eq_true q6
            go_wp2
            go_meet
            case rel => exact ⟨_, (true), (by first | rfl | (simp; done) | (simp [*]; done)), H', ⟨by first | omega | exact Nat.le_refl _⟩, by repeat (first | exact Drawn0.refl _ | apply Drawn0.step)⟩
          · rw [if_neg c7] at H
            have c7b0 : decide ((bt a0 0) < 97) = false := decide_eq_false c7
            clear c7
            have H' := Aside0.mk H
            clear H
            have p6 : 0 ≤ (0 : Int) := (by omega)
            have q6 : 0 < a0.size := (by have : (0 : Int) < (a0.size : Int) := of_decide_eq_true (by first | (with_reducible assumption) | assumption); omega)
            have hx6 : ∀ h : 0 < a0.size, ((a0[0]'h).toNat : Int) = bt a0 0 := bt_at a0 0
            clear p6
            have qi6 : (0 < (a0.size : Int)) = True := eq_true (of_decide_eq_true (by first | (with_reducible assumption) | assumption))
            replace q6 := eq_true q6
            have p8 : 0 ≤ (0 : Int) := (by omega)
            have q8 : 0 < a0.size := (by have : (0 : Int) < (a0.size : Int) := of_decide_eq_true (by first | (with_reducible assumption) | assumption); omega)
            have hx8 : ∀ h : 0 < a0.size, ((a0[0]'h).toNat : Int) = bt a0 0 := bt_at a0 0
            clear p8
            have qi8 : (0 < (a0.size : Int)) = True := eq_true (of_decide_eq_true (by first | (with_reducible assumption) | assumption))
            replace q8 := eq_true q8
            go_wp2
            go_meet
            case rel => exact ⟨_, (decide ((bt a0 0) > 122)), (by first | rfl | (simp; done) | (simp [*]; done)), H', ⟨by first | omega | exact Nat.le_refl _⟩, by repeat (first | exact Drawn0.refl _ | apply Drawn0.step)⟩
        · rw [if_neg c5] at H
          exact absurd H (by simp)
  case rest =>
    clear HC2
    try clear p2
    try clear c3
    try clear c3b0
    try clear c3b1
    try clear c4
    try clear c4b0
    try clear c4b1
    try clear c5
    try clear c5b0
    try clear c5b1
    try clear p6
    try clear q6
    try clear hx6
    try clear qi6
    try clear c7
    try clear c7b0
    try clear c8
    try clear p8
    try clear q8
    try clear hx8
    try clear qi8
    try clear p6
    try clear p8
    try clear q6
    try clear q8
    obtain ⟨kq, x22_1, rfl, HA, HJ1, ⟨mc1, rfl⟩⟩ := hcut
    cases kq with
    | zero => exact absurd HA.out (by simp [bobbinref13_Name.j0])
    | succ kj1 =>
      have H := HA.out
      clear HA
      simp only [bobbinref13_Name.j0] at H
      by_cases c9 : x22_1 = true
      · subst c9
        have H1 : (some false) = some r := by rw [if_pos rfl] at H; exact H
        clear H
        have H := H1
        clear H1
        obtain rfl := Option.some.inj H
        go_wp2
        go_ret
        exact ⟨by first | rfl | (simp; done) | (simp [*]; done), by repeat (first | exact Drawn0.refl _ | apply Drawn0.step)⟩
      · replace c9 := Bool.eq_false_iff.mpr c9
        subst c9
        have H1 : (bobbinref13_Name.l0 kj1 a0 0) = some r := by rw [if_neg (show ¬ (false = true) by decide)] at H; exact H
        clear H
        have H := H1
        clear H1
        have H' := Aside0.mk H
        clear H
        go_wp2
        go_loopg [3] kj1 (fun kq v3 w' => ∃ (x3_2 : Int), v3 = .int .i64 x3_2 ∧ Aside0 (bobbinref13_Name.l0 kq a0 x3_2 = some r) ∧ Aside0 (kq ≤ kj1) ∧ Drawn0 w w')
        case atStart => exact ⟨(0), (by first | rfl | (simp; done) | (simp [*]; done)), H', ⟨Nat.le_refl _⟩, by repeat (first | exact Drawn0.refl _ | apply Drawn0.step)⟩
        case round =>
          clear H'
          try clear c1
          try clear p2
          try clear c3
          try clear c3b0
          try clear c3b1
          try clear c4
          try clear c4b0
          try clear c4b1
          try clear c5
          try clear c5b0
          try clear c5b1
          try clear p6
          try clear q6
          try clear hx6
          try clear qi6
          try clear c7
          try clear c7b0
          try clear c8
          try clear p8
          try clear q8
          try clear hx8
          try clear qi8
          try clear c9
          try clear p2
          try clear p6
          try clear p8
          try clear q6
          try clear q8
          obtain ⟨x3_2, rfl, HA, HK2, ⟨m2, rfl⟩⟩ := hrel
          cases gk with
          | zero => exact absurd HA.out (by simp [bobbinref13_Name.l0])
          | succ k2 =>
            have H := HA.out
            clear HA
            simp only [bobbinref13_Name.l0] at H
            by_cases c10 : x3_2 < (a0.size : Int)
            · rw [if_pos c10] at H
              have c10b0 : decide (x3_2 < (a0.size : Int)) = true := decide_eq_true c10
              clear c10
              by_cases c11 : 0 ≤ x3_2
              · rw [if_pos c11] at H
                have c11b0 : decide (0 ≤ x3_2) = true := decide_eq_true c11
                clear c11
                by_cases c13 : (bt a0 x3_2) ≥ 97
                · rw [if_pos c13] at H
                  have c13b0 : decide (97 ≤ (bt a0 x3_2)) = true := decide_eq_true c13
                  clear c13
                  by_cases c14 : (bt a0 x3_2) ≤ 122
                  · rw [if_pos c14] at H
                    have c14b0 : decide ((bt a0 x3_2) ≤ 122) = true := decide_eq_true c14
                    clear c14
                    have H' := Aside0.mk H
                    clear H
                    have p12 : 0 ≤ (x3_2 : Int) := of_decide_eq_true (by first | (with_reducible assumption) | assumption)
                    have q12 : x3_2 < (a0.size : Int) := of_decide_eq_true (by first | (with_reducible assumption) | assumption)
                    have hx12 := bt_at a0 x3_2
                    replace p12 := eq_true p12
                    replace q12 := eq_true q12
                    go_wp2
                    go_roundg k2
                    case measure => have := HJ1.out; have := HK2.out; omega
                    case rel => exact ⟨(wrap64 (x3_2 + 1)), (by first | rfl | (simp; done) | (simp [*]; done)), H', ⟨by have := HJ1.out; have := HK2.out; omega⟩, by repeat (first | exact Drawn0.refl _ | apply Drawn0.step)⟩
                  · rw [if_neg c14] at H
                    have c14b0 : decide ((bt a0 x3_2) ≤ 122) = false := decide_eq_false c14
                    clear c14
                    by_cases c15 : (bt a0 x3_2) ≥ 48
                    · rw [if_pos c15] at H
                      have c15b0 : decide (48 ≤ (bt a0 x3_2)) = true := decide_eq_true c15
                      clear c15
                      by_cases c16 : (bt a0 x3_2) ≤ 57
                      · rw [if_pos c16] at H
                        have c16b0 : decide ((bt a0 x3_2) ≤ 57) = true := decide_eq_true c16
                        clear c16
                        have H' := Aside0.mk H
                        clear H
                        have p12 : 0 ≤ (x3_2 : Int) := of_decide_eq_true (by first | (with_reducible assumption) | assumption)
                        have q12 : x3_2 < (a0.size : Int) := of_decide_eq_true (by first | (with_reducible assumption) | assumption)
                        have hx12 := bt_at a0 x3_2
                        replace p12 := eq_true p12
                        replace q12 := eq_true q12
                        go_wp2
                        go_roundg k2
                        case measure => have := HJ1.out; have := HK2.out; omega
                        case rel => exact ⟨(wrap64 (x3_2 + 1)), (by first | rfl | (simp; done) | (simp [*]; done)), H', ⟨by have := HJ1.out; have := HK2.out; omega⟩, by repeat (first | exact Drawn0.refl _ | apply Drawn0.step)⟩
                      · rw [if_neg c16] at H
                        have c16b0 : decide ((bt a0 x3_2) ≤ 57) = false := decide_eq_false c16
                        clear c16
                        by_cases c17 : ((bt a0 x3_2) = 95)
                        · rw [if_pos c17] at H
                          have c17b0 : ((bt a0 x3_2) == 95) = true := beq_iff_eq.mpr c17
                          have c17b1 : ((bt a0 x3_2) != 95) = false := bne_eq_false_iff_eq.mpr c17
                          clear c17
                          have H' := Aside0.mk H
                          clear H
                          have p12 : 0 ≤ (x3_2 : Int) := of_decide_eq_true (by first | (with_reducible assumption) | assumption)
                          have q12 : x3_2 < (a0.size : Int) := of_decide_eq_true (by first | (with_reducible assumption) | assumption)
                          have hx12 := bt_at a0 x3_2
                          replace p12 := eq_true p12
                          replace q12 := eq_true q12
                          go_wp2
                          go_roundg k2
                          case measure => have := HJ1.out; have := HK2.out; omega
                          case rel => exact ⟨(wrap64 (x3_2 + 1)), (by first | rfl | (simp; done) | (simp [*]; done)), H', ⟨by have := HJ1.out; have := HK2.out; omega⟩, by repeat (first | exact Drawn0.refl _ | apply Drawn0.step)⟩
                        · rw [if_neg c17] at H
                          have c17b0 : ((bt a0 x3_2) == 95) = false := beq_eq_false_iff_ne.mpr c17
                          have c17b1 : ((bt a0 x3_2) != 95) = true := bne_iff_ne.mpr c17
                          obtain rfl := Option.some.inj H
                          have p12 : 0 ≤ (x3_2 : Int) := of_decide_eq_true (by first | (with_reducible assumption) | assumption)
                          have q12 : x3_2 < (a0.size : Int) := of_decide_eq_true (by first | (with_reducible assumption) | assumption)
                          have hx12 := bt_at a0 x3_2
                          replace p12 := eq_true p12
                          replace q12 := eq_true q12
                          go_wp2
                          go_ret
                          exact ⟨by first | rfl | (simp; done) | (simp [*]; done), by repeat (first | exact Drawn0.refl _ | apply Drawn0.step)⟩
                    · rw [if_neg c15] at H
                      have c15b0 : decide (48 ≤ (bt a0 x3_2)) = false := decide_eq_false c15
                      clear c15
                      by_cases c18 : ((bt a0 x3_2) = 95)
                      · rw [if_pos c18] at H
                        have c18b0 : ((bt a0 x3_2) == 95) = true := beq_iff_eq.mpr c18
                        have c18b1 : ((bt a0 x3_2) != 95) = false := bne_eq_false_iff_eq.mpr c18
                        clear c18
                        have H' := Aside0.mk H
                        clear H
                        have p12 : 0 ≤ (x3_2 : Int) := of_decide_eq_true (by first | (with_reducible assumption) | assumption)
                        have q12 : x3_2 < (a0.size : Int) := of_decide_eq_true (by first | (with_reducible assumption) | assumption)
                        have hx12 := bt_at a0 x3_2
                        replace p12 := eq_true p12
                        replace q12 := eq_true q12
                        go_wp2
                        go_roundg k2
                        case measure => have := HJ1.out; have := HK2.out; omega
                        case rel => exact ⟨(wrap64 (x3_2 + 1)), (by first | rfl | (simp; done) | (simp [*]; done)), H', ⟨by have := HJ1.out; have := HK2.out; omega⟩, by repeat (first | exact Drawn0.refl _ | apply Drawn0.step)⟩
                      · rw [if_neg c18] at H
                        have c18b0 : ((bt a0 x3_2) == 95) = false := beq_eq_false_iff_ne.mpr c18
                        have c18b1 : ((bt a0 x3_2) != 95) = true := bne_iff_ne.mpr c18
                        obtain rfl := Option.some.inj H
                        have p12 : 0 ≤ (x3_2 : Int) := of_decide_eq_true (by first | (with_reducible assumption) | assumption)
                        have q12 : x3_2 < (a0.size : Int) := of_decide_eq_true (by first | (with_reducible assumption) | assumption)
                        have hx12 := bt_at a0 x3_2
                        replace p12 := eq_true p12
                        replace q12 := eq_true q12
                        go_wp2
                        go_ret
                        exact ⟨by first | rfl | (simp; done) | (simp [*]; done), by repeat (first | exact Drawn0.refl _ | apply Drawn0.step)⟩
                · rw [if_neg c13] at H
                  have c13b0 : decide (97 ≤ (bt a0 x3_2)) = false := decide_eq_false c13
                  clear c13
                  by_cases c19 : (bt a0 x3_2) ≥ 48
                  · rw [if_pos c19] at H
                    have c19b0 : decide (48 ≤ (bt a0 x3_2)) = true := decide_eq_true c19
                    clear c19
                    by_cases c20 : (bt a0 x3_2) ≤ 57
                    · rw [if_pos c20] at H
                      have c20b0 : decide ((bt a0 x3_2) ≤ 57) = true := decide_eq_true c20
                      clear c20
                      have H' := Aside0.mk H
                      clear H
                      have p12 : 0 ≤ (x3_2 : Int) := of_decide_eq_true (by first | (with_reducible assumption) | assumption)
                      have q12 : x3_2 < (a0.size : Int) := of_decide_eq_true (by first | (with_reducible assumption) | assumption)
                      have hx12 := bt_at a0 x3_2
                      replace p12 := eq_true p12
                      replace q12 := eq_true q12
                      go_wp2
                      go_roundg k2
                      case measure => have := HJ1.out; have := HK2.out; omega
                      case rel => exact ⟨(wrap64 (x3_2 + 1)), (by first | rfl | (simp; done) | (simp [*]; done)), H', ⟨by have := HJ1.out; have := HK2.out; omega⟩, by repeat (first | exact Drawn0.refl _ | apply Drawn0.step)⟩
                    · rw [if_neg c20] at H
                      have c20b0 : decide ((bt a0 x3_2) ≤ 57) = false := decide_eq_false c20
                      clear c20
                      by_cases c21 : ((bt a0 x3_2) = 95)
                      · rw [if_pos c21] at H
                        have c21b0 : ((bt a0 x3_2) == 95) = true := beq_iff_eq.mpr c21
                        have c21b1 : ((bt a0 x3_2) != 95) = false := bne_eq_false_iff_eq.mpr c21
                        clear c21
                        have H' := Aside0.mk H
                        clear H
                        have p12 : 0 ≤ (x3_2 : Int) := of_decide_eq_true (by first | (with_reducible assumption) | assumption)
                        have q12 : x3_2 < (a0.size : Int) := of_decide_eq_true (by first | (with_reducible assumption) | assumption)
                        have hx12 := bt_at a0 x3_2
                        replace p12 := eq_true p12
                        replace q12 := eq_true q12
                        go_wp2
                        go_roundg k2
                        case measure => have := HJ1.out; have := HK2.out; omega
                        case rel => exact ⟨(wrap64 (x3_2 + 1)), (by first | rfl | (simp; done) | (simp [*]; done)), H', ⟨by have := HJ1.out; have := HK2.out; omega⟩, by repeat (first | exact Drawn0.refl _ | apply Drawn0.step)⟩
                      · rw [if_neg c21] at H
                        have c21b0 : ((bt a0 x3_2) == 95) = false := beq_eq_false_iff_ne.mpr c21
                        have c21b1 : ((bt a0 x3_2) != 95) = true := bne_iff_ne.mpr c21
                        obtain rfl := Option.some.inj H
                        have p12 : 0 ≤ (x3_2 : Int) := of_decide_eq_true (by first | (with_reducible assumption) | assumption)
                        have q12 : x3_2 < (a0.size : Int) := of_decide_eq_true (by first | (with_reducible assumption) | assumption)
                        have hx12 := bt_at a0 x3_2
                        replace p12 := eq_true p12
                        replace q12 := eq_true q12
                        go_wp2
                        go_ret
                        exact ⟨by first | rfl | (simp; done) | (simp [*]; done), by repeat (first | exact Drawn0.refl _ | apply Drawn0.step)⟩
                  · rw [if_neg c19] at H
                    have c19b0 : decide (48 ≤ (bt a0 x3_2)) = false := decide_eq_false c19
                    clear c19
                    by_cases c22 : ((bt a0 x3_2) = 95)
                    · rw [if_pos c22] at H
                      have c22b0 : ((bt a0 x3_2) == 95) = true := beq_iff_eq.mpr c22
                      have c22b1 : ((bt a0 x3_2) != 95) = false := bne_eq_false_iff_eq.mpr c22
                      clear c22
                      have H' := Aside0.mk H
                      clear H
                      have p12 : 0 ≤ (x3_2 : Int) := of_decide_eq_true (by first | (with_reducible assumption) | assumption)
                      have q12 : x3_2 < (a0.size : Int) := of_decide_eq_true (by first | (with_reducible assumption) | assumption)
                      have hx12 := bt_at a0 x3_2
                      replace p12 := eq_true p12
                      replace q12 := eq_true q12
                      go_wp2
                      go_roundg k2
                      case measure => have := HJ1.out; have := HK2.out; omega
                      case rel => exact ⟨(wrap64 (x3_2 + 1)), (by first | rfl | (simp; done) | (simp [*]; done)), H', ⟨by have := HJ1.out; have := HK2.out; omega⟩, by repeat (first | exact Drawn0.refl _ | apply Drawn0.step)⟩
                    · rw [if_neg c22] at H
                      have c22b0 : ((bt a0 x3_2) == 95) = false := beq_eq_false_iff_ne.mpr c22
                      have c22b1 : ((bt a0 x3_2) != 95) = true := bne_iff_ne.mpr c22
                      obtain rfl := Option.some.inj H
                      have p12 : 0 ≤ (x3_2 : Int) := of_decide_eq_true (by first | (with_reducible assumption) | assumption)
                      have q12 : x3_2 < (a0.size : Int) := of_decide_eq_true (by first | (with_reducible assumption) | assumption)
                      have hx12 := bt_at a0 x3_2
                      replace p12 := eq_true p12
                      replace q12 := eq_true q12
                      go_wp2
                      go_ret
                      exact ⟨by first | rfl | (simp; done) | (simp [*]; done), by repeat (first | exact Drawn0.refl _ | apply Drawn0.step)⟩
              · rw [if_neg c11] at H
                exact absurd H (by simp)
            · rw [if_neg c10] at H
              have c10b0 : decide (x3_2 < (a0.size : Int)) = false := decide_eq_false c10
              clear c10
              obtain rfl := Option.some.inj H
              go_wp2
              go_ret
              exact ⟨by first | rfl | (simp; done) | (simp [*]; done), by repeat (first | exact Drawn0.refl _ | apply Drawn0.step)⟩

end Go.Proofs.YtcggeaobonblfaaDoor.PParseTrees
