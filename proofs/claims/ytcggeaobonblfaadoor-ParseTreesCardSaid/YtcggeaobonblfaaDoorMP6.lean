/- Part 6 of the proof of RowParseTrees, RowParseDeep: lemmas and contracts: ParseN2, R14d, ParseL, R14e, R14f, Copied, TreeW, Parse, R14p, R13a. -/
import Derived.Test.YtcggeaobonblfaaDoorMP5
import Derived.Test.YtcggeaobonblfaaDoorMP0
import Derived.Maps.AppendAt
import Derived.Test.YtcggeaobonblfaaDoorMP3
/- (*parser).node: walked. -/
namespace Go.Proofs.YtcggeaobonblfaaDoor
set_option linter.unusedSimpArgs false
open Go Go.RowKit Go.Proofs.YtcggeaobonblfaaDoorW.PrintLast
/-- Every block of the state is kept where only a box was laid. -/
theorem k_bool {a b : Int} (h : a = b) : (a == b) = true := by simpa using h
theorem k_false {a b : Int} (h : a ≠ b) : (a == b) = false := by simpa using h
set_option maxRecDepth 100000 in
set_option maxHeartbeats 2000000 in
theorem node_any (B base P : Nat) (ws : List Word) (lo : Nat) (L : Nat → List Node → Nat → ListR) (hL : ListOK B base P ws lo L) (hG : PureOK ws L) (hws : ws.length ≤ 100000)
    (X : Nat → Prop) (i : Nat) (nodes : List Node) (x : Word) (nv : Value) (depth : Nat) (w : World) (hlo : lo ≤ i) (hi : i ≤ ws.length) (hn : nodes.length < i) (hd : depth ≤ 16)
    (hst : PSt B base X w P ws i nodes) (hX : ∀ k, X k → k < w.heap.size) (hnv : NamesRd B w nv x.names) :
    Calls Tryd.prog 61 #[.pointer (some ⟨P, 0, none⟩), wordV x.kind x.at_ ⟨x.text.toArray⟩ x.root nv, .int .i64 depth] w (NodePost B base X P ws w (nodeP L ws i nodes x depth)) := by
  obtain ⟨NA, NC, rfl⟩ : ∃ A c, nv = .slice A x.names.length c := by obtain ⟨A, c, e, _⟩ := hnv; exact ⟨A, c, e⟩
  obtain ⟨wv, lv, ps, hmap, hb, hwr, hns, hB, hP⟩ := hst
  obtain ⟨LA, LC, rfl⟩ := nodes_slice hns
  obtain ⟨i0, hi0, hz0, hz1, hz2⟩ := info_parts Tryd.info66
  have hPl := World.heap_lt hb
  have c2 : w.cell? ⟨P, 2, none⟩ = some (.slice LA ps.length LC) := by simp [World.cell?, hb]
  have hnl : nodes.length = ps.length := by rw [← hmap]; simp
  have hlen : ps.length < i := by omega
  have Hmap := Lib.hid hmap
  have Hb := Lib.hid hb
  have Hwr := Lib.hid hwr
  have Hns := Lib.hid hns
  have Hnv := Lib.hid hnv
  clear hb hwr hns hnv hn hmap
  go_enter Tryd.func61, Tryd.ntmps61
  go_wp2
  refine start_ (n := 19) (S := fun w' => w'.cell? ⟨P, 2, none⟩ = some (.slice LA ps.length LC) ∧ w'.cell? ⟨w.heap.size, 1, none⟩ = some (.int .i64 x.at_) ∧ w'.cell? ⟨w.heap.size, 2, none⟩ = some (.string ⟨x.text.toArray⟩) ∧ w'.cell? ⟨w.heap.size, 3, none⟩ = some (.bool x.root) ∧ w'.cell? ⟨w.heap.size, 4, none⟩ = some (.slice NA x.names.length NC)) (ds := [18]) #[false, false, false, false, false, false, false, false, false, false, false, false, false, false, false, false, false, false, false] (by kernel_rfl) rfl rfl ⟨(World.cell?_alloc_past _ _ _ hPl).trans c2, by simp, by simp, by simp, by simp⟩ (fun hHeld => ?_)
  refine pure_ (i := 0) (N := (some 17)) (v := ?_) (a' := ?_) #[true, false, false, false, false, false, false, false, false, false, false, false, false, false, false, false, false, false, false] rfl rfl (by kernel_rfl) (fun _ _ _ h => h) (Or.inl ⟨by rfl, ?_⟩) ?_ ?_
  rotate_left
  · intro w'
    go_simp
    with_reducible rfl
  rotate_left
  · simp only [Act.put, List.setIfInBounds_toArray, List.set_cons_zero, List.set_cons_succ, i64_w, i32_w]
    rfl
  refine pure_ (i := 1) (N := (some 18)) (v := ?_) (a' := ?_) #[true, true, false, false, false, false, false, false, false, false, false, false, false, false, false, false, false, false, false] rfl rfl (by kernel_rfl) (fun _ _ _ h => h) (Or.inl ⟨by rfl, ?_⟩) ?_ ?_
  rotate_left
  · intro w'
    go_simp
    with_reducible rfl
  rotate_left
  · simp only [Act.put, List.setIfInBounds_toArray, List.set_cons_zero, List.set_cons_succ, i64_w, i32_w]
    rfl
  refine pure_ (i := 2) (N := (some 19)) (v := ?_) (a' := ?_) #[true, true, true, false, false, false, false, false, false, false, false, false, false, false, false, false, false, false, false] rfl rfl (by kernel_rfl) (fun _ _ _ h => h) (Or.inl ⟨by rfl, ?_⟩) ?_ ?_
  rotate_left
  · intro w'
    go_simp
    with_reducible rfl
  rotate_left
  · simp only [Act.put, List.setIfInBounds_toArray, List.set_cons_zero, List.set_cons_succ, i64_w, i32_w]
    rfl
  refine pure_ (i := 3) (N := (some 20)) (v := ?_) (a' := ?_) #[true, true, true, true, false, false, false, false, false, false, false, false, false, false, false, false, false, false, false] rfl rfl (by kernel_rfl) (fun _ _ _ h => h) (Or.inl ⟨by rfl, ?_⟩) ?_ ?_
  rotate_left
  · intro w'
    go_simp
    with_reducible rfl
  rotate_left
  · simp only [Act.put, List.setIfInBounds_toArray, List.set_cons_zero, List.set_cons_succ, i64_w, i32_w]
    rfl
  refine pure_ (i := 4) (N := (some 21)) (v := ?_) (a' := ?_) #[true, true, true, true, true, false, false, false, false, false, false, false, false, false, false, false, false, false, false] rfl rfl (by kernel_rfl) (fun _ _ _ h => h) (Or.inl ⟨by rfl, ?_⟩) ?_ ?_
  rotate_left
  · intro w'
    go_simp
    with_reducible rfl
  rotate_left
  · simp only [Act.put, List.setIfInBounds_toArray, List.set_cons_zero, List.set_cons_succ, i64_w, i32_w]
    rfl
  refine take_ (i := 5) (N := (some 22)) (v := ?_) (a' := ?_) #[true, true, true, true, true, true, false, false, false, false, false, false, false, false, false, false, false, false, false] rfl rfl (by kernel_rfl) (fun _ _ _ h => h) (Or.inl ⟨by rfl, ?_⟩) hHeld ?_ ?_
  rotate_left
  · rintro w' ⟨s0, s1, s2, s3, s4⟩
    go_simp
    with_reducible rfl
  rotate_left
  · simp only [Act.put, List.setIfInBounds_toArray, List.set_cons_zero, List.set_cons_succ, i64_w, i32_w]
    rfl
  refine pure_ (i := 6) (N := (some 23)) (v := ?_) (a' := ?_) #[true, true, true, true, true, true, true, false, false, false, false, false, false, false, false, false, false, false, false] rfl rfl (by kernel_rfl) (fun _ _ _ h => h) (Or.inl ⟨by rfl, ?_⟩) ?_ ?_
  rotate_left
  · intro w'
    go_simp
    with_reducible rfl
  rotate_left
  · simp only [Act.put, List.setIfInBounds_toArray, List.set_cons_zero, List.set_cons_succ, i64_w, i32_w]
    rfl
  refine take_ (i := 7) (N := (some 24)) (v := ?_) (a' := ?_) #[true, true, true, true, true, true, true, true, false, false, false, false, false, false, false, false, false, false, false] rfl rfl (by kernel_rfl) (fun _ _ _ h => h) (Or.inl ⟨by rfl, ?_⟩) hHeld ?_ ?_
  rotate_left
  · rintro w' ⟨s0, s1, s2, s3, s4⟩
    go_simp
    with_reducible rfl
  rotate_left
  · simp only [Act.put, List.setIfInBounds_toArray, List.set_cons_zero, List.set_cons_succ, i64_w, i32_w]
    rfl
  refine pure_ (i := 8) (N := (some 25)) (v := ?_) (a' := ?_) #[true, true, true, true, true, true, true, true, true, false, false, false, false, false, false, false, false, false, false] rfl rfl (by kernel_rfl) (fun _ _ _ h => h) (Or.inl ⟨by rfl, ?_⟩) ?_ ?_
  rotate_left
  · intro w'
    go_simp
    with_reducible rfl
  rotate_left
  · simp only [Act.put, List.setIfInBounds_toArray, List.set_cons_zero, List.set_cons_succ, i64_w, i32_w]
    rfl
  refine take_ (i := 9) (N := (some 26)) (v := ?_) (a' := ?_) #[true, true, true, true, true, true, true, true, true, true, false, false, false, false, false, false, false, false, false] rfl rfl (by kernel_rfl) (fun _ _ _ h => h) (Or.inl ⟨by rfl, ?_⟩) hHeld ?_ ?_
  rotate_left
  · rintro w' ⟨s0, s1, s2, s3, s4⟩
    go_simp
    with_reducible rfl
  rotate_left
  · simp only [Act.put, List.setIfInBounds_toArray, List.set_cons_zero, List.set_cons_succ, i64_w, i32_w]
    rfl
  refine pure_ (i := 10) (N := (some 27)) (v := ?_) (a' := ?_) #[true, true, true, true, true, true, true, true, true, true, true, false, false, false, false, false, false, false, false] rfl rfl (by kernel_rfl) (fun _ _ _ h => h) (Or.inl ⟨by rfl, ?_⟩) ?_ ?_
  rotate_left
  · intro w'
    go_simp
    with_reducible rfl
  rotate_left
  · simp only [Act.put, List.setIfInBounds_toArray, List.set_cons_zero, List.set_cons_succ, i64_w, i32_w]
    rfl
  refine take_ (i := 11) (N := (some 28)) (v := ?_) (a' := ?_) #[true, true, true, true, true, true, true, true, true, true, true, true, false, false, false, false, false, false, false] rfl rfl (by kernel_rfl) (fun _ _ _ h => h) (Or.inl ⟨by rfl, ?_⟩) hHeld ?_ ?_
  rotate_left
  · rintro w' ⟨s0, s1, s2, s3, s4⟩
    go_simp
    with_reducible rfl
  rotate_left
  · simp only [Act.put, List.setIfInBounds_toArray, List.set_cons_zero, List.set_cons_succ, i64_w, i32_w]
    rfl
  refine pure_ (i := 12) (N := (some 29)) (v := ?_) (a' := ?_) #[true, true, true, true, true, true, true, true, true, true, true, true, true, false, false, false, false, false, false] rfl rfl (by kernel_rfl) (fun _ _ _ h => h) (Or.inl ⟨by rfl, ?_⟩) ?_ ?_
  rotate_left
  · intro w'
    go_simp
    with_reducible rfl
  rotate_left
  · simp only [Act.put, List.setIfInBounds_toArray, List.set_cons_zero, List.set_cons_succ, i64_w, i32_w]
    rfl
  refine one_ (i := 13) (N := (some 30)) #[true, true, true, true, true, true, true, true, true, true, true, true, true, true, false, false, false, false, false] rfl rfl (by kernel_rfl) (by decide) (fun K hK => ?_)
  refine value_ (w1 := ?_) (v := ?_) (by rfl) rfl ?_ ?_
  rotate_left 2
  · go_simp
    constructor
    · rfl
    · rfl
  obtain ⟨s0, s1, s2, s3, s4⟩ := hHeld
  refine hK.out _ _ ⟨(World.cell?_alloc_past _ _ _ (by simp; omega)).trans s0, (World.cell?_alloc_past _ _ _ (by simp)).trans s1, (World.cell?_alloc_past _ _ _ (by simp)).trans s2, (World.cell?_alloc_past _ _ _ (by simp)).trans s3, (World.cell?_alloc_past _ _ _ (by simp)).trans s4⟩ (fun hHeld => ?_)
  clear hK K s0 s1 s2 s3 s4
  refine norm_ (a' := ?_) ?_ ?_
  rotate_left
  · show Act.put _ (some 30) _ = _
    simp only [Act.put, List.setIfInBounds_toArray, List.set_cons_zero, List.set_cons_succ, i64_w, i32_w]
    rfl
  refine one_ (i := 14) (N := (some 31)) #[true, true, true, true, true, true, true, true, true, true, true, true, true, true, true, false, false, false, false] rfl rfl (by kernel_rfl) (by decide) (fun K hK => ?_)
  refine step_grow rfl _ _ 23 rfl base 66 i0 _ 9 120 Tryd.underlying23 hi0 hz0 hz1 hz2 rfl (by decide) (.slice LA ps.length LC) ps.length (ps.flatMap nodeCells) rfl ((Hns.out.1.alloc _).alloc _) ⟨_, 0, none⟩ 1 1 (nodeCells ⟨newNode x, .slice NA x.names.length NC, .slice none 0 0, .slice none 0 0⟩) rfl rfl (cells_new _ (nodeCells ⟨newNode x, .slice NA x.names.length NC, .slice none 0 0, .slice none 0 0⟩) _ _ (by simp)) (by simp [nodeCells, Value.oneCell', newNode]) (by unfold maxLen; omega) (by omega) (by simp; omega) ?_
  intro v' w1 hown' hgrow
  obtain ⟨g', cap', rfl⟩ := ownsRow_succ hown'
  have hgw := grown_two (World.grownBy_alloc w _ none) (grown_two (World.grownBy_alloc _ _ none) (grown_drew hgrow))
  have hrow := row_type Hns.out.1
  obtain ⟨hb1, hst1, hfr1⟩ := node_added Hb.out Hwr.out Hns.out hB hP (p := ⟨newNode x, .slice NA x.names.length NC, .slice none 0 0, .slice none 0 0⟩) Hnv.out rfl rfl rfl rfl hown' hgw (by omega)
  rw [Hmap.out] at hst1
  have hnr : some w.heap.size ≠ (Value.slice LA ps.length LC).ownBlock := fun e => by obtain ⟨cs, h⟩ := hrow _ e.symm; have := World.heap_lt h; omega
  have hnP : some P ≠ (Value.slice LA ps.length LC).ownBlock := fun e => by obtain ⟨cs, h⟩ := hrow _ e.symm; have h2 := Hb.out; rw [h2] at h; cases h
  obtain ⟨s0, s1, s2, s3, s4⟩ := hHeld
  refine hK.out _ _ ⟨hgrow.cell s0 hnP, hgrow.cell s1 hnr, hgrow.cell s2 hnr, hgrow.cell s3 hnr, hgrow.cell s4 hnr⟩ (fun hHeld => ?_)
  have hbox1 := blk_off (heap_old (o := .cells (nodeCells ⟨newNode x, .slice NA x.names.length NC, .slice none 0 0, .slice none 0 0⟩).toArray 66) (by simp) |>.trans (World.alloc_heap_new w _)) (grown_drew hgrow) (Ne.symm hnr)
  have k2 : w1.cell? ⟨P, 2, none⟩ = some (.slice LA ps.length LC) := by simp [World.cell?, hb1]
  have g2 : w1.frozen? ⟨P, 2, none⟩ = false := by simp [World.frozen?, hb1]
  have hboxP : w.heap.size ≠ P := by omega
  have hbox2 := blk_far hbox1 (p := ⟨P, 2, none⟩) hboxP (.slice (some ⟨g', 0, none⟩) (ps.length + 1) cap')
  have Hst := Lib.hid hst1
  have Hfr := Lib.hid hfr1
  have Hbox := Lib.hid hbox2
  clear hK K s0 s1 s2 s3 s4 hb1 hst1 hfr1 hbox1 hbox2 hgrow hgw hown' hi0 hz0 hz1 hz2 Hb Hwr Hns Hnv c2 hrow hnr hnP
  refine norm_ (a' := ?_) ?_ ?_
  rotate_left
  · show Act.put _ (some 31) _ = _
    simp only [Act.put, List.setIfInBounds_toArray, List.set_cons_zero, List.set_cons_succ, i64_w, i32_w]
    rfl
  refine pure_ (i := 15) (N := (some 32)) (v := ?_) (a' := ?_) #[true, true, true, true, true, true, true, true, true, true, true, true, true, true, true, true, false, false, false] rfl rfl (by kernel_rfl) (fun _ _ _ h => h) (Or.inl ⟨by rfl, ?_⟩) ?_ ?_
  rotate_left
  · intro w'
    go_simp
    with_reducible rfl
  rotate_left
  · simp only [Act.put, List.setIfInBounds_toArray, List.set_cons_zero, List.set_cons_succ, i64_w, i32_w]
    rfl
  refine pure_ (i := 16) (N := (some 33)) (v := ?_) (a' := ?_) #[true, true, true, true, true, true, true, true, true, true, true, true, true, true, true, true, true, false, false] rfl rfl (by kernel_rfl) (fun _ _ _ h => h) (Or.inl ⟨by rfl, ?_⟩) ?_ ?_
  rotate_left
  · intro w'
    go_simp
    with_reducible rfl
  rotate_left
  · simp only [Act.put, List.setIfInBounds_toArray, List.set_cons_zero, List.set_cons_succ, i64_w, i32_w]
    rfl
  refine pure_ (i := 17) (N := (some 34)) (v := ?_) (a' := ?_) #[true, true, true, true, true, true, true, true, true, true, true, true, true, true, true, true, true, true, false] rfl rfl (by kernel_rfl) (fun _ _ _ h => h) (Or.inl ⟨by rfl, ?_⟩) ?_ ?_
  rotate_left
  · intro w'
    go_simp
    with_reducible rfl
  rotate_left
  · simp only [Act.put, List.setIfInBounds_toArray, List.set_cons_zero, List.set_cons_succ, i64_w, i32_w]
    rfl
  refine last_ (i := 18) (N := none) #[true, true, true, true, true, true, true, true, true, true, true, true, true, true, true, true, true, true, true] rfl rfl (by kernel_rfl) (by decide) (fun K hK => ?_)
  refine skip_ (w1 := ?_) (by rfl) rfl ?_ ?_
  rotate_left
  · go_simp
    rfl
  refine hK.out _ _ ?_
  clear hK K hHeld k2 g2
  refine done_ (by kernel_rfl) ?_
  have hbw : base ≤ w.heap.size := by omega
  obtain ⟨W2, hW2⟩ : ∃ W2, w1.setCell ⟨P, 2, none⟩ (.slice (some ⟨g', 0, none⟩) (ps.length + 1) cap') = W2 := ⟨_, rfl⟩
  rw [hW2] at Hst Hfr Hbox ⊢
  clear hW2
  replace Hst : RowKit.Hid (PSt B base X W2 P ws i (nodes ++ [newNode x])) := Hst
  have hlk : (nodes ++ [newNode x]).length = ps.length + 1 := by simp [hnl]
  have hkl : ps.length < (nodes ++ [newNode x]).length := by omega
  have d0 : W2.cell? ⟨w.heap.size, 0, none⟩ = some (.int .u8 x.kind) := by have := Hbox.out; simp [World.cell?, this]
  have d1 : W2.cell? ⟨w.heap.size, 1, none⟩ = some (.int .i64 x.at_) := by have := Hbox.out; simp [World.cell?, this]
  have d2 : W2.cell? ⟨w.heap.size, 2, none⟩ = some (.string ⟨x.text.toArray⟩) := by have := Hbox.out; simp [World.cell?, this]
  have d3 : W2.cell? ⟨w.heap.size, 3, none⟩ = some (.bool x.root) := by have := Hbox.out; simp [World.cell?, this]
  have d4 : W2.cell? ⟨w.heap.size, 4, none⟩ = some (.slice NA x.names.length NC) := by have := Hbox.out; simp [World.cell?, this]
  clear hboxP
  by_cases h1 : x.kind = 1
  · skip
    have HB : RowKit.Hid (nodeP L ws i nodes x depth = .ok (ps.length, i, setKind (nodes ++ [newNode x]) ps.length 1)) := Lib.hid (by unfold nodeP; rw [if_neg (by omega), hnl]; simp [kindOf, h1])
    obtain ⟨wv2, g2, nc2, u2, hb2, k0, k1, hst2, hbg2, hisN2⟩ := kind_set Hst.out hkl 1
    have c2 : W2.cell? ⟨P, 2, none⟩ = some (.slice (some ⟨g2, 0, none⟩) (nodes ++ [newNode x]).length nc2) := by simp [World.cell?, hb2]
    rw [hlk] at c2
    have Hst2 := Lib.hid hst2
    have Hfr2 := Lib.hid (Hfr.out.set (p := ⟨g2, ps.length * 9, none⟩) hbg2 (.inr hisN2) (.int .u8 1))
    clear hst2 hisN2 hb2 hL hG Hst Hfr Hbox d1 d2 d3 d4
    rw [h1] at d0
    go_wp2
    go_ret2
    rw [HB.out]
    exact ⟨rfl, Hst2.out, Hfr2.out⟩
  by_cases h6 : x.kind = 6
  · skip
    have HB : RowKit.Hid (nodeP L ws i nodes x depth = .ok (ps.length, i, setKind (nodes ++ [newNode x]) ps.length 4)) := Lib.hid (by unfold nodeP; rw [if_neg (by omega), hnl]; simp [kindOf, h6])
    obtain ⟨wv2, g2, nc2, u2, hb2, k0, k1, hst2, hbg2, hisN2⟩ := kind_set Hst.out hkl 4
    have c2 : W2.cell? ⟨P, 2, none⟩ = some (.slice (some ⟨g2, 0, none⟩) (nodes ++ [newNode x]).length nc2) := by simp [World.cell?, hb2]
    rw [hlk] at c2
    have Hst2 := Lib.hid hst2
    have Hfr2 := Lib.hid (Hfr.out.set (p := ⟨g2, ps.length * 9, none⟩) hbg2 (.inr hisN2) (.int .u8 4))
    clear hst2 hisN2 hb2 hL hG Hst Hfr Hbox d1 d2 d3 d4
    rw [h6] at d0
    go_wp2
    go_ret2
    rw [HB.out]
    exact ⟨rfl, Hst2.out, Hfr2.out⟩
  by_cases h2 : x.kind = 2
  · skip
    have hor : x.kind = 2 ∨ x.kind = 4 := by omega
    by_cases hdp : 16 ≤ depth
    · have HB : RowKit.Hid (nodeP L ws i nodes x depth = .error (x.at_, 3)) := Lib.hid (by unfold nodeP; rw [if_pos hor, if_pos hdp])
      have e1 : decide (16 ≤ depth) = true := by simpa using hdp
      have e2 : decide ((16 : Int) ≤ (depth : Int)) = true := by simp; omega
      clear hL hG Hst Hbox
      rw [h2] at d0
      go_wp2
      go_region
      go_wp2
      go_ret2
      rw [HB.out]
      exact ⟨_, rfl, ⟨_, rfl, World.alloc_heap_new _ _⟩, by repeat (first | exact Hfr.out | refine Fr.drewN ?_ _ | refine Fr.drew ?_ | refine Fr.alloc ?_ hbw _)⟩
    · have e1 : decide (16 ≤ depth) = false := by simp; omega
      have e2 : decide ((16 : Int) ≤ (depth : Int)) = false := by simp; omega
      have HC := body_any B base P ws lo L hL hws X i (nodes ++ [newNode x]) ps.length x (.slice NA x.names.length NC) depth W2 hlo hi (by omega) (by omega) (by omega) Hst.out (fun k h => Nat.lt_of_lt_of_le (hX k h) Hfr.out.size) ⟨_, _, _, rfl⟩
      have HG := bodyP_goes hG i (nodes ++ [newNode x]) ps.length x depth hi (by omega)
      clear hL hG
      rw [h2] at d0
      have hwv : wordV x.kind x.at_ ⟨x.text.toArray⟩ x.root (.slice NA x.names.length NC) = wordV 2 x.at_ ⟨x.text.toArray⟩ x.root (.slice NA x.names.length NC) := by rw [h2]
      rw [hwv] at HC
      clear hwv
      cases hR : bodyP L ws i (nodes ++ [newNode x]) ps.length x depth with
      | error f =>
        have HB : RowKit.Hid (nodeP L ws i nodes x depth = .error f) := Lib.hid (by unfold nodeP; rw [if_pos hor, if_neg hdp, hnl, hR])
        rw [hR] at HC
        have HC' := Lib.hid HC
        clear HC HG hR Hst Hbox hor
        go_wp2_with (go_at_call 88; refine halt ?_)
        refine Halted.mk' ?_
        refine (HC'.out).mono ?_
        rintro e w3 ⟨v, rfl, ⟨q, rfl, hq⟩, hf⟩
        have Hf := Lib.hid hf
        have Hq := Lib.hid hq
        clear hf hq HC' d0 d1 d2 d3 d4
        go_wp2
        go_ret2
        rw [HB.out]
        exact ⟨_, rfl, ⟨_, rfl, Hq.out⟩, Hfr.out.trans Hf.out⟩
      | ok r =>
        obtain ⟨i1, nd1⟩ := r
        have HB : RowKit.Hid (nodeP L ws i nodes x depth = .ok (ps.length, i1, setKind nd1 ps.length 2)) := Lib.hid (by unfold nodeP; rw [if_pos hor, if_neg hdp, hnl, hR]; simp [kindOf, h2])
        rw [hR] at HC HG
        obtain ⟨-, -, hlg, -⟩ := HG
        have HC' := Lib.hid HC
        clear HC hR Hst Hbox hor
        go_wp2_with (go_at_call 88; refine halt ?_)
        refine Halted.mk' ?_
        refine (HC'.out).mono ?_
        rintro e w3 ⟨rfl, hst3, hf3⟩
        obtain ⟨wv2, g2, nc2, u2, hb2, k0, k1, hst4, hbg2, hisN2⟩ := kind_set hst3 (k := ps.length) (by omega) 2
        have c2 : w3.cell? ⟨P, 2, none⟩ = some (.slice (some ⟨g2, 0, none⟩) nd1.length nc2) := by simp [World.cell?, hb2]
        have hk1 : ps.length < nd1.length := by omega
        have Hst2 := Lib.hid hst4
        have Hfr2 := Lib.hid ((Hfr.out.trans hf3).set (p := ⟨g2, ps.length * 9, none⟩) hbg2 (.inr hisN2) (.int .u8 2))
        clear hst4 hst3 hf3 hisN2 hb2 Hfr HC' d0 d1 d2 d3 d4
        go_wp2
        go_ret2
        rw [HB.out]
        exact ⟨rfl, Hst2.out, Hfr2.out⟩
  by_cases h4 : x.kind = 4
  · skip
    have hor : x.kind = 2 ∨ x.kind = 4 := by omega
    by_cases hdp : 16 ≤ depth
    · have HB : RowKit.Hid (nodeP L ws i nodes x depth = .error (x.at_, 3)) := Lib.hid (by unfold nodeP; rw [if_pos hor, if_pos hdp])
      have e1 : decide (16 ≤ depth) = true := by simpa using hdp
      have e2 : decide ((16 : Int) ≤ (depth : Int)) = true := by simp; omega
      clear hL hG Hst Hbox
      rw [h4] at d0
      go_wp2
      go_region
      go_wp2
      go_ret2
      rw [HB.out]
      exact ⟨_, rfl, ⟨_, rfl, World.alloc_heap_new _ _⟩, by repeat (first | exact Hfr.out | refine Fr.drewN ?_ _ | refine Fr.drew ?_ | refine Fr.alloc ?_ hbw _)⟩
    · have e1 : decide (16 ≤ depth) = false := by simp; omega
      have e2 : decide ((16 : Int) ≤ (depth : Int)) = false := by simp; omega
      have HC := body_any B base P ws lo L hL hws X i (nodes ++ [newNode x]) ps.length x (.slice NA x.names.length NC) depth W2 hlo hi (by omega) (by omega) (by omega) Hst.out (fun k h => Nat.lt_of_lt_of_le (hX k h) Hfr.out.size) ⟨_, _, _, rfl⟩
      have HG := bodyP_goes hG i (nodes ++ [newNode x]) ps.length x depth hi (by omega)
      clear hL hG
      rw [h4] at d0
      have hwv : wordV x.kind x.at_ ⟨x.text.toArray⟩ x.root (.slice NA x.names.length NC) = wordV 4 x.at_ ⟨x.text.toArray⟩ x.root (.slice NA x.names.length NC) := by rw [h4]
      rw [hwv] at HC
      clear hwv
      cases hR : bodyP L ws i (nodes ++ [newNode x]) ps.length x depth with
      | error f =>
        have HB : RowKit.Hid (nodeP L ws i nodes x depth = .error f) := Lib.hid (by unfold nodeP; rw [if_pos hor, if_neg hdp, hnl, hR])
        rw [hR] at HC
        have HC' := Lib.hid HC
        clear HC HG hR Hst Hbox hor
        go_wp2_with (go_at_call 88; refine halt ?_)
        refine Halted.mk' ?_
        refine (HC'.out).mono ?_
        rintro e w3 ⟨v, rfl, ⟨q, rfl, hq⟩, hf⟩
        have Hf := Lib.hid hf
        have Hq := Lib.hid hq
        clear hf hq HC' d0 d1 d2 d3 d4
        go_wp2
        go_ret2
        rw [HB.out]
        exact ⟨_, rfl, ⟨_, rfl, Hq.out⟩, Hfr.out.trans Hf.out⟩
      | ok r =>
        obtain ⟨i1, nd1⟩ := r
        have HB : RowKit.Hid (nodeP L ws i nodes x depth = .ok (ps.length, i1, setKind nd1 ps.length 3)) := Lib.hid (by unfold nodeP; rw [if_pos hor, if_neg hdp, hnl, hR]; simp [kindOf, h4])
        rw [hR] at HC HG
        obtain ⟨-, -, hlg, -⟩ := HG
        have HC' := Lib.hid HC
        clear HC hR Hst Hbox hor
        go_wp2_with (go_at_call 88; refine halt ?_)
        refine Halted.mk' ?_
        refine (HC'.out).mono ?_
        rintro e w3 ⟨rfl, hst3, hf3⟩
        obtain ⟨wv2, g2, nc2, u2, hb2, k0, k1, hst4, hbg2, hisN2⟩ := kind_set hst3 (k := ps.length) (by omega) 3
        have c2 : w3.cell? ⟨P, 2, none⟩ = some (.slice (some ⟨g2, 0, none⟩) nd1.length nc2) := by simp [World.cell?, hb2]
        have hk1 : ps.length < nd1.length := by omega
        have Hst2 := Lib.hid hst4
        have Hfr2 := Lib.hid ((Hfr.out.trans hf3).set (p := ⟨g2, ps.length * 9, none⟩) hbg2 (.inr hisN2) (.int .u8 3))
        clear hst4 hst3 hf3 hisN2 hb2 Hfr HC' d0 d1 d2 d3 d4
        go_wp2
        go_ret2
        rw [HB.out]
        exact ⟨rfl, Hst2.out, Hfr2.out⟩
  · have b1 := k_false h1
    have b2 := k_false h2
    have b4 := k_false h4
    have b6 := k_false h6
    have HB : RowKit.Hid (nodeP L ws i nodes x depth = .ok (ps.length, i, setKind (nodes ++ [newNode x]) ps.length 0)) := Lib.hid (by unfold nodeP; rw [if_neg (by omega), hnl]; simp [kindOf, h1, h2, h4, h6])
    obtain ⟨wv2, g2, nc2, u2, hb2, k0, k1, hst2, hbg2, hisN2⟩ := kind_set Hst.out hkl 0
    have c2 : W2.cell? ⟨P, 2, none⟩ = some (.slice (some ⟨g2, 0, none⟩) (nodes ++ [newNode x]).length nc2) := by simp [World.cell?, hb2]
    rw [hlk] at c2
    have Hst2 := Lib.hid hst2
    have Hfr2 := Lib.hid (Hfr.out.set (p := ⟨g2, ps.length * 9, none⟩) hbg2 (.inr hisN2) (.int .u8 0))
    clear hst2 hisN2 hb2 hL hG Hst Hfr Hbox d1 d2 d3 d4
    clear h1 h2 h4 h6
    go_wp2
    go_ret2
    rw [HB.out]
    exact ⟨rfl, Hst2.out, Hfr2.out⟩
end Go.Proofs.YtcggeaobonblfaaDoor

/- The reference's tree while it is made: in block T; its lists lie in rows of their own, apart from each other. -/
namespace Go.Proofs.YtcggeaobonblfaaDoor
set_option linter.unusedSimpArgs false
set_option linter.unusedVariables false
open Go Go.RowKit
/-- The lists of the nodes: f says to whom a block belongs. -/
def RowsOK (f : Nat → Nat) (B base : Nat) (W : World) (ps : List NodeV) : Prop :=
  ∀ (i : Nat) p, ps[i]? = some p → NamesRd B W p.nv p.x.names ∧ IntsAt W base p.bv p.x.body ∧ IntsAt W base p.ev p.x.els ∧ (∀ k, p.bv.ownBlock = some k → f k = 2 * i + 1) ∧ (∀ k, p.ev.ownBlock = some k → f k = 2 * i + 2)
structure TS (B base : Nat) (W : World) (T : Nat) (nv tv : Value) (ps : List NodeV) (top : List Int) (f : Nat → Nat) : Prop where
  block : W.heap[T]? = some (.cells #[nv, tv] 26)
  row : W.ownsRow base 66 9 nv ps.length (ps.flatMap nodeCells)
  top : IntsAt W base tv top
  own : ∀ k, tv.ownBlock = some k → f k = 0
  rows : RowsOK f B base W ps
  low : B ≤ base
  lowT : base ≤ T
def TSt (B base : Nat) (W : World) (T : Nat) (nodes : List Node) (top : List Int) : Prop :=
  ∃ nv tv ps f, ps.map NodeV.x = nodes ∧ TS B base W T nv tv ps top f
/-- What may have turned: block T, and rows of nodes and of numbers. -/
structure FrT (base T : Nat) (W W' : World) : Prop where
  os : W'.os = W.os
  tape : W'.tape = W.tape
  output : W'.output = W.output
  size : W.heap.size ≤ W'.heap.size
  low : ∀ k, k < base → W'.heap[k]? = W.heap[k]?
  high : ∀ k, k < W.heap.size → k ≠ T → (∃ c t, W.heap[k]? = some (.cells c t) ∧ (t = 66 ∨ t = 3)) ∨ W'.heap[k]? = W.heap[k]?
theorem FrT.refl (base T : Nat) (W : World) : FrT base T W W := ⟨rfl, rfl, rfl, Nat.le_refl _, fun _ _ => rfl, fun _ _ _ => .inr rfl⟩
theorem FrT.trans {base T : Nat} {A B C : World} (h : FrT base T A B) (g : FrT base T B C) : FrT base T A C :=
  ⟨g.os.trans h.os, g.tape.trans h.tape, g.output.trans h.output, Nat.le_trans h.size g.size, fun k hk => (g.low k hk).trans (h.low k hk), fun k hk hp => by
    rcases h.high k hk hp with n1 | e
    · exact .inl n1
    · rcases g.high k (Nat.lt_of_lt_of_le hk h.size) hp with ⟨c, t, n2, n3⟩ | e2
      · exact .inl ⟨c, t, e ▸ n2, n3⟩
      · exact .inr (e2.trans e)⟩
theorem FrT.of_below {base T : Nat} {W W' : World} (hb : Below W.heap.size W W') (hbase : base ≤ W.heap.size) : FrT base T W W' :=
  ⟨hb.os, hb.tape, hb.output, hb.size, fun k hk => hb.block k (by omega), fun k hk _ => .inr (hb.block k hk)⟩
/-- A block of another type. -/
theorem FrT.blk {base T : Nat} {W W' : World} (h : FrT base T W W') {k t : Nat} {cs : Array Value} {fz : Nat × Nat} (hk : W.heap[k]? = some (.cells cs t fz)) (hT : k ≠ T) (h1 : t ≠ 66) (h2 : t ≠ 3) : W'.heap[k]? = some (.cells cs t fz) := by
  rcases h.high k (World.heap_lt hk) hT with ⟨c, t', hc, ht⟩ | e
  · rw [hk] at hc
    cases hc
    rcases ht with h | h
    · exact absurd h h1
    · exact absurd h h2
  · exact e.trans hk
theorem FrT.below {base T : Nat} {W W' : World} (h : FrT base T W W') : Below base W W' := ⟨h.os, h.tape, h.output, h.size, h.low⟩
/-- A store into block T, or into a row of nodes or numbers. -/
theorem FrT.set {base T : Nat} {W W' : World} (h : FrT base T W W') {p : Addr} (hb : base ≤ p.block) (hp : p.block = T ∨ ∃ c t, W'.heap[p.block]? = some (.cells c t) ∧ (t = 66 ∨ t = 3)) (v : Value) : FrT base T W (W'.setCell p v) := by
  refine h.trans ⟨rfl, rfl, rfl, by rw [size_set]; exact Nat.le_refl _, fun k hk => Below.heap_setCell _ _ _ _ (by omega), fun k hk hne => ?_⟩
  by_cases e : k = p.block
  · rcases hp with hp | hp
    · omega
    · left
      rw [e]
      exact hp
  · exact .inr (Below.heap_setCell _ _ _ _ e)
theorem FrT.grow {base T : Nat} {W W' : World} {r : Option Nat} (hg : W.grownBy W' r) (hbase : base ≤ W.heap.size) (hr : ∀ k, r = some k → base ≤ k ∧ ∃ c t, W.heap[k]? = some (.cells c t) ∧ (t = 66 ∨ t = 3)) : FrT base T W W' := by
  refine ⟨hg.os, hg.tape, hg.output, hg.size, fun k hk => hg.block k (by omega) (fun e => by have := (hr k e.symm).1; omega), fun k hk _ => ?_⟩
  by_cases e : r = some k
  · exact .inl (hr k e).2
  · exact .inr (hg.block k hk (fun h => e h.symm))
theorem ints_kept {W w1 : World} {base : Nat} {u : Value} {xs : List Int} {r : Option Nat} (h : IntsAt W base u xs) (hg : W.grownBy w1 r) (hne : ∀ k, u.ownBlock = some k → r ≠ some k) : IntsAt w1 base u xs := by
  refine World.ownsRow.kept h hg ?_
  cases hk : u.ownBlock with
  | none => exact .inl rfl
  | some k => exact .inr (fun e => hne k hk e.symm)
theorem ints_lt {W : World} {base : Nat} {u : Value} {xs : List Int} (h : IntsAt W base u xs) (k : Nat) (hk : u.ownBlock = some k) : k < W.heap.size := by
  obtain ⟨c, hc⟩ := row_type h k hk
  exact World.heap_lt hc
theorem names_grown {W w1 : World} {B base : Nat} {v : Value} {xs : List (List UInt8)} {r : Option Nat} (h : NamesRd B W v xs) (hg : W.grownBy w1 r) (hb : B ≤ W.heap.size) (hr : ∀ k, r = some k → B ≤ k) : NamesRd B w1 v xs :=
  h.below ((Below.refl B W).grown hg hb hr)
/-- The list at s has grown: v became v'. All else is as it was. -/
theorem TS.grown {B base : Nat} {W w1 : World} {T : Nat} {nv tv : Value} {ps : List NodeV} {top : List Int} {f : Nat → Nat} (h : TS B base W T nv tv ps top f) (s : Nat) {v v' : Value} {xs : List Int} (hv : IntsAt W base v xs) (hf : ∀ k, v.ownBlock = some k → f k = s)
    (hg : W.grownBy w1 v.ownBlock) (hat : v'.ownBlock = v.ownBlock ∨ ∃ k, v'.ownBlock = some k ∧ W.heap.size ≤ k) :
    ∃ f' : Nat → Nat, (∀ k, v'.ownBlock = some k → f' k = s) ∧ w1.heap[T]? = some (.cells #[nv, tv] 26) ∧ w1.ownsRow base 66 9 nv ps.length (ps.flatMap nodeCells) ∧
      (s ≠ 0 → IntsAt w1 base tv top ∧ ∀ k, tv.ownBlock = some k → f' k = 0) ∧
      (∀ (i : Nat) p, ps[i]? = some p → NamesRd B w1 p.nv p.x.names ∧ (s ≠ 2 * i + 1 → IntsAt w1 base p.bv p.x.body ∧ ∀ k, p.bv.ownBlock = some k → f' k = 2 * i + 1) ∧ (s ≠ 2 * i + 2 → IntsAt w1 base p.ev p.x.els ∧ ∀ k, p.ev.ownBlock = some k → f' k = 2 * i + 2)) := by
  have hTl := World.heap_lt h.block
  have hty : ∀ k, v.ownBlock = some k → ∃ c, W.heap[k]? = some (.cells c 3) := row_type hv
  have hlow : ∀ k, v.ownBlock = some k → base ≤ k := row_base hv
  have hB := h.low
  have hBT := h.lowT
  have key : ∀ {u : Value} {ys : List Int} {s' : Nat}, IntsAt W base u ys → (∀ k, u.ownBlock = some k → f k = s') → s ≠ s' → IntsAt w1 base u ys ∧ ∀ k, u.ownBlock = some k → (if v'.ownBlock = some k then s else f k) = s' := by
    intro u ys s' hu hfu hne
    refine ⟨ints_kept hu hg (fun k hk e => hne ?_), fun k hk => ?_⟩
    · rw [← hf k e, hfu k hk]
    · have hlt := ints_lt hu k hk
      rw [if_neg, hfu k hk]
      intro e
      rcases hat with h1 | ⟨k', h1, h2⟩
      · rw [h1] at e
        exact hne (by rw [← hf k e, hfu k hk])
      · rw [h1] at e
        cases e
        omega
  refine ⟨fun k => if v'.ownBlock = some k then s else f k, fun k hk => by dsimp only; rw [if_pos hk], ?_, ?_, fun hs => key h.top h.own hs, fun i p hp => ?_⟩
  · refine (hg.block T hTl (fun e => ?_)).trans h.block
    obtain ⟨c, hc⟩ := hty T e.symm
    rw [h.block] at hc
    cases hc
  · exact row_else h.row hg hty (by decide)
  · obtain ⟨a, b, c, d, e⟩ := h.rows i p hp
    exact ⟨names_grown (base := base) a hg (by omega) (fun k hk => by have := hlow k hk; omega), fun hs => key b d hs, fun hs => key c e hs⟩
/-- A number more on top. -/
theorem TS.addTop {B base : Nat} {W w1 : World} {T : Nat} {nv tv : Value} {ps : List NodeV} {top : List Int} {f : Nat → Nat} (h : TS B base W T nv tv ps top f) {v' : Value} {n : Int}
    (ho : IntsAt w1 base v' (top ++ [n])) (hg : W.grownBy w1 tv.ownBlock) (hat : v'.ownBlock = tv.ownBlock ∨ ∃ k, v'.ownBlock = some k ∧ W.heap.size ≤ k) :
    w1.heap[T]? = some (.cells #[nv, tv] 26) ∧ TSt B base (w1.setCell ⟨T, 1, none⟩ v') T (ps.map NodeV.x) (top ++ [n]) ∧ FrT base T W (w1.setCell ⟨T, 1, none⟩ v') := by
  obtain ⟨f', h1, h2, h3, h4, h5⟩ := h.grown 0 h.top h.own hg hat
  have hTl := World.heap_lt h.block
  have hB := h.low
  have hBT := h.lowT
  have hset := grown_set w1 T 1 v'
  have hl : ∀ k, some T = some k → ∃ c, w1.heap[k]? = some (.cells c 26) := fun k e => by cases e; exact ⟨_, h2⟩
  refine ⟨h2, ⟨nv, v', ps, f', rfl, ?_, row_else h3 hset hl (by decide), row_else ho hset hl (by decide), h1, fun i p hp => ?_, hB, hBT⟩, ?_⟩
  · have := blk_put h2 1 v'
    simpa using this
  · obtain ⟨a, b, c⟩ := h5 i p hp
    obtain ⟨b1, b2⟩ := b (by omega)
    obtain ⟨c1, c2⟩ := c (by omega)
    have hz := hg.size
    exact ⟨names_grown (base := base) a hset (by omega) (fun k e => by cases e; omega), row_else b1 hset hl (by decide), row_else c1 hset hl (by decide), b2, c2⟩
  · exact (FrT.grow hg (by omega) (fun k hk => ⟨row_base h.top k hk, by obtain ⟨c, hc⟩ := row_type h.top k hk; exact ⟨c, _, hc, .inr rfl⟩⟩)).set (p := ⟨T, 1, none⟩) hBT (.inl rfl) _
/-- A number more in a node's list: j is 5 (the body) or 6 (the else). -/
theorem TS.addIn {B base : Nat} {W w1 : World} {T g cap : Nat} {tv : Value} {ps : List NodeV} {top : List Int} {f : Nat → Nat} (h : TS B base W T (.slice (some ⟨g, 0, none⟩) ps.length cap) tv ps top f) {k : Nat} {p : NodeV} (hp : ps[k]? = some p) (els : Bool) {v' : Value} {n : Int}
    (ho : IntsAt w1 base v' ((if els then p.x.els else p.x.body) ++ [n])) (hg : W.grownBy w1 (if els then p.ev else p.bv).ownBlock) (hat : v'.ownBlock = (if els then p.ev else p.bv).ownBlock ∨ ∃ k, v'.ownBlock = some k ∧ W.heap.size ≤ k) :
    w1.heap[T]? = some (.cells #[.slice (some ⟨g, 0, none⟩) ps.length cap, tv] 26) ∧ w1.cell? ⟨g, k * 9 + (if els then 6 else 5), none⟩ = some (if els then p.ev else p.bv) ∧ w1.frozen? ⟨g, k * 9 + (if els then 6 else 5), none⟩ = false ∧
      TSt B base (w1.setCell ⟨g, k * 9 + (if els then 6 else 5), none⟩ v') T ((ps.map NodeV.x).modify k (fun x => if els then { x with els := x.els ++ [n] } else { x with body := x.body ++ [n] })) top ∧
      FrT base T W (w1.setCell ⟨g, k * 9 + (if els then 6 else 5), none⟩ v') := by
  obtain ⟨hn, hbv, hev, hfb, hfe⟩ := h.rows k p hp
  have hTl := World.heap_lt h.block
  have hB := h.low
  have hBT := h.lowT
  obtain ⟨f', h1, h2, h3, h4, h5⟩ := h.grown (if els then 2 * k + 2 else 2 * k + 1) (v := if els then p.ev else p.bv) (xs := if els then p.x.els else p.x.body) (by cases els <;> assumption) (by cases els <;> assumption) hg hat
  obtain ⟨ht1, ht2⟩ := h4 (by cases els <;> simp)
  have hj : (if els then 6 else 5) < 9 := by cases els <;> decide
  obtain ⟨p', hp'⟩ : ∃ p' : NodeV, p' = (if els then { p with ev := v', x := { p.x with els := p.x.els ++ [n] } } else { p with bv := v', x := { p.x with body := p.x.body ++ [n] } }) := ⟨_, rfl⟩
  have hc : nodeCells p' = (nodeCells p).set (if els then 6 else 5) v' := by cases els <;> (rw [hp']; rfl)
  obtain ⟨s1, s2⟩ := World.ownsRow.stored h3 (k * 9 + (if els then 6 else 5)) v'
  rw [flat9_set ps k p p' _ v' hp hj hc] at s1
  have hcell : ∃ x, (nodeCells p)[(if els then 6 else 5)]? = some x ∧ x = (if els then p.ev else p.bv) := by cases els <;> exact ⟨_, rfl, rfl⟩
  obtain ⟨x, hx, hxe⟩ := hcell
  obtain ⟨g', cap', e, hb, hlt, hcc⟩ := row_cell h3 (k * 9 + (if els then 6 else 5)) x (by rw [flat9 ps k p hp _ hj]; exact hx)
  cases e
  obtain ⟨cells, hty⟩ := row_type h3 g rfl
  have hl : ∀ q, some g = some q → ∃ c, w1.heap[q]? = some (.cells c 66) := fun q e => by cases e; exact ⟨_, hty⟩
  have hset := grown_set w1 g (k * 9 + (if els then 6 else 5)) v'
  have hgT : T ≠ g := by rintro rfl; rw [h2] at hty; cases hty
  have hz := hg.size
  refine ⟨h2, by rw [hcc, hxe], World.ownsRow.frozenAt h3 _, ⟨_, tv, ps.set k p', f', ?_, blk_far h2 (p := ⟨g, _, none⟩) hgT _, by simpa using s1, row_else ht1 hset hl (by decide), ht2, fun i q hq => ?_, hB, hBT⟩, ?_⟩
  · rw [map_set ps (fun x => if els then { x with els := x.els ++ [n] } else { x with body := x.body ++ [n] }) k p p' hp (by cases els <;> (rw [hp']; rfl))]
  · have nm : ∀ {v : Value} {xs : List (List UInt8)}, NamesRd B w1 v xs → NamesRd B (w1.setCell ⟨g, k * 9 + (if els then 6 else 5), none⟩ v') v xs := fun a => names_grown (base := base) a hset (by omega) (fun k e => by cases e; omega)
    by_cases hik : i = k
    · subst hik
      have : q = p' := by
        rw [List.getElem?_set_self (List.getElem?_eq_some_iff.1 hp).1] at hq
        exact (Option.some.inj hq).symm
      subst this
      obtain ⟨a, b, c⟩ := h5 i p hp
      cases els with
      | true =>
        obtain ⟨b1, b2⟩ := b (by simp)
        rw [hp']
        exact ⟨nm a, row_else b1 hset hl (by decide), row_else ho hset hl (by decide), b2, h1⟩
      | false =>
        obtain ⟨c1, c2⟩ := c (by simp)
        rw [hp']
        exact ⟨nm a, row_else ho hset hl (by decide), row_else c1 hset hl (by decide), h1, c2⟩
    · rw [List.getElem?_set_ne (fun e => hik e.symm)] at hq
      obtain ⟨a, b, c⟩ := h5 i q hq
      obtain ⟨b1, b2⟩ := b (by cases els <;> simp <;> omega)
      obtain ⟨c1, c2⟩ := c (by cases els <;> simp <;> omega)
      exact ⟨nm a, row_else b1 hset hl (by decide), row_else c1 hset hl (by decide), b2, c2⟩
  · exact (FrT.grow hg (by omega) (fun q hq => by
      cases els with
      | true => exact ⟨row_base hev q hq, by obtain ⟨c, hc⟩ := row_type hev q hq; exact ⟨c, _, hc, .inr rfl⟩⟩
      | false => exact ⟨row_base hbv q hq, by obtain ⟨c, hc⟩ := row_type hbv q hq; exact ⟨c, _, hc, .inr rfl⟩⟩)).set (p := ⟨g, _, none⟩) hb (.inr ⟨_, _, hty, .inl rfl⟩) _
end Go.Proofs.YtcggeaobonblfaaDoor

/- (*parser).list: walked. -/
namespace Go.Proofs.YtcggeaobonblfaaDoor
set_option linter.unusedSimpArgs false
open Go Go.RowKit
def lenOf : Value → Nat
  | .slice _ n _ => n
  | _ => 0
/-- Between two rounds of the list-reader. -/
def ListInv (B base : Nat) (X : Nat → Prop) (P : Nat) (ws : List Word) (w : World) (n i : Nat) (nodes : List Node) (depth : Nat) (a : Value) (wr : World) : Prop :=
  ∃ m i' nodes' acc, ws.length < m + i' ∧ m ≤ n ∧ i' ≤ ws.length ∧ nodes'.length ≤ i' ∧ acc.length ≤ i' ∧ listP ws n i nodes depth [] = listP ws m i' nodes' depth acc ∧
    IntsAt wr w.heap.size a acc ∧ PSt B base (fun k => X k ∨ a.ownBlock = some k) wr P ws i' nodes' ∧ Fr base P w wr
theorem nodes_own {B base : Nat} {X : Nat → Prop} {W : World} {v : Value} {ps : List NodeV} (h : NodesAt B base X W v ps) {Y : Nat → Prop} (hy : ∀ k, Y k → X k ∨ W.heap.size ≤ k) : NodesAt B base Y W v ps :=
  ⟨h.1, fun p hp => let ⟨a, b, c, d, e⟩ := h.2 p hp;
    ⟨a, b, c, fun k hk hY => (hy k hY).elim (d k hk) (fun hs => by have := (World.ownsRow.lt b k hk).2; omega),
     fun k hk hY => (hy k hY).elim (e k hk) (fun hs => by have := (World.ownsRow.lt c k hk).2; omega)⟩⟩
/-- What turns a row of the set X alone, beyond base, and a row of numbers. -/
theorem PSt.grow {B base : Nat} {X : Nat → Prop} {W W' : World} {P : Nat} {ws : List Word} {i : Nat} {nodes : List Node} {r : Option Nat} (h : PSt B base X W P ws i nodes) (hg : W.grownBy W' r)
    (hr : ∀ k, r = some k → X k ∧ base ≤ k ∧ ∃ c, W.heap[k]? = some (.cells c 3)) : PSt B base X W' P ws i nodes := by
  obtain ⟨wv, nv, ps, h1, h2, h3, h4, h5, h6⟩ := h
  have hP := World.heap_lt h2
  have hbel : Below base W W' := ⟨hg.os, hg.tape, hg.output, hg.size, fun k hk => hg.block k (by omega) (fun e => by have := (hr k e.symm).2.1; omega)⟩
  refine ⟨wv, nv, ps, h1, (hg.block P hP (fun e => ?_)).trans h2, h3.below (hbel.mono h5), h4.step h5 hbel (fun k c t hc ht => (hg.block k (World.heap_lt hc) (fun e => ?_)).trans hc), h5, h6⟩
  · obtain ⟨-, -, c, hc⟩ := hr P e.symm
    rw [h2] at hc
    cases hc
  · obtain ⟨hx, -, c', hc'⟩ := hr k e.symm
    rcases ht with rfl | ⟨-, hn⟩
    · rw [hc] at hc'; cases hc'
    · exact hn hx
theorem PSt.other {B base : Nat} {X Y : Nat → Prop} {W : World} {P : Nat} {ws : List Word} {i : Nat} {nodes : List Node} (h : PSt B base X W P ws i nodes) (hy : ∀ k, Y k → X k ∨ W.heap.size ≤ k) : PSt B base Y W P ws i nodes := by
  obtain ⟨wv, nv, ps, h1, h2, h3, h4, h5, h6⟩ := h
  exact ⟨wv, nv, ps, h1, h2, h3, nodes_own h4 hy, h5, h6⟩
theorem fr_grow {base P : Nat} {w W W' : World} {r : Option Nat} (h : Fr base P w W) (hg : W.grownBy W' r) (hbase : base ≤ w.heap.size) (hr : ∀ k, r = some k → w.heap.size ≤ k) : Fr base P w W' :=
  ⟨hg.os.trans h.os, hg.tape.trans h.tape, hg.output.trans h.output, Nat.le_trans h.size hg.size,
    fun k hk => (hg.block k (by have := h.size; omega) (fun e => by have := hr k e.symm; omega)).trans (h.low k hk),
    fun k hk hP => (h.high k hk hP).imp id fun e => (hg.block k (by have := h.size; omega) (fun e => by have := hr k e.symm; omega)).trans e⟩
theorem Tryd.info3 : (Tryd.prog.info? 3).map (fun i => (i.zero, i.size, i.bytes)) = some (some (.int .i64 0), 1, 8) := by kernel_rfl
set_option maxRecDepth 100000 in
set_option maxHeartbeats 2000000 in
theorem list_step (B base P : Nat) (ws : List Word) (hws : ws.length ≤ 100000) (n : Nat) (hIH : ∀ m, m < n → ListOK B base P ws (ws.length + 1 - m) (fun i nd d => listP ws m i nd d [])) :
    ListOK B base P ws (ws.length + 1 - n) (fun i nd d => listP ws n i nd d []) := by
  intro X i nodes depth w hlo hi hn hd hst hX
  refine ⟨?_, listP_goes ws n i nodes depth [] hi hn⟩
  have hbw : base ≤ w.heap.size := by obtain ⟨_, _, _, _, h, _, _, _, h6⟩ := hst; have := World.heap_lt h; omega
  have H0 : Hid (ListInv B base X P ws w n i nodes depth (.slice none 0 0) w) :=
    Lib.hid ⟨n, i, nodes, [], by omega, Nat.le_refl _, hi, hn, by simp, rfl, ints_none _ _, hst.mono (fun k h => h.elim id (fun e => by cases e)), Fr.refl _ _ _⟩
  obtain ⟨i0, hi0, hz0, hz1, hz2⟩ := info_parts Tryd.info3
  have hbP : base ≤ P := hst.choose_spec.choose_spec.choose_spec.2.2.2.2.2
  clear hst
  go_enter Tryd.func39, Tryd.ntmps39
  go_wp2_with fail
  go_loopw [6] (fun a wr => Hid (ListInv B base X P ws w n i nodes depth a wr)) (fun a _ => ws.length + 1 - lenOf a)
  case atStart => exact H0
  case round =>
    clear H0
    obtain ⟨m, i', nodes', acc, hm, hmn, hi', hn', hacc, hE, hints, hst, hfr⟩ := hrel.out
    obtain ⟨m, rfl⟩ : ∃ k, m = k + 1 := ⟨m - 1, by omega⟩
    obtain ⟨oA, oc, rfl⟩ := ints_slice hints
    obtain ⟨wv, lv, ps, hmap, hb, hwr, hns, hB, -⟩ := id hst
    obtain ⟨wA, wc, rfl⟩ : ∃ A c, wv = .slice A ws.length c := by obtain ⟨A, c, e, _⟩ := hwr; exact ⟨A, c, e⟩
    have c0 : wr.cell? ⟨P, 0, none⟩ = some (.slice wA ws.length wc) := by simp [World.cell?, hb]
    have c1 : wr.cell? ⟨P, 1, none⟩ = some (.int .i64 i') := by simp [World.cell?, hb]
    have f1 : wr.frozen? ⟨P, 1, none⟩ = false := by simp [World.frozen?, hb]
    have HE := Lib.hid hE
    have Hints := Lib.hid hints
    have Hst := Lib.hid hst
    have Hfr := Lib.hid hfr
    have Hb := Lib.hid hb
    clear hrel hE hints hst hfr hns hmap hwr hb
    cases hx1 : ws[i']? with
    | none =>
      have hge : ws.length ≤ i' := List.getElem?_eq_none_iff.1 hx1
      have HB : Hid (listP ws (m + 1) i' nodes' depth acc = .ok (acc, i', nodes')) := Lib.hid (by unfold listP; rw [hx1])
      have d5 : decide (i' < ws.length) = false := by simp; omega
      have d6 : decide ((i' : Int) < (ws.length : Int)) = false := by simp; omega
      clear hx1 hIH
      go_wp2
      go_quiet (fail)
      go_wp2
      go_ret2
      rw [HE.out, HB.out]
      exact ⟨_, rfl, Hints.out, Hst.out.draws _, Hfr.out.drewN _⟩
    | some y =>
      have hlt : i' < ws.length := (List.getElem?_eq_some_iff.1 hx1).1
      obtain ⟨q, nv, rfl, k0, k1, k2, k3, k4, hnv⟩ := word_at Hst.out Hb.out hx1
      obtain ⟨NA, NC, rfl⟩ : ∃ A c, nv = .slice A y.names.length c := by obtain ⟨A, c, e, _⟩ := hnv; exact ⟨A, c, e⟩
      have d5 : decide (i' < ws.length) = true := by simpa using hlt
      have d6 : decide ((i' : Int) < (ws.length : Int)) = true := by simpa using hlt
      have hPl : P < wr.heap.size := World.heap_lt Hb.out
      have hql : q < wr.heap.size := World.block_lt_of_cell? wr _ k0
      have Hnv := Lib.hid hnv
      have Hx1 := Lib.hid hx1
      clear hnv hx1
      go_wp2
      go_quiet (fail)
      obtain ⟨W2, hW2⟩ : ∃ W2, wr.drewN nq = W2 := ⟨_, rfl⟩
      have Hst2 : Hid (PSt B base (fun k => X k ∨ (Value.slice oA acc.length oc).ownBlock = some k) W2 P ws i' nodes') := by rw [← hW2]; exact Lib.hid (Hst.out.draws _)
      have Hfr2 : Hid (Fr base P w W2) := by rw [← hW2]; exact Lib.hid (Hfr.out.drewN _)
      have Hints2 : Hid (IntsAt W2 w.heap.size (.slice oA acc.length oc) acc) := by rw [← hW2]; exact Hints
      have Hnv2 : Hid (NamesRd B W2 (.slice NA y.names.length NC) y.names) := by rw [← hW2]; exact Hnv
      have e0 : W2.cell? ⟨P, 0, none⟩ = some (.slice (some ⟨q, 0, none⟩) ws.length wc) := by rw [← hW2]; exact c0
      have e1 : W2.cell? ⟨P, 1, none⟩ = some (.int .i64 i') := by rw [← hW2]; exact c1
      have e2 : W2.frozen? ⟨P, 1, none⟩ = false := by rw [← hW2]; exact f1
      have hPl2 : P < W2.heap.size := by rw [← hW2]; exact hPl
      have hql2 : q < W2.heap.size := by rw [← hW2]; exact hql
      have n0 : W2.cell? ⟨q, i' * 5, none⟩ = some (.int .u8 y.kind) := by rw [← hW2]; exact k0
      have n1 : W2.cell? ⟨q, i' * 5 + 1, none⟩ = some (.int .i64 y.at_) := by rw [← hW2]; exact k1
      have n2 : W2.cell? ⟨q, i' * 5 + 2, none⟩ = some (.string ⟨y.text.toArray⟩) := by rw [← hW2]; exact k2
      have n3 : W2.cell? ⟨q, i' * 5 + 3, none⟩ = some (.bool y.root) := by rw [← hW2]; exact k3
      have n4 : W2.cell? ⟨q, i' * 5 + 4, none⟩ = some (.slice NA y.names.length NC) := by rw [← hW2]; exact k4
      rw [hW2]
      clear hW2 Hst Hfr Hints Hnv Hb c0 c1 f1 hPl hql k0 k1 k2 k3 k4
      go_wp2
      by_cases h3 : y.kind = 3
      · have HB : Hid (listP ws (m + 1) i' nodes' depth acc = .ok (acc, i', nodes')) := Lib.hid (by unfold listP; rw [Hx1.out]; dsimp only; rw [if_pos (.inl h3)])
        clear hIH
        rw [h3] at n0
        go_region
        go_wp2
        go_ret2
        rw [HE.out, HB.out]
        exact ⟨_, rfl, World.ownsRow.alloc Hints2.out _, Hst2.out.later (((Below.refl _ _).alloc (Nat.le_refl _) _).drew), (Hfr2.out.alloc hbw _).drew⟩
      by_cases h5 : y.kind = 5
      · have HB : Hid (listP ws (m + 1) i' nodes' depth acc = .ok (acc, i', nodes')) := Lib.hid (by unfold listP; rw [Hx1.out]; dsimp only; rw [if_pos (.inr h5)])
        clear hIH
        rw [h5] at n0
        go_region
        go_wp2
        go_ret2
        rw [HE.out, HB.out]
        exact ⟨_, rfl, World.ownsRow.alloc Hints2.out _, Hst2.out.later (((Below.refl _ _).alloc (Nat.le_refl _) _).drew), (Hfr2.out.alloc hbw _).drew⟩
      have b3 := k_false h3
      have b5 := k_false h5
      go_region
      have hX2 : ∀ k, (X k ∨ (Value.slice oA acc.length oc).ownBlock = some k) → k < W2.heap.size := fun k h => h.elim (fun h => Nat.lt_of_lt_of_le (hX k h) Hfr2.out.size) (fun h => (World.ownsRow.lt Hints2.out k h).2)
      obtain ⟨W3, hW3⟩ : ∃ W3, (W2.alloc (.cells #[.int .u8 y.kind, .int .i64 y.at_, .string ⟨y.text.toArray⟩, .bool y.root, .slice NA y.names.length NC] 76)).drew = W3 := ⟨_, rfl⟩
      have hb23 : Below W2.heap.size W2 W3 := by rw [← hW3]; exact ((Below.refl _ _).alloc (Nat.le_refl _) _).drew
      have Hst3 : Hid (PSt B base (fun k => X k ∨ (Value.slice oA acc.length oc).ownBlock = some k) W3 P ws i' nodes') := Lib.hid (Hst2.out.later hb23)
      have Hfr3 : Hid (Fr base P w W3) := Lib.hid (Hfr2.out.trans (Fr.of_below hb23 (Nat.le_trans hbw Hfr2.out.size)))
      have Hints3 : Hid (IntsAt W3 w.heap.size (.slice oA acc.length oc) acc) := by rw [← hW3]; exact Lib.hid (World.ownsRow.alloc Hints2.out _)
      have Hnv3 : Hid (NamesRd B W3 (.slice NA y.names.length NC) y.names) := Lib.hid (Hnv2.out.below (hb23.mono (by have := Hfr2.out.size; omega)))
      have hX3 : ∀ k, (X k ∨ (Value.slice oA acc.length oc).ownBlock = some k) → k < W3.heap.size := fun k h => Nat.lt_of_lt_of_le (hX2 k h) hb23.size
      have hbox : W3.heap[W2.heap.size]? = some (.cells #[.int .u8 y.kind, .int .i64 y.at_, .string ⟨y.text.toArray⟩, .bool y.root, .slice NA y.names.length NC] 76) := by rw [← hW3]; exact World.alloc_heap_new W2 _
      have d0 : W3.cell? ⟨W2.heap.size, 0, none⟩ = some (.int .u8 y.kind) := by simp [World.cell?, hbox]
      have d1 : W3.cell? ⟨W2.heap.size, 1, none⟩ = some (.int .i64 y.at_) := by simp [World.cell?, hbox]
      have d2 : W3.cell? ⟨W2.heap.size, 2, none⟩ = some (.string ⟨y.text.toArray⟩) := by simp [World.cell?, hbox]
      have d3 : W3.cell? ⟨W2.heap.size, 3, none⟩ = some (.bool y.root) := by simp [World.cell?, hbox]
      have d4 : W3.cell? ⟨W2.heap.size, 4, none⟩ = some (.slice NA y.names.length NC) := by simp [World.cell?, hbox]
      have c1 : W3.cell? ⟨P, 1, none⟩ = some (.int .i64 i') := (hb23.cell (p := ⟨P, 1, none⟩) hPl2).trans e1
      have f1 : W3.frozen? ⟨P, 1, none⟩ = false := (World.frozen?_of_block (a := ⟨P, 1, none⟩) (hb23.block P hPl2)).trans e2
      have hne : W2.heap.size ≠ P := by omega
      rw [hW3]
      clear hW3 hX2 hbox Hst2 Hfr2 Hints2 Hnv2 e0 e1 e2 n0 n1 n2 n3 n4 hb23
      have HC := node_any B base P ws (ws.length + 1 - m) (fun i nd d => listP ws m i nd d []) (hIH m (by omega)) (fun i nd d h1 h2 => listP_goes ws m i nd d [] h1 h2) hws (fun k => X k ∨ (Value.slice oA acc.length oc).ownBlock = some k) (i' + 1) nodes' y (.slice NA y.names.length NC) depth
        (W3.setCell ⟨P, 1, none⟩ (.int .i64 ((i' : Int) + 1))) (by omega) (by omega) (by omega) hd Hst3.out.next (fun k h => by rw [size_set]; exact hX3 k h) (Hnv3.out.below ((Below.refl _ _).setCell (p := ⟨P, 1, none⟩) (by dsimp only; omega) _))
      have HG := nodeP_goes (ws := ws) (L := fun i nd d => listP ws m i nd d []) (fun i nd d h1 h2 => listP_goes ws m i nd d [] h1 h2) (i' + 1) nodes' y depth (by omega) (by omega)
      have Hfr4 : Hid (Fr base P w (W3.setCell ⟨P, 1, none⟩ (.int .i64 ((i' : Int) + 1)))) := Lib.hid (Hfr3.out.next hbP _)
      have Hints4 : Hid (IntsAt (W3.setCell ⟨P, 1, none⟩ (.int .i64 ((i' : Int) + 1))) w.heap.size (.slice oA acc.length oc) acc) := Lib.hid (by
        obtain ⟨_, _, _, _, h, _⟩ := Hst3.out
        exact row_else Hints3.out (grown_set W3 P 1 _) (fun k e => by cases e; exact ⟨_, h⟩) (by decide))
      have HP4 : Hid (∃ cs, (W3.setCell ⟨P, 1, none⟩ (.int .i64 ((i' : Int) + 1))).heap[P]? = some (.cells cs 108)) := Lib.hid (by
        obtain ⟨_, _, _, _, h, _⟩ := Hst3.out.next
        exact ⟨_, h⟩)
      clear hIH hX3 Hnv3 Hfr3 Hints3
      cases hR : nodeP (fun i nd d => listP ws m i nd d []) ws (i' + 1) nodes' y depth with
      | error f =>
        have HB : Hid (listP ws (m + 1) i' nodes' depth acc = .error f) := Lib.hid (by unfold listP; rw [Hx1.out]; dsimp only; rw [if_neg (by omega), hR])
        rw [hR] at HC
        have HC' := Lib.hid HC
        clear HC HG hR Hst3
        go_wp2_with (go_at_call 61; refine halt ?_)
        refine Halted.mk' ?_
        refine (HC'.out).mono ?_
        rintro e w5 ⟨v, rfl, ⟨q5, rfl, hq⟩, hf⟩
        have Hf := Lib.hid hf
        have Hq := Lib.hid hq
        clear hf hq HC' d0 d1 d2 d3 d4 c1 f1
        go_wp2
        go_ret2
        rw [HE.out, HB.out]
        exact ⟨_, rfl, ⟨_, rfl, Hq.out⟩, Hfr4.out.trans Hf.out⟩
      | ok r =>
        obtain ⟨kk, i1, nd1⟩ := r
        have HB : Hid (listP ws (m + 1) i' nodes' depth acc = listP ws m i1 nd1 depth (acc ++ [kk])) := Lib.hid (by
          conv => lhs; unfold listP
          rw [Hx1.out]; dsimp only; rw [if_neg (by omega), hR])
        rw [hR] at HC HG
        obtain ⟨hg1, hg2, hg3, hg4⟩ := HG
        have HC' := Lib.hid HC
        clear HC hR Hst3
        go_wp2_with (go_at_call 61; refine halt ?_)
        refine Halted.mk' ?_
        refine (HC'.out).mono ?_
        rintro e w5 ⟨rfl, hst5, hf⟩
        have hints5 : IntsAt w5 w.heap.size (.slice oA acc.length oc) acc := by
          obtain ⟨cs, h⟩ := HP4.out
          exact ints_fr Hints4.out hf h (by decide)
        have Hst5 := Lib.hid hst5
        have Hfr5 := Lib.hid (Hfr4.out.trans hf)
        have Hints5 := Lib.hid hints5
        clear hst5 hf hints5 HC' Hfr4 Hints4 HP4 d0 d1 d2 d3 d4 c1 f1
        go_wp2_with (at_builtin; refine halt ?_)
        refine Halted.mk' ?_
        refine wpList_append_own_at _ rfl _ _ 24 rfl w.heap.size 3 i0 _ 1 8 Tryd.underlying24 hi0 hz0 hz1 hz2 rfl (by decide) (.slice oA acc.length oc) acc.length (acc.map (Value.int .i64)) rfl (World.ownsRow.alloc Hints5.out _) ⟨_, 0, none⟩ 1 1 [.int .i64 kk] rfl rfl (cells_new _ [.int .i64 kk] _ _ (by simp)) ?_ ?_ ?_ ?_ ?_
        · simp [Value.oneCell']
        · unfold maxLen; omega
        · omega
        · have := Hfr5.out.size; simp; omega
        intro v' w6 hown' hgrow _ hat
        obtain ⟨g', cap', rfl⟩ := ownsRow_succ hown'
        have hrow : ∀ k, (Value.slice oA acc.length oc).ownBlock = some k → ∃ cells, w5.heap[k]? = some (.cells cells 3) := row_type Hints5.out
        have hlow : ∀ k, (Value.slice oA acc.length oc).ownBlock = some k → w.heap.size ≤ k := row_base Hints5.out
        have hst6 : PSt B base (fun k => X k ∨ (Value.slice (some ⟨g', 0, none⟩) (acc.length + 1) cap').ownBlock = some k) w6 P ws i1 nd1 := by
          have h1 := Hst5.out.later ((Below.refl _ w5).alloc (Nat.le_refl _) (.cells #[.int .i64 kk] 3))
          have h2 := h1.other (Y := fun k => (X k ∨ (Value.slice oA acc.length oc).ownBlock = some k) ∨ (Value.slice (some ⟨g', 0, none⟩) (acc.length + 1) cap').ownBlock = some k) (fun k h => h.elim .inl (fun h => hat.elim (fun e => .inl (.inr (e ▸ h))) (fun e => .inr (by rw [e] at h; cases h; exact Nat.le_refl _))))
          have h3 := h2.grow hgrow (fun k e => ⟨.inl (.inr e), Nat.le_trans hbw (hlow k e), by obtain ⟨c, h⟩ := hrow k e; exact ⟨c, (heap_old (World.heap_lt h)).trans h⟩⟩)
          exact h3.mono (fun k h => h.elim (fun h => .inl (.inl h)) .inr)
        have hfr6 : Fr base P w w6 := fr_grow (Hfr5.out.alloc hbw _) hgrow hbw hlow
        have hI : Hid (ListInv B base X P ws w n i nodes depth (.slice (some ⟨g', 0, none⟩) (acc.length + 1) cap') w6) :=
          Lib.hid ⟨m, i1, nd1, acc ++ [kk], by omega, by omega, hg2, hg4, by simp; omega, HE.out.trans HB.out, by simpa [IntsAt] using hown', hst6, hfr6⟩
        clear hi0 hz0 hz1 hz2 hown' hgrow hat hrow hlow hst6 hfr6 Hst5 Hfr5 Hints5
        go_wp2
        exact ⟨hI, by simp only [lenOf]; omega⟩
theorem list_any (B base P : Nat) (ws : List Word) (hws : ws.length ≤ 100000) (n : Nat) : ListOK B base P ws (ws.length + 1 - n) (fun i nd d => listP ws n i nd d []) := by
  induction n using Nat.strongRecOn with
  | ind n ih => exact list_step B base P ws hws n ih
end Go.Proofs.YtcggeaobonblfaaDoor

/- bobbinref14.add: a node within the innermost that is open. -/
namespace Go.Proofs.YtcggeaobonblfaaDoor
set_option linter.unusedSimpArgs false
set_option linter.unusedVariables false
open Go Go.RowKit Go.Proofs.YtcggeaobonblfaaDoorW.PrintLast
/-- An if or a range that hasn't ended. -/
structure Opn where
  (node kind : Int) (els : Bool)
def openCells (o : Opn) : List Value := [.int .i64 o.node, .int .i64 o.kind, .bool o.els]
def StackAt (W : World) (base : Nat) (v : Value) (st : List Opn) : Prop := W.ownsRow base 78 3 v st.length (st.flatMap openCells)
theorem stack_slice {W : World} {base : Nat} {v : Value} {st : List Opn} (h : StackAt W base v st) : ∃ A c, v = .slice A st.length c := by
  rcases h.2 with ⟨rfl, h0⟩ | ⟨g, cap, cur, rfl, _⟩
  · rw [h0]; exact ⟨_, _, rfl⟩
  · exact ⟨_, _, rfl⟩
theorem stack_flat (st : List Opn) (o : Opn) (j : Nat) (hj : j < 3) : ((st ++ [o]).flatMap openCells)[st.length * 3 + j]? = (openCells o)[j]? := by
  have hl : (st.flatMap openCells).length = st.length * 3 := by
    induction st with
    | nil => rfl
    | cons a st ih => rw [List.flatMap_cons, List.length_append, ih]; simp [openCells]; omega
  rw [List.flatMap_append, List.getElem?_append_right (by omega), hl]
  simp [openCells]
theorem stack_last {W : World} {base : Nat} {v : Value} {st : List Opn} {o : Opn} (h : StackAt W base v (st ++ [o])) : ∃ g cap, v = .slice (some ⟨g, 0, none⟩) (st.length + 1) cap ∧ base ≤ g ∧ g < W.heap.size ∧
    W.cell? ⟨g, st.length * 3, none⟩ = some (.int .i64 o.node) ∧ W.cell? ⟨g, st.length * 3 + 1, none⟩ = some (.int .i64 o.kind) ∧ W.cell? ⟨g, st.length * 3 + 2, none⟩ = some (.bool o.els) := by
  obtain ⟨g, cap, rfl, h1, h2, c0⟩ := row_cell h (st.length * 3 + 0) _ (by rw [stack_flat st o 0 (by omega)]; rfl)
  obtain ⟨g1, cap1, e1, -, -, c1⟩ := row_cell h (st.length * 3 + 1) _ (by rw [stack_flat st o 1 (by omega)]; rfl)
  cases e1
  obtain ⟨g2, cap2, e2, -, -, c2⟩ := row_cell h (st.length * 3 + 2) _ (by rw [stack_flat st o 2 (by omega)]; rfl)
  cases e2
  exact ⟨g, cap, by simp, h1, h2, c0, c1, c2⟩
/-- A row of another type is kept. -/
theorem FrT.row {base T b e size n : Nat} {W W' : World} {v : Value} {xs : List Value} {cs : Array Value} {t : TypeId} (hf : FrT base T W W') (h : W.ownsRow b e size v n xs) (hT : W.heap[T]? = some (.cells cs t)) (ht : e ≠ t) (h1 : e ≠ 66) (h2 : e ≠ 3) : W'.ownsRow b e size v n xs := by
  refine ⟨h.1, ?_⟩
  rcases h.2 with hn | ⟨g, cap, cur, rfl, hb, hg, rest⟩
  · exact .inl hn
  · refine .inr ⟨g, cap, cur, rfl, hb, hf.blk hg ?_ h1 h2, rest⟩
    rintro rfl
    rw [hg] at hT
    cases hT
    exact ht rfl
/-- append to a row of the call's own, as one step of a region that draws its order; where the new row lies. -/
theorem step_grow_at {P : Program} {ops : Array Oper} {o : Oper} {a : Act} {K : Act → World → Prop} {Q : Exit → Act → World → Prop} {E : Prop} {W : World} (hgd : o.guard = none) (s x : Operand) (t : TypeId)
    (ho : o.op = .call { callee := .builtin .append, args := #[s, x], argTypes := #[t, t] })
    (base : Nat) (e : TypeId) (i : TypeInfo) (z : Value) (size bytes : Nat) (ht : P.underlying t = some (.slice e)) (hi : P.info? e = some i) (hz : i.zero = some z)
    (hsize : i.size = size) (hby : i.bytes = bytes) (hzs : z.cells.size = size) (hsz : 0 < size)
    (v : Value) (n : Nat) (xs : List Value) (hs : a.eval s = v) (hown : W.ownsRow base e size v n xs)
    (ad : Addr) (m c : Nat) (news : List Value) (hx : a.eval x = .slice (some ad) m c) (hl : news.length = m * size) (hnews : ∀ j u, news[j]? = some u → W.cell? (ad.add j) = some u) (h1 : ∀ u ∈ news, u.oneCell' = true)
    (h63 : n + m ≤ maxLen) (hbytes : (n + m) * bytes ≤ 140737488355328) (hbase : base ≤ W.heap.size)
    (h : ∀ v' w', w'.ownsRow base e size v' (n + m) (xs ++ news) → W.grownBy w' v.ownBlock → (v'.ownBlock = v.ownBlock ∨ v'.ownBlock = some W.heap.size) → K (a.put o.dst v') w') :
    if Region.wanted o (yielded ops a.tmps) = true then Oper.wp P o a W K Q else E := by
  rw [if_pos (by simp [Region.wanted, hgd])]
  obtain ⟨v', w', hr, h2, h3, h4, h5⟩ := run_append_own_at (P := P) W base t o.type e i z size bytes ht hi hz hsize hby hzs hsz v n xs hown ad m c news hl hnews h1 h63 hbytes hbase
  unfold Oper.wp execOp
  simp only [ho, resolve, invoke, builtin, Sem.run_bind, Sem.run_pure, Result.andThen_ok, List.map_toArray, List.map_cons, List.map_nil, hs, hx, hr]
  exact h v' w' h2 h3 h5
def addF (nodes : List Node) (top : List Int) (st : List Opn) (n : Int) : List Node × List Int :=
  match st.getLast? with
  | none => (nodes, top ++ [n])
  | some o => (nodes.modify o.node.toNat (fun x => if o.els then { x with els := x.els ++ [n] } else { x with body := x.body ++ [n] }), top)
def AddPost (B base T : Nat) (w : World) (r : List Node × List Int) (e : Ending) (w' : World) : Prop := e = .returned (.tuple #[]) ∧ TSt B base w' T r.1 r.2 ∧ FrT base T w w'
set_option maxRecDepth 100000 in
set_option maxHeartbeats 2000000 in
theorem add_any (B base sb T : Nat) (nodes : List Node) (top : List Int) (st : List Opn) (sv : Value) (n : Int) (w : World) (hT : TSt B base w T nodes top) (hs : StackAt w sb sv st) (hl : top.length ≤ 100000)
    (hb : ∀ x ∈ nodes, x.body.length ≤ 100000 ∧ x.els.length ≤ 100000) (hst : st.length ≤ 1000) (hlast : ∀ o, st.getLast? = some o → 0 ≤ o.node ∧ o.node < nodes.length) (hnl : nodes.length ≤ 100000) :
    Calls Tryd.prog 22 #[.pointer (some ⟨T, 0, none⟩), sv, .int .i64 n] w (AddPost B base T w (addF nodes top st n)) := by
  obtain ⟨nv, tv, ps, f, hmap, hts⟩ := hT
  obtain ⟨i0, hi0, hz0, hz1, hz2⟩ := info_parts Tryd.info3
  have hTl := World.heap_lt hts.block
  have hB := hts.low
  have hBT := hts.lowT
  have b0 : w.cell? ⟨T, 0, none⟩ = some nv := by have := hts.block; simp [World.cell?, this]
  have b1 : w.cell? ⟨T, 1, none⟩ = some tv := by have := hts.block; simp [World.cell?, this]
  rcases List.eq_nil_or_concat st with rfl | ⟨st', o, rfl⟩
  · have HF : Hid (addF nodes top [] n = (nodes, top ++ [n])) := Lib.hid rfl
    obtain ⟨A, c, rfl⟩ := stack_slice hs
    obtain ⟨TA, TC, rfl⟩ := ints_slice hts.top
    have Hts := Lib.hid hts
    have Hmap := Lib.hid hmap
    clear hts hmap hs hb hlast
    go_enter Tryd.func22, Tryd.ntmps22
    go_wp2_with (at_builtin; refine halt ?_)
    refine Halted.mk' ?_
    refine wpList_append_own_at _ rfl _ _ 24 rfl base 3 i0 _ 1 8 Tryd.underlying24 hi0 hz0 hz1 hz2 rfl (by decide) (.slice TA top.length TC) top.length (top.map (Value.int .i64)) rfl (World.ownsRow.alloc Hts.out.top _) ⟨_, 0, none⟩ 1 1 [.int .i64 n] rfl rfl (cells_new _ [.int .i64 n] _ _ (by simp)) ?_ ?_ ?_ ?_ ?_
    · simp [Value.oneCell']
    · unfold maxLen; omega
    · omega
    · simp; omega
    intro v' w1 hown' hgrow _ hat
    obtain ⟨g', cap', rfl⟩ := ownsRow_succ hown'
    have hgw := grown_two (World.grownBy_alloc w (.cells #[.int .i64 n] 3) none) hgrow
    obtain ⟨h1, h2, h3⟩ := Hts.out.addTop (v' := .slice (some ⟨g', 0, none⟩) (top.length + 1) cap') (n := n) (by simpa [IntsAt] using hown') hgw (hat.imp id (fun e => ⟨_, e, by simp⟩))
    have H2 := Lib.hid h2
    have H3 := Lib.hid h3
    have k1 : w1.cell? ⟨T, 1, none⟩ = some (.slice TA top.length TC) := by simp [World.cell?, h1]
    have k2 : w1.frozen? ⟨T, 1, none⟩ = false := by simp [World.frozen?, h1]
    clear h1 h2 h3 hown' hgrow hat hgw hi0 hz0 hz1 hz2 b0 b1
    go_wp2
    refine bodyPost_ret (v := .tuple #[]) (by simp [results, Tryd.results22, go_sem]) rfl ?_
    rw [HF.out, ← Hmap.out]
    exact ⟨rfl, H2.out, H3.out⟩
  · rw [List.concat_eq_append] at hs hlast hst ⊢
    have hlo : (st' ++ [o]).getLast? = some o := by simp
    obtain ⟨hn0, hn1⟩ := hlast o hlo
    obtain ⟨k, hk⟩ := Int.eq_ofNat_of_zero_le hn0
    have hlen : nodes.length = ps.length := by rw [← hmap]; simp
    have hkl : k < ps.length := by omega
    obtain ⟨p, hp⟩ : ∃ p, ps[k]? = some p := ⟨_, List.getElem?_eq_getElem hkl⟩
    obtain ⟨sg, sc, rfl, -, hsl, so0, so1, so2⟩ := stack_last hs
    rw [hk] at so0
    obtain ⟨g, cap, rfl, hbg, hgl, pc0⟩ := row_cell hts.row (k * 9 + 0) _ (by rw [flat9 ps k p hp 0 (by omega)]; rfl)
    obtain ⟨-, hbv, hev, -, -⟩ := hts.rows k p hp
    have hpm : p.x ∈ nodes := by rw [← hmap]; exact List.mem_map_of_mem (List.mem_of_getElem? hp)
    obtain ⟨hb1, hb2⟩ := hb p.x hpm
    have hi : ((st'.length : Int) + 1 - 1) = (st'.length : Int) := by omega
    have HF : Hid (addF nodes top (st' ++ [o]) n = (nodes.modify k (fun x => if o.els then { x with els := x.els ++ [n] } else { x with body := x.body ++ [n] }), top)) := Lib.hid (by unfold addF; rw [hlo]; dsimp only; rw [hk]; rfl)
    have hst' : st'.length ≤ 1000 := by simp at hst; omega
    have Hts := Lib.hid hts
    have Hmap := Lib.hid hmap
    have hkz : (k : Int) < (ps.length : Int) := by omega
    clear hts hmap hs hb hlast hst hlo hn0 hn1 hpm hlen b1 hkl
    cases hels : o.els with
    | true =>
      rw [hels] at so2 HF
      obtain ⟨RA, RC, hre⟩ := ints_slice hev
      have pc : w.cell? ⟨g, k * 9 + 6, none⟩ = some (.slice RA p.x.els.length RC) := by
        obtain ⟨g2, cap2, e2, -, -, c2⟩ := row_cell Hts.out.row (k * 9 + 6) _ (by rw [flat9 ps k p hp 6 (by omega)]; rfl)
        cases e2
        rw [← hre]; exact c2
      rw [hre] at hev
      have Hrow := Lib.hid hev
      have Hre := Lib.hid hre
      have Hk := Lib.hid hk
      have Hp := Lib.hid hp
      clear hev hbv hre hk hels hp pc0
      go_enter Tryd.func22, Tryd.ntmps22
      go_wp2
      refine start_ (n := 21) (S := fun w' => w'.cell? ⟨T, 0, none⟩ = some (.slice (some ⟨g, 0, none⟩) ps.length cap) ∧ w'.cell? ⟨w.heap.size, 0, none⟩ = some (.int .i64 k) ∧ w'.cell? ⟨g, k * 9 + 6, none⟩ = some (.slice RA p.x.els.length RC)) (ds := [20]) #[false, false, false, false, false, false, false, false, false, false, false, false, false, false, false, false, false, false, false, false, false] (by kernel_rfl) rfl rfl ⟨(World.cell?_alloc_past _ _ _ hTl).trans b0, by simp, (World.cell?_alloc_past _ _ _ hgl).trans pc⟩ (fun hHeld => ?_)
      refine pure_ (i := 0) (N := (some 28)) (v := ?_) (a' := ?_) #[true, false, false, false, false, false, false, false, false, false, false, false, false, false, false, false, false, false, false, false, false] rfl rfl (by kernel_rfl) (fun _ _ _ h => h) (Or.inl ⟨by rfl, ?_⟩) ?_ ?_
      rotate_left
      · intro w'
        go_simp
        with_reducible rfl
      rotate_left
      · simp only [Act.put, List.setIfInBounds_toArray, List.set_cons_zero, List.set_cons_succ, i64_w, i32_w]
        rfl
      refine pure_ (i := 1) (N := (some 29)) (v := ?_) (a' := ?_) #[true, true, false, false, false, false, false, false, false, false, false, false, false, false, false, false, false, false, false, false, false] rfl rfl (by kernel_rfl) (fun _ _ _ h => h) (Or.inl ⟨by rfl, ?_⟩) ?_ ?_
      rotate_left
      · intro w'
        go_simp
        with_reducible rfl
      rotate_left
      · simp only [Act.put, List.setIfInBounds_toArray, List.set_cons_zero, List.set_cons_succ, i64_w, i32_w]
        rfl
      refine pure_ (i := 2) (N := (some 30)) (v := ?_) (a' := ?_) #[true, true, true, false, false, false, false, false, false, false, false, false, false, false, false, false, false, false, false, false, false] rfl rfl (by kernel_rfl) (fun _ _ _ h => h) (Or.inl ⟨by rfl, ?_⟩) ?_ ?_
      rotate_left
      · intro w'
        go_simp
        with_reducible rfl
      rotate_left
      · simp only [Act.put, List.setIfInBounds_toArray, List.set_cons_zero, List.set_cons_succ, i64_w, i32_w]
        rfl
      refine take_ (i := 3) (N := (some 31)) (v := ?_) (a' := ?_) #[true, true, true, true, false, false, false, false, false, false, false, false, false, false, false, false, false, false, false, false, false] rfl rfl (by kernel_rfl) (fun _ _ _ h => h) (Or.inl ⟨by rfl, ?_⟩) hHeld ?_ ?_
      rotate_left
      · rintro w' ⟨s0, s1, s2⟩
        go_simp
        with_reducible rfl
      rotate_left
      · simp only [Act.put, List.setIfInBounds_toArray, List.set_cons_zero, List.set_cons_succ, i64_w, i32_w]
        rfl
      refine pure_ (i := 4) (N := (some 32)) (v := ?_) (a' := ?_) #[true, true, true, true, true, false, false, false, false, false, false, false, false, false, false, false, false, false, false, false, false] rfl rfl (by kernel_rfl) (fun _ _ _ h => h) (Or.inl ⟨by rfl, ?_⟩) ?_ ?_
      rotate_left
      · intro w'
        go_simp
        with_reducible rfl
      rotate_left
      · simp only [Act.put, List.setIfInBounds_toArray, List.set_cons_zero, List.set_cons_succ, i64_w, i32_w]
        rfl
      refine take_ (i := 5) (N := (some 33)) (v := ?_) (a' := ?_) #[true, true, true, true, true, true, false, false, false, false, false, false, false, false, false, false, false, false, false, false, false] rfl rfl (by kernel_rfl) (fun _ _ _ h => h) (Or.inl ⟨by rfl, ?_⟩) hHeld ?_ ?_
      rotate_left
      · rintro w' ⟨s0, s1, s2⟩
        go_simp
        with_reducible rfl
      rotate_left
      · simp only [Act.put, List.setIfInBounds_toArray, List.set_cons_zero, List.set_cons_succ, i64_w, i32_w]
        rfl
      refine pure_ (i := 6) (N := (some 34)) (v := ?_) (a' := ?_) #[true, true, true, true, true, true, true, false, false, false, false, false, false, false, false, false, false, false, false, false, false] rfl rfl (by kernel_rfl) (fun _ _ _ h => h) (Or.inl ⟨by rfl, ?_⟩) ?_ ?_
      rotate_left
      · intro w'
        go_simp
        with_reducible rfl
      rotate_left
      · simp only [Act.put, List.setIfInBounds_toArray, List.set_cons_zero, List.set_cons_succ, i64_w, i32_w]
        rfl
      refine pure_ (i := 7) (N := (some 35)) (v := ?_) (a' := ?_) #[true, true, true, true, true, true, true, true, false, false, false, false, false, false, false, false, false, false, false, false, false] rfl rfl (by kernel_rfl) (fun _ _ _ h => h) (Or.inl ⟨by rfl, ?_⟩) ?_ ?_
      rotate_left
      · intro w'
        go_simp
        with_reducible rfl
      rotate_left
      · simp only [Act.put, List.setIfInBounds_toArray, List.set_cons_zero, List.set_cons_succ, i64_w, i32_w]
        rfl
      refine pure_ (i := 8) (N := (some 36)) (v := ?_) (a' := ?_) #[true, true, true, true, true, true, true, true, true, false, false, false, false, false, false, false, false, false, false, false, false] rfl rfl (by kernel_rfl) (fun _ _ _ h => h) (Or.inl ⟨by rfl, ?_⟩) ?_ ?_
      rotate_left
      · intro w'
        go_simp
        with_reducible rfl
      rotate_left
      · simp only [Act.put, List.setIfInBounds_toArray, List.set_cons_zero, List.set_cons_succ, i64_w, i32_w]
        rfl
      refine take_ (i := 9) (N := (some 37)) (v := ?_) (a' := ?_) #[true, true, true, true, true, true, true, true, true, true, false, false, false, false, false, false, false, false, false, false, false] rfl rfl (by kernel_rfl) (fun _ _ _ h => h) (Or.inl ⟨by rfl, ?_⟩) hHeld ?_ ?_
      rotate_left
      · rintro w' ⟨s0, s1, s2⟩
        go_simp
        with_reducible rfl
      rotate_left
      · simp only [Act.put, List.setIfInBounds_toArray, List.set_cons_zero, List.set_cons_succ, i64_w, i32_w]
        rfl
      refine pure_ (i := 10) (N := (some 38)) (v := ?_) (a' := ?_) #[true, true, true, true, true, true, true, true, true, true, true, false, false, false, false, false, false, false, false, false, false] rfl rfl (by kernel_rfl) (fun _ _ _ h => h) (Or.inl ⟨by rfl, ?_⟩) ?_ ?_
      rotate_left
      · intro w'
        go_simp
        with_reducible rfl
      rotate_left
      · simp only [Act.put, List.setIfInBounds_toArray, List.set_cons_zero, List.set_cons_succ, i64_w, i32_w]
        rfl
      refine take_ (i := 11) (N := (some 39)) (v := ?_) (a' := ?_) #[true, true, true, true, true, true, true, true, true, true, true, true, false, false, false, false, false, false, false, false, false] rfl rfl (by kernel_rfl) (fun _ _ _ h => h) (Or.inl ⟨by rfl, ?_⟩) hHeld ?_ ?_
      rotate_left
      · rintro w' ⟨s0, s1, s2⟩
        go_simp
        with_reducible rfl
      rotate_left
      · simp only [Act.put, List.setIfInBounds_toArray, List.set_cons_zero, List.set_cons_succ, i64_w, i32_w]
        rfl
      refine pure_ (i := 12) (N := (some 40)) (v := ?_) (a' := ?_) #[true, true, true, true, true, true, true, true, true, true, true, true, true, false, false, false, false, false, false, false, false] rfl rfl (by kernel_rfl) (fun _ _ _ h => h) (Or.inl ⟨by rfl, ?_⟩) ?_ ?_
      rotate_left
      · intro w'
        go_simp
        with_reducible rfl
      rotate_left
      · simp only [Act.put, List.setIfInBounds_toArray, List.set_cons_zero, List.set_cons_succ, i64_w, i32_w]
        rfl
      refine pure_ (i := 13) (N := (some 41)) (v := ?_) (a' := ?_) #[true, true, true, true, true, true, true, true, true, true, true, true, true, true, false, false, false, false, false, false, false] rfl rfl (by kernel_rfl) (fun _ _ _ h => h) (Or.inl ⟨by rfl, ?_⟩) ?_ ?_
      rotate_left
      · intro w'
        go_simp
        with_reducible rfl
      rotate_left
      · simp only [Act.put, List.setIfInBounds_toArray, List.set_cons_zero, List.set_cons_succ, i64_w, i32_w]
        rfl
      refine take_ (i := 14) (N := (some 42)) (v := ?_) (a' := ?_) #[true, true, true, true, true, true, true, true, true, true, true, true, true, true, true, false, false, false, false, false, false] rfl rfl (by kernel_rfl) (fun _ _ _ h => h) (Or.inl ⟨by rfl, ?_⟩) hHeld ?_ ?_
      rotate_left
      · rintro w' ⟨s0, s1, s2⟩
        go_simp
        with_reducible rfl
      rotate_left
      · simp only [Act.put, List.setIfInBounds_toArray, List.set_cons_zero, List.set_cons_succ, i64_w, i32_w]
        rfl
      refine pure_ (i := 15) (N := (some 43)) (v := ?_) (a' := ?_) #[true, true, true, true, true, true, true, true, true, true, true, true, true, true, true, true, false, false, false, false, false] rfl rfl (by kernel_rfl) (fun _ _ _ h => h) (Or.inl ⟨by rfl, ?_⟩) ?_ ?_
      rotate_left
      · intro w'
        go_simp
        with_reducible rfl
      rotate_left
      · simp only [Act.put, List.setIfInBounds_toArray, List.set_cons_zero, List.set_cons_succ, i64_w, i32_w]
        rfl
      refine one_ (i := 16) (N := (some 44)) #[true, true, true, true, true, true, true, true, true, true, true, true, true, true, true, true, true, false, false, false, false] rfl rfl (by kernel_rfl) (by decide) (fun K hK => ?_)
      refine value_ (w1 := ?_) (v := ?_) (by rfl) rfl ?_ ?_
      rotate_left 2
      · go_simp
        constructor
        · rfl
        · rfl
      obtain ⟨s0, s1, s2⟩ := hHeld
      refine hK.out _ _ ⟨(World.cell?_alloc_past _ _ _ (by simp; omega)).trans s0, (World.cell?_alloc_past _ _ _ (by simp)).trans s1, (World.cell?_alloc_past _ _ _ (by simp; omega)).trans s2⟩ (fun hHeld => ?_)
      clear hK K s0 s1 s2
      refine norm_ (a' := ?_) ?_ ?_
      rotate_left
      · show Act.put _ (some 44) _ = _
        simp only [Act.put, List.setIfInBounds_toArray, List.set_cons_zero, List.set_cons_succ, i64_w, i32_w]
        rfl
      refine one_ (i := 17) (N := (some 45)) #[true, true, true, true, true, true, true, true, true, true, true, true, true, true, true, true, true, true, false, false, false] rfl rfl (by kernel_rfl) (by decide) (fun K hK => ?_)
      refine step_grow_at rfl _ _ 24 rfl base 3 i0 _ 1 8 Tryd.underlying24 hi0 hz0 hz1 hz2 rfl (by decide) (.slice RA p.x.els.length RC) p.x.els.length (p.x.els.map (Value.int .i64)) rfl ((World.ownsRow.alloc Hrow.out _).alloc _) ⟨_, 0, none⟩ 1 1 [.int .i64 n] rfl rfl (cells_new _ [.int .i64 n] _ _ (by simp)) (by simp [Value.oneCell']) (by unfold maxLen; omega) (by omega) (by simp; omega) ?_
      intro v' w1 hown' hgrow hat
      obtain ⟨g', cap', rfl⟩ := ownsRow_succ hown'
      have hgw := grown_two (World.grownBy_alloc w _ none) (grown_two (World.grownBy_alloc _ _ none) (grown_drew hgrow))
      have hty : ∀ q, (Value.slice RA p.x.els.length RC).ownBlock = some q → ∃ c, w.heap[q]? = some (.cells c 3) := row_type Hrow.out
      have hgty : ∃ c, w.heap[g]? = some (.cells c 66) := row_type Hts.out.row g rfl
      have hnT : some T ≠ (Value.slice RA p.x.els.length RC).ownBlock := fun e => by obtain ⟨c, h⟩ := hty T e.symm; have h2 := Hts.out.block; rw [h2] at h; cases h
      have hng : some g ≠ (Value.slice RA p.x.els.length RC).ownBlock := fun e => by obtain ⟨c, h⟩ := hty g e.symm; obtain ⟨c2, h2⟩ := hgty; rw [h2] at h; cases h
      have hnr : some w.heap.size ≠ (Value.slice RA p.x.els.length RC).ownBlock := fun e => by obtain ⟨cs, h⟩ := hty _ e.symm; have := World.heap_lt h; omega
      obtain ⟨h1, h2, h3, h4, h5⟩ := Hts.out.addIn Hp.out true (v' := .slice (some ⟨g', 0, none⟩) (p.x.els.length + 1) cap') (n := n) (by simpa [IntsAt] using hown') (by rw [if_pos rfl, Hre.out]; exact hgw) (by rw [if_pos rfl, Hre.out]; exact hat.imp id (fun e => ⟨_, e, by simp; omega⟩))
      simp only [Bool.false_eq_true, if_true, if_false] at h2 h3 h4 h5
      rw [Hre.out] at h2
      rw [Hmap.out] at h4
      have H4 := Lib.hid h4
      have H5 := Lib.hid h5
      obtain ⟨s0, s1, s2⟩ := hHeld
      refine hK.out _ _ ⟨hgrow.cell s0 hnT, hgrow.cell s1 hnr, hgrow.cell s2 hng⟩ (fun hHeld => ?_)
      clear hK K s0 s1 s2 h1 h4 h5 hown' hgrow hat hgw hty hgty hi0 hz0 hz1 hz2 hnT hng hnr b0 pc
      refine norm_ (a' := ?_) ?_ ?_
      rotate_left
      · show Act.put _ (some 45) _ = _
        simp only [Act.put, List.setIfInBounds_toArray, List.set_cons_zero, List.set_cons_succ, i64_w, i32_w]
        rfl
      refine pure_ (i := 18) (N := (some 46)) (v := ?_) (a' := ?_) #[true, true, true, true, true, true, true, true, true, true, true, true, true, true, true, true, true, true, true, false, false] rfl rfl (by kernel_rfl) (fun _ _ _ h => h) (Or.inl ⟨by rfl, ?_⟩) ?_ ?_
      rotate_left
      · intro w'
        go_simp
        with_reducible rfl
      rotate_left
      · simp only [Act.put, List.setIfInBounds_toArray, List.set_cons_zero, List.set_cons_succ, i64_w, i32_w]
        rfl
      refine pure_ (i := 19) (N := (some 47)) (v := ?_) (a' := ?_) #[true, true, true, true, true, true, true, true, true, true, true, true, true, true, true, true, true, true, true, true, false] rfl rfl (by kernel_rfl) (fun _ _ _ h => h) (Or.inl ⟨by rfl, ?_⟩) ?_ ?_
      rotate_left
      · intro w'
        go_simp
        with_reducible rfl
      rotate_left
      · simp only [Act.put, List.setIfInBounds_toArray, List.set_cons_zero, List.set_cons_succ, i64_w, i32_w]
        rfl
      refine last_ (i := 20) (N := none) #[true, true, true, true, true, true, true, true, true, true, true, true, true, true, true, true, true, true, true, true, true] rfl rfl (by kernel_rfl) (by decide) (fun K hK => ?_)
      refine skip_ (w1 := ?_) (by rfl) rfl ?_ ?_
      rotate_left
      · go_simp
        rfl
      refine hK.out _ _ ?_
      clear hK K hHeld h2 h3
      refine done_ (by kernel_rfl) ?_
      refine bodyPost_ret (v := .tuple #[]) (by simp [results, Tryd.results22, go_sem]) rfl ?_
      rw [HF.out]
      exact ⟨rfl, H4.out, H5.out⟩
    | false =>
      rw [hels] at so2 HF
      obtain ⟨RA, RC, hre⟩ := ints_slice hbv
      have pc : w.cell? ⟨g, k * 9 + 5, none⟩ = some (.slice RA p.x.body.length RC) := by
        obtain ⟨g2, cap2, e2, -, -, c2⟩ := row_cell Hts.out.row (k * 9 + 5) _ (by rw [flat9 ps k p hp 5 (by omega)]; rfl)
        cases e2
        rw [← hre]; exact c2
      rw [hre] at hbv
      have Hrow := Lib.hid hbv
      have Hre := Lib.hid hre
      have Hk := Lib.hid hk
      have Hp := Lib.hid hp
      clear hev hbv hre hk hels hp pc0
      go_enter Tryd.func22, Tryd.ntmps22
      go_wp2
      refine start_ (n := 21) (S := fun w' => w'.cell? ⟨T, 0, none⟩ = some (.slice (some ⟨g, 0, none⟩) ps.length cap) ∧ w'.cell? ⟨w.heap.size, 0, none⟩ = some (.int .i64 k) ∧ w'.cell? ⟨g, k * 9 + 5, none⟩ = some (.slice RA p.x.body.length RC)) (ds := [20]) #[false, false, false, false, false, false, false, false, false, false, false, false, false, false, false, false, false, false, false, false, false] (by kernel_rfl) rfl rfl ⟨(World.cell?_alloc_past _ _ _ hTl).trans b0, by simp, (World.cell?_alloc_past _ _ _ hgl).trans pc⟩ (fun hHeld => ?_)
      refine pure_ (i := 0) (N := (some 48)) (v := ?_) (a' := ?_) #[true, false, false, false, false, false, false, false, false, false, false, false, false, false, false, false, false, false, false, false, false] rfl rfl (by kernel_rfl) (fun _ _ _ h => h) (Or.inl ⟨by rfl, ?_⟩) ?_ ?_
      rotate_left
      · intro w'
        go_simp
        with_reducible rfl
      rotate_left
      · simp only [Act.put, List.setIfInBounds_toArray, List.set_cons_zero, List.set_cons_succ, i64_w, i32_w]
        rfl
      refine pure_ (i := 1) (N := (some 49)) (v := ?_) (a' := ?_) #[true, true, false, false, false, false, false, false, false, false, false, false, false, false, false, false, false, false, false, false, false] rfl rfl (by kernel_rfl) (fun _ _ _ h => h) (Or.inl ⟨by rfl, ?_⟩) ?_ ?_
      rotate_left
      · intro w'
        go_simp
        with_reducible rfl
      rotate_left
      · simp only [Act.put, List.setIfInBounds_toArray, List.set_cons_zero, List.set_cons_succ, i64_w, i32_w]
        rfl
      refine pure_ (i := 2) (N := (some 50)) (v := ?_) (a' := ?_) #[true, true, true, false, false, false, false, false, false, false, false, false, false, false, false, false, false, false, false, false, false] rfl rfl (by kernel_rfl) (fun _ _ _ h => h) (Or.inl ⟨by rfl, ?_⟩) ?_ ?_
      rotate_left
      · intro w'
        go_simp
        with_reducible rfl
      rotate_left
      · simp only [Act.put, List.setIfInBounds_toArray, List.set_cons_zero, List.set_cons_succ, i64_w, i32_w]
        rfl
      refine take_ (i := 3) (N := (some 51)) (v := ?_) (a' := ?_) #[true, true, true, true, false, false, false, false, false, false, false, false, false, false, false, false, false, false, false, false, false] rfl rfl (by kernel_rfl) (fun _ _ _ h => h) (Or.inl ⟨by rfl, ?_⟩) hHeld ?_ ?_
      rotate_left
      · rintro w' ⟨s0, s1, s2⟩
        go_simp
        with_reducible rfl
      rotate_left
      · simp only [Act.put, List.setIfInBounds_toArray, List.set_cons_zero, List.set_cons_succ, i64_w, i32_w]
        rfl
      refine pure_ (i := 4) (N := (some 52)) (v := ?_) (a' := ?_) #[true, true, true, true, true, false, false, false, false, false, false, false, false, false, false, false, false, false, false, false, false] rfl rfl (by kernel_rfl) (fun _ _ _ h => h) (Or.inl ⟨by rfl, ?_⟩) ?_ ?_
      rotate_left
      · intro w'
        go_simp
        with_reducible rfl
      rotate_left
      · simp only [Act.put, List.setIfInBounds_toArray, List.set_cons_zero, List.set_cons_succ, i64_w, i32_w]
        rfl
      refine take_ (i := 5) (N := (some 53)) (v := ?_) (a' := ?_) #[true, true, true, true, true, true, false, false, false, false, false, false, false, false, false, false, false, false, false, false, false] rfl rfl (by kernel_rfl) (fun _ _ _ h => h) (Or.inl ⟨by rfl, ?_⟩) hHeld ?_ ?_
      rotate_left
      · rintro w' ⟨s0, s1, s2⟩
        go_simp
        with_reducible rfl
      rotate_left
      · simp only [Act.put, List.setIfInBounds_toArray, List.set_cons_zero, List.set_cons_succ, i64_w, i32_w]
        rfl
      refine pure_ (i := 6) (N := (some 54)) (v := ?_) (a' := ?_) #[true, true, true, true, true, true, true, false, false, false, false, false, false, false, false, false, false, false, false, false, false] rfl rfl (by kernel_rfl) (fun _ _ _ h => h) (Or.inl ⟨by rfl, ?_⟩) ?_ ?_
      rotate_left
      · intro w'
        go_simp
        with_reducible rfl
      rotate_left
      · simp only [Act.put, List.setIfInBounds_toArray, List.set_cons_zero, List.set_cons_succ, i64_w, i32_w]
        rfl
      refine pure_ (i := 7) (N := (some 55)) (v := ?_) (a' := ?_) #[true, true, true, true, true, true, true, true, false, false, false, false, false, false, false, false, false, false, false, false, false] rfl rfl (by kernel_rfl) (fun _ _ _ h => h) (Or.inl ⟨by rfl, ?_⟩) ?_ ?_
      rotate_left
      · intro w'
        go_simp
        with_reducible rfl
      rotate_left
      · simp only [Act.put, List.setIfInBounds_toArray, List.set_cons_zero, List.set_cons_succ, i64_w, i32_w]
        rfl
      refine pure_ (i := 8) (N := (some 56)) (v := ?_) (a' := ?_) #[true, true, true, true, true, true, true, true, true, false, false, false, false, false, false, false, false, false, false, false, false] rfl rfl (by kernel_rfl) (fun _ _ _ h => h) (Or.inl ⟨by rfl, ?_⟩) ?_ ?_
      rotate_left
      · intro w'
        go_simp
        with_reducible rfl
      rotate_left
      · simp only [Act.put, List.setIfInBounds_toArray, List.set_cons_zero, List.set_cons_succ, i64_w, i32_w]
        rfl
      refine take_ (i := 9) (N := (some 57)) (v := ?_) (a' := ?_) #[true, true, true, true, true, true, true, true, true, true, false, false, false, false, false, false, false, false, false, false, false] rfl rfl (by kernel_rfl) (fun _ _ _ h => h) (Or.inl ⟨by rfl, ?_⟩) hHeld ?_ ?_
      rotate_left
      · rintro w' ⟨s0, s1, s2⟩
        go_simp
        with_reducible rfl
      rotate_left
      · simp only [Act.put, List.setIfInBounds_toArray, List.set_cons_zero, List.set_cons_succ, i64_w, i32_w]
        rfl
      refine pure_ (i := 10) (N := (some 58)) (v := ?_) (a' := ?_) #[true, true, true, true, true, true, true, true, true, true, true, false, false, false, false, false, false, false, false, false, false] rfl rfl (by kernel_rfl) (fun _ _ _ h => h) (Or.inl ⟨by rfl, ?_⟩) ?_ ?_
      rotate_left
      · intro w'
        go_simp
        with_reducible rfl
      rotate_left
      · simp only [Act.put, List.setIfInBounds_toArray, List.set_cons_zero, List.set_cons_succ, i64_w, i32_w]
        rfl
      refine take_ (i := 11) (N := (some 59)) (v := ?_) (a' := ?_) #[true, true, true, true, true, true, true, true, true, true, true, true, false, false, false, false, false, false, false, false, false] rfl rfl (by kernel_rfl) (fun _ _ _ h => h) (Or.inl ⟨by rfl, ?_⟩) hHeld ?_ ?_
      rotate_left
      · rintro w' ⟨s0, s1, s2⟩
        go_simp
        with_reducible rfl
      rotate_left
      · simp only [Act.put, List.setIfInBounds_toArray, List.set_cons_zero, List.set_cons_succ, i64_w, i32_w]
        rfl
      refine pure_ (i := 12) (N := (some 60)) (v := ?_) (a' := ?_) #[true, true, true, true, true, true, true, true, true, true, true, true, true, false, false, false, false, false, false, false, false] rfl rfl (by kernel_rfl) (fun _ _ _ h => h) (Or.inl ⟨by rfl, ?_⟩) ?_ ?_
      rotate_left
      · intro w'
        go_simp
        with_reducible rfl
      rotate_left
      · simp only [Act.put, List.setIfInBounds_toArray, List.set_cons_zero, List.set_cons_succ, i64_w, i32_w]
        rfl
      refine pure_ (i := 13) (N := (some 61)) (v := ?_) (a' := ?_) #[true, true, true, true, true, true, true, true, true, true, true, true, true, true, false, false, false, false, false, false, false] rfl rfl (by kernel_rfl) (fun _ _ _ h => h) (Or.inl ⟨by rfl, ?_⟩) ?_ ?_
      rotate_left
      · intro w'
        go_simp
        with_reducible rfl
      rotate_left
      · simp only [Act.put, List.setIfInBounds_toArray, List.set_cons_zero, List.set_cons_succ, i64_w, i32_w]
        rfl
      refine take_ (i := 14) (N := (some 62)) (v := ?_) (a' := ?_) #[true, true, true, true, true, true, true, true, true, true, true, true, true, true, true, false, false, false, false, false, false] rfl rfl (by kernel_rfl) (fun _ _ _ h => h) (Or.inl ⟨by rfl, ?_⟩) hHeld ?_ ?_
      rotate_left
      · rintro w' ⟨s0, s1, s2⟩
        go_simp
        with_reducible rfl
      rotate_left
      · simp only [Act.put, List.setIfInBounds_toArray, List.set_cons_zero, List.set_cons_succ, i64_w, i32_w]
        rfl
      refine pure_ (i := 15) (N := (some 63)) (v := ?_) (a' := ?_) #[true, true, true, true, true, true, true, true, true, true, true, true, true, true, true, true, false, false, false, false, false] rfl rfl (by kernel_rfl) (fun _ _ _ h => h) (Or.inl ⟨by rfl, ?_⟩) ?_ ?_
      rotate_left
      · intro w'
        go_simp
        with_reducible rfl
      rotate_left
      · simp only [Act.put, List.setIfInBounds_toArray, List.set_cons_zero, List.set_cons_succ, i64_w, i32_w]
        rfl
      refine one_ (i := 16) (N := (some 64)) #[true, true, true, true, true, true, true, true, true, true, true, true, true, true, true, true, true, false, false, false, false] rfl rfl (by kernel_rfl) (by decide) (fun K hK => ?_)
      refine value_ (w1 := ?_) (v := ?_) (by rfl) rfl ?_ ?_
      rotate_left 2
      · go_simp
        constructor
        · rfl
        · rfl
      obtain ⟨s0, s1, s2⟩ := hHeld
      refine hK.out _ _ ⟨(World.cell?_alloc_past _ _ _ (by simp; omega)).trans s0, (World.cell?_alloc_past _ _ _ (by simp)).trans s1, (World.cell?_alloc_past _ _ _ (by simp; omega)).trans s2⟩ (fun hHeld => ?_)
      clear hK K s0 s1 s2
      refine norm_ (a' := ?_) ?_ ?_
      rotate_left
      · show Act.put _ (some 64) _ = _
        simp only [Act.put, List.setIfInBounds_toArray, List.set_cons_zero, List.set_cons_succ, i64_w, i32_w]
        rfl
      refine one_ (i := 17) (N := (some 65)) #[true, true, true, true, true, true, true, true, true, true, true, true, true, true, true, true, true, true, false, false, false] rfl rfl (by kernel_rfl) (by decide) (fun K hK => ?_)
      refine step_grow_at rfl _ _ 24 rfl base 3 i0 _ 1 8 Tryd.underlying24 hi0 hz0 hz1 hz2 rfl (by decide) (.slice RA p.x.body.length RC) p.x.body.length (p.x.body.map (Value.int .i64)) rfl ((World.ownsRow.alloc Hrow.out _).alloc _) ⟨_, 0, none⟩ 1 1 [.int .i64 n] rfl rfl (cells_new _ [.int .i64 n] _ _ (by simp)) (by simp [Value.oneCell']) (by unfold maxLen; omega) (by omega) (by simp; omega) ?_
      intro v' w1 hown' hgrow hat
      obtain ⟨g', cap', rfl⟩ := ownsRow_succ hown'
      have hgw := grown_two (World.grownBy_alloc w _ none) (grown_two (World.grownBy_alloc _ _ none) (grown_drew hgrow))
      have hty : ∀ q, (Value.slice RA p.x.body.length RC).ownBlock = some q → ∃ c, w.heap[q]? = some (.cells c 3) := row_type Hrow.out
      have hgty : ∃ c, w.heap[g]? = some (.cells c 66) := row_type Hts.out.row g rfl
      have hnT : some T ≠ (Value.slice RA p.x.body.length RC).ownBlock := fun e => by obtain ⟨c, h⟩ := hty T e.symm; have h2 := Hts.out.block; rw [h2] at h; cases h
      have hng : some g ≠ (Value.slice RA p.x.body.length RC).ownBlock := fun e => by obtain ⟨c, h⟩ := hty g e.symm; obtain ⟨c2, h2⟩ := hgty; rw [h2] at h; cases h
      have hnr : some w.heap.size ≠ (Value.slice RA p.x.body.length RC).ownBlock := fun e => by obtain ⟨cs, h⟩ := hty _ e.symm; have := World.heap_lt h; omega
      obtain ⟨h1, h2, h3, h4, h5⟩ := Hts.out.addIn Hp.out false (v' := .slice (some ⟨g', 0, none⟩) (p.x.body.length + 1) cap') (n := n) (by simpa [IntsAt] using hown') (by rw [if_neg (by simp), Hre.out]; exact hgw) (by rw [if_neg (by simp), Hre.out]; exact hat.imp id (fun e => ⟨_, e, by simp; omega⟩))
      simp only [Bool.false_eq_true, if_true, if_false] at h2 h3 h4 h5
      rw [Hre.out] at h2
      rw [Hmap.out] at h4
      have H4 := Lib.hid h4
      have H5 := Lib.hid h5
      obtain ⟨s0, s1, s2⟩ := hHeld
      refine hK.out _ _ ⟨hgrow.cell s0 hnT, hgrow.cell s1 hnr, hgrow.cell s2 hng⟩ (fun hHeld => ?_)
      clear hK K s0 s1 s2 h1 h4 h5 hown' hgrow hat hgw hty hgty hi0 hz0 hz1 hz2 hnT hng hnr b0 pc
      refine norm_ (a' := ?_) ?_ ?_
      rotate_left
      · show Act.put _ (some 65) _ = _
        simp only [Act.put, List.setIfInBounds_toArray, List.set_cons_zero, List.set_cons_succ, i64_w, i32_w]
        rfl
      refine pure_ (i := 18) (N := (some 66)) (v := ?_) (a' := ?_) #[true, true, true, true, true, true, true, true, true, true, true, true, true, true, true, true, true, true, true, false, false] rfl rfl (by kernel_rfl) (fun _ _ _ h => h) (Or.inl ⟨by rfl, ?_⟩) ?_ ?_
      rotate_left
      · intro w'
        go_simp
        with_reducible rfl
      rotate_left
      · simp only [Act.put, List.setIfInBounds_toArray, List.set_cons_zero, List.set_cons_succ, i64_w, i32_w]
        rfl
      refine pure_ (i := 19) (N := (some 67)) (v := ?_) (a' := ?_) #[true, true, true, true, true, true, true, true, true, true, true, true, true, true, true, true, true, true, true, true, false] rfl rfl (by kernel_rfl) (fun _ _ _ h => h) (Or.inl ⟨by rfl, ?_⟩) ?_ ?_
      rotate_left
      · intro w'
        go_simp
        with_reducible rfl
      rotate_left
      · simp only [Act.put, List.setIfInBounds_toArray, List.set_cons_zero, List.set_cons_succ, i64_w, i32_w]
        rfl
      refine last_ (i := 20) (N := none) #[true, true, true, true, true, true, true, true, true, true, true, true, true, true, true, true, true, true, true, true, true] rfl rfl (by kernel_rfl) (by decide) (fun K hK => ?_)
      refine skip_ (w1 := ?_) (by rfl) rfl ?_ ?_
      rotate_left
      · go_simp
        rfl
      refine hK.out _ _ ?_
      clear hK K hHeld h2 h3
      refine done_ (by kernel_rfl) ?_
      refine bodyPost_ret (v := .tuple #[]) (by simp [results, Tryd.results22, go_sem]) rfl ?_
      rw [HF.out]
      exact ⟨rfl, H4.out, H5.out⟩
end Go.Proofs.YtcggeaobonblfaaDoor

/- The reference's parse as a plain function: a stack of what is open. -/
namespace Go.Proofs.YtcggeaobonblfaaDoor
set_option linter.unusedSimpArgs false
set_option linter.unusedVariables false
open Go Go.RowKit
structure RSt where
  (nodes : List Node) (top : List Int) (st : List Opn)
def nodeOf (w : Word) : Node := { newNode w with kind := kindOf w.kind }
def setHas (nodes : List Node) (k : Nat) : List Node := nodes.modify k fun x => { x with has := true }
def stepR (r : RSt) (w : Word) : Except Fault RSt :=
  if w.kind = 3 then
    match r.st.getLast? with
    | none => .error (w.at_, 4)
    | some o => if o.kind ≠ 2 ∨ o.els = true then .error (w.at_, 4) else .ok ⟨setHas r.nodes o.node.toNat, r.top, r.st.dropLast ++ [{ o with els := true }]⟩
  else if w.kind = 5 then
    match r.st.getLast? with
    | none => .error (w.at_, 4)
    | some _ => .ok ⟨r.nodes, r.top, r.st.dropLast⟩
  else if (w.kind = 2 ∨ w.kind = 4) ∧ 16 ≤ r.st.length then .error (w.at_, 3)
  else .ok ⟨(addF (r.nodes ++ [nodeOf w]) r.top r.st r.nodes.length).1, (addF (r.nodes ++ [nodeOf w]) r.top r.st r.nodes.length).2, if w.kind = 2 ∨ w.kind = 4 then r.st ++ [⟨r.nodes.length, w.kind, false⟩] else r.st⟩
def runR : RSt → List Word → Except Fault RSt
  | r, [] => .ok r
  | r, w :: ws => match stepR r w with | .error f => .error f | .ok r' => runR r' ws
def r0 : RSt := ⟨[], [], []⟩
def finR (r : RSt) : Except Fault (List Int × List Node) :=
  match r.st.getLast? with
  | none => .ok (r.top, r.nodes)
  | some o => .error (match r.nodes[o.node.toNat]? with | some x => x.at_ | none => 0, 4)
def stackR (ws : List Word) : Except Fault (List Int × List Node) := match runR r0 ws with | .error f => .error f | .ok r => finR r
def refParse (s : List UInt8) : Except Fault (List Int × List Node) :=
  if 65536 < s.length then .error (0, 2) else if 0 ≤ (lexW 0 s).2 then .error ((lexW 0 s).2, 4) else stackR (lexW 0 s).1
theorem runR_ok {r r' : RSt} {w : Word} {ws : List Word} (h : stepR r w = .ok r') : runR r (w :: ws) = runR r' ws := by rw [runR, h]
theorem runR_err {r : RSt} {f : Fault} {w : Word} {ws : List Word} (h : stepR r w = .error f) : runR r (w :: ws) = .error f := by rw [runR, h]
theorem runR_append {ws vs : List Word} : ∀ {r r' : RSt}, runR r ws = .ok r' → runR r (ws ++ vs) = runR r' vs := by
  induction ws with
  | nil =>
    intro r r' h
    injection h with h
    rw [h]
    rfl
  | cons w ws ih =>
    intro r r' h
    rw [List.cons_append]
    cases hs : stepR r w with
    | error f => rw [runR_err hs] at h; cases h
    | ok r1 =>
      rw [runR_ok hs] at h ⊢
      exact ih h
theorem runR_append_err {ws vs : List Word} {f : Fault} : ∀ {r : RSt}, runR r ws = .error f → runR r (ws ++ vs) = .error f := by
  induction ws with
  | nil => intro r h; cases h
  | cons w ws ih =>
    intro r h
    rw [List.cons_append]
    cases hs : stepR r w with
    | error f' =>
      rw [runR_err hs] at h ⊢
      exact h
    | ok r1 =>
      rw [runR_ok hs] at h ⊢
      exact ih h
/-- What a word more does. -/
theorem runR_next {ws : List Word} {r : RSt} {k : Nat} {x : Word} (h : runR r0 (ws.take k) = .ok r) (hx : ws[k]? = some x) : runR r0 (ws.take (k + 1)) = stepR r x := by
  have hlt := (List.getElem?_eq_some_iff.1 hx).1
  have e : ws.take (k + 1) = ws.take k ++ [x] := by
    rw [List.take_succ_eq_append_getElem hlt, (List.getElem?_eq_some_iff.1 hx).2]
  rw [e, runR_append h]
  cases hs : stepR r x with
  | error f => exact runR_err hs
  | ok r' => rw [runR_ok hs]; rfl
theorem runR_stop {ws : List Word} {r : RSt} {k : Nat} {x : Word} {f : Fault} (h : runR r0 (ws.take k) = .ok r) (hx : ws[k]? = some x) (hf : stepR r x = .error f) : stackR ws = .error f := by
  have h1 := runR_next h hx
  rw [hf] at h1
  have e : ws = ws.take (k + 1) ++ ws.drop (k + 1) := (List.take_append_drop _ _).symm
  unfold stackR
  rw [e, runR_append_err h1]
/-- What holds of the state behind k words. -/
structure RInv (k : Nat) (r : RSt) : Prop where
  nodes : r.nodes.length ≤ k
  top : r.top.length ≤ k
  lists : ∀ x ∈ r.nodes, x.body.length ≤ k ∧ x.els.length ≤ k
  deep : r.st.length ≤ 16
  opens : ∀ o ∈ r.st, 0 ≤ o.node ∧ o.node < r.nodes.length
theorem mem_modify {α : Type} {l : List α} {k : Nat} {g : α → α} {x : α} (h : x ∈ l.modify k g) : x ∈ l ∨ ∃ y ∈ l, x = g y := by
  obtain ⟨j, hj⟩ := List.mem_iff_getElem?.1 h
  rw [List.getElem?_modify] at hj
  cases hl : l[j]? with
  | none => rw [hl] at hj; simp at hj
  | some y =>
    rw [hl, Option.map_eq_map, Option.map_some] at hj
    have hm := List.mem_of_getElem? hl
    by_cases e : k = j
    · rw [if_pos e] at hj
      exact .inr ⟨y, hm, by simpa using hj.symm⟩
    · rw [if_neg e] at hj
      exact .inl (by have : y = x := by simpa using hj
                     rw [← this]; exact hm)
theorem addF_inv {nodes : List Node} {top : List Int} {st : List Opn} {n : Int} {k : Nat} (ht : top.length ≤ k) (hl : ∀ x ∈ nodes, x.body.length ≤ k ∧ x.els.length ≤ k) :
    (addF nodes top st n).1.length = nodes.length ∧ (addF nodes top st n).2.length ≤ k + 1 ∧ ∀ x ∈ (addF nodes top st n).1, x.body.length ≤ k + 1 ∧ x.els.length ≤ k + 1 := by
  unfold addF
  cases st.getLast? with
  | none => exact ⟨rfl, by simp; omega, fun x hx => by have := hl x hx; omega⟩
  | some o =>
    refine ⟨by simp, by dsimp only; omega, fun x hx => ?_⟩
    rcases mem_modify hx with h | ⟨y, hy, rfl⟩
    · have := hl x h; omega
    · have := hl y hy
      cases o.els <;> simp <;> omega
theorem stepR_inv {k : Nat} {r r' : RSt} {w : Word} (h : RInv k r) (hs : stepR r w = .ok r') : RInv (k + 1) r' := by
  have h1 := h.nodes
  have h2 := h.top
  have h3 := h.lists
  have h4 := h.deep
  have h5 := h.opens
  unfold stepR at hs
  by_cases k3 : w.kind = 3
  · rw [if_pos k3] at hs
    cases hl : r.st.getLast? with
    | none => rw [hl] at hs; cases hs
    | some o =>
      rw [hl] at hs
      dsimp only at hs
      split at hs
      · cases hs
      · injection hs with hs
        subst hs
        have ho : o ∈ r.st := List.mem_of_getLast? hl
        have hp : 0 < r.st.length := List.length_pos_of_mem ho
        refine ⟨by simp [setHas]; omega, by dsimp only; omega, fun x hx => ?_, by simp; omega, fun q hq => ?_⟩
        · rcases mem_modify hx with h | ⟨y, hy, rfl⟩
          · have := h3 x h; omega
          · have := h3 y hy; exact ⟨by dsimp only; omega, by dsimp only; omega⟩
        · have e : (setHas r.nodes o.node.toNat).length = r.nodes.length := by simp [setHas]
          rw [e]
          rcases List.mem_append.1 hq with hq | hq
          · exact h5 q (List.dropLast_subset _ hq)
          · simp at hq
            subst hq
            exact h5 o ho
  rw [if_neg k3] at hs
  by_cases k5 : w.kind = 5
  · rw [if_pos k5] at hs
    cases hl : r.st.getLast? with
    | none => rw [hl] at hs; cases hs
    | some o =>
      rw [hl] at hs
      injection hs with hs
      subst hs
      exact ⟨by dsimp only; omega, by dsimp only; omega, fun x hx => by have := h3 x hx; omega, by simp; omega, fun q hq => h5 q (List.dropLast_subset _ hq)⟩
  rw [if_neg k5] at hs
  split at hs
  · cases hs
  · rename_i hd
    injection hs with hs
    subst hs
    have hnl : ∀ x ∈ r.nodes ++ [nodeOf w], x.body.length ≤ k ∧ x.els.length ≤ k := fun x hx => by
      rcases List.mem_append.1 hx with hx | hx
      · exact h3 x hx
      · simp at hx
        subst hx
        exact ⟨Nat.zero_le _, Nat.zero_le _⟩
    obtain ⟨a1, a2, a3⟩ := addF_inv (st := r.st) (n := (r.nodes.length : Int)) h2 hnl
    refine ⟨by dsimp only; rw [a1]; simp; omega, a2, a3, ?_, fun q hq => ?_⟩
    · dsimp only
      split
      · rename_i hk
        simp
        rcases Nat.lt_or_ge r.st.length 16 with h | h
        · omega
        · exact absurd ⟨hk, h⟩ hd
      · exact h4
    · dsimp only at hq ⊢
      rw [a1]
      simp only [List.length_append, List.length_singleton]
      have key : ∀ q ∈ r.st, 0 ≤ q.node ∧ q.node < ((r.nodes.length + 1 : Nat) : Int) := fun q hq => by have := h5 q hq; omega
      split at hq
      · rcases List.mem_append.1 hq with hq | hq
        · exact key q hq
        · simp at hq
          subst hq
          exact ⟨by dsimp only; omega, by dsimp only; omega⟩
      · exact key q hq
theorem runR_inv (ws : List Word) : ∀ (k : Nat) (r r' : RSt), RInv k r → runR r ws = .ok r' → RInv (k + ws.length) r' := by
  induction ws with
  | nil =>
    intro k r r' h hr
    injection hr with hr
    subst hr
    exact h
  | cons w ws ih =>
    intro k r r' h hr
    unfold runR at hr
    cases hs : stepR r w with
    | error f => rw [hs] at hr; cases hr
    | ok r1 =>
      rw [hs] at hr
      have := ih (k + 1) r1 r' (stepR_inv h hs) hr
      rw [List.length_cons, show k + (ws.length + 1) = k + 1 + ws.length by omega]
      exact this
theorem r0_inv : RInv 0 r0 := ⟨Nat.le_refl 0, Nat.le_refl 0, fun x hx => (by cases hx), (by decide), fun o ho => (by cases ho)⟩
theorem run_inv {ws : List Word} {k : Nat} {r : RSt} (h : runR r0 (ws.take k) = .ok r) : RInv k r := by
  have := runR_inv (ws.take k) 0 r0 r r0_inv h
  have hl : (ws.take k).length ≤ k := List.length_take_le _ _
  obtain ⟨a, b, c, d, e⟩ := this
  exact ⟨by omega, by omega, fun x hx => by have := c x hx; omega, d, e⟩
/-- The nodes' ways are those of the words. -/
theorem addF_names {nodes : List Node} {top : List Int} {st : List Opn} {n : Int} {m : Nat} (hl : ∀ x ∈ nodes, x.names.length ≤ m) : ∀ x ∈ (addF nodes top st n).1, x.names.length ≤ m := by
  unfold addF
  cases st.getLast? with
  | none => exact hl
  | some o =>
    intro x hx
    rcases mem_modify hx with h | ⟨y, hy, rfl⟩
    · exact hl x h
    · have := hl y hy
      cases o.els <;> exact this
theorem stepR_names {r r' : RSt} {w : Word} {m : Nat} (h : ∀ x ∈ r.nodes, x.names.length ≤ m) (hw : w.names.length ≤ m) (hs : stepR r w = .ok r') : ∀ x ∈ r'.nodes, x.names.length ≤ m := by
  unfold stepR at hs
  by_cases k3 : w.kind = 3
  · rw [if_pos k3] at hs
    cases hl : r.st.getLast? with
    | none => rw [hl] at hs; cases hs
    | some o =>
      rw [hl] at hs
      dsimp only at hs
      split at hs
      · cases hs
      · injection hs with hs
        subst hs
        intro x hx
        rcases mem_modify hx with h1 | ⟨y, hy, rfl⟩
        · exact h x h1
        · exact h y hy
  rw [if_neg k3] at hs
  by_cases k5 : w.kind = 5
  · rw [if_pos k5] at hs
    cases hl : r.st.getLast? with
    | none => rw [hl] at hs; cases hs
    | some o =>
      rw [hl] at hs
      injection hs with hs
      subst hs
      exact h
  rw [if_neg k5] at hs
  split at hs
  · cases hs
  · injection hs with hs
    subst hs
    exact addF_names (fun x hx => by
      rcases List.mem_append.1 hx with hx | hx
      · exact h x hx
      · simp at hx
        subst hx
        exact hw)
theorem runR_names {m : Nat} (ws : List Word) : ∀ (r r' : RSt), (∀ x ∈ r.nodes, x.names.length ≤ m) → (∀ w ∈ ws, w.names.length ≤ m) → runR r ws = .ok r' → ∀ x ∈ r'.nodes, x.names.length ≤ m := by
  induction ws with
  | nil =>
    intro r r' h hw hr
    injection hr with hr
    subst hr
    exact h
  | cons w ws ih =>
    intro r r' h hw hr
    cases hs : stepR r w with
    | error f => rw [runR_err hs] at hr; cases hr
    | ok r1 =>
      rw [runR_ok hs] at hr
      exact ih r1 r' (stepR_names h (hw w List.mem_cons_self) hs) (fun v hv => hw v (List.mem_cons_of_mem _ hv)) hr
/-- The words' kinds. -/
theorem actionF_kind (s : List UInt8) : 0 ≤ (actionF s).1 ∧ (actionF s).1 < 7 := by
  unfold actionF
  dsimp only
  repeat' split
  all_goals (constructor <;> (dsimp only; omega))
theorem lexF_kind : ∀ (n : Nat) (at_ : Int) (r : List UInt8), ∀ x ∈ (lexF n at_ r).1, 0 ≤ x.kind ∧ x.kind < 7
  | 0, at_, r => by simp [lexF]
  | n + 1, at_, r => by
    unfold lexF
    by_cases h0 : r = []
    · rw [if_pos h0]; simp
    rw [if_neg h0]
    by_cases h1 : 0 < litLen r
    · rw [if_pos h1]
      intro x hx
      rcases List.mem_cons.1 hx with rfl | hx
      · exact ⟨by dsimp only; omega, by dsimp only; omega⟩
      · exact lexF_kind n _ _ x hx
    rw [if_neg h1]
    by_cases h2 : closeAt r < 0
    · rw [if_pos h2]; simp
    rw [if_neg h2]
    split
    · intro x hx
      rcases List.mem_cons.1 hx with rfl | hx
      · exact actionF_kind _
      · exact lexF_kind n _ _ x hx
    · simp
end Go.Proofs.YtcggeaobonblfaaDoor

/- parse.copied: walked. -/
namespace Go.Proofs.YtcggeaobonblfaaDoor
set_option linter.unusedSimpArgs false
set_option linter.unusedVariables false
open Go Go.RowKit Go.Proofs.YtcggeaobonblfaaDoorW.PrintLast
/-- Between two rounds: the first j nodes have their own names. -/
def CopyInv (B base : Nat) (ps : List NodeV) (nv tv : Value) (w : World) (j : Nat) (W : World) : Prop :=
  ∃ qs : List NodeV, qs.map NodeV.x = ps.map NodeV.x ∧ W.ownsRow base 66 9 nv qs.length (qs.flatMap nodeCells) ∧
    (∀ i p, qs[i]? = some p → (i < j → WayAt W base p.nv p.x.names) ∧ (j ≤ i → NamesRd B W p.nv p.x.names) ∧ IntsAt W base p.bv p.x.body ∧ IntsAt W base p.ev p.x.els) ∧
    (∀ P, Fr base P w W) ∧ W.heap[w.heap.size]? = some (.cells #[nv, tv] 26) ∧ W.heap[w.heap.size + 1]? = some (.cells #[.slice none 0 0, .slice none 0 0] 26)
def CopyPost (base : Nat) (ps : List NodeV) (nv tv : Value) (w : World) (e : Ending) (W : World) : Prop :=
  e = .returned (.agg #[nv, tv]) ∧ (∃ qs : List NodeV, qs.map NodeV.x = ps.map NodeV.x ∧ W.ownsRow base 66 9 nv qs.length (qs.flatMap nodeCells) ∧
    (∀ p ∈ qs, WayAt W base p.nv p.x.names ∧ IntsAt W base p.bv p.x.body ∧ IntsAt W base p.ev p.x.els)) ∧ (∀ P, Fr base P w W)
theorem set_case {α : Type} {l : List α} {i k : Nat} {a x : α} (h : (l.set i a)[k]? = some x) : (k = i ∧ x = a) ∨ (k ≠ i ∧ l[k]? = some x) := by
  by_cases e : i = k
  · subst e
    have hlt := (List.getElem?_eq_some_iff.1 h).1
    rw [List.getElem?_set_self (by simpa using hlt)] at h
    exact .inl ⟨rfl, (Option.some.inj h).symm⟩
  · rw [List.getElem?_set_ne e] at h
    exact .inr ⟨fun h2 => e h2.symm, h⟩
/-- One round's doing. -/
theorem copy_step {B base : Nat} {ps : List NodeV} {tv : Value} {w W w1 : World} {j g n c : Nat} {qs : List NodeV} {p : NodeV} {v : Value} {o : Obj} (hB : B ≤ base) (hbw : base ≤ w.heap.size)
    (hmap : qs.map NodeV.x = ps.map NodeV.x) (ho : W.ownsRow base 66 9 (.slice (some ⟨g, 0, none⟩) n c) qs.length (qs.flatMap nodeCells))
    (hq : ∀ i p, qs[i]? = some p → (i < j → WayAt W base p.nv p.x.names) ∧ (j ≤ i → NamesRd B W p.nv p.x.names) ∧ IntsAt W base p.bv p.x.body ∧ IntsAt W base p.ev p.x.els)
    (hfr : ∀ P, Fr base P w W) (hbox : W.heap[w.heap.size]? = some (.cells #[.slice (some ⟨g, 0, none⟩) n c, tv] 26)) (hres : W.heap[w.heap.size + 1]? = some (.cells #[.slice none 0 0, .slice none 0 0] 26))
    (hp : qs[j]? = some p) (hgrow : (W.alloc o).grownBy w1 none) (hown : WayAt w1 base v p.x.names) :
    CopyInv B base ps (.slice (some ⟨g, 0, none⟩) n c) tv w (j + 1) (w1.setCell ⟨g, j * 9 + 4, none⟩ v) := by
  obtain rfl : n = qs.length := by
    rcases ho.2 with ⟨e, h0⟩ | ⟨g', cap, cur, e, _⟩
    · cases e
    · cases e; rfl
  have hg1 : W.grownBy w1 none := grown_two (World.grownBy_alloc W _ none) hgrow
  obtain ⟨cells, hty⟩ := row_type ho g rfl
  have hbg : base ≤ g := row_base ho g rfl
  have hty1 : w1.heap[g]? = some (.cells cells 66) := (hg1.block g (World.heap_lt hty) (by simp)).trans hty
  have ho1 := ho.kept hg1 (.inr (by simp [Value.ownBlock]))
  have hst := (World.ownsRow.stored ho1 (j * 9 + 4) v).1
  rw [flat9_set qs j p { p with nv := v } 4 v hp (by omega) rfl] at hst
  have hset := grown_set w1 g (j * 9 + 4) v
  have key : ∀ {e size n : Nat} {u : Value} {xs : List Value}, e ≠ 66 → W.ownsRow base e size u n xs → (w1.setCell ⟨g, j * 9 + 4, none⟩ v).ownsRow base e size u n xs := fun he h =>
    row_else (World.ownsRow.kept h hg1 (Decidable.em _)) hset (fun k e => by cases e; exact ⟨_, hty1⟩) he
  refine ⟨qs.set j { p with nv := v }, ?_, by simpa using hst, ?_, ?_, ?_, ?_⟩
  · rw [map_set qs id j p { p with nv := v } hp rfl, ← hmap]
    simp [List.modify_id]
  · intro i q hiq
    rcases set_case hiq with ⟨rfl, rfl⟩ | ⟨hne, hiq'⟩
    · obtain ⟨-, -, h3, h4⟩ := hq i p hp
      exact ⟨fun _ => row_else hown hset (fun k e => by cases e; exact ⟨_, hty1⟩) (by decide), fun h => by omega, key (by decide) h3, key (by decide) h4⟩
    · obtain ⟨h1, h2, h3, h4⟩ := hq i q hiq'
      refine ⟨fun h => key (by decide) (h1 (by omega)), fun h => ?_, key (by decide) h3, key (by decide) h4⟩
      exact ((h2 (by omega)).below (Below.refl _ _ |>.grown hg1 (by have := (hfr 0).size; omega) (fun k e => by cases e))).below ((Below.refl _ _).setCell (p := ⟨g, j * 9 + 4, none⟩) (by dsimp only; omega) _)
  · intro P
    exact (fr_grow ((hfr P).alloc hbw o) hgrow hbw (fun k e => by cases e)).set (p := ⟨g, j * 9 + 4, none⟩) hbg (.inr ⟨_, hty1⟩) _
  · exact blk_far ((hg1.block _ (World.heap_lt hbox) (by simp)).trans hbox) (p := ⟨g, j * 9 + 4, none⟩) (by rintro rfl; rw [hty] at hbox; cases hbox) _
  · exact blk_far ((hg1.block _ (World.heap_lt hres) (by simp)).trans hres) (p := ⟨g, j * 9 + 4, none⟩) (by intro e; rw [e, hty] at hres; cases hres) _
/-- append([]string(nil), names...), as one step of a region that draws its order. -/
theorem step_names {P : Program} {ops : Array Oper} {o : Oper} {a : Act} {K : Act → World → Prop} {Q : Exit → Act → World → Prop} {E : Prop} {W : World} (hgd : o.guard = none) (s x : Operand) (t : TypeId)
    (ho : o.op = .call { callee := .builtin .append, args := #[s, x], argTypes := #[t, t] })
    (base : Nat) (i : TypeInfo) (z : Value) (ht : P.underlying t = some (.slice 9)) (hi : P.info? 9 = some i) (hz : i.zero = some z)
    (hsize : i.size = 1) (hby : i.bytes = 16) (hzs : z.cells.size = 1) (hs : a.eval s = .slice none 0 0) (names : List (List UInt8)) (A : Option Addr) (c : Nat) (hx : a.eval x = .slice A names.length c)
    (hnj : ∀ (j : Nat) n, names[j]? = some n → ∃ b, A = some ⟨b, 0, none⟩ ∧ W.cell? ⟨b, j, none⟩ = some (encS n)) (hl : names.length ≤ 100000) (hbase : base ≤ W.heap.size)
    (h : ∀ v' w', WayAt w' base v' names → W.grownBy w' none → K (a.put o.dst v') w') :
    if Region.wanted o (yielded ops a.tmps) = true then Oper.wp P o a W K Q else E := by
  cases A with
  | none =>
    have hnil : names = [] := by
      cases names with
      | nil => rfl
      | cons n r => obtain ⟨b, e, _⟩ := hnj 0 n rfl; cases e
    subst hnil
    rw [if_pos (by simp [Region.wanted, hgd])]
    have hr : (Builtin.append_ #[t, t] o.type #[.slice none 0 0, .slice none 0 c]).run P W = .ok (.slice none 0 0) W := by
      simp [Builtin.append_, run_underlying ht, sizeOf, typeInfo, hi, Builtin.lenOf, Builtin.firstCells]
    unfold Oper.wp execOp
    simp only [ho, resolve, invoke, builtin, Sem.run_bind, Sem.run_pure, Result.andThen_ok, List.map_toArray, List.map_cons, List.map_nil, hs, hx, List.length_nil, hr]
    exact h _ _ (way_none _ _) ⟨rfl, rfl, rfl, Nat.le_refl _, fun _ _ _ => rfl⟩
  | some ad =>
    refine step_grow hgd s x t ho base 9 i z 1 16 ht hi hz hsize hby hzs (by decide) (.slice none 0 0) 0 [] hs (World.ownsRow_nil W base 9 1) ad names.length c (names.map encS) hx (by simp) ?_ ?_ ?_ ?_ hbase ?_
    · intro j u hu
      obtain ⟨n, hn, rfl⟩ : ∃ n, names[j]? = some n ∧ encS n = u := by simpa using hu
      obtain ⟨b, e, hc⟩ := hnj j n hn
      cases e
      rw [addr_add]
      exact hc
    · intro u hu
      obtain ⟨n, -, rfl⟩ := List.mem_map.1 hu
      rfl
    · unfold maxLen; omega
    · omega
    · intro v' w' h1 h2
      exact h v' w' (by simpa [WayAt] using h1) h2
set_option maxRecDepth 100000 in
set_option maxHeartbeats 2000000 in
theorem copied_any (B base : Nat) (ps : List NodeV) (nv tv : Value) (w : World) (hl : ps.length ≤ 100000) (hk : ∀ p ∈ ps, p.x.names.length ≤ 100000) (hB : B ≤ base) (hbw : base ≤ w.heap.size)
    (hns : NodesAt B base (fun _ => False) w nv ps) (htv : ∃ A n c, tv = .slice A n c) :
    Calls Tryd.prog 40 #[.agg #[nv, tv]] w (CopyPost base ps nv tv w) := by
  obtain ⟨TA, TN, TC, rfl⟩ := htv
  obtain ⟨LA, LC, rfl⟩ := nodes_slice hns
  have Hk := Lib.hid hk
  have Hns := Lib.hid hns
  clear hk hns
  go_enter Tryd.func40, Tryd.ntmps40
  go_wp2_with fail
  have H0 : Hid (CopyInv B base ps (.slice LA ps.length LC) (.slice TA TN TC) w 0 ((w.alloc (.cells #[.slice LA ps.length LC, .slice TA TN TC] 26)).alloc (.cells #[.slice none 0 0, .slice none 0 0] 26))) := Lib.hid (by
    have hb := ((Below.refl w.heap.size w).alloc (Nat.le_refl _) (.cells #[.slice LA ps.length LC, .slice TA TN TC] 26)).alloc (by simp) (.cells #[.slice none 0 0, .slice none 0 0] 26)
    refine ⟨ps, rfl, (Hns.out.1.alloc _).alloc _, fun i p hp => ?_, fun P => Fr.of_below hb hbw, ?_, ?_⟩
    · obtain ⟨h1, h2, h3, -, -⟩ := Hns.out.2 p (List.mem_of_getElem? hp)
      exact ⟨fun h => by omega, fun _ => h1.below (hb.mono (by omega)), (World.ownsRow.alloc h2 _).alloc _, (World.ownsRow.alloc h3 _).alloc _⟩
    · exact (heap_old (by simp)).trans (World.alloc_heap_new w _)
    · have := World.alloc_heap_new (w.alloc (.cells #[.slice LA ps.length LC, .slice TA TN TC] 26)) (.cells #[.slice none 0 0, .slice none 0 0] 26)
      simpa using this)
  go_loopw [8] (fun a wr => ∃ j : Nat, j ≤ ps.length ∧ a = .int .i64 j ∧ Hid (CopyInv B base ps (.slice LA ps.length LC) (.slice TA TN TC) w j wr)) (fun a _ => ps.length - (intOf a).toNat)
  case atStart => exact ⟨0, Nat.zero_le _, rfl, H0⟩
  case round =>
    clear H0 Hns
    obtain ⟨j, hj, rfl, hI⟩ := hrel
    obtain ⟨qs, hmap, ho, hq, hfr, hbox, hres⟩ := hI.out
    have hql : qs.length = ps.length := by simpa using congrArg List.length hmap
    by_cases hlt : j < ps.length
    · obtain ⟨p, hp⟩ : ∃ p, qs[j]? = some p := ⟨_, List.getElem?_eq_getElem (by omega)⟩
      have hp' : p.x ∈ ps.map NodeV.x := by rw [← hmap]; exact List.mem_map_of_mem (List.mem_of_getElem? hp)
      have hkp : p.x.names.length ≤ 100000 := by
        obtain ⟨q, hq1, hq2⟩ := List.mem_map.1 hp'
        rw [← hq2]; exact Hk.out q hq1
      obtain ⟨-, hnr, hbv, hev⟩ := hq j p hp
      obtain ⟨NA, NC, hnv, hnj, -⟩ := hnr (Nat.le_refl _)
      obtain ⟨BA, BC, hbe⟩ := ints_slice hbv
      obtain ⟨EA, EC, hee⟩ := ints_slice hev
      have hcell : ∀ c u, c < 9 → (nodeCells p)[c]? = some u → ∃ g, LA = some ⟨g, 0, none⟩ ∧ base ≤ g ∧ g < wr.heap.size ∧ wr.cell? ⟨g, j * 9 + c, none⟩ = some u := fun c u hc hu => by
        obtain ⟨g, cap, e, hb, hlt, hcc⟩ := row_cell ho (j * 9 + c) u (by rw [flat9 qs j p hp c hc]; exact hu)
        injection e with e1 e2 e3
        exact ⟨g, e1, hb, hlt, hcc⟩
      obtain ⟨g, hLA, hbg, hgl, m0⟩ := hcell 0 _ (by omega) rfl
      rw [hLA] at ho hbox ⊢
      obtain ⟨_, e1, -, -, m1⟩ := hcell 1 _ (by omega) rfl; rw [hLA] at e1; cases e1
      obtain ⟨_, e1, -, -, m2⟩ := hcell 2 _ (by omega) rfl; rw [hLA] at e1; cases e1
      obtain ⟨_, e1, -, -, m3⟩ := hcell 3 _ (by omega) rfl; rw [hLA] at e1; cases e1
      obtain ⟨_, e1, -, -, m4⟩ := hcell 4 _ (by omega) rfl; rw [hLA] at e1; cases e1
      obtain ⟨_, e1, -, -, m5⟩ := hcell 5 _ (by omega) rfl; rw [hLA] at e1; cases e1
      obtain ⟨_, e1, -, -, m6⟩ := hcell 6 _ (by omega) rfl; rw [hLA] at e1; cases e1
      obtain ⟨_, e1, -, -, m7⟩ := hcell 7 _ (by omega) rfl; rw [hLA] at e1; cases e1
      obtain ⟨_, e1, -, -, m8⟩ := hcell 8 _ (by omega) rfl; rw [hLA] at e1; cases e1
      rw [Nat.add_zero] at m0
      rw [hnv] at m4
      rw [hbe] at m5
      rw [hee] at m6
      have b0 : wr.cell? ⟨w.heap.size, 0, none⟩ = some (.slice (some ⟨g, 0, none⟩) ps.length LC) := by simp [World.cell?, hbox]
      have hbl : w.heap.size < wr.heap.size := World.heap_lt hbox
      have hgn : g ≠ w.heap.size := by obtain ⟨cells, hty⟩ := row_type ho g rfl; rintro rfl; rw [hty] at hbox; cases hbox
      have Hmap := Lib.hid hmap
      have Ho := Lib.hid ho
      have Hq := Lib.hid hq
      have Hfr := Lib.hid hfr
      have Hbox := Lib.hid hbox
      have Hres := Lib.hid hres
      have Hp := Lib.hid hp
      have Hnj := Lib.hid hnj
      have Hnv := Lib.hid hnv
      have hfz : wr.frozen? ⟨g, j * 9 + 4, none⟩ = false := World.ownsRow.frozenAt (hql ▸ ho) _
      clear hmap ho hq hfr hbox hres hp hnr hbv hev hnj hnv hbe hee hp' hcell hI
      obtain ⟨i0, hi0, hz0, hz1, hz2⟩ := info_parts Tryd.info9
      go_wp2_with fail
      refine start_ (n := 11) (S := fun w' => w'.cell? ⟨w.heap.size, 0, none⟩ = some (.slice (some ⟨g, 0, none⟩) ps.length LC) ∧ w'.cell? ⟨wr.heap.size, 4, none⟩ = some (.slice NA p.x.names.length NC)) (ds := [10]) #[false, false, false, false, false, false, false, false, false, false, false] (by kernel_rfl) rfl rfl ⟨(World.cell?_alloc_past _ _ _ hbl).trans b0, by simp⟩ (fun hHeld => ?_)
      refine pure_ (i := 0) (N := (some 13)) (v := ?_) (a' := ?_) #[true, false, false, false, false, false, false, false, false, false, false] rfl rfl (by kernel_rfl) (fun _ _ _ h => h) (Or.inl ⟨by rfl, ?_⟩) ?_ ?_
      rotate_left
      · intro w'
        go_simp
        with_reducible rfl
      rotate_left
      · simp only [Act.put, List.setIfInBounds_toArray, List.set_cons_zero, List.set_cons_succ, i64_w, i32_w]
        rfl
      refine take_ (i := 1) (N := (some 14)) (v := ?_) (a' := ?_) #[true, true, false, false, false, false, false, false, false, false, false] rfl rfl (by kernel_rfl) (fun _ _ _ h => h) (Or.inl ⟨by rfl, ?_⟩) hHeld ?_ ?_
      rotate_left
      · rintro w' ⟨s0, s1⟩
        go_simp
        with_reducible rfl
      rotate_left
      · simp only [Act.put, List.setIfInBounds_toArray, List.set_cons_zero, List.set_cons_succ, i64_w, i32_w]
        rfl
      refine pure_ (i := 2) (N := (some 15)) (v := ?_) (a' := ?_) #[true, true, true, false, false, false, false, false, false, false, false] rfl rfl (by kernel_rfl) (fun _ _ _ h => h) (Or.inl ⟨by rfl, ?_⟩) ?_ ?_
      rotate_left
      · intro w'
        go_simp
        with_reducible rfl
      rotate_left
      · simp only [Act.put, List.setIfInBounds_toArray, List.set_cons_zero, List.set_cons_succ, i64_w, i32_w]
        rfl
      refine pure_ (i := 3) (N := (some 16)) (v := ?_) (a' := ?_) #[true, true, true, true, false, false, false, false, false, false, false] rfl rfl (by kernel_rfl) (fun _ _ _ h => h) (Or.inl ⟨by rfl, ?_⟩) ?_ ?_
      rotate_left
      · intro w'
        go_simp
        with_reducible rfl
      rotate_left
      · simp only [Act.put, List.setIfInBounds_toArray, List.set_cons_zero, List.set_cons_succ, i64_w, i32_w]
        rfl
      refine pure_ (i := 4) (N := (some 17)) (v := ?_) (a' := ?_) #[true, true, true, true, true, false, false, false, false, false, false] rfl rfl (by kernel_rfl) (fun _ _ _ h => h) (Or.inl ⟨by rfl, ?_⟩) ?_ ?_
      rotate_left
      · intro w'
        go_simp
        with_reducible rfl
      rotate_left
      · simp only [Act.put, List.setIfInBounds_toArray, List.set_cons_zero, List.set_cons_succ, i64_w, i32_w]
        rfl
      refine take_ (i := 5) (N := (some 18)) (v := ?_) (a' := ?_) #[true, true, true, true, true, true, false, false, false, false, false] rfl rfl (by kernel_rfl) (fun _ _ _ h => h) (Or.inl ⟨by rfl, ?_⟩) hHeld ?_ ?_
      rotate_left
      · rintro w' ⟨s0, s1⟩
        go_simp
        with_reducible rfl
      rotate_left
      · simp only [Act.put, List.setIfInBounds_toArray, List.set_cons_zero, List.set_cons_succ, i64_w, i32_w]
        rfl
      refine one_ (i := 6) (N := (some 19)) #[true, true, true, true, true, true, true, false, false, false, false] rfl rfl (by kernel_rfl) (by decide) (fun K hK => ?_)
      refine step_names rfl _ _ 61 rfl base i0 _ Tryd.underlying61 hi0 hz0 hz1 hz2 rfl rfl p.x.names NA NC rfl (fun k n hn => by
        obtain ⟨b, e, hb, hc⟩ := Hnj.out k n hn
        exact ⟨b, e, (World.cell?_alloc_past _ _ _ (by omega)).trans hc⟩) hkp (by simp; omega) ?_
      intro v' w1 hown hgrow
      obtain ⟨VA, VC, rfl⟩ := way_slice hown
      obtain ⟨s0, s1⟩ := hHeld
      refine hK.out _ _ ⟨hgrow.cell s0 (by simp), hgrow.cell s1 (by simp)⟩ (fun hHeld => ?_)
      have hst : Hid (CopyInv B base ps (.slice (some ⟨g, 0, none⟩) ps.length LC) (.slice TA TN TC) w (j + 1) (w1.setCell ⟨g, j * 9 + 4, none⟩ (.slice VA p.x.names.length VC))) :=
        Lib.hid (copy_step (o := .cells #[.int .u8 p.x.kind, .int .i64 p.x.at_, .string ⟨p.x.text.toArray⟩, .bool p.x.root, .slice NA p.x.names.length NC, .slice BA p.x.body.length BC, .slice EA p.x.els.length EC, .bool p.x.has, .int .u8 p.x.hole] 66) hB hbw Hmap.out Ho.out Hq.out Hfr.out Hbox.out Hres.out Hp.out (grown_drew hgrow) hown)
      have t4 : w1.cell? ⟨g, j * 9 + 4, none⟩ = some (.slice NA p.x.names.length NC) := (grown_drew hgrow).cell ((World.cell?_alloc_past _ _ _ hgl).trans m4) (by simp)
      have tf : w1.frozen? ⟨g, j * 9 + 4, none⟩ = false := (World.frozen?_of_block (a := ⟨g, j * 9 + 4, none⟩) ((grown_drew hgrow).block g (by simp; omega) (by simp))).trans ((World.frozen?_of_block (a := ⟨g, j * 9 + 4, none⟩) (heap_old hgl)).trans hfz)
      clear hK K s0 s1 hown hgrow hi0 hz0 hz1 hz2 Hmap Ho Hq Hfr Hbox Hres Hp Hnj Hnv m0 m1 m2 m3 m4 m5 m6 m7 m8 b0 hfz
      refine norm_ (a' := ?_) ?_ ?_
      rotate_left
      · show Act.put _ (some 19) _ = _
        simp only [Act.put, List.setIfInBounds_toArray, List.set_cons_zero, List.set_cons_succ, i64_w, i32_w]
        rfl
      refine pure_ (i := 7) (N := (some 20)) (v := ?_) (a' := ?_) #[true, true, true, true, true, true, true, true, false, false, false] rfl rfl (by kernel_rfl) (fun _ _ _ h => h) (Or.inl ⟨by rfl, ?_⟩) ?_ ?_
      rotate_left
      · intro w'
        go_simp
        with_reducible rfl
      rotate_left
      · simp only [Act.put, List.setIfInBounds_toArray, List.set_cons_zero, List.set_cons_succ, i64_w, i32_w]
        rfl
      refine pure_ (i := 8) (N := (some 21)) (v := ?_) (a' := ?_) #[true, true, true, true, true, true, true, true, true, false, false] rfl rfl (by kernel_rfl) (fun _ _ _ h => h) (Or.inl ⟨by rfl, ?_⟩) ?_ ?_
      rotate_left
      · intro w'
        go_simp
        with_reducible rfl
      rotate_left
      · simp only [Act.put, List.setIfInBounds_toArray, List.set_cons_zero, List.set_cons_succ, i64_w, i32_w]
        rfl
      refine pure_ (i := 9) (N := (some 22)) (v := ?_) (a' := ?_) #[true, true, true, true, true, true, true, true, true, true, false] rfl rfl (by kernel_rfl) (fun _ _ _ h => h) (Or.inl ⟨by rfl, ?_⟩) ?_ ?_
      rotate_left
      · intro w'
        go_simp
        with_reducible rfl
      rotate_left
      · simp only [Act.put, List.setIfInBounds_toArray, List.set_cons_zero, List.set_cons_succ, i64_w, i32_w]
        rfl
      refine last_ (i := 10) (N := none) #[true, true, true, true, true, true, true, true, true, true, true] rfl rfl (by kernel_rfl) (by decide) (fun K hK => ?_)
      refine skip_ (w1 := ?_) (by rfl) rfl ?_ ?_
      rotate_left
      · go_simp
        rfl
      refine hK.out _ _ ?_
      clear hK K hHeld t4 tf
      refine done_ (by kernel_rfl) ?_
      obtain ⟨W9, hW9⟩ : ∃ W9, w1.setCell ⟨g, j * 9 + 4, none⟩ (.slice VA p.x.names.length VC) = W9 := ⟨_, rfl⟩
      rw [hW9] at hst ⊢
      clear hW9
      go_wp2
      exact ⟨⟨j + 1, by omega, by simp, hst⟩, by simp [intOf]; omega⟩
    · have hje : j = ps.length := by omega
      subst hje
      have b0 : wr.cell? ⟨w.heap.size, 0, none⟩ = some (.slice LA ps.length LC) := by simp [World.cell?, hbox]
      have b1 : wr.cell? ⟨w.heap.size, 1, none⟩ = some (.slice TA TN TC) := by simp [World.cell?, hbox]
      have r0 : wr.cell? ⟨w.heap.size + 1, 0, none⟩ = some (.slice none 0 0) := by simp [World.cell?, hres]
      have r1 : wr.cell? ⟨w.heap.size + 1, 1, none⟩ = some (.slice none 0 0) := by simp [World.cell?, hres]
      have q0 : wr.frozen? ⟨w.heap.size + 1, 0, none⟩ = false := by simp [World.frozen?, hres]
      have q1 : wr.frozen? ⟨w.heap.size + 1, 1, none⟩ = false := by simp [World.frozen?, hres]
      clear hbox hres hmap ho hq hfr hql
      go_wp2
      refine bodyPost_ret (v := .agg #[.slice LA ps.length LC, .slice TA TN TC]) (by simp [results, Tryd.results40, go_sem, r0, r1]) rfl ⟨rfl, ?_, ?_⟩
      all_goals obtain ⟨qs, hmap, ho, hq, hfr, hbox, hres⟩ := hI.out
      all_goals have hql : qs.length = ps.length := by simpa using congrArg List.length hmap
      · have h1 := grown_set wr (w.heap.size + 1) 0 (.slice LA ps.length LC)
        have h2 := grown_set (wr.setCell ⟨w.heap.size + 1, 0, none⟩ (.slice LA ps.length LC)) (w.heap.size + 1) 1 (.slice TA TN TC)
        have key : ∀ {e size n : Nat} {u : Value} {xs : List Value}, e ≠ 26 → wr.ownsRow base e size u n xs → ((wr.setCell ⟨w.heap.size + 1, 0, none⟩ (.slice LA ps.length LC)).setCell ⟨w.heap.size + 1, 1, none⟩ (.slice TA TN TC)).ownsRow base e size u n xs := fun he h =>
          row_else (row_else h h1 (fun k e => by cases e; exact ⟨_, hres⟩) he) h2 (fun k e => by cases e; exact ⟨_, blk_put hres 0 _⟩) he
        refine ⟨qs, hmap, key (by decide) ho, fun p hp => ?_⟩
        obtain ⟨i, hi⟩ := List.getElem?_of_mem hp
        obtain ⟨a, -, b, c⟩ := hq i p hi
        exact ⟨key (by decide) (a (by have := (List.getElem?_eq_some_iff.1 hi).1; omega)), key (by decide) b, key (by decide) c⟩
      · intro P
        exact fr_grow (fr_grow (hfr P) (grown_set wr (w.heap.size + 1) 0 _) hbw (fun k e => by cases e; omega)) (grown_set _ (w.heap.size + 1) 1 _) hbw (fun k e => by cases e; omega)
end Go.Proofs.YtcggeaobonblfaaDoor

/- parse.tree: walked. -/
namespace Go.Proofs.YtcggeaobonblfaaDoor
set_option linter.unusedSimpArgs false
set_option linter.unusedVariables false
open Go Go.RowKit
def treeF (ws : List Word) : Except Fault (List Int × List Node) :=
  match listP ws (ws.length + 1) 0 [] 0 [] with
  | .error f => .error f
  | .ok (top, i, nodes) => match ws[i]? with
    | some x => .error (x.at_, 4)
    | none => .ok (top, nodes)
/-- A tree in memory of the call's own. -/
def TreeAt (W : World) (base : Nat) (nv tv : Value) (nodes : List Node) (top : List Int) : Prop :=
  (∃ qs : List NodeV, qs.map NodeV.x = nodes ∧ W.ownsRow base 66 9 nv qs.length (qs.flatMap nodeCells) ∧
    (∀ p ∈ qs, WayAt W base p.nv p.x.names ∧ IntsAt W base p.bv p.x.body ∧ IntsAt W base p.ev p.x.els)) ∧ IntsAt W base tv top
def TreePost (w : World) (r : Except Fault (List Int × List Node)) (e : Ending) (w' : World) : Prop :=
  match r with
  | .error f => e = .returned (.tuple #[.agg #[.slice none 0 0, .slice none 0 0], .int .i64 f.1, .int .i64 f.2]) ∧ Below w.heap.size w w'
  | .ok (top, nodes) => ∃ nv tv, e = .returned (.tuple #[.agg #[nv, tv], .int .i64 0, .int .i64 0]) ∧ TreeAt w' w.heap.size nv tv nodes top ∧ Below w.heap.size w w'
theorem list_none (W : World) (B base P : Nat) (X : Nat → Prop) (wv : Value) (ws : List Word) (h : W.heap[P]? = some (.cells #[wv, .int .i64 0, .slice none 0 0, .slice none 0 0] 108)) (hw : WordsRd B W wv ws) (hB : B ≤ base) (hP : base ≤ P) :
    PSt B base X W P ws 0 [] :=
  ⟨wv, .slice none 0 0, [], rfl, h, hw, ⟨World.ownsRow_nil W base 66 9, fun p hp => by cases hp⟩, hB, hP⟩
set_option maxRecDepth 100000 in
set_option maxHeartbeats 2000000 in
theorem tree_any (wv : Value) (ws : List Word) (w : World) (hws : ws.length ≤ 100000) (hk : ∀ top i nodes, listP ws (ws.length + 1) 0 [] 0 [] = .ok (top, i, nodes) → ∀ x ∈ nodes, x.names.length ≤ 100000) (hw : WordsRd w.heap.size w wv ws) :
    Calls Tryd.prog 20 #[wv] w (TreePost w (treeF ws)) := by
  obtain ⟨wA, wc, rfl⟩ : ∃ A c, wv = .slice A ws.length c := by obtain ⟨A, c, e, _⟩ := hw; exact ⟨A, c, e⟩
  obtain ⟨W1, hW1⟩ : ∃ W1, (w.alloc (.cells #[.slice none 0 0, .slice none 0 0] 26)).alloc (.cells #[.slice wA ws.length wc, .int .i64 0, .slice none 0 0, .slice none 0 0] 108) = W1 := ⟨_, rfl⟩
  have hb1 : Below w.heap.size w W1 := by rw [← hW1]; exact ((Below.refl w.heap.size w).alloc (Nat.le_refl _) _).alloc (by simp) _
  have hP1 : W1.heap[w.heap.size + 1]? = some (.cells #[.slice wA ws.length wc, .int .i64 0, .slice none 0 0, .slice none 0 0] 108) := by
    rw [← hW1]
    have := World.alloc_heap_new (w.alloc (.cells #[.slice none 0 0, .slice none 0 0] 26)) (.cells #[.slice wA ws.length wc, .int .i64 0, .slice none 0 0, .slice none 0 0] 108)
    simpa using this
  have hR1 : W1.heap[w.heap.size]? = some (.cells #[.slice none 0 0, .slice none 0 0] 26) := by
    rw [← hW1]
    exact (heap_old (by simp)).trans (World.alloc_heap_new w _)
  have hst := list_none W1 w.heap.size w.heap.size (w.heap.size + 1) (fun _ => False) _ ws hP1 (hw.below hb1) (Nat.le_refl _) (by omega)
  have HL : Calls Tryd.prog 39 #[.pointer (some ⟨w.heap.size + 1, 0, none⟩), .int .i64 0] W1 (ListPost w.heap.size w.heap.size (fun _ => False) (w.heap.size + 1) ws W1 (listP ws (ws.length + 1) 0 [] 0 [])) :=
    (list_any w.heap.size w.heap.size (w.heap.size + 1) ws hws (ws.length + 1) (fun _ => False) 0 [] 0 W1 (by omega) (by omega) (by simp) (by omega) hst (fun k h => h.elim)).1
  have HG := listP_goes ws (ws.length + 1) 0 [] 0 [] (Nat.zero_le _) (Nat.le_refl _)
  have Hb1 := Lib.hid hb1
  have HR1 := Lib.hid hR1
  have HP1 := Lib.hid hP1
  have HW1 := Lib.hid hW1
  have Hw := Lib.hid hw
  have hPR : w.heap.size ≠ w.heap.size + 1 := by omega
  clear hb1 hP1 hR1 hst hW1 hw
  cases hR : listP ws (ws.length + 1) 0 [] 0 [] with
  | error f =>
    have HT : Hid (treeF ws = .error f) := Lib.hid (by unfold treeF; rw [hR])
    rw [hR] at HL
    have HL' := Lib.hid HL
    clear HL HG hk hR
    go_enter Tryd.func20, Tryd.ntmps20
    go_wp2_with (go_at_call 39; refine halt ?_)
    refine Halted.mk' ?_
    rw [HW1.out]
    refine (HL'.out).mono ?_
    rintro e w2 ⟨v, rfl, ⟨q, rfl, hq⟩, hf⟩
    have r2 := hf.blk HR1.out hPR (by decide)
    have hqR : q ≠ w.heap.size := by rintro rfl; rw [hq] at r2; cases r2
    have hqR' : w.heap.size ≠ q := fun e => hqR e.symm
    have v0 : w2.cell? ⟨q, 0, none⟩ = some (.int .i64 f.1) := by simp [World.cell?, hq]
    have v1 : w2.cell? ⟨q, 1, none⟩ = some (.int .i64 f.2) := by simp [World.cell?, hq]
    have z0 : w2.cell? ⟨w.heap.size, 0, none⟩ = some (.slice none 0 0) := by simp [World.cell?, r2]
    have z1 : w2.cell? ⟨w.heap.size, 1, none⟩ = some (.slice none 0 0) := by simp [World.cell?, r2]
    have zf : w2.frozen? ⟨w.heap.size, 0, none⟩ = false := by simp [World.frozen?, r2]
    have zg : w2.frozen? ⟨w.heap.size, 1, none⟩ = false := by simp [World.frozen?, r2]
    have Hf := Lib.hid hf
    clear hf hq HL' r2
    go_wp2
    go_region
    go_wp2
    refine bodyPost_ret (v := .tuple #[.agg #[.slice none 0 0, .slice none 0 0], .int .i64 f.1, .int .i64 f.2]) (by simp [results, Tryd.results20, go_sem, z0, z1]) rfl ?_
    rw [HT.out]
    exact ⟨rfl, by repeat (first | exact Hb1.out.trans Hf.out.below | refine Below.drew ?_ | refine Below.setCell ?_ (by simp) _ | refine Below.alloc ?_ (by simp only [size_set]; omega) _)⟩
  | ok r =>
    obtain ⟨top, i1, nodes⟩ := r
    rw [hR] at HL HG
    obtain ⟨-, hi1, -, hn1⟩ := HG
    have HL' := Lib.hid HL
    have Hk := Lib.hid (hk top i1 nodes hR)
    clear HL hk
    cases hx : ws[i1]? with
    | some y =>
      have HT : Hid (treeF ws = .error (y.at_, 4)) := Lib.hid (by unfold treeF; rw [hR]; dsimp only; rw [hx])
      clear hR
      have hlt : i1 < ws.length := (List.getElem?_eq_some_iff.1 hx).1
      go_enter Tryd.func20, Tryd.ntmps20
      go_wp2_with (go_at_call 39; refine halt ?_)
      refine Halted.mk' ?_
      rw [HW1.out]
      refine (HL'.out).mono ?_
      rintro e w2 ⟨v, rfl, hv, hst2, hf⟩
      obtain ⟨vA, vc, rfl⟩ := ints_slice hv
      have r2 := hf.blk HR1.out hPR (by decide)
      obtain ⟨wv2, lv, ps, hmap, hb, hwr, hns, -, -⟩ := id hst2
      obtain ⟨wA2, wc2, rfl⟩ : ∃ A c, wv2 = .slice A ws.length c := by obtain ⟨A, c, e, _⟩ := hwr; exact ⟨A, c, e⟩
      obtain ⟨A', c', e', hword⟩ := (Hw.out.below (Hb1.out.trans (hf.below.mono (Nat.le_refl _))))
      cases e'
      obtain ⟨q, nv, rfl, hql, k0, k1, -⟩ := hword i1 y hx
      have c1 : w2.cell? ⟨w.heap.size + 1, 1, none⟩ = some (.int .i64 i1) := by simp [World.cell?, hb]
      have z0 : w2.cell? ⟨w.heap.size, 0, none⟩ = some (.slice none 0 0) := by simp [World.cell?, r2]
      have z1 : w2.cell? ⟨w.heap.size, 1, none⟩ = some (.slice none 0 0) := by simp [World.cell?, r2]
      have zf : w2.frozen? ⟨w.heap.size, 0, none⟩ = false := by simp [World.frozen?, r2]
      have zg : w2.frozen? ⟨w.heap.size, 1, none⟩ = false := by simp [World.frozen?, r2]
      have d6 : decide ((i1 : Int) < (ws.length : Int)) = true := by simp; omega
      have hRl : w.heap.size < w2.heap.size := World.heap_lt r2
      have Hf := Lib.hid hf
      clear hf hst2 hmap hb hwr hns r2 hv hword HL' hx Hw
      go_wp2
      go_region
      go_wp2
      refine bodyPost_ret (v := .tuple #[.agg #[.slice none 0 0, .slice none 0 0], .int .i64 y.at_, .int .i64 4]) (by simp [results, Tryd.results20, go_sem, z0, z1, hRl]) rfl ?_
      rw [HT.out]
      exact ⟨rfl, by repeat (first | exact Hb1.out.trans Hf.out.below | refine Below.drew ?_ | refine Below.setCell ?_ (by simp) _ | refine Below.alloc ?_ (by simp only [size_set]; omega) _)⟩
    | none =>
      have HT : Hid (treeF ws = .ok (top, nodes)) := Lib.hid (by unfold treeF; rw [hR]; dsimp only; rw [hx])
      have hge : ws.length ≤ i1 := List.getElem?_eq_none_iff.1 hx
      clear hR hx
      go_enter Tryd.func20, Tryd.ntmps20
      go_wp2_with (go_at_call 39; refine halt ?_)
      refine Halted.mk' ?_
      rw [HW1.out]
      refine (HL'.out).mono ?_
      rintro e w2 ⟨v, rfl, hv, hst2, hf⟩
      obtain ⟨vA, vc, rfl⟩ := ints_slice hv
      have r2 := hf.blk HR1.out hPR (by decide)
      obtain ⟨wv2, lv, ps, hmap, hb, hwr, hns, -, -⟩ := id hst2
      obtain ⟨LA, LC, rfl⟩ := nodes_slice hns
      have c1 : w2.cell? ⟨w.heap.size + 1, 1, none⟩ = some (.int .i64 i1) := by simp [World.cell?, hb]
      have c2 : w2.cell? ⟨w.heap.size + 1, 2, none⟩ = some (.slice LA ps.length LC) := by simp [World.cell?, hb]
      have c3 : w2.cell? ⟨w.heap.size + 1, 3, none⟩ = some (.slice none 0 0) := by simp [World.cell?, hb]
      have f3 : w2.frozen? ⟨w.heap.size + 1, 3, none⟩ = false := by simp [World.frozen?, hb]
      have d6 : decide ((i1 : Int) < (ws.length : Int)) = false := by simp; omega
      have hpl : ps.length ≤ 100000 := by have := congrArg List.length hmap; simp at this; omega
      have hPl : w.heap.size + 1 < w2.heap.size := World.heap_lt hb
      obtain ⟨W3, hW3⟩ : ∃ W3, w2.setCell ⟨w.heap.size + 1, 3, none⟩ (.slice vA top.length vc) = W3 := ⟨_, rfl⟩
      have hset := grown_set w2 (w.heap.size + 1) 3 (.slice vA top.length vc)
      rw [hW3] at hset
      have hP3 : ∃ cs, W3.heap[w.heap.size + 1]? = some (.cells cs 108) := by rw [← hW3]; exact ⟨_, blk_put hb 3 _⟩
      have hR3 : W3.heap[w.heap.size]? = some (.cells #[.slice none 0 0, .slice none 0 0] 26) := by rw [← hW3]; exact blk_far r2 (p := ⟨w.heap.size + 1, 3, none⟩) hPR _
      have hns3 : NodesAt w.heap.size w.heap.size (fun _ => False) W3 (.slice LA ps.length LC) ps := by
        refine (hns.mono (Y := fun _ => False) (fun k h => h.elim)).step (Nat.le_refl _) ⟨hset.os, hset.tape, hset.output, hset.size, fun k hk => hset.block k (by omega) (by simp; omega)⟩ (fun k c t hc ht => ?_)
        refine (hset.block k (World.heap_lt hc) (fun e => ?_)).trans hc
        cases e
        rw [hb] at hc
        cases hc
        rcases ht with h | ⟨h, -⟩ <;> cases h
      have hv3 : IntsAt W3 w.heap.size (.slice vA top.length vc) top := row_else (row_low hv Hb1.out.size) hset (fun k e => by cases e; exact ⟨_, hb⟩) (by decide)
      have hfr3 : Below w.heap.size w W3 := (Hb1.out.trans hf.below).trans ⟨hset.os, hset.tape, hset.output, hset.size, fun k hk => hset.block k (by omega) (by simp; omega)⟩
      have HC := copied_any w.heap.size w.heap.size ps (.slice LA ps.length LC) (.slice vA top.length vc) W3 (by omega) (fun p hp => Hk.out p.x (by rw [← hmap]; exact List.mem_map_of_mem hp)) (Nat.le_refl _) (by have := hset.size; omega) hns3 ⟨_, _, _, rfl⟩
      have Hmap := Lib.hid hmap
      have HC' := Lib.hid HC
      have HW3 := Lib.hid hW3
      have HR3 := Lib.hid hR3
      have HP3 := Lib.hid hP3
      have Hv3 := Lib.hid hv3
      have Hfr3 := Lib.hid hfr3
      clear HC hW3 hR3 hP3 hv3 hfr3 hns3 hset hmap hb hwr hns hst2 hv hf r2 HL' HR1 HP1 HW1 Hk Hw
      go_wp2_with (go_at_call 40; refine halt ?_)
      refine Halted.mk' ?_
      rw [HW3.out]
      refine (HC'.out).mono ?_
      rintro e w5 ⟨rfl, ⟨qs, hq1, hq2, hq3⟩, hfr5⟩
      have r5 := (hfr5 (w.heap.size + 1)).blk HR3.out hPR (by decide)
      have z0 : w5.cell? ⟨w.heap.size, 0, none⟩ = some (.slice none 0 0) := by simp [World.cell?, r5]
      have z1 : w5.cell? ⟨w.heap.size, 1, none⟩ = some (.slice none 0 0) := by simp [World.cell?, r5]
      have zf : w5.frozen? ⟨w.heap.size, 0, none⟩ = false := by simp [World.frozen?, r5]
      have zg : w5.frozen? ⟨w.heap.size, 1, none⟩ = false := by simp [World.frozen?, r5]
      have hv5 : IntsAt w5 w.heap.size (.slice vA top.length vc) top := by
        obtain ⟨cs, h⟩ := HP3.out
        exact ints_fr Hv3.out (hfr5 (w.heap.size + 1)) h (by decide)
      have Hq1 := Lib.hid hq1
      have Hq2 := Lib.hid hq2
      have Hq3 := Lib.hid hq3
      have Hr5 := Lib.hid r5
      have Hv5 := Lib.hid hv5
      have Hfr5 := Lib.hid (Hfr3.out.trans (hfr5 (w.heap.size + 1)).below)
      clear hq1 hq2 hq3 r5 hv5 hfr5 HC' HW3 HR3 HP3 Hv3 Hfr3 c1 c2 c3 f3
      go_wp2
      refine bodyPost_ret (v := .tuple #[.agg #[.slice LA ps.length LC, .slice vA top.length vc], .int .i64 0, .int .i64 0]) (by simp [results, Tryd.results20, go_sem, z0, z1]) rfl ?_
      rw [HT.out]
      have h1 := grown_set w5 w.heap.size 0 (.slice LA ps.length LC)
      have h2 := grown_set (w5.setCell ⟨w.heap.size, 0, none⟩ (.slice LA ps.length LC)) w.heap.size 1 (.slice vA top.length vc)
      have key : ∀ {e size n : Nat} {u : Value} {xs : List Value}, e ≠ 26 → w5.ownsRow w.heap.size e size u n xs → ((w5.setCell ⟨w.heap.size, 0, none⟩ (.slice LA ps.length LC)).setCell ⟨w.heap.size, 1, none⟩ (.slice vA top.length vc)).ownsRow w.heap.size e size u n xs := fun he h =>
        row_else (row_else h h1 (fun k e => by cases e; exact ⟨_, Hr5.out⟩) he) h2 (fun k e => by cases e; exact ⟨_, blk_put Hr5.out 0 _⟩) he
      refine ⟨_, _, rfl, ⟨⟨qs, Hq1.out.trans Hmap.out, key (by decide) Hq2.out, fun p hp => ?_⟩, key (by decide) Hv5.out⟩, ?_⟩
      · obtain ⟨a, b, c⟩ := Hq3.out p hp
        exact ⟨key (by decide) a, key (by decide) b, key (by decide) c⟩
      · repeat (first | exact Hfr5.out | refine Below.drew ?_ | refine Below.setCell ?_ (by simp) _)
end Go.Proofs.YtcggeaobonblfaaDoor

/- parse.Parse: walked. -/
namespace Go.Proofs.YtcggeaobonblfaaDoor
set_option linter.unusedSimpArgs false
set_option linter.unusedVariables false
open Go Go.RowKit
theorem wayF_short (s : List UInt8) : (wayF s).2.1.length ≤ 8 := by
  unfold wayF
  split
  · simp
  · split
    · simp
    · have key : ∀ r : List UInt8, (if ((dots r).all nameF && decide ((dots r).length ≤ 8)) = true then (Lib.hasPrefix s [36, 46], dots r, true) else (false, [], false)).2.1.length ≤ 8 := by
        intro r
        split
        · rename_i h
          rw [Bool.and_eq_true, decide_eq_true_eq] at h
          exact h.2
        · simp
      exact key _
theorem actionF_short (s : List UInt8) : (actionF s).2.2.1.length ≤ 8 := by
  unfold actionF
  dsimp only
  repeat' split
  all_goals first
    | exact wayF_short _
    | simp
theorem lexF_short : ∀ (n : Nat) (at_ : Int) (r : List UInt8), (lexF n at_ r).1.length ≤ r.length ∧ ∀ x ∈ (lexF n at_ r).1, x.names.length ≤ 8
  | 0, at_, r => by simp [lexF]
  | n + 1, at_, r => by
    unfold lexF
    by_cases h0 : r = []
    · rw [if_pos h0]; simp
    have hr : 0 < r.length := List.length_pos_iff.2 h0
    rw [if_neg h0]
    by_cases h1 : 0 < litLen r
    · rw [if_pos h1]
      obtain ⟨a, b⟩ := lexF_short n (at_ + litLen r) (r.drop (litLen r))
      have := litLen_le r
      refine ⟨by simp only [List.length_cons, List.length_drop] at a ⊢; omega, fun x hx => ?_⟩
      rcases List.mem_cons.1 hx with rfl | hx
      · simp
      · exact b x hx
    rw [if_neg h1]
    by_cases h2 : closeAt r < 0
    · rw [if_pos h2]; simp
    rw [if_neg h2]
    split
    · obtain ⟨a, b⟩ := lexF_short n (at_ + ((closeAt r).toNat + 2 : Nat)) (r.drop ((closeAt r).toNat + 2))
      refine ⟨by simp only [List.length_cons, List.length_drop] at a ⊢; omega, fun x hx => ?_⟩
      rcases List.mem_cons.1 hx with rfl | hx
      · exact actionF_short _
      · exact b x hx
    · simp
theorem lexAllF_short (s : List UInt8) : (lexAllF s).1.length ≤ 65536 ∧ ∀ x ∈ (lexAllF s).1, x.names.length ≤ 8 := by
  unfold lexAllF
  split
  · simp
  · split
    · simp
    · obtain ⟨a, b⟩ := lexF_short (s.length + 1) 0 s
      exact ⟨by unfold lexW; dsimp only; omega, b⟩
/-- No node has more names than its word. -/
def Short (nodes : List Node) : Prop := ∀ x ∈ nodes, x.names.length ≤ 8
def ShortL : ListR → Prop
  | .error _ => True
  | .ok (_, _, nodes) => Short nodes
def ShortB : Except Fault (Nat × List Node) → Prop
  | .error _ => True
  | .ok (_, nodes) => Short nodes
def ShortN : Except Fault (Int × Nat × List Node) → Prop
  | .error _ => True
  | .ok (_, _, nodes) => Short nodes
theorem short_modify {nodes : List Node} (h : Short nodes) (k : Nat) (f : Node → Node) (hf : ∀ x, (f x).names = x.names) : Short (nodes.modify k f) := by
  intro x hx
  obtain ⟨j, hj⟩ := List.getElem?_of_mem hx
  rw [List.getElem?_modify] at hj
  obtain ⟨y, hy, rfl⟩ := Option.map_eq_some_iff.1 hj
  split
  · rw [hf]; exact h y (List.mem_of_getElem? hy)
  · exact h y (List.mem_of_getElem? hy)
theorem finB_short {ws : List Word} {x : Word} {i : Nat} {nd : List Node} (h : Short nd) : ShortB (finB ws x i nd) := by
  unfold finB
  split
  · trivial
  · split
    · trivial
    · exact h
theorem bodyP_short {ws : List Word} {L : Nat → List Node → Nat → ListR} (hL : ∀ i nd d, Short nd → ShortL (L i nd d)) (i : Nat) (nodes : List Node) (k : Nat) (x : Word) (depth : Nat) (hn : Short nodes) :
    ShortB (bodyP L ws i nodes k x depth) := by
  unfold bodyP
  have h1 := hL i nodes (depth + 1) hn
  cases hR : L i nodes (depth + 1) with
  | error f => trivial
  | ok r =>
    obtain ⟨b, i1, nodes1⟩ := r
    rw [hR] at h1
    have h1' : Short (setBody nodes1 k b) := short_modify h1 k _ (fun _ => rfl)
    dsimp only
    split
    · exact finB_short h1'
    · split
      · split
        · trivial
        · have h2 := hL (i1 + 1) (setBody nodes1 k b) (depth + 1) h1'
          cases hR2 : L (i1 + 1) (setBody nodes1 k b) (depth + 1) with
          | error f => trivial
          | ok r2 =>
            obtain ⟨b2, i2, nodes2⟩ := r2
            rw [hR2] at h2
            exact finB_short (short_modify h2 k _ (fun _ => rfl))
      · exact finB_short h1'
theorem nodeP_short {ws : List Word} {L : Nat → List Node → Nat → ListR} (hL : ∀ i nd d, Short nd → ShortL (L i nd d)) (i : Nat) (nodes : List Node) (x : Word) (depth : Nat) (hn : Short nodes) (hx : x.names.length ≤ 8) :
    ShortN (nodeP L ws i nodes x depth) := by
  have h0 : Short (nodes ++ [newNode x]) := fun y hy => by
    rcases List.mem_append.1 hy with h | h
    · exact hn y h
    · simp at h; rw [h]; exact hx
  unfold nodeP
  split
  · split
    · trivial
    · have h := bodyP_short hL (ws := ws) i (nodes ++ [newNode x]) nodes.length x depth h0
      cases hR : bodyP L ws i (nodes ++ [newNode x]) nodes.length x depth with
      | error f => trivial
      | ok r =>
        obtain ⟨i1, nd⟩ := r
        rw [hR] at h
        exact short_modify h _ _ (fun _ => rfl)
  · exact short_modify h0 _ _ (fun _ => rfl)
theorem listP_short (ws : List Word) (hw : ∀ x ∈ ws, x.names.length ≤ 8) : ∀ n i nodes depth acc, Short nodes → ShortL (listP ws n i nodes depth acc) := by
  intro n
  induction n with
  | zero => intro i nodes depth acc hn; trivial
  | succ n ih =>
    intro i nodes depth acc hn
    unfold listP
    cases hx : ws[i]? with
    | none => exact hn
    | some y =>
      dsimp only
      split
      · exact hn
      · have h := nodeP_short (ws := ws) (L := fun i nd d => listP ws n i nd d []) (fun i nd d h => ih i nd d [] h) (i + 1) nodes y depth hn (hw y (List.mem_of_getElem? hx))
        cases hR : nodeP (fun i nd d => listP ws n i nd d []) ws (i + 1) nodes y depth with
        | error f => trivial
        | ok r =>
          obtain ⟨k, i1, nd⟩ := r
          rw [hR] at h
          exact ih i1 nd depth (acc ++ [k]) h
def parseF (s : List UInt8) : Except Fault (List Int × List Node) :=
  if (lexAllF s).2.2 = 0 then treeF (lexAllF s).1 else .error ((lexAllF s).2.1, (lexAllF s).2.2)
theorem TreeAt.low {W : World} {base base' : Nat} {nv tv : Value} {nodes : List Node} {top : List Int} (h : TreeAt W base nv tv nodes top) (hb : base' ≤ base) : TreeAt W base' nv tv nodes top := by
  obtain ⟨⟨qs, h1, h2, h3⟩, h4⟩ := h
  exact ⟨⟨qs, h1, row_low h2 hb, fun p hp => let ⟨a, b, c⟩ := h3 p hp; ⟨row_low a hb, row_low b hb, row_low c hb⟩⟩, row_low h4 hb⟩
/-- What turns a row of another type. -/
theorem TreeAt.step {W W' : World} {base t : Nat} {nv tv : Value} {nodes : List Node} {top : List Int} {r : Option Nat} (h : TreeAt W base nv tv nodes top) (hg : W.grownBy W' r) (hr : ∀ k, r = some k → ∃ c, W.heap[k]? = some (.cells c t)) (h1 : 66 ≠ t) (h2 : 9 ≠ t) (h3 : 3 ≠ t) : TreeAt W' base nv tv nodes top := by
  obtain ⟨⟨qs, a1, a2, a3⟩, a4⟩ := h
  exact ⟨⟨qs, a1, row_else a2 hg hr h1, fun p hp => let ⟨a, b, c⟩ := a3 p hp; ⟨row_else a hg hr h2, row_else b hg hr h3, row_else c hg hr h3⟩⟩, row_else a4 hg hr h3⟩
set_option maxRecDepth 100000 in
set_option maxHeartbeats 2000000 in
theorem parse_any (s : List UInt8) (w : World) (hs : s.length ≤ 140737488351232) (hm : MaxLenAt w) : Calls Tryd.prog 9 #[.string ⟨s.toArray⟩] w (TreePost w (parseF s)) := by
  obtain ⟨W1, hW1⟩ : ∃ W1, w.alloc (.cells #[.slice none 0 0, .slice none 0 0] 26) = W1 := ⟨_, rfl⟩
  have hb1 : Below w.heap.size w W1 := by rw [← hW1]; exact (Below.refl w.heap.size w).alloc (Nat.le_refl _) _
  have hR1 : W1.heap[w.heap.size]? = some (.cells #[.slice none 0 0, .slice none 0 0] 26) := by rw [← hW1]; exact World.alloc_heap_new w _
  have hL := lexAll_any s W1 hs (hm.below hb1)
  obtain ⟨hsh1, hsh2⟩ := lexAllF_short s
  have Hb1 := Lib.hid hb1
  have HR1 := Lib.hid hR1
  have HW1 := Lib.hid hW1
  have HL := Lib.hid hL
  have hsz : w.heap.size < W1.heap.size := World.heap_lt hR1
  clear hb1 hR1 hW1 hL hm
  obtain ⟨ws, pl, er, hr⟩ : ∃ a b c, lexAllF s = (a, b, c) := ⟨_, _, _, rfl⟩
  rw [hr] at hsh1 hsh2
  by_cases he : er = 0
  · have HP : Hid (parseF s = treeF ws) := Lib.hid (by unfold parseF; rw [hr]; exact if_pos he)
    subst he
    rw [hr] at HL
    clear hr
    go_enter Tryd.func9, Tryd.ntmps9
    go_wp2_with (go_at_call 19; refine halt ?_)
    refine Halted.mk' ?_
    rw [HW1.out]
    refine (HL.out).mono ?_
    rintro e w2 ⟨v, rfl, hws, hb⟩
    have hwr := words_rd hws (Nat.le_refl _)
    have HT := Lib.hid (tree_any v ws w2 (by omega) (fun top i nodes h => by
      have := listP_short ws hsh2 (ws.length + 1) 0 [] 0 [] (fun x hx => by cases hx)
      rw [h] at this
      exact fun x hx => Nat.le_trans (this x hx) (by omega)) hwr)
    have Hr2 := Lib.hid ((hb.block _ hsz).trans HR1.out)
    have Hb2 := Lib.hid (Hb1.out.trans (hb.mono (by omega)))
    clear hws hwr hb HL HW1 HR1
    cases hT : treeF ws with
    | error f =>
      rw [hT] at HT HP
      clear hT
      go_wp2_with (go_at_call 20; refine halt ?_)
      refine Halted.mk' ?_
      refine (HT.out).mono ?_
      rintro e w3 ⟨rfl, hb3⟩
      have r3 := (hb3.block _ (World.heap_lt Hr2.out)).trans Hr2.out
      have z0 : w3.cell? ⟨w.heap.size, 0, none⟩ = some (.slice none 0 0) := by simp [World.cell?, r3]
      have z1 : w3.cell? ⟨w.heap.size, 1, none⟩ = some (.slice none 0 0) := by simp [World.cell?, r3]
      have zf : w3.frozen? ⟨w.heap.size, 0, none⟩ = false := by simp [World.frozen?, r3]
      have zg : w3.frozen? ⟨w.heap.size, 1, none⟩ = false := by simp [World.frozen?, r3]
      have Hb3 := Lib.hid (Hb2.out.trans (hb3.mono (by have := Hb2.out.size; omega)))
      clear hb3 r3 HT
      go_wp2
      refine bodyPost_ret (v := .tuple #[.agg #[.slice none 0 0, .slice none 0 0], .int .i64 f.1, .int .i64 f.2]) (by simp [results, Tryd.results9, go_sem, z0, z1]) rfl ?_
      rw [HP.out]
      exact ⟨rfl, by repeat (first | exact Hb3.out | refine Below.drew ?_ | refine Below.setCell ?_ (by simp) _)⟩
    | ok r =>
      obtain ⟨top, nodes⟩ := r
      rw [hT] at HT HP
      clear hT
      go_wp2_with (go_at_call 20; refine halt ?_)
      refine Halted.mk' ?_
      refine (HT.out).mono ?_
      rintro e w3 ⟨nv, tv, rfl, ht, hb3⟩
      have r3 := (hb3.block _ (World.heap_lt Hr2.out)).trans Hr2.out
      have z0 : w3.cell? ⟨w.heap.size, 0, none⟩ = some (.slice none 0 0) := by simp [World.cell?, r3]
      have z1 : w3.cell? ⟨w.heap.size, 1, none⟩ = some (.slice none 0 0) := by simp [World.cell?, r3]
      have zf : w3.frozen? ⟨w.heap.size, 0, none⟩ = false := by simp [World.frozen?, r3]
      have zg : w3.frozen? ⟨w.heap.size, 1, none⟩ = false := by simp [World.frozen?, r3]
      have Hb3 := Lib.hid (Hb2.out.trans (hb3.mono (by have := Hb2.out.size; omega)))
      have Ht := Lib.hid (ht.low (base' := w.heap.size) (by have := Hb2.out.size; omega))
      have Hr3 := Lib.hid r3
      obtain ⟨NA, NN, NC, rfl⟩ : ∃ A n c, nv = .slice A n c := by
        obtain ⟨⟨qs, -, h, -⟩, -⟩ := ht
        rcases h.2 with ⟨rfl, _⟩ | ⟨g, cap, cur, rfl, _⟩
        · exact ⟨_, _, _, rfl⟩
        · exact ⟨_, _, _, rfl⟩
      obtain ⟨TA, TC, rfl⟩ := ints_slice ht.2
      clear hb3 r3 HT ht
      go_wp2
      refine bodyPost_ret (v := .tuple #[.agg #[.slice NA NN NC, .slice TA top.length TC], .int .i64 0, .int .i64 0]) (by simp [results, Tryd.results9, go_sem, z0, z1]) rfl ?_
      rw [HP.out]
      refine ⟨_, _, rfl, ?_, by repeat (first | exact Hb3.out | refine Below.drew ?_ | refine Below.setCell ?_ (by simp) _)⟩
      have h1 := grown_set w3 w.heap.size 0 (.slice NA NN NC)
      have h2 := grown_set (w3.setCell ⟨w.heap.size, 0, none⟩ (.slice NA NN NC)) w.heap.size 1 (.slice TA top.length TC)
      exact (Ht.out.step (t := 26) h1 (fun k e => by cases e; exact ⟨_, Hr3.out⟩) (by decide) (by decide) (by decide)).step (t := 26) h2 (fun k e => by cases e; exact ⟨_, blk_put Hr3.out 0 _⟩) (by decide) (by decide) (by decide)
  · have HP : Hid (parseF s = .error (pl, er)) := Lib.hid (by unfold parseF; rw [hr]; exact if_neg he)
    rw [hr] at HL
    clear hr
    have e1 : (er == 0) = false := k_false he
    go_enter Tryd.func9, Tryd.ntmps9
    go_wp2_with (go_at_call 19; refine halt ?_)
    refine Halted.mk' ?_
    rw [HW1.out]
    refine (HL.out).mono ?_
    rintro e w2 ⟨v, rfl, hws, hb⟩
    have r3 := (hb.block _ hsz).trans HR1.out
    have z0 : w2.cell? ⟨w.heap.size, 0, none⟩ = some (.slice none 0 0) := by simp [World.cell?, r3]
    have z1 : w2.cell? ⟨w.heap.size, 1, none⟩ = some (.slice none 0 0) := by simp [World.cell?, r3]
    have zf : w2.frozen? ⟨w.heap.size, 0, none⟩ = false := by simp [World.frozen?, r3]
    have zg : w2.frozen? ⟨w.heap.size, 1, none⟩ = false := by simp [World.frozen?, r3]
    have Hb2 := Lib.hid (Hb1.out.trans (hb.mono (by omega)))
    clear hws hb HL HW1 HR1 r3
    go_wp2
    refine bodyPost_ret (v := .tuple #[.agg #[.slice none 0 0, .slice none 0 0], .int .i64 pl, .int .i64 er]) (by simp [results, Tryd.results9, go_sem, z0, z1]) rfl ?_
    rw [HP.out]
    exact ⟨rfl, by repeat (first | exact Hb2.out | refine Below.drew ?_ | refine Below.setCell ?_ (by simp) _)⟩
end Go.Proofs.YtcggeaobonblfaaDoor

/- The recursive parse and the parse by a stack come to one tree. -/
namespace Go.Proofs.YtcggeaobonblfaaDoor
set_option linter.unusedSimpArgs false
set_option linter.unusedVariables false
open Go Go.RowKit
/-- What is open: its node, its word, whether its else began, the list that is being read. -/
structure Frame where
  (k : Nat) (w : Word) (els : Bool) (acc : List Int)
def fillNode (f : Frame) (x : Node) : Node := { x with kind := kindOf f.w.kind, body := if f.els then x.body else f.acc, els := if f.els then f.acc else x.els, has := f.els }
def fill : List Frame → List Node → List Node
  | [], nd => nd
  | f :: fs, nd => (fill fs nd).modify f.k (fillNode f)
def opn (f : Frame) : Opn := ⟨f.k, f.w.kind, f.els⟩
/-- The innermost list is acc. -/
def upd (fs : List Frame) (top acc : List Int) : List Frame × List Int :=
  match fs with
  | [] => ([], acc)
  | f :: fs' => ({ f with acc := acc } :: fs', top)
def Sx (u : List Frame) (t : List Int) (nodes : List Node) : RSt := ⟨fill u nodes, t, (u.map opn).reverse⟩
def St (fs : List Frame) (top acc : List Int) (nodes : List Node) : RSt := Sx (upd fs top acc).1 (upd fs top acc).2 nodes
theorem upd_opn (fs : List Frame) (top acc : List Int) : (upd fs top acc).1.map opn = fs.map opn := by cases fs <;> rfl
theorem upd_len (fs : List Frame) (top acc : List Int) : (upd fs top acc).1.length = fs.length := by cases fs <;> rfl
theorem upd_lt {fs : List Frame} {top acc : List Int} {m : Nat} (h : ∀ f ∈ fs, f.k < m) : ∀ f ∈ (upd fs top acc).1, f.k < m := by
  cases fs with
  | nil => exact h
  | cons f fs =>
    intro g hg
    rcases List.mem_cons.1 hg with rfl | hg
    · exact h f List.mem_cons_self
    · exact h g (List.mem_cons_of_mem _ hg)
def rest (r : RSt) (ws : List Word) (i : Nat) : Except Fault (List Int × List Node) := match runR r (ws.drop i) with | .error f => .error f | .ok r' => finR r'
theorem rest_step {r : RSt} {ws : List Word} {i : Nat} {x : Word} (h : ws[i]? = some x) : rest r ws i = match stepR r x with | .error f => .error f | .ok r' => rest r' ws (i + 1) := by
  have hlt := (List.getElem?_eq_some_iff.1 h).1
  unfold rest
  rw [List.drop_eq_getElem_cons hlt, (List.getElem?_eq_some_iff.1 h).2]
  cases hs : stepR r x with
  | error f => rw [runR_err hs]
  | ok r' => rw [runR_ok hs]
theorem rest_err {r : RSt} {ws : List Word} {i : Nat} {x : Word} {f : Fault} (h : ws[i]? = some x) (hs : stepR r x = .error f) : rest r ws i = .error f := by rw [rest_step h, hs]
theorem rest_ok {r r' : RSt} {ws : List Word} {i : Nat} {x : Word} (h : ws[i]? = some x) (hs : stepR r x = .ok r') : rest r ws i = rest r' ws (i + 1) := by rw [rest_step h, hs]
theorem rest_end {r : RSt} {ws : List Word} {i : Nat} (h : ws[i]? = none) : rest r ws i = finR r := by
  unfold rest
  rw [List.drop_eq_nil_of_le (List.getElem?_eq_none_iff.1 h)]
  rfl
theorem modify_two {α : Type} (l : List α) (k : Nat) (g h : α → α) : (l.modify k h).modify k g = l.modify k (fun x => g (h x)) := by
  apply List.ext_getElem?
  intro j
  rw [List.getElem?_modify, List.getElem?_modify, List.getElem?_modify]
  cases l[j]? with
  | none => rfl
  | some x => by_cases e : k = j <;> simp [e]
theorem modify_swap {α : Type} (l : List α) (k m : Nat) (g h : α → α) (hne : k ≠ m) : (l.modify k h).modify m g = (l.modify m g).modify k h := by
  apply List.ext_getElem?
  intro j
  rw [List.getElem?_modify, List.getElem?_modify, List.getElem?_modify, List.getElem?_modify]
  cases l[j]? with
  | none => rfl
  | some x =>
    by_cases e : k = j
    · have : ¬ m = j := fun e2 => hne (e.trans e2.symm)
      simp [e, this]
    · simp [e]
theorem modify_congr {α : Type} {l : List α} {k : Nat} {g h : α → α} (hx : ∀ x, l[k]? = some x → g x = h x) : l.modify k g = l.modify k h := by
  apply List.ext_getElem?
  intro j
  rw [List.getElem?_modify, List.getElem?_modify]
  cases hl : l[j]? with
  | none => rfl
  | some x =>
    by_cases e : k = j
    · subst e
      simp [hx x hl]
    · simp [e]
theorem modify_left {α : Type} (l m : List α) (k : Nat) (g : α → α) (h : k < l.length) : (l ++ m).modify k g = l.modify k g ++ m := by
  apply List.ext_getElem?
  intro j
  rw [List.getElem?_modify]
  rcases Nat.lt_or_ge j l.length with hj | hj
  · rw [List.getElem?_append_left hj, List.getElem?_append_left (by simpa using hj), List.getElem?_modify]
  · have e : ¬ k = j := by omega
    rw [List.getElem?_append_right hj, List.getElem?_append_right (by simpa using hj)]
    simp [e]
theorem modify_last {α : Type} (l : List α) (x : α) (g : α → α) : (l ++ [x]).modify l.length g = l ++ [g x] := by
  apply List.ext_getElem?
  intro j
  rw [List.getElem?_modify]
  rcases Nat.lt_or_ge j l.length with hj | hj
  · have e : ¬ l.length = j := by omega
    rw [List.getElem?_append_left hj, List.getElem?_append_left hj]
    simp [e]
  · rw [List.getElem?_append_right hj, List.getElem?_append_right hj]
    cases hjj : j - l.length with
    | zero =>
      have e : l.length = j := by omega
      simp [e]
    | succ m => simp
theorem modify_tail {α : Type} (l m : List α) (g : α → α) : (l ++ m).modify l.length g = l ++ m.modify 0 g := by
  apply List.ext_getElem?
  intro j
  rw [List.getElem?_modify]
  rcases Nat.lt_or_ge j l.length with hj | hj
  · have e : ¬ l.length = j := by omega
    rw [List.getElem?_append_left hj, List.getElem?_append_left hj]
    simp [e]
  · rw [List.getElem?_append_right hj, List.getElem?_append_right hj, List.getElem?_modify]
    by_cases e : l.length = j
    · have e2 : 0 = j - l.length := by omega
      simp only [if_pos e, if_pos e2]
    · have e2 : ¬ 0 = j - l.length := by omega
      simp only [if_neg e, if_neg e2]
theorem fill_length (fs : List Frame) (nd : List Node) : (fill fs nd).length = nd.length := by
  induction fs with
  | nil => rfl
  | cons f fs ih => unfold fill; simp [ih]
theorem fill_append (fs : List Frame) (nd ext : List Node) (h : ∀ f ∈ fs, f.k < nd.length) : fill fs (nd ++ ext) = fill fs nd ++ ext := by
  induction fs with
  | nil => rfl
  | cons f fs ih =>
    unfold fill
    rw [ih (fun g hg => h g (List.mem_cons_of_mem _ hg)), modify_left _ _ _ _ (by rw [fill_length]; exact h f List.mem_cons_self)]
theorem fill_modify (fs : List Frame) (nd : List Node) (k : Nat) (g : Node → Node) (h : ∀ f ∈ fs, f.k ≠ k) : fill fs (nd.modify k g) = (fill fs nd).modify k g := by
  induction fs with
  | nil => rfl
  | cons f fs ih =>
    unfold fill
    rw [ih (fun g hg => h g (List.mem_cons_of_mem _ hg)), modify_swap _ _ _ _ _ (fun e => h f List.mem_cons_self e.symm)]
theorem fill_at (fs : List Frame) (nd : List Node) (k : Nat) (h : ∀ f ∈ fs, f.k ≠ k) : (fill fs nd)[k]? = nd[k]? := by
  induction fs with
  | nil => rfl
  | cons f fs ih =>
    unfold fill
    rw [List.getElem?_modify, ih (fun g hg => h g (List.mem_cons_of_mem _ hg))]
    have : ¬ f.k = k := h f List.mem_cons_self
    simp [this]
/-- A node more, in both. -/
theorem add_more (fs : List Frame) (top acc : List Int) (nodes : List Node) (w : Word) (h : ∀ f ∈ fs, f.k < nodes.length) :
    addF ((St fs top acc nodes).nodes ++ [nodeOf w]) (St fs top acc nodes).top (St fs top acc nodes).st nodes.length = ((St fs top (acc ++ [(nodes.length : Int)]) (nodes ++ [nodeOf w])).nodes, (St fs top (acc ++ [(nodes.length : Int)]) (nodes ++ [nodeOf w])).top) := by
  cases fs with
  | nil => rfl
  | cons f fs =>
    have hf := h f List.mem_cons_self
    have hfs : ∀ g ∈ fs, g.k < nodes.length := fun g hg => h g (List.mem_cons_of_mem _ hg)
    have hl : (St (f :: fs) top acc nodes).st.getLast? = some (opn f) := by
      show ((({ f with acc := acc } : Frame) :: fs).map opn).reverse.getLast? = some (opn f)
      rw [List.map_cons, List.reverse_cons, List.getLast?_concat]
      rfl
    unfold addF
    rw [hl]
    dsimp only
    congr 1
    show (((fill fs nodes).modify f.k (fillNode { f with acc := acc })) ++ [nodeOf w]).modify ((f.k : Int)).toNat _ = (fill fs (nodes ++ [nodeOf w])).modify f.k (fillNode { f with acc := acc ++ [(nodes.length : Int)] })
    rw [fill_append fs nodes _ hfs, Int.toNat_natCast, ← modify_left _ _ _ _ (by rw [fill_length]; exact hf), modify_two]
    congr 1
    funext x
    unfold fillNode opn
    cases f.els <;> rfl
/-- How a list ends: at the end of the words, or ahead of an else or an end. -/
def Stops (ws : List Word) (i : Nat) : Prop := ∀ x, ws[i]? = some x → x.kind = 3 ∨ x.kind = 5
def SimL (ws : List Word) (L : Nat → List Node → Nat → ListR) (lo : Nat) : Prop :=
  ∀ i nodes fs top, lo ≤ i → i ≤ ws.length → (∀ f ∈ fs, f.k < nodes.length) →
    match L i nodes fs.length with
    | .error f => rest (St fs top [] nodes) ws i = .error f
    | .ok (acc', i', nodes') => i ≤ i' ∧ i' ≤ ws.length ∧ rest (St fs top [] nodes) ws i = rest (St fs top acc' nodes') ws i' ∧ (∃ ext, nodes' = nodes ++ ext) ∧ Stops ws i'
theorem st_len (fs : List Frame) (top acc : List Int) (nodes : List Node) : (St fs top acc nodes).st.length = fs.length := by
  show ((upd fs top acc).1.map opn).reverse.length = fs.length
  rw [upd_opn]
  simp
theorem sx_last (g : Frame) (u : List Frame) (t : List Int) (nodes : List Node) : (Sx (g :: u) t nodes).st.getLast? = some (opn g) := by
  show (((g :: u).map opn).reverse).getLast? = some (opn g)
  rw [List.map_cons, List.reverse_cons, List.getLast?_concat]
theorem sx_drop (g : Frame) (u : List Frame) (t : List Int) (nodes : List Node) : (Sx (g :: u) t nodes).st.dropLast = (u.map opn).reverse := by
  show (((g :: u).map opn).reverse).dropLast = _
  rw [List.map_cons, List.reverse_cons, List.dropLast_concat]
/-- The words within an open node: what its end, its else and the end of the words do. -/
theorem open_end {g : Frame} {u : List Frame} {t : List Int} {nodes : List Node} {ws : List Word} {i : Nat} (hx : ws[i]? = none) {y : Node} (hy : nodes[g.k]? = some y) (hu : ∀ f ∈ u, f.k ≠ g.k) (hat : y.at_ = g.w.at_) :
    rest (Sx (g :: u) t nodes) ws i = .error (g.w.at_, 4) := by
  rw [rest_end hx]
  unfold finR
  rw [sx_last]
  dsimp only
  have : (Sx (g :: u) t nodes).nodes[(opn g).node.toNat]? = some (fillNode g y) := by
    show ((fill u nodes).modify g.k (fillNode g))[((g.k : Int)).toNat]? = _
    rw [Int.toNat_natCast, List.getElem?_modify, fill_at u nodes g.k hu, hy]
    simp
  rw [this]
  show Except.error ((fillNode g y).at_, 4) = _
  have : (fillNode g y).at_ = y.at_ := rfl
  rw [this, hat]
theorem open_else_bad {g : Frame} {u : List Frame} {t : List Int} {nodes : List Node} {ws : List Word} {i : Nat} {x : Word} (hx : ws[i]? = some x) (h3 : x.kind = 3) (hb : g.w.kind ≠ 2 ∨ g.els = true) : rest (Sx (g :: u) t nodes) ws i = .error (x.at_, 4) := by
  refine rest_err hx ?_
  unfold stepR
  rw [if_pos h3, sx_last]
  dsimp only
  exact if_pos hb
theorem open_pop {g : Frame} {u : List Frame} {t : List Int} {nodes : List Node} {ws : List Word} {i : Nat} {x : Word} (hx : ws[i]? = some x) (h5 : x.kind = 5) (hu : ∀ f ∈ u, f.k ≠ g.k) : rest (Sx (g :: u) t nodes) ws i = rest (Sx u t (nodes.modify g.k (fillNode g))) ws (i + 1) := by
  refine rest_ok hx ?_
  unfold stepR
  rw [if_neg (by omega), if_pos h5, sx_last]
  dsimp only
  rw [sx_drop]
  show Except.ok (⟨(fill u nodes).modify g.k (fillNode g), t, _⟩ : RSt) = _
  rw [← fill_modify u nodes g.k _ hu]
  rfl
theorem open_else {k : Nat} {w : Word} {b : List Int} {u : List Frame} {t : List Int} {nodes : List Node} {ws : List Word} {i : Nat} {x : Word} (hx : ws[i]? = some x) (h3 : x.kind = 3) (hw : w.kind = 2) (hu : ∀ f ∈ u, f.k ≠ k)
    {y : Node} (hy : nodes[k]? = some y) (he : y.els = []) : rest (Sx (⟨k, w, false, b⟩ :: u) t nodes) ws i = rest (Sx (⟨k, w, true, []⟩ :: u) t (setBody nodes k b)) ws (i + 1) := by
  refine rest_ok hx ?_
  unfold stepR
  rw [if_pos h3, sx_last]
  dsimp only
  rw [if_neg (by unfold opn; simp [hw]), sx_drop]
  congr 1
  unfold Sx
  congr 1
  · show setHas ((fill u nodes).modify k (fillNode ⟨k, w, false, b⟩)) ((k : Int)).toNat = (fill u (setBody nodes k b)).modify k (fillNode ⟨k, w, true, []⟩)
    unfold setHas setBody
    rw [Int.toNat_natCast, modify_two, fill_modify u nodes k _ hu, modify_two]
    refine modify_congr (fun z hz => ?_)
    rw [fill_at u nodes k hu, hy] at hz
    cases hz
    unfold fillNode
    simp [he]
  · show (u.map opn).reverse ++ [{ opn ⟨k, w, false, b⟩ with els := true }] = ((⟨k, w, true, []⟩ :: u).map opn).reverse
    rw [List.map_cons, List.reverse_cons]
    rfl
def finN (r : Except Fault (Nat × List Node)) (n : Nat) (κ : Int) : Except Fault (Int × Nat × List Node) := match r with | .error f => .error f | .ok (i1, nd) => .ok (n, i1, setKind nd n κ)
def PostN (ws : List Word) (fs : List Frame) (top acc : List Int) (nodes : List Node) (i : Nat) (r : Except Fault (Int × Nat × List Node)) : Prop :=
  match r with
  | .error f => rest (St fs top acc nodes) ws i = .error f
  | .ok (k, i', nodes') => i + 1 ≤ i' ∧ i' ≤ ws.length ∧ k = nodes.length ∧ rest (St fs top acc nodes) ws i = rest (St fs top (acc ++ [k]) nodes') ws i' ∧ ∃ ext, nodes' = nodes ++ ext
theorem nodeP_open {L : Nat → List Node → Nat → ListR} {ws : List Word} {i : Nat} {nodes : List Node} {w : Word} {depth : Nat} (h : w.kind = 2 ∨ w.kind = 4) (hd : ¬ 16 ≤ depth) :
    nodeP L ws i nodes w depth = finN (bodyP L ws i (nodes ++ [newNode w]) nodes.length w depth) nodes.length (kindOf w.kind) := by
  unfold nodeP
  rw [if_pos h, if_neg hd]
  rfl
theorem sim_node {ws : List Word} {L : Nat → List Node → Nat → ListR} {lo : Nat} (hL : SimL ws L lo) (i : Nat) (nodes : List Node) (fs : List Frame) (top acc : List Int) (x : Word) (hx : ws[i]? = some x) (hlo : lo ≤ i + 1) (hk3 : x.kind ≠ 3) (hk5 : x.kind ≠ 5) (hf : ∀ f ∈ fs, f.k < nodes.length) : PostN ws fs top acc nodes i (nodeP L ws (i + 1) nodes x fs.length) := by
  have hlt := (List.getElem?_eq_some_iff.1 hx).1
  have hadd := add_more fs top acc nodes x hf
  have hsl := st_len fs top acc nodes
  have hnl : (St fs top acc nodes).nodes.length = nodes.length := fill_length _ _
  have hstep : stepR (St fs top acc nodes) x = if (x.kind = 2 ∨ x.kind = 4) ∧ 16 ≤ fs.length then .error (x.at_, 3) else
      .ok ⟨(St fs top (acc ++ [(nodes.length : Int)]) (nodes ++ [nodeOf x])).nodes, (St fs top (acc ++ [(nodes.length : Int)]) (nodes ++ [nodeOf x])).top, if x.kind = 2 ∨ x.kind = 4 then (fs.map opn).reverse ++ [⟨nodes.length, x.kind, false⟩] else (fs.map opn).reverse⟩ := by
    unfold stepR
    rw [if_neg hk3, if_neg hk5, hsl, hnl, hadd]
    have : (St fs top acc nodes).st = (fs.map opn).reverse := by show ((upd fs top acc).1.map opn).reverse = _; rw [upd_opn]
    rw [this]
  by_cases ho : x.kind = 2 ∨ x.kind = 4
  · by_cases hd : 16 ≤ fs.length
    · unfold nodeP
      rw [if_pos ho, if_pos hd]
      exact rest_err hx (by rw [hstep, if_pos ⟨ho, hd⟩])
    · rw [nodeP_open ho hd]
      obtain ⟨u, t, hu⟩ : ∃ u t, upd fs top (acc ++ [(nodes.length : Int)]) = (u, t) := ⟨_, _, rfl⟩
      have hul : u.length = fs.length := by have := upd_len fs top (acc ++ [(nodes.length : Int)]); rw [hu] at this; exact this
      have huo : u.map opn = fs.map opn := by have := upd_opn fs top (acc ++ [(nodes.length : Int)]); rw [hu] at this; exact this
      have hult : ∀ f ∈ u, f.k < nodes.length := by have := upd_lt (top := top) (acc := acc ++ [(nodes.length : Int)]) hf; rw [hu] at this; exact this
      have hune : ∀ f ∈ u, f.k ≠ nodes.length := fun f h => by have := hult f h; omega
      have hSt : ∀ nd, St fs top (acc ++ [(nodes.length : Int)]) nd = Sx u t nd := fun nd => by unfold St; rw [hu]
      have h0 : rest (St fs top acc nodes) ws i = rest (St (⟨nodes.length, x, false, []⟩ :: u) t [] (nodes ++ [newNode x])) ws (i + 1) := by
        refine rest_ok hx ?_
        rw [hstep, if_neg (fun h => hd h.2), if_pos ho]
        congr 1
        rw [hSt]
        show (⟨fill u (nodes ++ [nodeOf x]), t, _⟩ : RSt) = ⟨(fill u (nodes ++ [newNode x])).modify nodes.length (fillNode ⟨nodes.length, x, false, []⟩), t, ((⟨nodes.length, x, false, []⟩ :: u).map opn).reverse⟩
        rw [fill_append u nodes _ hult, fill_append u nodes _ hult]
        have hl : nodes.length = (fill u nodes).length := (fill_length _ _).symm
        congr 1
        · conv => rhs; rw [hl]
          rw [modify_last]
          rfl
        · rw [List.map_cons, List.reverse_cons, huo]
          rfl
      unfold bodyP
      have h1 := hL (i + 1) (nodes ++ [newNode x]) (⟨nodes.length, x, false, []⟩ :: u) t hlo hlt (fun f h => by
        rw [List.length_append, List.length_singleton]
        rcases List.mem_cons.1 h with rfl | h
        · exact Nat.lt_succ_self _
        · have := hult f h; omega)
      rw [List.length_cons, hul] at h1
      cases hR : L (i + 1) (nodes ++ [newNode x]) (fs.length + 1) with
      | error f =>
        rw [hR] at h1
        dsimp only at h1
        show rest (St fs top acc nodes) ws i = .error f
        rw [h0]
        exact h1
      | ok r =>
        obtain ⟨b, i1, nodes1⟩ := r
        rw [hR] at h1
        dsimp only at h1 ⊢
        obtain ⟨hi1, hl1, hr1, ⟨ext, hext⟩, hst1⟩ := h1
        have hr1' : rest (St fs top acc nodes) ws i = rest (Sx (⟨nodes.length, x, false, b⟩ :: u) t nodes1) ws i1 := h0.trans hr1
        have hn1 : nodes1[nodes.length]? = some (newNode x) := by rw [hext, List.getElem?_append_left (by simp), List.getElem?_append_right (Nat.le_refl _)]; simp
        have fin : ∀ {e : Bool} {a : List Int} {nd : List Node} {j : Nat}, rest (St fs top acc nodes) ws i = rest (Sx (⟨nodes.length, x, e, a⟩ :: u) t nd) ws j → i + 1 ≤ j → Stops ws j → (∃ y, nd[nodes.length]? = some y ∧ y.at_ = x.at_ ∧ (e = false → y.has = false ∧ y.els = [])) → (∃ ext', nd = nodes ++ ext') →
            (e = false → ∀ z, ws[j]? = some z → z.kind ≠ 3) →
            j ≤ ws.length → PostN ws fs top acc nodes i (finN (finB ws x j (if e then setEls nd nodes.length a else setBody nd nodes.length a)) nodes.length (kindOf x.kind)) := by
          intro e a nd j hr hj hs hy hnd he2 hjl
          obtain ⟨y, hy1, hy2, hy3⟩ := hy
          obtain ⟨ext', hnd⟩ := hnd
          unfold finB
          cases hz : ws[j]? with
          | none =>
            show rest (St fs top acc nodes) ws i = .error _
            rw [hr]
            exact open_end (g := ⟨nodes.length, x, e, a⟩) hz hy1 hune hy2
          | some z =>
            dsimp only
            rcases hs z hz with h3 | h5
            · rw [if_pos h3]
              show rest (St fs top acc nodes) ws i = .error _
              rw [hr]
              refine open_else_bad hz h3 ?_
              cases e with
              | true => exact .inr rfl
              | false => exact absurd h3 (he2 rfl z hz)
            · rw [if_neg (by omega)]
              have hzl := (List.getElem?_eq_some_iff.1 hz).1
              refine ⟨by omega, by omega, rfl, ?_, ?_⟩
              · rw [hr, open_pop (g := ⟨nodes.length, x, e, a⟩) hz h5 hune, hSt]
                congr 2
                unfold setKind setEls setBody
                cases e with
                | true =>
                  rw [if_pos rfl, modify_two]
                  refine modify_congr (fun q hq => ?_)
                  rfl
                | false =>
                  rw [if_neg (by simp), modify_two]
                  refine modify_congr (fun q hq => ?_)
                  rw [hy1] at hq
                  cases hq
                  unfold fillNode
                  simp [hy3 rfl]
              · unfold setKind setEls setBody
                rw [hnd]
                cases e with
                | true =>
                  rw [if_pos rfl, modify_two, modify_tail]
                  exact ⟨_, rfl⟩
                | false =>
                  rw [if_neg (by simp), modify_two, modify_tail]
                  exact ⟨_, rfl⟩
        have hext1 : ∃ ext', nodes1 = nodes ++ ext' := ⟨[newNode x] ++ ext, by rw [hext, List.append_assoc]⟩
        cases hz : ws[i1]? with
        | none =>
          have := fin (e := false) hr1' hi1 hst1 ⟨_, hn1, rfl, fun _ => ⟨rfl, rfl⟩⟩ hext1 (fun _ z h => by rw [hz] at h; cases h) hl1
          exact this
        | some y =>
          dsimp only
          by_cases h3 : y.kind = 3
          · rw [if_pos h3]
            by_cases h4 : x.kind = 4
            · rw [if_pos h4]
              show rest (St fs top acc nodes) ws i = .error _
              rw [hr1']
              exact open_else_bad hz h3 (.inl (by dsimp only; omega))
            · rw [if_neg h4]
              have h2 : x.kind = 2 := by omega
              have hr2 := open_else (b := b) (t := t) hz h3 h2 hune hn1 rfl
              have hbl : (setBody nodes1 nodes.length b).length = nodes1.length := by simp [setBody]
              have h5 := hL (i1 + 1) (setBody nodes1 nodes.length b) (⟨nodes.length, x, true, []⟩ :: u) t (by omega) (by have := (List.getElem?_eq_some_iff.1 hz).1; omega) (fun f h => by
                rw [hbl, hext, List.length_append, List.length_append, List.length_singleton]
                rcases List.mem_cons.1 h with rfl | h
                · show nodes.length < _; omega
                · have := hult f h; omega)
              rw [List.length_cons, hul] at h5
              cases hR2 : L (i1 + 1) (setBody nodes1 nodes.length b) (fs.length + 1) with
              | error f =>
                rw [hR2] at h5
                dsimp only at h5
                show rest (St fs top acc nodes) ws i = .error f
                rw [hr1', hr2]
                exact h5
              | ok r2 =>
                obtain ⟨e2, i2, nodes2⟩ := r2
                rw [hR2] at h5
                dsimp only at h5 ⊢
                obtain ⟨hi2, hl2, hr3, ⟨ext2, hext2⟩, hst2⟩ := h5
                have hb2 : (setBody nodes1 nodes.length b)[nodes.length]? = some { newNode x with body := b } := by
                  unfold setBody
                  rw [List.getElem?_modify, hn1]
                  simp
                have hn2 : nodes2[nodes.length]? = some { newNode x with body := b } := by
                  rw [hext2, List.getElem?_append_left (List.getElem?_eq_some_iff.1 hb2).1]
                  exact hb2
                have := fin (e := true) ((hr1'.trans hr2).trans hr3) (by omega) hst2 ⟨_, hn2, rfl, fun h => by cases h⟩ (by
                  rw [hext2, hext]
                  unfold setBody
                  rw [List.append_assoc nodes, modify_tail]
                  exact ⟨_, List.append_assoc _ _ _⟩) (fun h => by cases h) hl2
                exact this
          · rw [if_neg h3]
            have := fin (e := false) hr1' hi1 hst1 ⟨_, hn1, rfl, fun _ => ⟨rfl, rfl⟩⟩ hext1 (fun _ z h => by rw [hz] at h; cases h; exact h3) hl1
            exact this
  · unfold nodeP
    rw [if_neg ho]
    refine ⟨Nat.le_refl _, hlt, rfl, ?_, [nodeOf x], ?_⟩
    · rw [rest_ok hx (by rw [hstep, if_neg (fun h => ho h.1), if_neg ho])]
      congr 1
      unfold setKind
      rw [modify_last]
      show _ = St fs top (acc ++ [(nodes.length : Int)]) (nodes ++ [nodeOf x])
      have : (St fs top (acc ++ [(nodes.length : Int)]) (nodes ++ [nodeOf x])).st = (fs.map opn).reverse := by show ((upd fs top _).1.map opn).reverse = _; rw [upd_opn]
      rw [← this]
    · unfold setKind
      rw [modify_last]
      rfl
theorem sim_list (ws : List Word) : ∀ (n i : Nat) (nodes : List Node) (fs : List Frame) (top acc : List Int), ws.length + 1 ≤ i + n → i ≤ ws.length → (∀ f ∈ fs, f.k < nodes.length) →
    match listP ws n i nodes fs.length acc with
    | .error f => rest (St fs top acc nodes) ws i = .error f
    | .ok (acc', i', nodes') => i ≤ i' ∧ i' ≤ ws.length ∧ rest (St fs top acc nodes) ws i = rest (St fs top acc' nodes') ws i' ∧ (∃ ext, nodes' = nodes ++ ext) ∧ Stops ws i' := by
  intro n
  induction n with
  | zero =>
    intro i nodes fs top acc hn hi hf
    omega
  | succ n ih =>
    intro i nodes fs top acc hn hi hf
    unfold listP
    cases hx : ws[i]? with
    | none => exact ⟨Nat.le_refl _, hi, rfl, ⟨[], by simp⟩, fun x h => by rw [hx] at h; cases h⟩
    | some w =>
      have hlt := (List.getElem?_eq_some_iff.1 hx).1
      dsimp only
      by_cases hs : w.kind = 3 ∨ w.kind = 5
      · rw [if_pos hs]
        exact ⟨Nat.le_refl _, hi, rfl, ⟨[], by simp⟩, fun x h => by rw [hx] at h; cases h; exact hs⟩
      · rw [if_neg hs]
        have hL : SimL ws (fun i nd d => listP ws n i nd d []) (i + 1) := fun i' nodes' fs' top' hi' hl' hf' => ih i' nodes' fs' top' [] (by omega) hl' hf'
        have h1 := sim_node hL i nodes fs top acc w hx (Nat.le_refl _) (fun h => hs (.inl h)) (fun h => hs (.inr h)) hf
        cases hR : nodeP (fun i nd d => listP ws n i nd d []) ws (i + 1) nodes w fs.length with
        | error f =>
          rw [hR] at h1
          exact h1
        | ok r =>
          obtain ⟨k, i1, nd⟩ := r
          rw [hR] at h1
          dsimp only at h1 ⊢
          obtain ⟨a1, a0, a2, a3, ext, a4⟩ := h1
          have h2 := ih i1 nd fs top (acc ++ [k]) (by omega) a0 (fun f h => by have := hf f h; rw [a4, List.length_append]; omega)
          cases hR2 : listP ws n i1 nd fs.length (acc ++ [k]) with
          | error f =>
            rw [hR2] at h2
            dsimp only at h2 ⊢
            rw [a3]
            exact h2
          | ok r2 =>
            obtain ⟨acc2, i2, nd2⟩ := r2
            rw [hR2] at h2
            dsimp only at h2 ⊢
            obtain ⟨b1, b0, b2, ⟨ext2, b3⟩, b4⟩ := h2
            exact ⟨by omega, b0, a3.trans b2, ⟨ext ++ ext2, by rw [b3, a4, List.append_assoc]⟩, b4⟩
theorem tree_stack (ws : List Word) : treeF ws = stackR ws := by
  have h := sim_list ws (ws.length + 1) 0 [] [] [] [] (by omega) (Nat.zero_le _) (fun f h => by cases h)
  have h0 : rest (St [] [] [] []) ws 0 = stackR ws := by
    unfold rest stackR
    rw [List.drop_zero]
    rfl
  rw [h0] at h
  unfold treeF
  rw [List.length_nil] at h
  cases hR : listP ws (ws.length + 1) 0 [] 0 [] with
  | error f =>
    rw [hR] at h
    exact h.symm
  | ok r =>
    obtain ⟨top, i, nodes⟩ := r
    rw [hR] at h
    dsimp only at h ⊢
    obtain ⟨-, -, h2, -, h4⟩ := h
    rw [h2]
    cases hx : ws[i]? with
    | none =>
      rw [rest_end hx]
      rfl
    | some x =>
      dsimp only
      symm
      refine rest_err hx ?_
      unfold stepR
      rcases h4 x hx with h3 | h5
      · rw [if_pos h3]
        rfl
      · rw [if_neg (by omega), if_pos h5]
        rfl
theorem parse_ref (s : List UInt8) : parseF s = refParse s := by
  unfold parseF refParse lexAllF
  by_cases h1 : 65536 < s.length
  · rw [if_pos h1, if_pos h1]
    rfl
  · rw [if_neg h1, if_neg h1]
    by_cases h2 : 0 ≤ (lexW 0 s).2
    · rw [if_pos h2, if_pos h2]
      rfl
    · rw [if_neg h2, if_neg h2]
      dsimp only
      rw [if_pos rfl]
      exact tree_stack _
end Go.Proofs.YtcggeaobonblfaaDoor

/- The reference's names and blanks: what was printed of them answers as the plain functions say. -/
namespace Go.Proofs.YtcggeaobonblfaaDoor
open Go Go.RowKit Go.Proofs.YtcggeaobonblfaaDoorW.PrintWords Go.Proofs.YtcggeaobonblfaaDoor.PParseTrees
abbrev toB (l : List UInt8) : ByteArray := ⟨l.toArray⟩
theorem toB_size (l : List UInt8) : (toB l).size = l.length := by simp [toB, ByteArray.size]
theorem toB_list (l : List UInt8) : (toB l).toList = l := by rw [ByteArray.toList_eq]
theorem toB_bt (l : List UInt8) (i : Nat) (h : i < l.length) : bt (toB l) i = (l[i].toNat : Int) := by
  unfold bt
  rw [dif_pos (by simpa [toB_size] using h)]
  simp [toB, ByteArray.getElem_eq_getElem_data]
theorem w64 {n : Int} (h0 : -1 ≤ n) (h1 : n ≤ 1000000) : wrap64 n = n := by unfold wrap64; omega
/-- The loop of Name. -/
theorem name_loop (l : List UInt8) (hl : l.length ≤ 100000) : ∀ (m i : Nat), l.length - i = m → i ≤ l.length → (i = 0 → ∀ h : 0 < l.length, 97 ≤ l[0].toNat ∧ l[0].toNat ≤ 122) →
    Ev (fun k => bobbinref13_Name.l0 k (toB l) i) (okFrom i (l.drop i)) := by
  intro m
  induction m with
  | zero =>
    intro i hm hi h0
    refine Ev.step (f := fun _ => some (okFrom i (l.drop i))) (fun k => ?_) (Ev.now _)
    unfold bobbinref13_Name.l0
    rw [if_neg (by rw [toB_size]; omega)]
    have : l.drop i = [] := List.drop_eq_nil_of_le (by omega)
    rw [this]
    rfl
  | succ m ih =>
    intro i hm hi h0
    have hlt : i < l.length := by omega
    have hw : wrap64 ((i : Int) + 1) = ((i + 1 : Nat) : Int) := by rw [w64 (by omega) (by omega)]; omega
    have hd : l.drop i = l[i] :: l.drop (i + 1) := List.drop_eq_getElem_cons hlt
    have next := ih (i + 1) (by omega) (by omega) (by omega)
    have hb := toB_bt l i hlt
    have hok := okAt_iff i l[i]
    by_cases hk : okAt i l[i] = true
    · refine Ev.step (fun k => ?_) (f := fun k => bobbinref13_Name.l0 k (toB l) ((i + 1 : Nat) : Int)) ?_
      · conv => lhs; unfold bobbinref13_Name.l0
        rw [if_pos (by rw [toB_size]; omega), if_pos (by omega), hw, hb]
        have := hok.1 hk
        repeat' split
        all_goals first
          | rfl
          | omega
      · rw [hd]
        simpa [okFrom, hk] using next
    · refine Ev.step (fun k => ?_) (f := fun k => some false) ?_
      · conv => lhs; unfold bobbinref13_Name.l0
        rw [if_pos (by rw [toB_size]; omega), if_pos (by omega), hw, hb]
        have hn : ¬ ((97 ≤ l[i].toNat ∧ l[i].toNat ≤ 122) ∨ (0 < i ∧ ((48 ≤ l[i].toNat ∧ l[i].toNat ≤ 57) ∨ l[i].toNat = 95))) := fun h => hk (hok.2 h)
        have hz : i = 0 → 97 ≤ l[i].toNat ∧ l[i].toNat ≤ 122 := fun e => by subst e; exact h0 rfl hlt
        repeat' split
        all_goals first
          | rfl
          | omega
      · rw [hd]
        have : okFrom i (l[i] :: l.drop (i + 1)) = false := by simp [okFrom, hk]
        rw [this]
        exact Ev.now _
theorem name_ev (l : List UInt8) (hl : l.length ≤ 100000) : Ev (fun k => bobbinref13_Name.f k (toB l)) (nameF l) := by
  have j : ∀ b r, (b = true → r = false) → (b = false → Ev (fun k => bobbinref13_Name.l0 k (toB l) 0) r) → Ev (fun k => bobbinref13_Name.j0 k (toB l) b) r := by
    intro b r h1 h2
    cases b with
    | true =>
      refine Ev.step (fun k => ?_) (f := fun k => some false) (by rw [h1 rfl]; exact Ev.now _)
      unfold bobbinref13_Name.j0
      rfl
    | false =>
      refine Ev.step (fun k => ?_) (h2 rfl)
      conv => lhs; unfold bobbinref13_Name.j0
      rfl
  unfold bobbinref13_Name.f
  by_cases h0 : l.length = 0
  · have : nameF l = false := by unfold nameF; simp [h0]
    rw [this]
    refine Ev.congr (fun k => ?_) (j true false (fun _ => rfl) (fun h => by cases h))
    rw [if_pos (by rw [toB_size]; omega)]
  by_cases h1 : 32 < l.length
  · have : nameF l = false := by unfold nameF; simp; omega
    rw [this]
    refine Ev.congr (fun k => ?_) (j true false (fun _ => rfl) (fun h => by cases h))
    rw [if_neg (by rw [toB_size]; omega), if_pos (by rw [toB_size]; omega)]
  have hb := toB_bt l 0 (by omega)
  by_cases h2 : l[0].toNat < 97
  · have : nameF l = false := nameF_bad l 0 (by omega) (by
      have := okAt_iff 0 l[0]
      rw [← Bool.not_eq_true, this]; omega)
    rw [this]
    refine Ev.congr (fun k => ?_) (j true false (fun _ => rfl) (fun h => by cases h))
    rw [if_neg (by rw [toB_size]; omega), if_neg (by rw [toB_size]; omega), if_pos (by rw [toB_size]; omega), if_pos (by rw [show (0 : Int) = ((0 : Nat) : Int) from rfl, hb]; omega)]
  refine Ev.congr (fun k => ?_) (j (decide (bt (toB l) 0 > 122)) (nameF l) ?_ ?_)
  · rw [if_neg (by rw [toB_size]; omega), if_neg (by rw [toB_size]; omega), if_pos (by rw [toB_size]; omega), if_neg (by rw [show (0 : Int) = ((0 : Nat) : Int) from rfl, hb]; omega)]
  · intro h
    have h' : (122 : Int) < bt (toB l) ((0 : Nat) : Int) := by simpa using h
    rw [hb] at h'
    exact nameF_bad l 0 (by omega) (by
      have := okAt_iff 0 l[0]
      rw [← Bool.not_eq_true, this]; omega)
  · intro h
    have h' : ¬ (122 : Int) < bt (toB l) ((0 : Nat) : Int) := by simpa using h
    rw [hb] at h'
    have := name_loop l hl l.length 0 (by omega) (by omega) (fun _ _ => by omega)
    have e : nameF l = okFrom 0 (l.drop 0) := by
      unfold nameF
      rw [decide_eq_true (show 1 ≤ l.length by omega), decide_eq_true (show l.length ≤ 32 by omega)]
      simp
    rw [e]
    exact this
theorem rev_last (l : List UInt8) (h : 0 < l.length) : l.reverse = l[l.length - 1] :: (l.take (l.length - 1)).reverse := by
  have h1 : l = l.take (l.length - 1) ++ [l[l.length - 1]] := by
    have := List.take_append_getElem (show l.length - 1 < l.length by omega)
    rw [this, List.take_of_length_le (by omega)]
  conv => lhs; rw [h1]
  simp
theorem trim_right : ∀ (m : Nat) (l : List UInt8), l.length = m → l.length ≤ 100000 → Ev (fun k => bobbinref13_trim.l1 k (toB l)) (toB (Lib.trimRightB l 32)) := by
  intro m
  induction m with
  | zero =>
    intro l hm hl
    have : l = [] := List.length_eq_zero_iff.1 hm
    subst this
    refine Ev.step (f := fun _ => some (toB (Lib.trimRightB [] 32))) (fun k => ?_) (Ev.now _)
    unfold bobbinref13_trim.l1
    rw [if_neg (by rw [toB_size]; simp)]
    rfl
  | succ m ih =>
    intro l hm hl
    have hw : wrap64 (((toB l).size : Int) - 1) = ((l.length - 1 : Nat) : Int) := by rw [toB_size, w64 (by omega) (by omega)]; omega
    have hb := toB_bt l (l.length - 1) (by omega)
    by_cases h : l[l.length - 1] = 32
    · have e : Lib.trimRightB l 32 = Lib.trimRightB (l.take (l.length - 1)) 32 := by
        unfold Lib.trimRightB
        rw [rev_last l (by omega), List.dropWhile_cons_of_pos (by simp [h])]
      rw [e]
      refine Ev.step (f := fun k => bobbinref13_trim.l1 k (toB (l.take (l.length - 1)))) (fun k => ?_) (ih _ (by simp; omega) (by simp; omega))
      conv => lhs; unfold bobbinref13_trim.l1
      rw [hw, if_pos (by rw [toB_size]; omega), if_pos (by omega), if_pos (by rw [toB_size]; omega), if_pos (by rw [hb, h]; rfl), if_pos (by rw [toB_size]; omega)]
      simp only [Int.toNat_natCast]
      rw [ext_take]
    · have e : Lib.trimRightB l 32 = l := by
        unfold Lib.trimRightB
        rw [rev_last l (by omega), List.dropWhile_cons_of_neg (by simp [h]), ← rev_last l (by omega)]
        simp
      rw [e]
      refine Ev.step (f := fun k => some (toB l)) (fun k => ?_) (Ev.now _)
      conv => lhs; unfold bobbinref13_trim.l1
      rw [hw, if_pos (by rw [toB_size]; omega), if_pos (by omega), if_pos (by rw [toB_size]; omega), if_neg (by
        rw [hb]
        intro h2
        exact h (UInt8.toNat_inj.1 (by have h3 : (32 : UInt8).toNat = 32 := rfl; omega)))]
theorem trim_left : ∀ (m : Nat) (l : List UInt8), l.length = m → l.length ≤ 100000 → Ev (fun k => bobbinref13_trim.l0 k (toB l)) (toB (Lib.trimRightB (Lib.trimLeftB l 32) 32)) := by
  have j : ∀ l : List UInt8, l.length ≤ 100000 → Ev (fun k => bobbinref13_trim.j1 k (toB l)) (toB (Lib.trimRightB l 32)) := fun l hl =>
    Ev.step (f := fun k => bobbinref13_trim.l1 k (toB l)) (fun k => by conv => lhs; unfold bobbinref13_trim.j1) (trim_right _ l rfl hl)
  intro m
  induction m with
  | zero =>
    intro l hm hl
    have : l = [] := List.length_eq_zero_iff.1 hm
    subst this
    refine Ev.step (f := fun k => bobbinref13_trim.j1 k (toB [])) (fun k => ?_) (j [] (by simp))
    conv => lhs; unfold bobbinref13_trim.l0
    rw [if_neg (by rw [toB_size]; simp)]
  | succ m ih =>
    intro l hm hl
    cases l with
    | nil => simp at hm
    | cons b l =>
      have hb : bt (toB (b :: l)) ((0 : Nat) : Int) = (b.toNat : Int) := toB_bt (b :: l) 0 (by simp)
      have hs : (toB (b :: l)).size = l.length + 1 := by rw [toB_size]; rfl
      by_cases h : b = 32
      · have e : Lib.trimLeftB (b :: l) 32 = Lib.trimLeftB l 32 := by unfold Lib.trimLeftB; rw [List.dropWhile_cons_of_pos (by simp [h])]
        rw [e]
        refine Ev.step (f := fun k => bobbinref13_trim.l0 k (toB l)) (fun k => ?_) (ih l (by simpa using hm) (by simp at hl; omega))
        conv => lhs; unfold bobbinref13_trim.l0
        rw [if_pos (by omega), if_pos (by omega), if_pos (by rw [show (0 : Int) = ((0 : Nat) : Int) from rfl, hb, h]; rfl), if_pos (by omega), ext_drop _ _ _ (by rw [toB_size]; exact Nat.le_refl _)]
        rfl
      · have e : Lib.trimLeftB (b :: l) 32 = b :: l := by unfold Lib.trimLeftB; rw [List.dropWhile_cons_of_neg (by simp [h])]
        rw [e]
        refine Ev.step (f := fun k => bobbinref13_trim.j1 k (toB (b :: l))) (fun k => ?_) (j _ hl)
        conv => lhs; unfold bobbinref13_trim.l0
        rw [if_pos (by omega), if_pos (by omega), if_neg (by
          rw [show (0 : Int) = ((0 : Nat) : Int) from rfl, hb]
          intro h2
          exact h (UInt8.toNat_inj.1 (by have h3 : (32 : UInt8).toNat = 32 := rfl; omega)))]
/-- The two sides of a trim may be cut in either order. -/
theorem trim_right_cons (b : UInt8) (l : List UInt8) (c : UInt8) : Lib.trimRightB (b :: l) c = if Lib.trimRightB l c = [] then (if b = c then [] else [b]) else b :: Lib.trimRightB l c := by
  unfold Lib.trimRightB
  rw [List.reverse_cons, List.dropWhile_append]
  by_cases h : (l.reverse.dropWhile (· == c)) = []
  · rw [h]
    by_cases hb : b = c
    · subst hb
      simp
    · have hb' : (b == c) = false := by simpa using hb
      simp [hb, hb', List.dropWhile]
  · have h' : (l.reverse.dropWhile (· == c)).isEmpty = false := by
      rw [← Bool.not_eq_true, List.isEmpty_iff]; exact h
    rw [h']
    have h2 : (l.reverse.dropWhile (· == c)).reverse ≠ [] := by simpa using h
    rw [if_neg h2]
    simp
theorem trim_swap (l : List UInt8) (c : UInt8) : Lib.trimRightB (Lib.trimLeftB l c) c = Lib.trimB l c := by
  unfold Lib.trimB
  induction l with
  | nil => rfl
  | cons b l ih =>
    have hd : ∀ x : List UInt8, Lib.trimLeftB (b :: x) c = if b = c then Lib.trimLeftB x c else b :: x := fun x => by
      unfold Lib.trimLeftB
      by_cases hb : b = c
      · rw [if_pos hb, List.dropWhile_cons_of_pos (by simp [hb])]
      · rw [if_neg hb, List.dropWhile_cons_of_neg (by simp [hb])]
    rw [hd l]
    by_cases hb : b = c
    · rw [if_pos hb, ih, trim_right_cons]
      by_cases h : Lib.trimRightB l c = []
      · rw [if_pos h, if_pos hb, h]
      · rw [if_neg h, hd, if_pos hb]
    · rw [if_neg hb, trim_right_cons]
      by_cases h : Lib.trimRightB l c = []
      · rw [if_pos h, if_neg hb, hd, if_neg hb]
      · rw [if_neg h, hd, if_neg hb]
theorem trim_ev (l : List UInt8) (hl : l.length ≤ 100000) : Ev (fun k => bobbinref13_trim.f k (toB l)) (toB (Lib.trimB l 32)) := by
  rw [← trim_swap]
  exact trim_left _ l rfl hl
end Go.Proofs.YtcggeaobonblfaaDoor
