/- Lemmas and contracts for RowParseTrees, part 4: R14i, Law14a. -/
import Derived.Test.YtcggeaobonblfaaDoorMA3
/- bobbinref14.Parse: the tree by a stack of what is open. -/
namespace Go.Proofs.YtcggeaobonblfaaDoor
set_option linter.unusedSimpArgs false
set_option linter.unusedVariables false
open Go Go.RowKit Go.Proofs.YtcggeaobonblfaaDoorW.PrintWords Go.Proofs.YtcggeaobonblfaaDoor.PParseTrees Go.Proofs.YtcggeaobonblfaaDoorW.PrintLast
def RefPost (w : World) (r : Except Fault (List Int × List Node)) (e : Ending) (w' : World) : Prop :=
  match r with
  | .error f => e = .returned (.tuple #[.agg #[.slice none 0 0, .slice none 0 0], .int .i64 f.1, .int .i64 f.2]) ∧ Below w.heap.size w w'
  | .ok (top, nodes) => ∃ A c B d, e = .returned (.tuple #[.agg #[.slice A nodes.length c, .slice B top.length d], .int .i64 0, .int .i64 0]) ∧ TreeC w' A c (nodes.map toN) B d top ∧ Below w.heap.size w w'
/-- Between two rounds: k words have been read. -/
structure RunAt (B : Nat) (ws : List Word) (wv : Value) (w2 : World) (R : Nat) (T : Nat) (k : Nat) (r : RSt) (sv : Value) (W : World) : Prop where
  run : runR r0 (ws.take k) = .ok r
  tree : TSt B B W T r.nodes r.top
  stack : StackAt W B sv r.st
  below : Below B w2 W
theorem Tryd.info78 : (Tryd.prog.info? 78).map (fun i => (i.zero, i.size, i.bytes)) = some (some (.agg #[.int .i64 0, .int .i64 0, .bool false]), 3, 24) := by kernel_rfl
set_option maxRecDepth 100000 in
set_option maxHeartbeats 4000000 in
theorem refParse_any (s : List UInt8) (w : World) (hs : s.length ≤ 140737488351232) : Calls Tryd.prog 10 #[.string ⟨s.toArray⟩] w (RefPost w (refParse s)) := by
  by_cases hl : 65536 < s.length
  · have HF : Hid (refParse s = .error (0, 2)) := Lib.hid (by unfold refParse; rw [if_pos hl])
    go_enter Tryd.func10, Tryd.ntmps10
    go_wp2_with fail
    refine bodyPost_ret (v := .tuple #[.agg #[.slice none 0 0, .slice none 0 0], .int .i64 0, .int .i64 2]) (by simp [results, Tryd.results10, go_sem]) rfl ?_
    rw [HF.out]
    exact ⟨rfl, by repeat (first | exact Below.refl _ _ | refine Below.drew ?_ | refine Below.setCell ?_ (by simp) _ | refine Below.alloc ?_ (by simp) _)⟩
  obtain ⟨W1, hW1⟩ : ∃ W1, w.alloc (.cells #[.slice none 0 0, .slice none 0 0] 26) = W1 := ⟨_, rfl⟩
  have hb1 : Below w.heap.size w W1 := by rw [← hW1]; exact (Below.refl w.heap.size w).alloc (Nat.le_refl _) _
  have hR1 : W1.heap[w.heap.size]? = some (.cells #[.slice none 0 0, .slice none 0 0] 26) := by rw [← hW1]; exact World.alloc_heap_new w _
  have HA := Lib.hid (all_any s W1 (by omega))
  have HF : Hid (refParse s = if 0 ≤ (lexW 0 s).2 then .error ((lexW 0 s).2, 4) else stackR (lexW 0 s).1) := Lib.hid (by unfold refParse; rw [if_neg hl])
  have hshort := lexF_short (s.length + 1) 0 s
  have hkind := lexF_kind (s.length + 1) 0 s
  obtain ⟨ws, bad, hL⟩ : ∃ a b, lexW 0 s = (a, b) := ⟨_, _, rfl⟩
  have hL' : lexF (s.length + 1) 0 s = (ws, bad) := hL
  rw [hL'] at hshort hkind
  rw [hL] at HA HF
  obtain ⟨hwl, hnm⟩ := hshort
  have hwl' : ws.length ≤ 65536 := by dsimp only at hwl; omega
  have Hnm := Lib.hid hnm
  have Hkind := Lib.hid hkind
  have HW1 := Lib.hid hW1
  have HR1 := Lib.hid hR1
  have Hb1 := Lib.hid hb1
  have hsz1 : w.heap.size < W1.heap.size := World.heap_lt hR1
  clear hL hL' hwl hnm hkind hW1 hR1 hb1 hs
  go_enter Tryd.func10, Tryd.ntmps10
  go_wp2_with fail
  rw [HW1.out]
  refine (HA.out).mono ?_
  rintro e w2 ⟨wv, rfl, hwr, hb2⟩
  have r2 := (hb2.block _ hsz1).trans HR1.out
  have hB2 : Below w.heap.size w w2 := Hb1.out.trans (hb2.mono (by omega))
  obtain ⟨wA, wc, rfl⟩ : ∃ A c, wv = .slice A ws.length c := by obtain ⟨A, c, e, _⟩ := hwr; exact ⟨A, c, e⟩
  have z0 : w2.cell? ⟨w.heap.size, 0, none⟩ = some (.slice none 0 0) := by simp [World.cell?, r2]
  have z1 : w2.cell? ⟨w.heap.size, 1, none⟩ = some (.slice none 0 0) := by simp [World.cell?, r2]
  have zf : w2.frozen? ⟨w.heap.size, 0, none⟩ = false := by simp [World.frozen?, r2]
  have zg : w2.frozen? ⟨w.heap.size, 1, none⟩ = false := by simp [World.frozen?, r2]
  have Hwr := Lib.hid hwr
  have HB2 := Lib.hid hB2
  have R2 := Lib.hid r2
  have hsz2 : w.heap.size < w2.heap.size := World.heap_lt r2
  clear hwr hB2 r2 hb2 HA HW1 HR1 Hb1
  by_cases hbad : 0 ≤ bad
  · have HF' : Hid (refParse s = .error (bad, 4)) := Lib.hid (HF.out.trans (if_pos hbad))
    go_wp2
    refine bodyPost_ret (v := .tuple #[.agg #[.slice none 0 0, .slice none 0 0], .int .i64 bad, .int .i64 4]) (by simp [results, Tryd.results10, go_sem, z0, z1]) rfl ?_
    rw [HF'.out]
    exact ⟨rfl, by repeat (first | exact HB2.out | refine Below.drew ?_ | refine Below.setCell ?_ (by simp) _)⟩
  have HF' : Hid (refParse s = stackR ws) := Lib.hid (HF.out.trans (if_neg hbad))
  clear HF
  have H0 : Hid (RunAt w2.heap.size ws (.slice wA ws.length wc) w2 w.heap.size w2.heap.size 0 r0 (.slice none 0 0) (w2.alloc (.cells #[.slice none 0 0, .slice none 0 0] 26))) := Lib.hid
    ⟨rfl, ⟨.slice none 0 0, .slice none 0 0, [], fun _ => 0, rfl, ⟨World.alloc_heap_new _ _, ⟨by simp, .inl ⟨rfl, rfl⟩⟩, ints_none _ _, fun k e => (by simp [Value.ownBlock] at e), fun i p hp => (by simp at hp), Nat.le_refl _, Nat.le_refl _⟩⟩, stack_none _ _, (Below.refl _ _).alloc (Nat.le_refl _) _⟩
  go_wp2_with fail
  go_loopw [8, 9] (fun sv a wr => ∃ k r, k ≤ ws.length ∧ a = .int .i64 k ∧ Hid (RunAt w2.heap.size ws (.slice wA ws.length wc) w2 w.heap.size w2.heap.size k r sv wr)) (fun _ a _ => ws.length - (intOf a).toNat)
  case atStart => exact ⟨0, r0, Nat.zero_le _, rfl, H0⟩
  case round =>
    clear H0 z0 z1 zf zg
    obtain ⟨k, ⟨nodes, top, st⟩, hk, rfl, hrun⟩ := hrel
    obtain ⟨svA, svc, rfl⟩ := stack_slice hrun.out.stack
    have hinv := run_inv hrun.out.run
    have i1 := hinv.nodes
    have i2 := hinv.top
    have i4 := hinv.deep
    have Hinv := Lib.hid hinv
    dsimp only at i1 i2 i4
    clear hinv
    have hsz3 : w2.heap.size < wr.heap.size := by obtain ⟨_, _, _, _, _, h⟩ := hrun.out.tree; exact World.heap_lt h.block
    have Hw := Lib.hid (Hwr.out.below hrun.out.below)
    have Rr := Lib.hid ((hrun.out.below.block _ hsz2).trans R2.out)
    have d6 : decide ((k : Int) < (ws.length : Int)) = decide (k < ws.length) := by simp
    cases hx1 : ws[k]? with
    | none =>
      have hge : ws.length ≤ k := List.getElem?_eq_none_iff.1 hx1
      have htk : ws.take k = ws := List.take_of_length_le hge
      have hrunw : runR r0 ws = .ok ⟨nodes, top, st⟩ := by rw [← htk]; exact hrun.out.run
      have hnames := runR_names (m := 8) ws r0 _ (fun x hx => by cases hx) Hnm.out hrunw
      have HRun := Lib.hid hrunw
      have Hnames := Lib.hid hnames
      have d7 : decide (k < ws.length) = false := by simp; omega
      have d8 : decide ((k : Int) < (ws.length : Int)) = false := by simp; omega
      have jl : ¬ ((k : Int) < (ws.length : Int)) := by omega
      have HB3 : Hid (Below w.heap.size w wr) := Lib.hid (HB2.out.trans (hrun.out.below.mono (by omega)))
      have z0 : wr.cell? ⟨w.heap.size, 0, none⟩ = some (.slice none 0 0) := by have := Rr.out; simp [World.cell?, this]
      have z1 : wr.cell? ⟨w.heap.size, 1, none⟩ = some (.slice none 0 0) := by have := Rr.out; simp [World.cell?, this]
      have zf : wr.frozen? ⟨w.heap.size, 0, none⟩ = false := by have := Rr.out; simp [World.frozen?, this]
      have zg : wr.frozen? ⟨w.heap.size, 1, none⟩ = false := by have := Rr.out; simp [World.frozen?, this]
      obtain ⟨nv, tv, ps, f, hmap, hts⟩ := hrun.out.tree
      dsimp only at hmap
      have hnl : nodes.length = ps.length := by rw [← hmap]; simp
      obtain ⟨LA, LC, rfl⟩ : ∃ A c, nv = .slice A ps.length c := by
        rcases hts.row.2 with ⟨rfl, h0⟩ | ⟨g, cap, cur, rfl, _⟩
        · rw [h0]; exact ⟨_, _, rfl⟩
        · exact ⟨_, _, rfl⟩
      obtain ⟨TA, TC, rfl⟩ := ints_slice hts.top
      have t0 : wr.cell? ⟨w2.heap.size, 0, none⟩ = some (.slice LA ps.length LC) := by have := hts.block; simp [World.cell?, this]
      have t1 : wr.cell? ⟨w2.heap.size, 1, none⟩ = some (.slice TA top.length TC) := by have := hts.block; simp [World.cell?, this]
      have Hmap := Lib.hid hmap
      have Hts := Lib.hid hts
      clear hx1 htk hrunw hnames hmap hts d6
      rcases List.eq_nil_or_concat st with hst | ⟨st', o, hst⟩
      · subst hst
        have HE : Hid (refParse s = .ok (top, nodes)) := Lib.hid (HF'.out.trans (by unfold stackR; rw [HRun.out]; rfl))
        go_wp2
        refine bodyPost_ret (v := .tuple #[.agg #[.slice LA ps.length LC, .slice TA top.length TC], .int .i64 0, .int .i64 0]) (by simp [results, Tryd.results10, go_sem, z0, z1]) rfl ?_
        rw [HE.out]
        have h1 := grown_set wr w.heap.size 0 (.slice LA ps.length LC)
        have h2 := grown_set (wr.setCell ⟨w.heap.size, 0, none⟩ (.slice LA ps.length LC)) w.heap.size 1 (.slice TA top.length TC)
        have key : ∀ {base e size n : Nat} {u : Value} {xs : List Value}, e ≠ 26 → wr.ownsRow base e size u n xs → ((wr.setCell ⟨w.heap.size, 0, none⟩ (.slice LA ps.length LC)).setCell ⟨w.heap.size, 1, none⟩ (.slice TA top.length TC)).ownsRow base e size u n xs := fun he h =>
          row_else (row_else h h1 (fun k e => by cases e; exact ⟨_, Rr.out⟩) he) h2 (fun k e => by cases e; exact ⟨_, blk_put Rr.out 0 _⟩) he
        have hnm2 : ∀ {v : Value} {xs : List (List UInt8)}, NamesRd w2.heap.size wr v xs → xs.length ≤ 8 → ∃ A c, v = .slice A xs.length c ∧ xs.length ≤ c ∧ StrsC ((wr.setCell ⟨w.heap.size, 0, none⟩ (.slice LA ps.length LC)).setCell ⟨w.heap.size, 1, none⟩ (.slice TA top.length TC)) A (xs.map toB) := fun {v xs} hn hl => by
          obtain ⟨A, c, e, hj, hcap⟩ := hn
          refine names_C (B := w2.heap.size) ⟨A, c, e, fun j y hy => ?_, hcap⟩ (by omega)
          obtain ⟨q, ha, hlt, hc⟩ := hj j y hy
          have hq : q ≠ w.heap.size := by
            rintro rfl
            have h3 := Rr.out
            simp only [World.cell?, h3] at hc
            match j, hc with
            | 0, hc => cases hc
            | 1, hc => cases hc
            | j + 2, hc => simp at hc
          have h4 : ((wr.setCell ⟨w.heap.size, 0, none⟩ (.slice LA ps.length LC)).setCell ⟨w.heap.size, 1, none⟩ (.slice TA top.length TC)).heap[q]? = wr.heap[q]? := (Below.heap_setCell _ _ _ _ hq).trans (Below.heap_setCell _ _ _ _ hq)
          refine ⟨q, ha, hlt, ?_⟩
          rw [← hc]
          simp only [World.cell?, h4]
        obtain ⟨A, c, B, d, e1, e2, hC⟩ := tree_C (key (by decide) Hts.out.row) (key (by decide) Hts.out.top) (fun p hp => by
          obtain ⟨i, hi⟩ := List.mem_iff_getElem?.1 hp
          obtain ⟨a, b, c, -, -⟩ := Hts.out.rows i p hi
          have hpn : p.x ∈ nodes := by rw [← Hmap.out]; exact List.mem_map_of_mem hp
          exact ⟨hnm2 a (Hnames.out p.x hpn), key (by decide) b, key (by decide) c⟩) (by omega) (by omega) (fun p hp => by
          have hpn : p.x ∈ nodes := by rw [← Hmap.out]; exact List.mem_map_of_mem hp
          have h8 := Hnames.out p.x hpn
          have hl := Hinv.out.lists p.x hpn
          exact ⟨by omega, by omega, by omega⟩)
        rw [Hmap.out] at e1 hC
        injection e1 with a1 a2 a3
        injection e2 with a4 a5 a6
        subst a1 a3 a4 a6
        exact ⟨LA, LC, TA, TC, by rw [hnl], hC, by repeat (first | exact HB3.out | refine Below.drew ?_ | refine Below.setCell ?_ (by simp) _)⟩
      · rw [List.concat_eq_append] at hst
        subst hst
        have hlo : Hid ((st' ++ [o]).getLast? = some o) := Lib.hid (by simp)
        have HS := Lib.hid hrun.out.stack
        dsimp only at HS
        obtain ⟨sg, sc, hse, hsb, hsl, so0, so1, so2⟩ := stack_last HS.out
        obtain ⟨on0, on1⟩ := Hinv.out.opens o (by simp)
        dsimp only at on1
        injection hse with hse1 hse2 hse3
        subst hse1 hse3
        obtain ⟨n, hn⟩ := Int.eq_ofNat_of_zero_le on0
        have hnp : n < ps.length := by omega
        have hnz : (n : Int) < (ps.length : Int) := by omega
        obtain ⟨p, hp⟩ : ∃ p, ps[n]? = some p := ⟨_, List.getElem?_eq_getElem hnp⟩
        have HE : Hid (refParse s = .error (p.x.at_, 4)) := Lib.hid (HF'.out.trans (by
          unfold stackR
          rw [HRun.out]
          dsimp only
          unfold finR
          dsimp only
          rw [hlo.out]
          dsimp only
          have : nodes[o.node.toNat]? = some p.x := by rw [hn, Int.toNat_natCast, ← Hmap.out]; simp [hp]
          rw [this]))
        obtain ⟨g, cap, hge2, hbg, hgl, pc1⟩ := row_cell Hts.out.row (n * 9 + 1) _ (by rw [flat9 ps n p hp 1 (by omega)]; rfl)
        injection hge2 with hg1 hg2 hg3
        subst hg1 hg3
        have e1 : (st'.length : Int) + 1 - 1 = (st'.length : Int) := by omega
        rw [hn] at so0
        have d9 : decide ((0 : Int) < (st'.length : Int) + 1) = true := by simp <;> omega
        have hsl3 : st'.length + 1 ≤ 16 := by simpa using i4
        have hslz : (st'.length : Int) + 1 ≤ 16 := by omega
        have ew : IntKind.i64.wrap (st'.length : Int) = (st'.length : Int) := IntWalk.i64_in _ (by omega)
        clear hse2 hg2 hn on0 on1 hp so1 so2 HS
        go_wp2
        go_region
        go_wp2
        refine bodyPost_ret (v := .tuple #[.agg #[.slice none 0 0, .slice none 0 0], .int .i64 p.x.at_, .int .i64 4]) (by simp [results, Tryd.results10, go_sem, z0, z1]) rfl ?_
        rw [HE.out]
        exact ⟨rfl, by repeat (first | exact HB3.out | refine Below.drew ?_ | refine Below.setCell ?_ (by simp) _)⟩
    | some x =>
      have hlt : k < ws.length := (List.getElem?_eq_some_iff.1 hx1).1
      obtain ⟨A', c', e', hword⟩ := Hw.out
      cases e'
      obtain ⟨b, nv, rfl, hbB, k0, k1, k2, k3, k4, hnv⟩ := hword k x hx1
      obtain ⟨NA, NC, rfl⟩ : ∃ A c, nv = .slice A x.names.length c := by obtain ⟨A, c, e, _⟩ := hnv; exact ⟨A, c, e⟩
      have hxk := Hkind.out x (List.mem_of_getElem? hx1)
      have hxn := Hnm.out x (List.mem_of_getElem? hx1)
      obtain ⟨hx0, hx7⟩ := hxk
      have Hx1 := Lib.hid hx1
      have Hnv := Lib.hid hnv
      have jl : (k : Int) < (ws.length : Int) := by omega
      clear hx1 hnv hword d6
      go_upto_region 12 with (fail)
      obtain ⟨W3, hW3⟩ : ∃ W3, wr.alloc (.cells #[.int .u8 x.kind, .int .i64 x.at_, .string ⟨x.text.toArray⟩, .bool x.root, .slice NA x.names.length NC] 76) = W3 := ⟨_, rfl⟩
      have hb3 : Below wr.heap.size wr W3 := by rw [← hW3]; exact (Below.refl _ _).alloc (Nat.le_refl _) _
      have hX3 : W3.heap[wr.heap.size]? = some (.cells #[.int .u8 x.kind, .int .i64 x.at_, .string ⟨x.text.toArray⟩, .bool x.root, .slice NA x.names.length NC] 76) := by rw [← hW3]; exact World.alloc_heap_new _ _
      have hR3 : W3.heap[w.heap.size]? = some (.cells #[.slice none 0 0, .slice none 0 0] 26) := (hb3.block _ (by omega)).trans Rr.out
      have HT : Hid (TSt w2.heap.size w2.heap.size W3 w2.heap.size nodes top) := Lib.hid (hrun.out.tree.later hb3)
      have HS : Hid (StackAt W3 w2.heap.size (.slice svA st.length svc) st) := Lib.hid (stack_later hrun.out.stack hb3)
      have HBb : Hid (Below w2.heap.size w2 W3) := Lib.hid (hrun.out.below.trans (hb3.mono (by omega)))
      have HB3 : Hid (Below w.heap.size w W3) := Lib.hid (HB2.out.trans (HBb.out.mono (by omega)))
      have HNv : Hid (NamesRd w2.heap.size W3 (.slice NA x.names.length NC) x.names) := Lib.hid (Hnv.out.below (hb3.mono (by omega)))
      have z0 : W3.cell? ⟨w.heap.size, 0, none⟩ = some (.slice none 0 0) := by simp [World.cell?, hR3]
      have z1 : W3.cell? ⟨w.heap.size, 1, none⟩ = some (.slice none 0 0) := by simp [World.cell?, hR3]
      have zf : W3.frozen? ⟨w.heap.size, 0, none⟩ = false := by simp [World.frozen?, hR3]
      have zg : W3.frozen? ⟨w.heap.size, 1, none⟩ = false := by simp [World.frozen?, hR3]
      have x0 : W3.cell? ⟨wr.heap.size, 0, none⟩ = some (.int .u8 x.kind) := by simp [World.cell?, hX3]
      have x1 : W3.cell? ⟨wr.heap.size, 1, none⟩ = some (.int .i64 x.at_) := by simp [World.cell?, hX3]
      have hsz4 : wr.heap.size < W3.heap.size := World.heap_lt hX3
      have HX := Lib.hid hX3
      have HR3 := Lib.hid hR3
      have HW3 := Lib.hid hW3
      clear hb3 hX3 hR3 hW3 k0 k1 k2 k3 k4 Hnv Hw Rr R2
      rw [HW3.out]
      clear HW3
      by_cases h3 : x.kind = 3
      · have b3 : (x.kind == 3) = true := k_bool h3
        have H3 := Lib.hid h3
        clear h3
        rcases List.eq_nil_or_concat st with hst | ⟨st', o, hst⟩
        · subst hst
          have HE : Hid (refParse s = .error (x.at_, 4)) := Lib.hid (HF'.out.trans (runR_stop hrun.out.run Hx1.out (by unfold stepR; rw [if_pos H3.out]; rfl)))
          clear HT HS HX
          go_wp2
          go_region
          go_wp2
          refine bodyPost_ret (v := .tuple #[.agg #[.slice none 0 0, .slice none 0 0], .int .i64 x.at_, .int .i64 4]) (by simp [results, Tryd.results10, go_sem, z0, z1]) rfl ?_
          rw [HE.out]
          exact ⟨rfl, by repeat (first | exact HB3.out | refine Below.drew ?_ | refine Below.setCell ?_ (by simp) _)⟩
        · rw [List.concat_eq_append] at hst
          subst hst
          have hlo : Hid ((st' ++ [o]).getLast? = some o) := Lib.hid (by simp)
          obtain ⟨sg, sc, hse, hsb, hsl, so0, so1, so2⟩ := stack_last HS.out
          obtain ⟨on0, on1⟩ := Hinv.out.opens o (by simp)
          dsimp only at on1
          injection hse with hse1 hse2 hse3
          subst hse1 hse3
          have hcap : st'.length + 1 ≤ svc := by have := (own_cap HS.out).1; simpa using this
          have hsl3 : st'.length + 1 ≤ 16 := by simpa using i4
          have e1 : (st'.length : Int) + 1 - 1 = (st'.length : Int) := by omega
          rw [show (st' ++ [o]).length = st'.length + 1 by simp] at HS
          clear hse2
          by_cases ho : o.kind = 2
          · have ob : (o.kind != 2) = false := by simp [ho]
            have Ho := Lib.hid ho
            clear ho
            cases he : o.els with
            | true =>
              rw [he] at so2
              have He := Lib.hid he
              clear he
              have HE : Hid (refParse s = .error (x.at_, 4)) := Lib.hid (HF'.out.trans (runR_stop hrun.out.run Hx1.out (by unfold stepR; rw [if_pos H3.out]; dsimp only; rw [hlo.out]; dsimp only; rw [if_pos (.inr He.out)])))
              clear HT HS HX
              go_wp2
              go_region
              go_wp2
              refine bodyPost_ret (v := .tuple #[.agg #[.slice none 0 0, .slice none 0 0], .int .i64 x.at_, .int .i64 4]) (by simp [results, Tryd.results10, go_sem, z0, z1]) rfl ?_
              rw [HE.out]
              exact ⟨rfl, by repeat (first | exact HB3.out | refine Below.drew ?_ | refine Below.setCell ?_ (by simp) _)⟩
            | false =>
              rw [he] at so2
              have He := Lib.hid he
              obtain ⟨nv, tv, ps, f, hmap, hts⟩ := HT.out
              have hnl : nodes.length = ps.length := by rw [← hmap]; simp
              obtain ⟨n, hn⟩ := Int.eq_ofNat_of_zero_le on0
              have hnp : n < ps.length := by omega
              obtain ⟨g, cap, rfl, hbg, hgl, -⟩ := row_cell hts.row (n * 9 + 0) _ (by rw [flat9 ps n ps[n] (List.getElem?_eq_getElem hnp) 0 (by omega)]; rfl)
              rw [hn] at so0
              obtain ⟨se1, se2, sty⟩ := stack_els HS.out
              have hT0 : W3.cell? ⟨w2.heap.size, 0, none⟩ = some (.slice (some ⟨g, 0, none⟩) ps.length cap) := by have := hts.block; simp [World.cell?, this]
              have hsT : sg ≠ w2.heap.size := by rintro rfl; obtain ⟨c, hc⟩ := sty; have h2 := hts.block; rw [h2] at hc; cases hc
              have Hmap := Lib.hid hmap
              have Hts := Lib.hid hts
              have Hse := Lib.hid se1
              have Hsty := Lib.hid sty
              have Hn := Lib.hid hn
              have hTs : w2.heap.size ≠ sg := fun e => hsT e.symm
              clear hmap hts se1 sty hn he HX on0 on1
              go_upto_region 26 with (fail)
              obtain ⟨W4, hW4⟩ : ∃ W4, W3.setCell ⟨sg, st'.length * 3 + 2, none⟩ (.bool true) = W4 := ⟨_, rfl⟩
              have hg4 := grown_set W3 sg (st'.length * 3 + 2) (.bool true)
              rw [hW4] at hg4 Hse
              rw [hW4]
              have hts4 := Hts.out.other hg4 (fun k e => by cases e; exact ⟨hsb, Hsty.out⟩) (by decide) (by decide) (by decide)
              obtain ⟨⟨u, q1⟩, q2, q3, q4⟩ := hts4.setHas hnp
              rw [Hmap.out] at q3
              have p0 : W4.cell? ⟨w2.heap.size, 0, none⟩ = some (.slice (some ⟨g, 0, none⟩) ps.length cap) := by have := hts4.block; simp [World.cell?, this]
              have p1 : W4.cell? ⟨sg, st'.length * 3, none⟩ = some (.int .i64 n) := by
                obtain ⟨g2, cap2, e, -, -, c2⟩ := row_cell Hse.out (st'.length * 3 + 0) _ (by rw [stack_flat st' _ 0 (by omega)]; rfl)
                injection e with e2 e3 e4
                cases e2
                rw [Nat.add_zero] at c2
                rw [c2]
                show some (Value.int .i64 o.node) = _
                rw [Hn.out]
              have hgs : ∃ c, W4.heap[g]? = some (.cells c 66) := row_type hts4.row g rfl
              have hbel4 : Below w2.heap.size W3 W4 := by rw [← hW4]; exact (Below.refl _ _).setCell (p := ⟨sg, st'.length * 3 + 2, none⟩) hsb _
              have Hst5 := Lib.hid (stack_else Hse.out (grown_set W4 g (n * 9 + 7) (.bool true)) (fun k e => by cases e; exact hgs) (by decide))
              have Htr5 := Lib.hid q3
              have Hb5 := Lib.hid ((HBb.out.trans hbel4).trans ((Below.refl w2.heap.size W4).setCell (p := ⟨g, n * 9 + 7, none⟩) hbg (.bool true)))
              have hnz : (n : Int) < (ps.length : Int) := by omega
              have HRun : Hid (runR r0 (ws.take (k + 1)) = .ok ⟨setHas nodes n, top, st' ++ [{ node := o.node, kind := o.kind, els := true }]⟩) := Lib.hid (by
                rw [runR_next hrun.out.run Hx1.out]
                unfold stepR
                rw [if_pos H3.out]
                dsimp only
                rw [hlo.out]
                dsimp only
                rw [if_neg (by rw [Ho.out, He.out]; simp), Hn.out]
                simp)
              clear so0 so1 so2 z0 z1 zf zg se2 hT0 hg4 hts4 q3 q4 hgs hbel4 Hts Hse Hsty hW4
              go_region
              go_wp2
              go_roundw
              case rel =>
                exact ⟨k + 1, _, by omega, by go_num, Lib.hid ⟨HRun.out, Htr5.out.later ((Below.refl _ _).drew), by simpa using stack_later Hst5.out ((Below.refl _ _).drew), Hb5.out.drew⟩⟩
              case measure => simp [intOf]; omega
          · have ob : (o.kind != 2) = true := by simpa using ho
            have Ho := Lib.hid ho
            clear ho
            have HE : Hid (refParse s = .error (x.at_, 4)) := Lib.hid (HF'.out.trans (runR_stop hrun.out.run Hx1.out (by unfold stepR; rw [if_pos H3.out]; dsimp only; rw [hlo.out]; dsimp only; rw [if_pos (.inl Ho.out)])))
            clear HT HS HX
            go_wp2
            go_region
            go_wp2
            refine bodyPost_ret (v := .tuple #[.agg #[.slice none 0 0, .slice none 0 0], .int .i64 x.at_, .int .i64 4]) (by simp [results, Tryd.results10, go_sem, z0, z1]) rfl ?_
            rw [HE.out]
            exact ⟨rfl, by repeat (first | exact HB3.out | refine Below.drew ?_ | refine Below.setCell ?_ (by simp) _)⟩
      · have b3 : (x.kind == 3) = false := k_false h3
        have H3 := Lib.hid h3
        clear h3
        by_cases h5 : x.kind = 5
        · have b5 : (x.kind == 5) = true := k_bool h5
          have H5 := Lib.hid h5
          clear h5
          rcases List.eq_nil_or_concat st with hst | ⟨st', o, hst⟩
          · subst hst
            have HE : Hid (refParse s = .error (x.at_, 4)) := Lib.hid (HF'.out.trans (runR_stop hrun.out.run Hx1.out (by unfold stepR; rw [if_neg H3.out, if_pos H5.out]; rfl)))
            clear HT HS HX
            go_wp2
            go_region
            go_wp2
            refine bodyPost_ret (v := .tuple #[.agg #[.slice none 0 0, .slice none 0 0], .int .i64 x.at_, .int .i64 4]) (by simp [results, Tryd.results10, go_sem, z0, z1]) rfl ?_
            rw [HE.out]
            exact ⟨rfl, by repeat (first | exact HB3.out | refine Below.drew ?_ | refine Below.setCell ?_ (by simp) _)⟩
          · rw [List.concat_eq_append] at hst
            subst hst
            have hlo : Hid ((st' ++ [o]).getLast? = some o) := Lib.hid (by simp)
            obtain ⟨sg, sc, hse, hsb, hsl, so0, so1, so2⟩ := stack_last HS.out
            obtain ⟨on0, on1⟩ := Hinv.out.opens o (by simp)
            dsimp only at on1
            injection hse with hse1 hse2 hse3
            subst hse1 hse3
            have hcap : st'.length + 1 ≤ svc := by have := (own_cap HS.out).1; simpa using this
            have hsl3 : st'.length + 1 ≤ 16 := by simpa using i4
            have e1 : (st'.length : Int) + 1 - 1 = (st'.length : Int) := by omega
            rw [show (st' ++ [o]).length = st'.length + 1 by simp] at HS
            clear hse2
            have HRun : Hid (runR r0 (ws.take (k + 1)) = .ok ⟨nodes, top, st'⟩) := Lib.hid (by
              rw [runR_next hrun.out.run Hx1.out]
              unfold stepR
              rw [if_neg H3.out, if_pos H5.out]
              dsimp only
              rw [hlo.out]
              simp)
            have HS' := Lib.hid (stack_pop HS.out)
            have hc1 : (st'.length : Int) ≤ (svc : Int) := by omega
            clear HS HX z0 z1 zf zg so0 so1 so2 on0 on1
            go_wp2
            go_roundw
            case rel =>
              exact ⟨k + 1, _, by omega, by go_num, Lib.hid ⟨HRun.out, HT.out, HS'.out, HBb.out⟩⟩
            case measure => simp [intOf]; omega
        · have b5 : (x.kind == 5) = false := k_false h5
          have H5 := Lib.hid h5
          clear h5
          obtain ⟨kn, hkn⟩ := Int.eq_ofNat_of_zero_le hx0
          have hkn7 : kn < 7 := by omega
          have hkz : (kn : Int) < 7 := by omega
          have hk3 : Hid (kn ≠ 3) := Lib.hid (fun h => H3.out (by rw [hkn, h]; rfl))
          have hk5 : Hid (kn ≠ 5) := Lib.hid (fun h => H5.out (by rw [hkn, h]; rfl))
          have c3 : ((kn : Int) == 3) = false := by rw [← hkn]; exact b3
          have c5 : ((kn : Int) == 5) = false := by rw [← hkn]; exact b5
          rw [hkn] at x0
          have Hkn := Lib.hid hkn
          obtain ⟨nv, tv, ps, f, hmap, hts⟩ := HT.out
          have hnl : nodes.length = ps.length := by rw [← hmap]; simp
          obtain ⟨LA, LC, rfl⟩ : ∃ A c, nv = .slice A ps.length c := by
            rcases hts.row.2 with ⟨rfl, h0⟩ | ⟨g, cap, cur, rfl, _⟩
            · rw [h0]; exact ⟨_, _, rfl⟩
            · exact ⟨_, _, rfl⟩
          have hT0 : W3.cell? ⟨w2.heap.size, 0, none⟩ = some (.slice LA ps.length LC) := by have := hts.block; simp [World.cell?, this]
          obtain ⟨i0, hi0, hz0, hz1, hz2⟩ := info_parts Tryd.info66
          have Hmap := Lib.hid hmap
          have Hts := Lib.hid hts
          have kb0 : 0 ≤ kindOf kn := by unfold kindOf; repeat' split <;> omega
          have kb1 : kindOf kn ≤ 4 := by unfold kindOf; repeat' split <;> omega
          have kw : IntKind.u8.wrap (kindOf kn) = kindOf kn := by
            show kindOf kn % 256 = kindOf kn
            omega
          have Hcells : Hid (nodeCells ⟨nodeOf x, .slice NA x.names.length NC, .slice none 0 0, .slice none 0 0⟩ = [.int .u8 (kindOf kn), .int .i64 x.at_, .string ⟨x.text.toArray⟩, .bool x.root, .slice NA x.names.length NC, .slice none 0 0, .slice none 0 0, .bool false, .int .u8 0]) := Lib.hid (by unfold nodeCells nodeOf; rw [Hkn.out]; rfl)
          clear hmap hts hx0 hkn b3 b5
          by_cases h2 : kn = 2
          · have d2 : ((kn : Int) == 2) = true := by simp [h2]
            have Hyes : Hid (x.kind = 2 ∨ x.kind = 4) := Lib.hid (.inl (by rw [Hkn.out, h2]; rfl))
            clear h2
            by_cases hd : 16 ≤ st.length
            · have dd : decide ((16 : Int) ≤ (st.length : Int)) = true := by simp; omega
              have Hd := Lib.hid hd
              clear hd hT0
              have HE : Hid (refParse s = .error (x.at_, 3)) := Lib.hid (HF'.out.trans (runR_stop hrun.out.run Hx1.out (by unfold stepR; rw [if_neg H3.out, if_neg H5.out, if_pos ⟨Hyes.out, Hd.out⟩])))
              clear HT HS HX
              go_wp2
              go_region
              go_wp2
              refine bodyPost_ret (v := .tuple #[.agg #[.slice none 0 0, .slice none 0 0], .int .i64 x.at_, .int .i64 3]) (by simp [results, Tryd.results10, go_sem, z0, z1]) rfl ?_
              rw [HE.out]
              exact ⟨rfl, by repeat (first | exact HB3.out | refine Below.drew ?_ | refine Below.setCell ?_ (by simp) _)⟩
            · have dd : decide ((16 : Int) ≤ (st.length : Int)) = false := by simp; omega
              have hdeep : Hid (¬ 16 ≤ st.length) := Lib.hid hd
              have hst16 : st.length < 16 := by omega
              clear hd z0 z1 zf zg
              have hTW3 : w2.heap.size < W3.heap.size := by omega
              go_upto_region 18 with (fail)
              obtain ⟨W5, hW5⟩ : ∃ W5, W3.alloc (.cells #[.int .i64 0, .int .i64 1, .int .i64 2, .int .i64 0, .int .i64 3, .int .i64 0, .int .i64 4] 3) = W5 := ⟨_, rfl⟩
              have hb5 : Below W3.heap.size W3 W5 := by rw [← hW5]; exact (Below.refl _ _).alloc (Nat.le_refl _) _
              have hK5 : W5.heap[W3.heap.size]? = some (.cells #[.int .i64 0, .int .i64 1, .int .i64 2, .int .i64 0, .int .i64 3, .int .i64 0, .int .i64 4] 3) := by rw [← hW5]; exact World.alloc_heap_new _ _
              rw [hW5]
              have Hts5 := Lib.hid (Hts.out.later hb5)
              have HS5 := Lib.hid (stack_later HS.out hb5)
              have HBb5 : Hid (Below w2.heap.size w2 W5) := Lib.hid (HBb.out.trans (hb5.mono (by omega)))
              have HNv5 := Lib.hid (HNv.out.below (hb5.mono (by omega)))
              have HX5 := Lib.hid (box_later HX.out hb5)
              have hTl5 : w2.heap.size < W5.heap.size := by have := hb5.size; omega
              have hXl5 : wr.heap.size < W5.heap.size := World.heap_lt HX5.out
              have hKl5 : W3.heap.size < W5.heap.size := World.heap_lt hK5
              have t0 : W5.cell? ⟨w2.heap.size, 0, none⟩ = some (.slice LA ps.length LC) := by have := Hts5.out.block; simp [World.cell?, this]
              have y0 : W5.cell? ⟨wr.heap.size, 0, none⟩ = some (.int .u8 kn) := by have := HX5.out; simp [World.cell?, this, Hkn.out]
              have y1 : W5.cell? ⟨wr.heap.size, 1, none⟩ = some (.int .i64 x.at_) := by have := HX5.out; simp [World.cell?, this]
              have y2 : W5.cell? ⟨wr.heap.size, 2, none⟩ = some (.string ⟨x.text.toArray⟩) := by have := HX5.out; simp [World.cell?, this]
              have y3 : W5.cell? ⟨wr.heap.size, 3, none⟩ = some (.bool x.root) := by have := HX5.out; simp [World.cell?, this]
              have y4 : W5.cell? ⟨wr.heap.size, 4, none⟩ = some (.slice NA x.names.length NC) := by have := HX5.out; simp [World.cell?, this]
              have kk : W5.cell? ⟨W3.heap.size, kn, none⟩ = some (.int .i64 (kindOf kn)) := by
                have hc : (#[.int .i64 0, .int .i64 1, .int .i64 2, .int .i64 0, .int .i64 3, .int .i64 0, .int .i64 4] : Array Value)[kn]? = some (.int .i64 (kindOf kn)) := by
                  have : kn = 0 ∨ kn = 1 ∨ kn = 2 ∨ kn = 3 ∨ kn = 4 ∨ kn = 5 ∨ kn = 6 := by omega
                  rcases this with h | h | h | h | h | h | h <;> subst h <;> first | rfl | (exact absurd rfl hk3.out) | (exact absurd rfl hk5.out)
                simp only [World.cell?, hK5]
                exact hc
              have HK5 := Lib.hid hK5
              clear hb5 hK5 hW5 Hts HS HBb HNv HX
              refine start_ (n := 19) (S := fun w' => w'.cell? ⟨w2.heap.size, 0, none⟩ = some (.slice LA ps.length LC) ∧ w'.cell? ⟨wr.heap.size, 0, none⟩ = some (.int .u8 kn) ∧ w'.cell? ⟨wr.heap.size, 1, none⟩ = some (.int .i64 x.at_) ∧ w'.cell? ⟨wr.heap.size, 2, none⟩ = some (.string ⟨x.text.toArray⟩) ∧ w'.cell? ⟨wr.heap.size, 3, none⟩ = some (.bool x.root) ∧ w'.cell? ⟨wr.heap.size, 4, none⟩ = some (.slice NA x.names.length NC) ∧ w'.cell? ⟨W3.heap.size, kn, none⟩ = some (.int .i64 (kindOf kn))) (ds := [18]) #[false, false, false, false, false, false, false, false, false, false, false, false, false, false, false, false, false, false, false] (by kernel_rfl) rfl rfl ⟨t0, y0, y1, y2, y3, y4, kk⟩ (fun hHeld => ?_)
              refine pure_ (i := 0) (N := (some 64)) (v := ?_) (a' := ?_) #[true, false, false, false, false, false, false, false, false, false, false, false, false, false, false, false, false, false, false] rfl rfl (by kernel_rfl) (fun _ _ _ h => h) (Or.inl ⟨by rfl, ?_⟩) ?_ ?_
              rotate_left
              · intro w'
                go_simp
                with_reducible rfl
              rotate_left
              · simp only [Act.put, List.setIfInBounds_toArray, List.set_cons_zero, List.set_cons_succ, i64_w, i32_w]
                rfl
              refine take_ (i := 1) (N := (some 65)) (v := ?_) (a' := ?_) #[true, true, false, false, false, false, false, false, false, false, false, false, false, false, false, false, false, false, false] rfl rfl (by kernel_rfl) (fun _ _ _ h => h) (Or.inl ⟨by rfl, ?_⟩) hHeld ?_ ?_
              rotate_left
              · rintro w' ⟨s0, s1, s2, s3, s4, s5, s6⟩
                go_simp
                with_reducible rfl
              rotate_left
              · simp only [Act.put, List.setIfInBounds_toArray, List.set_cons_zero, List.set_cons_succ, i64_w, i32_w]
                rfl
              refine pure_ (i := 2) (N := (some 66)) (v := ?_) (a' := ?_) #[true, true, true, false, false, false, false, false, false, false, false, false, false, false, false, false, false, false, false] rfl rfl (by kernel_rfl) (fun _ _ _ h => h) (Or.inl ⟨by rfl, ?_⟩) ?_ ?_
              rotate_left
              · intro w'
                go_simp
                with_reducible rfl
              rotate_left
              · simp only [Act.put, List.setIfInBounds_toArray, List.set_cons_zero, List.set_cons_succ, i64_w, i32_w]
                rfl
              refine pure_ (i := 3) (N := (some 67)) (v := ?_) (a' := ?_) #[true, true, true, true, false, false, false, false, false, false, false, false, false, false, false, false, false, false, false] rfl rfl (by kernel_rfl) (fun _ _ _ h => h) (Or.inl ⟨by rfl, ?_⟩) ?_ ?_
              rotate_left
              · intro w'
                go_simp
                with_reducible rfl
              rotate_left
              · simp only [Act.put, List.setIfInBounds_toArray, List.set_cons_zero, List.set_cons_succ, i64_w, i32_w]
                rfl
              refine take_ (i := 4) (N := (some 68)) (v := ?_) (a' := ?_) #[true, true, true, true, true, false, false, false, false, false, false, false, false, false, false, false, false, false, false] rfl rfl (by kernel_rfl) (fun _ _ _ h => h) (Or.inl ⟨by rfl, ?_⟩) hHeld ?_ ?_
              rotate_left
              · rintro w' ⟨s0, s1, s2, s3, s4, s5, s6⟩
                go_simp
                with_reducible rfl
              rotate_left
              · simp only [Act.put, List.setIfInBounds_toArray, List.set_cons_zero, List.set_cons_succ, i64_w, i32_w]
                rfl
              refine pure_ (i := 5) (N := (some 69)) (v := ?_) (a' := ?_) #[true, true, true, true, true, true, false, false, false, false, false, false, false, false, false, false, false, false, false] rfl rfl (by kernel_rfl) (fun _ _ _ h => h) (Or.inl ⟨by rfl, ?_⟩) ?_ ?_
              rotate_left
              · intro w'
                go_simp
                with_reducible rfl
              rotate_left
              · simp only [Act.put, List.setIfInBounds_toArray, List.set_cons_zero, List.set_cons_succ, i64_w, i32_w]
                rfl
              refine take_ (i := 6) (N := (some 70)) (v := ?_) (a' := ?_) #[true, true, true, true, true, true, true, false, false, false, false, false, false, false, false, false, false, false, false] rfl rfl (by kernel_rfl) (fun _ _ _ h => h) (Or.inl ⟨by rfl, ?_⟩) hHeld ?_ ?_
              rotate_left
              · rintro w' ⟨s0, s1, s2, s3, s4, s5, s6⟩
                go_simp
                with_reducible rfl
              rotate_left
              · simp only [Act.put, List.setIfInBounds_toArray, List.set_cons_zero, List.set_cons_succ, i64_w, i32_w]
                rfl
              refine pure_ (i := 7) (N := (some 71)) (v := ?_) (a' := ?_) #[true, true, true, true, true, true, true, true, false, false, false, false, false, false, false, false, false, false, false] rfl rfl (by kernel_rfl) (fun _ _ _ h => h) (Or.inl ⟨by rfl, ?_⟩) ?_ ?_
              rotate_left
              · intro w'
                go_simp
                with_reducible rfl
              rotate_left
              · simp only [Act.put, List.setIfInBounds_toArray, List.set_cons_zero, List.set_cons_succ, i64_w, i32_w]
                rfl
              refine pure_ (i := 8) (N := (some 72)) (v := ?_) (a' := ?_) #[true, true, true, true, true, true, true, true, true, false, false, false, false, false, false, false, false, false, false] rfl rfl (by kernel_rfl) (fun _ _ _ h => h) (Or.inl ⟨by rfl, ?_⟩) ?_ ?_
              rotate_left
              · intro w'
                go_simp
                with_reducible rfl
              rotate_left
              · simp only [Act.put, List.setIfInBounds_toArray, List.set_cons_zero, List.set_cons_succ, i64_w, i32_w]
                rfl
              refine take_ (i := 9) (N := (some 73)) (v := ?_) (a' := ?_) #[true, true, true, true, true, true, true, true, true, true, false, false, false, false, false, false, false, false, false] rfl rfl (by kernel_rfl) (fun _ _ _ h => h) (Or.inl ⟨by rfl, ?_⟩) hHeld ?_ ?_
              rotate_left
              · rintro w' ⟨s0, s1, s2, s3, s4, s5, s6⟩
                go_simp
                with_reducible rfl
              rotate_left
              · simp only [Act.put, List.setIfInBounds_toArray, List.set_cons_zero, List.set_cons_succ, i64_w, i32_w]
                rfl
              refine pure_ (i := 10) (N := (some 74)) (v := ?_) (a' := ?_) #[true, true, true, true, true, true, true, true, true, true, true, false, false, false, false, false, false, false, false] rfl rfl (by kernel_rfl) (fun _ _ _ h => h) (Or.inl ⟨by rfl, ?_⟩) ?_ ?_
              rotate_left
              · intro w'
                go_simp
                with_reducible rfl
              rotate_left
              · simp only [Act.put, List.setIfInBounds_toArray, List.set_cons_zero, List.set_cons_succ, i64_w, i32_w]
                rfl
              refine take_ (i := 11) (N := (some 75)) (v := ?_) (a' := ?_) #[true, true, true, true, true, true, true, true, true, true, true, true, false, false, false, false, false, false, false] rfl rfl (by kernel_rfl) (fun _ _ _ h => h) (Or.inl ⟨by rfl, ?_⟩) hHeld ?_ ?_
              rotate_left
              · rintro w' ⟨s0, s1, s2, s3, s4, s5, s6⟩
                go_simp
                with_reducible rfl
              rotate_left
              · simp only [Act.put, List.setIfInBounds_toArray, List.set_cons_zero, List.set_cons_succ, i64_w, i32_w]
                rfl
              refine pure_ (i := 12) (N := (some 76)) (v := ?_) (a' := ?_) #[true, true, true, true, true, true, true, true, true, true, true, true, true, false, false, false, false, false, false] rfl rfl (by kernel_rfl) (fun _ _ _ h => h) (Or.inl ⟨by rfl, ?_⟩) ?_ ?_
              rotate_left
              · intro w'
                go_simp
                with_reducible rfl
              rotate_left
              · simp only [Act.put, List.setIfInBounds_toArray, List.set_cons_zero, List.set_cons_succ, i64_w, i32_w]
                rfl
              refine take_ (i := 13) (N := (some 77)) (v := ?_) (a' := ?_) #[true, true, true, true, true, true, true, true, true, true, true, true, true, true, false, false, false, false, false] rfl rfl (by kernel_rfl) (fun _ _ _ h => h) (Or.inl ⟨by rfl, ?_⟩) hHeld ?_ ?_
              rotate_left
              · rintro w' ⟨s0, s1, s2, s3, s4, s5, s6⟩
                go_simp
                with_reducible rfl
              rotate_left
              · simp only [Act.put, List.setIfInBounds_toArray, List.set_cons_zero, List.set_cons_succ, i64_w, i32_w]
                rfl
              refine pure_ (i := 14) (N := (some 78)) (v := ?_) (a' := ?_) #[true, true, true, true, true, true, true, true, true, true, true, true, true, true, true, false, false, false, false] rfl rfl (by kernel_rfl) (fun _ _ _ h => h) (Or.inl ⟨by rfl, ?_⟩) ?_ ?_
              rotate_left
              · intro w'
                go_simp
                with_reducible rfl
              rotate_left
              · simp only [Act.put, List.setIfInBounds_toArray, List.set_cons_zero, List.set_cons_succ, i64_w, i32_w]
                rfl
              refine one_ (i := 15) (N := (some 79)) #[true, true, true, true, true, true, true, true, true, true, true, true, true, true, true, true, false, false, false] rfl rfl (by kernel_rfl) (by decide) (fun K hK => ?_)
              refine value_ (w1 := ?_) (v := ?_) (by rfl) rfl ?_ ?_
              rotate_left 2
              · go_simp
                constructor
                · rfl
                · rfl
              obtain ⟨s0, s1, s2, s3, s4, s5, s6⟩ := hHeld
              refine hK.out _ _ ⟨(World.cell?_alloc_past _ _ _ hTl5).trans s0, (World.cell?_alloc_past _ _ _ hXl5).trans s1, (World.cell?_alloc_past _ _ _ hXl5).trans s2, (World.cell?_alloc_past _ _ _ hXl5).trans s3, (World.cell?_alloc_past _ _ _ hXl5).trans s4, (World.cell?_alloc_past _ _ _ hXl5).trans s5, (World.cell?_alloc_past _ _ _ hKl5).trans s6⟩ (fun hHeld => ?_)
              clear hK K s0 s1 s2 s3 s4 s5 s6
              refine norm_ (a' := ?_) ?_ ?_
              rotate_left
              · show Act.put _ (some 79) _ = _
                simp only [Act.put, List.setIfInBounds_toArray, List.set_cons_zero, List.set_cons_succ, i64_w, i32_w]
                rfl
              refine one_ (i := 16) (N := (some 80)) #[true, true, true, true, true, true, true, true, true, true, true, true, true, true, true, true, true, false, false] rfl rfl (by kernel_rfl) (by decide) (fun K hK => ?_)
              refine step_grow rfl _ _ 23 rfl w2.heap.size 66 i0 _ 9 120 Tryd.underlying23 hi0 hz0 hz1 hz2 rfl (by decide) (.slice LA ps.length LC) ps.length (ps.flatMap nodeCells) rfl (World.ownsRow.alloc Hts5.out.row _) ⟨_, 0, none⟩ 1 1 (nodeCells ⟨nodeOf x, .slice NA x.names.length NC, .slice none 0 0, .slice none 0 0⟩) rfl rfl (by rw [Hcells.out]; exact cells_new _ _ _ _ (by simp)) (by simp [nodeCells, Value.oneCell', nodeOf]) (by unfold maxLen; omega) (by omega) (by simp; omega) ?_
              intro v' w6 hown' hgrow
              obtain ⟨g', cap', rfl⟩ := ownsRow_succ hown'
              have hgw := grown_two (World.grownBy_alloc W5 _ none) (grown_drew hgrow)
              have hty : ∀ q, (Value.slice LA ps.length LC).ownBlock = some q → ∃ c, W5.heap[q]? = some (.cells c 66) := row_type Hts5.out.row
              have hnT : some w2.heap.size ≠ (Value.slice LA ps.length LC).ownBlock := fun e => by obtain ⟨c, h⟩ := hty _ e.symm; have h2 := Hts5.out.block; rw [h2] at h; cases h
              have hnX : some wr.heap.size ≠ (Value.slice LA ps.length LC).ownBlock := fun e => by obtain ⟨c, h⟩ := hty _ e.symm; have h2 := HX5.out; rw [h2] at h; cases h
              have hnK : some W3.heap.size ≠ (Value.slice LA ps.length LC).ownBlock := fun e => by obtain ⟨c, h⟩ := hty _ e.symm; have h2 := HK5.out; rw [h2] at h; cases h
              obtain ⟨h1, h2, h3⟩ := Hts5.out.addNode (p := ⟨nodeOf x, .slice NA x.names.length NC, .slice none 0 0, .slice none 0 0⟩) HNv5.out rfl rfl rfl rfl hown' hgw
              rw [Hmap.out] at h2
              have hTX : wr.heap.size ≠ w2.heap.size := by omega
              have hX7 := h3.blk HX5.out hTX (by decide) (by decide)
              have hS7 : StackAt _ w2.heap.size (.slice svA st.length svc) st := h3.row HS5.out Hts5.out.block (by decide) (by decide) (by decide)
              have hB7 := HBb5.out.trans h3.below
              have H2 := Lib.hid h2
              have HX7 := Lib.hid hX7
              have HS7 := Lib.hid hS7
              have HB7 := Lib.hid hB7
              obtain ⟨s0, s1, s2, s3, s4, s5, s6⟩ := hHeld
              refine hK.out _ _ ⟨hgrow.cell s0 hnT, hgrow.cell s1 hnX, hgrow.cell s2 hnX, hgrow.cell s3 hnX, hgrow.cell s4 hnX, hgrow.cell s5 hnX, hgrow.cell s6 hnK⟩ (fun hHeld => ?_)
              have g2 : w6.frozen? ⟨w2.heap.size, 0, none⟩ = false := by simp [World.frozen?, h1]
              clear hK K s0 s1 s2 s3 s4 s5 s6 h1 h2 h3 hX7 hS7 hB7 hown' hgrow hgw hty hi0 hz0 hz1 hz2 hnT hnX hnK t0 y0 y1 y2 y3 y4 kk Hts5 HS5 HBb5 HNv5 HX5 HK5
              refine norm_ (a' := ?_) ?_ ?_
              rotate_left
              · show Act.put _ (some 80) _ = _
                simp only [Act.put, List.setIfInBounds_toArray, List.set_cons_zero, List.set_cons_succ, i64_w, i32_w]
                rfl
              refine pure_ (i := 17) (N := (some 81)) (v := ?_) (a' := ?_) #[true, true, true, true, true, true, true, true, true, true, true, true, true, true, true, true, true, true, false] rfl rfl (by kernel_rfl) (fun _ _ _ h => h) (Or.inl ⟨by rfl, ?_⟩) ?_ ?_
              rotate_left
              · intro w'
                go_simp
                with_reducible rfl
              rotate_left
              · simp only [Act.put, List.setIfInBounds_toArray, List.set_cons_zero, List.set_cons_succ, i64_w, i32_w]
                rfl
              refine last_ (i := 18) (N := none) #[true, true, true, true, true, true, true, true, true, true, true, true, true, true, true, true, true, true, true] rfl rfl (by kernel_rfl) (by decide) (fun K hK => ?_)
              refine skip_ (w1 := ?_) (by rfl) rfl ?_ ?_
              rotate_left
              · go_simp
                rfl
              refine hK.out _ _ ?_
              clear hK K hHeld g2
              refine done_ (by kernel_rfl) ?_
              obtain ⟨W7, hW7⟩ : ∃ W7, w6.setCell ⟨w2.heap.size, 0, none⟩ (.slice (some ⟨g', 0, none⟩) (ps.length + 1) cap') = W7 := ⟨_, rfl⟩
              rw [hW7] at H2 HX7 HS7 HB7 ⊢
              clear hW7
              have HA := Lib.hid (add_any w2.heap.size w2.heap.size w2.heap.size w2.heap.size (nodes ++ [nodeOf x]) top st (.slice svA st.length svc) ps.length W7 H2.out HS7.out (by omega)
                (fun y hy => by
                  rcases List.mem_append.1 hy with hy | hy
                  · have := Hinv.out.lists y hy; omega
                  · simp at hy
                    subst hy
                    exact ⟨Nat.zero_le _, Nat.zero_le _⟩) (by omega)
                (fun o ho => by
                  have := Hinv.out.opens o (List.mem_of_getLast? ho)
                  dsimp only at this
                  rw [List.length_append, List.length_singleton]
                  omega) (by simp; omega))
              have HT7 : Hid (∃ cs, W7.heap[w2.heap.size]? = some (.cells cs 26)) := Lib.hid (by obtain ⟨_, _, _, _, _, h⟩ := H2.out; exact ⟨_, h.block⟩)
              clear H2
              go_wp2_with fail
              refine (HA.out).mono ?_
              rintro e w8 ⟨rfl, ht8, hf8⟩
              have hX8 := hf8.blk HX7.out hTX (by decide) (by decide)
              have hS8 : StackAt w8 w2.heap.size (.slice svA st.length svc) st := by
                obtain ⟨cs, h⟩ := HT7.out
                exact hf8.row HS7.out h (by decide) (by decide) (by decide)
              have Ht8 := Lib.hid ht8
              have HX8 := Lib.hid hX8
              have HS8 := Lib.hid hS8
              have HB8 := Lib.hid (HB7.out.trans hf8.below)
              have y0 : w8.cell? ⟨wr.heap.size, 0, none⟩ = some (.int .u8 kn) := by have := HX8.out; simp [World.cell?, this, Hkn.out]
              have hsz8 : w2.heap.size ≤ w8.heap.size := HB8.out.size
              clear ht8 hX8 hS8 hf8 HA HX7 HS7 HB7 HT7 HX8
              obtain ⟨i1', hi1, hy0, hy1, hy2⟩ := info_parts Tryd.info78
              have HRun : Hid (runR r0 (ws.take (k + 1)) = .ok ⟨(addF (nodes ++ [nodeOf x]) top st ps.length).1, (addF (nodes ++ [nodeOf x]) top st ps.length).2, st ++ [⟨ps.length, kn, false⟩]⟩) := Lib.hid (by
                rw [runR_next hrun.out.run Hx1.out]
                unfold stepR
                rw [if_neg H3.out, if_neg H5.out, if_neg (fun h => hdeep.out h.2), if_pos Hyes.out, hnl, Hkn.out])
              have y1 : w8.cell? ⟨wr.heap.size, 0, none⟩ = some (.int .u8 kn) := y0
              go_wp2_with (at_builtin; refine halt ?_)
              refine Halted.mk' ?_
              refine wpList_append_own _ rfl _ _ 73 rfl w2.heap.size 78 i1' _ 3 24 Tryd.underlying73 hi1 hy0 hy1 hy2 rfl (by decide) (.slice svA st.length svc) st.length (st.flatMap openCells) rfl (World.ownsRow.alloc HS8.out _) ⟨_, 0, none⟩ 1 1 (openCells ⟨ps.length, kn, false⟩) rfl rfl (cells_new _ (openCells ⟨ps.length, kn, false⟩) _ _ rfl) ?_ ?_ ?_ ?_ ?_
              · simp [openCells, Value.oneCell']
              · unfold maxLen; omega
              · omega
              · simp; omega
              intro v' w9 hown' hgrow _
              obtain ⟨g9, cap9, rfl⟩ := ownsRow_succ hown'
              have hgw := grown_two (World.grownBy_alloc w8 _ none) hgrow
              have hty : ∀ q, (Value.slice svA st.length svc).ownBlock = some q → ∃ c, w8.heap[q]? = some (.cells c 78) := row_type HS8.out
              have hlow : ∀ q, (Value.slice svA st.length svc).ownBlock = some q → w2.heap.size ≤ q := row_base HS8.out
              have Ht9 := Lib.hid (Ht8.out.other hgw (fun q e => ⟨hlow q e, hty q e⟩) (by decide) (by decide) (by decide))
              have HS9 : Hid (StackAt w9 w2.heap.size (.slice (some ⟨g9, 0, none⟩) (st.length + 1) cap9) (st ++ [⟨ps.length, kn, false⟩])) := Lib.hid (by simpa [StackAt] using hown')
              have HB9 : Hid (Below w2.heap.size w2 w9) := Lib.hid (HB8.out.trans ((Below.refl _ _).grown hgw hsz8 hlow))
              clear hown' hgrow hgw hty hlow hi1 hy0 hy1 hy2 y0 y1
              go_wp2
              go_roundw
              case rel =>
                exact ⟨k + 1, _, by omega, by go_num, Lib.hid ⟨HRun.out, Ht9.out, by simpa using HS9.out, HB9.out⟩⟩
              case measure => simp [intOf]; omega
          by_cases h4 : kn = 4
          · have d2 : ((kn : Int) == 2) = false := by simp; omega
            have d4 : ((kn : Int) == 4) = true := by simp [h4]
            have Hyes : Hid (x.kind = 2 ∨ x.kind = 4) := Lib.hid (.inr (by rw [Hkn.out, h4]; rfl))
            clear h2 h4
            by_cases hd : 16 ≤ st.length
            · have dd : decide ((16 : Int) ≤ (st.length : Int)) = true := by simp; omega
              have Hd := Lib.hid hd
              clear hd hT0
              have HE : Hid (refParse s = .error (x.at_, 3)) := Lib.hid (HF'.out.trans (runR_stop hrun.out.run Hx1.out (by unfold stepR; rw [if_neg H3.out, if_neg H5.out, if_pos ⟨Hyes.out, Hd.out⟩])))
              clear HT HS HX
              go_wp2
              go_region
              go_wp2
              refine bodyPost_ret (v := .tuple #[.agg #[.slice none 0 0, .slice none 0 0], .int .i64 x.at_, .int .i64 3]) (by simp [results, Tryd.results10, go_sem, z0, z1]) rfl ?_
              rw [HE.out]
              exact ⟨rfl, by repeat (first | exact HB3.out | refine Below.drew ?_ | refine Below.setCell ?_ (by simp) _)⟩
            · have dd : decide ((16 : Int) ≤ (st.length : Int)) = false := by simp; omega
              have hdeep : Hid (¬ 16 ≤ st.length) := Lib.hid hd
              have hst16 : st.length < 16 := by omega
              clear hd z0 z1 zf zg
              have hTW3 : w2.heap.size < W3.heap.size := by omega
              go_upto_region 18 with (fail)
              obtain ⟨W5, hW5⟩ : ∃ W5, W3.alloc (.cells #[.int .i64 0, .int .i64 1, .int .i64 2, .int .i64 0, .int .i64 3, .int .i64 0, .int .i64 4] 3) = W5 := ⟨_, rfl⟩
              have hb5 : Below W3.heap.size W3 W5 := by rw [← hW5]; exact (Below.refl _ _).alloc (Nat.le_refl _) _
              have hK5 : W5.heap[W3.heap.size]? = some (.cells #[.int .i64 0, .int .i64 1, .int .i64 2, .int .i64 0, .int .i64 3, .int .i64 0, .int .i64 4] 3) := by rw [← hW5]; exact World.alloc_heap_new _ _
              rw [hW5]
              have Hts5 := Lib.hid (Hts.out.later hb5)
              have HS5 := Lib.hid (stack_later HS.out hb5)
              have HBb5 : Hid (Below w2.heap.size w2 W5) := Lib.hid (HBb.out.trans (hb5.mono (by omega)))
              have HNv5 := Lib.hid (HNv.out.below (hb5.mono (by omega)))
              have HX5 := Lib.hid (box_later HX.out hb5)
              have hTl5 : w2.heap.size < W5.heap.size := by have := hb5.size; omega
              have hXl5 : wr.heap.size < W5.heap.size := World.heap_lt HX5.out
              have hKl5 : W3.heap.size < W5.heap.size := World.heap_lt hK5
              have t0 : W5.cell? ⟨w2.heap.size, 0, none⟩ = some (.slice LA ps.length LC) := by have := Hts5.out.block; simp [World.cell?, this]
              have y0 : W5.cell? ⟨wr.heap.size, 0, none⟩ = some (.int .u8 kn) := by have := HX5.out; simp [World.cell?, this, Hkn.out]
              have y1 : W5.cell? ⟨wr.heap.size, 1, none⟩ = some (.int .i64 x.at_) := by have := HX5.out; simp [World.cell?, this]
              have y2 : W5.cell? ⟨wr.heap.size, 2, none⟩ = some (.string ⟨x.text.toArray⟩) := by have := HX5.out; simp [World.cell?, this]
              have y3 : W5.cell? ⟨wr.heap.size, 3, none⟩ = some (.bool x.root) := by have := HX5.out; simp [World.cell?, this]
              have y4 : W5.cell? ⟨wr.heap.size, 4, none⟩ = some (.slice NA x.names.length NC) := by have := HX5.out; simp [World.cell?, this]
              have kk : W5.cell? ⟨W3.heap.size, kn, none⟩ = some (.int .i64 (kindOf kn)) := by
                have hc : (#[.int .i64 0, .int .i64 1, .int .i64 2, .int .i64 0, .int .i64 3, .int .i64 0, .int .i64 4] : Array Value)[kn]? = some (.int .i64 (kindOf kn)) := by
                  have : kn = 0 ∨ kn = 1 ∨ kn = 2 ∨ kn = 3 ∨ kn = 4 ∨ kn = 5 ∨ kn = 6 := by omega
                  rcases this with h | h | h | h | h | h | h <;> subst h <;> first | rfl | (exact absurd rfl hk3.out) | (exact absurd rfl hk5.out)
                simp only [World.cell?, hK5]
                exact hc
              have HK5 := Lib.hid hK5
              clear hb5 hK5 hW5 Hts HS HBb HNv HX
              refine start_ (n := 19) (S := fun w' => w'.cell? ⟨w2.heap.size, 0, none⟩ = some (.slice LA ps.length LC) ∧ w'.cell? ⟨wr.heap.size, 0, none⟩ = some (.int .u8 kn) ∧ w'.cell? ⟨wr.heap.size, 1, none⟩ = some (.int .i64 x.at_) ∧ w'.cell? ⟨wr.heap.size, 2, none⟩ = some (.string ⟨x.text.toArray⟩) ∧ w'.cell? ⟨wr.heap.size, 3, none⟩ = some (.bool x.root) ∧ w'.cell? ⟨wr.heap.size, 4, none⟩ = some (.slice NA x.names.length NC) ∧ w'.cell? ⟨W3.heap.size, kn, none⟩ = some (.int .i64 (kindOf kn))) (ds := [18]) #[false, false, false, false, false, false, false, false, false, false, false, false, false, false, false, false, false, false, false] (by kernel_rfl) rfl rfl ⟨t0, y0, y1, y2, y3, y4, kk⟩ (fun hHeld => ?_)
              refine pure_ (i := 0) (N := (some 64)) (v := ?_) (a' := ?_) #[true, false, false, false, false, false, false, false, false, false, false, false, false, false, false, false, false, false, false] rfl rfl (by kernel_rfl) (fun _ _ _ h => h) (Or.inl ⟨by rfl, ?_⟩) ?_ ?_
              rotate_left
              · intro w'
                go_simp
                with_reducible rfl
              rotate_left
              · simp only [Act.put, List.setIfInBounds_toArray, List.set_cons_zero, List.set_cons_succ, i64_w, i32_w]
                rfl
              refine take_ (i := 1) (N := (some 65)) (v := ?_) (a' := ?_) #[true, true, false, false, false, false, false, false, false, false, false, false, false, false, false, false, false, false, false] rfl rfl (by kernel_rfl) (fun _ _ _ h => h) (Or.inl ⟨by rfl, ?_⟩) hHeld ?_ ?_
              rotate_left
              · rintro w' ⟨s0, s1, s2, s3, s4, s5, s6⟩
                go_simp
                with_reducible rfl
              rotate_left
              · simp only [Act.put, List.setIfInBounds_toArray, List.set_cons_zero, List.set_cons_succ, i64_w, i32_w]
                rfl
              refine pure_ (i := 2) (N := (some 66)) (v := ?_) (a' := ?_) #[true, true, true, false, false, false, false, false, false, false, false, false, false, false, false, false, false, false, false] rfl rfl (by kernel_rfl) (fun _ _ _ h => h) (Or.inl ⟨by rfl, ?_⟩) ?_ ?_
              rotate_left
              · intro w'
                go_simp
                with_reducible rfl
              rotate_left
              · simp only [Act.put, List.setIfInBounds_toArray, List.set_cons_zero, List.set_cons_succ, i64_w, i32_w]
                rfl
              refine pure_ (i := 3) (N := (some 67)) (v := ?_) (a' := ?_) #[true, true, true, true, false, false, false, false, false, false, false, false, false, false, false, false, false, false, false] rfl rfl (by kernel_rfl) (fun _ _ _ h => h) (Or.inl ⟨by rfl, ?_⟩) ?_ ?_
              rotate_left
              · intro w'
                go_simp
                with_reducible rfl
              rotate_left
              · simp only [Act.put, List.setIfInBounds_toArray, List.set_cons_zero, List.set_cons_succ, i64_w, i32_w]
                rfl
              refine take_ (i := 4) (N := (some 68)) (v := ?_) (a' := ?_) #[true, true, true, true, true, false, false, false, false, false, false, false, false, false, false, false, false, false, false] rfl rfl (by kernel_rfl) (fun _ _ _ h => h) (Or.inl ⟨by rfl, ?_⟩) hHeld ?_ ?_
              rotate_left
              · rintro w' ⟨s0, s1, s2, s3, s4, s5, s6⟩
                go_simp
                with_reducible rfl
              rotate_left
              · simp only [Act.put, List.setIfInBounds_toArray, List.set_cons_zero, List.set_cons_succ, i64_w, i32_w]
                rfl
              refine pure_ (i := 5) (N := (some 69)) (v := ?_) (a' := ?_) #[true, true, true, true, true, true, false, false, false, false, false, false, false, false, false, false, false, false, false] rfl rfl (by kernel_rfl) (fun _ _ _ h => h) (Or.inl ⟨by rfl, ?_⟩) ?_ ?_
              rotate_left
              · intro w'
                go_simp
                with_reducible rfl
              rotate_left
              · simp only [Act.put, List.setIfInBounds_toArray, List.set_cons_zero, List.set_cons_succ, i64_w, i32_w]
                rfl
              refine take_ (i := 6) (N := (some 70)) (v := ?_) (a' := ?_) #[true, true, true, true, true, true, true, false, false, false, false, false, false, false, false, false, false, false, false] rfl rfl (by kernel_rfl) (fun _ _ _ h => h) (Or.inl ⟨by rfl, ?_⟩) hHeld ?_ ?_
              rotate_left
              · rintro w' ⟨s0, s1, s2, s3, s4, s5, s6⟩
                go_simp
                with_reducible rfl
              rotate_left
              · simp only [Act.put, List.setIfInBounds_toArray, List.set_cons_zero, List.set_cons_succ, i64_w, i32_w]
                rfl
              refine pure_ (i := 7) (N := (some 71)) (v := ?_) (a' := ?_) #[true, true, true, true, true, true, true, true, false, false, false, false, false, false, false, false, false, false, false] rfl rfl (by kernel_rfl) (fun _ _ _ h => h) (Or.inl ⟨by rfl, ?_⟩) ?_ ?_
              rotate_left
              · intro w'
                go_simp
                with_reducible rfl
              rotate_left
              · simp only [Act.put, List.setIfInBounds_toArray, List.set_cons_zero, List.set_cons_succ, i64_w, i32_w]
                rfl
              refine pure_ (i := 8) (N := (some 72)) (v := ?_) (a' := ?_) #[true, true, true, true, true, true, true, true, true, false, false, false, false, false, false, false, false, false, false] rfl rfl (by kernel_rfl) (fun _ _ _ h => h) (Or.inl ⟨by rfl, ?_⟩) ?_ ?_
              rotate_left
              · intro w'
                go_simp
                with_reducible rfl
              rotate_left
              · simp only [Act.put, List.setIfInBounds_toArray, List.set_cons_zero, List.set_cons_succ, i64_w, i32_w]
                rfl
              refine take_ (i := 9) (N := (some 73)) (v := ?_) (a' := ?_) #[true, true, true, true, true, true, true, true, true, true, false, false, false, false, false, false, false, false, false] rfl rfl (by kernel_rfl) (fun _ _ _ h => h) (Or.inl ⟨by rfl, ?_⟩) hHeld ?_ ?_
              rotate_left
              · rintro w' ⟨s0, s1, s2, s3, s4, s5, s6⟩
                go_simp
                with_reducible rfl
              rotate_left
              · simp only [Act.put, List.setIfInBounds_toArray, List.set_cons_zero, List.set_cons_succ, i64_w, i32_w]
                rfl
              refine pure_ (i := 10) (N := (some 74)) (v := ?_) (a' := ?_) #[true, true, true, true, true, true, true, true, true, true, true, false, false, false, false, false, false, false, false] rfl rfl (by kernel_rfl) (fun _ _ _ h => h) (Or.inl ⟨by rfl, ?_⟩) ?_ ?_
              rotate_left
              · intro w'
                go_simp
                with_reducible rfl
              rotate_left
              · simp only [Act.put, List.setIfInBounds_toArray, List.set_cons_zero, List.set_cons_succ, i64_w, i32_w]
                rfl
              refine take_ (i := 11) (N := (some 75)) (v := ?_) (a' := ?_) #[true, true, true, true, true, true, true, true, true, true, true, true, false, false, false, false, false, false, false] rfl rfl (by kernel_rfl) (fun _ _ _ h => h) (Or.inl ⟨by rfl, ?_⟩) hHeld ?_ ?_
              rotate_left
              · rintro w' ⟨s0, s1, s2, s3, s4, s5, s6⟩
                go_simp
                with_reducible rfl
              rotate_left
              · simp only [Act.put, List.setIfInBounds_toArray, List.set_cons_zero, List.set_cons_succ, i64_w, i32_w]
                rfl
              refine pure_ (i := 12) (N := (some 76)) (v := ?_) (a' := ?_) #[true, true, true, true, true, true, true, true, true, true, true, true, true, false, false, false, false, false, false] rfl rfl (by kernel_rfl) (fun _ _ _ h => h) (Or.inl ⟨by rfl, ?_⟩) ?_ ?_
              rotate_left
              · intro w'
                go_simp
                with_reducible rfl
              rotate_left
              · simp only [Act.put, List.setIfInBounds_toArray, List.set_cons_zero, List.set_cons_succ, i64_w, i32_w]
                rfl
              refine take_ (i := 13) (N := (some 77)) (v := ?_) (a' := ?_) #[true, true, true, true, true, true, true, true, true, true, true, true, true, true, false, false, false, false, false] rfl rfl (by kernel_rfl) (fun _ _ _ h => h) (Or.inl ⟨by rfl, ?_⟩) hHeld ?_ ?_
              rotate_left
              · rintro w' ⟨s0, s1, s2, s3, s4, s5, s6⟩
                go_simp
                with_reducible rfl
              rotate_left
              · simp only [Act.put, List.setIfInBounds_toArray, List.set_cons_zero, List.set_cons_succ, i64_w, i32_w]
                rfl
              refine pure_ (i := 14) (N := (some 78)) (v := ?_) (a' := ?_) #[true, true, true, true, true, true, true, true, true, true, true, true, true, true, true, false, false, false, false] rfl rfl (by kernel_rfl) (fun _ _ _ h => h) (Or.inl ⟨by rfl, ?_⟩) ?_ ?_
              rotate_left
              · intro w'
                go_simp
                with_reducible rfl
              rotate_left
              · simp only [Act.put, List.setIfInBounds_toArray, List.set_cons_zero, List.set_cons_succ, i64_w, i32_w]
                rfl
              refine one_ (i := 15) (N := (some 79)) #[true, true, true, true, true, true, true, true, true, true, true, true, true, true, true, true, false, false, false] rfl rfl (by kernel_rfl) (by decide) (fun K hK => ?_)
              refine value_ (w1 := ?_) (v := ?_) (by rfl) rfl ?_ ?_
              rotate_left 2
              · go_simp
                constructor
                · rfl
                · rfl
              obtain ⟨s0, s1, s2, s3, s4, s5, s6⟩ := hHeld
              refine hK.out _ _ ⟨(World.cell?_alloc_past _ _ _ hTl5).trans s0, (World.cell?_alloc_past _ _ _ hXl5).trans s1, (World.cell?_alloc_past _ _ _ hXl5).trans s2, (World.cell?_alloc_past _ _ _ hXl5).trans s3, (World.cell?_alloc_past _ _ _ hXl5).trans s4, (World.cell?_alloc_past _ _ _ hXl5).trans s5, (World.cell?_alloc_past _ _ _ hKl5).trans s6⟩ (fun hHeld => ?_)
              clear hK K s0 s1 s2 s3 s4 s5 s6
              refine norm_ (a' := ?_) ?_ ?_
              rotate_left
              · show Act.put _ (some 79) _ = _
                simp only [Act.put, List.setIfInBounds_toArray, List.set_cons_zero, List.set_cons_succ, i64_w, i32_w]
                rfl
              refine one_ (i := 16) (N := (some 80)) #[true, true, true, true, true, true, true, true, true, true, true, true, true, true, true, true, true, false, false] rfl rfl (by kernel_rfl) (by decide) (fun K hK => ?_)
              refine step_grow rfl _ _ 23 rfl w2.heap.size 66 i0 _ 9 120 Tryd.underlying23 hi0 hz0 hz1 hz2 rfl (by decide) (.slice LA ps.length LC) ps.length (ps.flatMap nodeCells) rfl (World.ownsRow.alloc Hts5.out.row _) ⟨_, 0, none⟩ 1 1 (nodeCells ⟨nodeOf x, .slice NA x.names.length NC, .slice none 0 0, .slice none 0 0⟩) rfl rfl (by rw [Hcells.out]; exact cells_new _ _ _ _ (by simp)) (by simp [nodeCells, Value.oneCell', nodeOf]) (by unfold maxLen; omega) (by omega) (by simp; omega) ?_
              intro v' w6 hown' hgrow
              obtain ⟨g', cap', rfl⟩ := ownsRow_succ hown'
              have hgw := grown_two (World.grownBy_alloc W5 _ none) (grown_drew hgrow)
              have hty : ∀ q, (Value.slice LA ps.length LC).ownBlock = some q → ∃ c, W5.heap[q]? = some (.cells c 66) := row_type Hts5.out.row
              have hnT : some w2.heap.size ≠ (Value.slice LA ps.length LC).ownBlock := fun e => by obtain ⟨c, h⟩ := hty _ e.symm; have h2 := Hts5.out.block; rw [h2] at h; cases h
              have hnX : some wr.heap.size ≠ (Value.slice LA ps.length LC).ownBlock := fun e => by obtain ⟨c, h⟩ := hty _ e.symm; have h2 := HX5.out; rw [h2] at h; cases h
              have hnK : some W3.heap.size ≠ (Value.slice LA ps.length LC).ownBlock := fun e => by obtain ⟨c, h⟩ := hty _ e.symm; have h2 := HK5.out; rw [h2] at h; cases h
              obtain ⟨h1, h2, h3⟩ := Hts5.out.addNode (p := ⟨nodeOf x, .slice NA x.names.length NC, .slice none 0 0, .slice none 0 0⟩) HNv5.out rfl rfl rfl rfl hown' hgw
              rw [Hmap.out] at h2
              have hTX : wr.heap.size ≠ w2.heap.size := by omega
              have hX7 := h3.blk HX5.out hTX (by decide) (by decide)
              have hS7 : StackAt _ w2.heap.size (.slice svA st.length svc) st := h3.row HS5.out Hts5.out.block (by decide) (by decide) (by decide)
              have hB7 := HBb5.out.trans h3.below
              have H2 := Lib.hid h2
              have HX7 := Lib.hid hX7
              have HS7 := Lib.hid hS7
              have HB7 := Lib.hid hB7
              obtain ⟨s0, s1, s2, s3, s4, s5, s6⟩ := hHeld
              refine hK.out _ _ ⟨hgrow.cell s0 hnT, hgrow.cell s1 hnX, hgrow.cell s2 hnX, hgrow.cell s3 hnX, hgrow.cell s4 hnX, hgrow.cell s5 hnX, hgrow.cell s6 hnK⟩ (fun hHeld => ?_)
              have g2 : w6.frozen? ⟨w2.heap.size, 0, none⟩ = false := by simp [World.frozen?, h1]
              clear hK K s0 s1 s2 s3 s4 s5 s6 h1 h2 h3 hX7 hS7 hB7 hown' hgrow hgw hty hi0 hz0 hz1 hz2 hnT hnX hnK t0 y0 y1 y2 y3 y4 kk Hts5 HS5 HBb5 HNv5 HX5 HK5
              refine norm_ (a' := ?_) ?_ ?_
              rotate_left
              · show Act.put _ (some 80) _ = _
                simp only [Act.put, List.setIfInBounds_toArray, List.set_cons_zero, List.set_cons_succ, i64_w, i32_w]
                rfl
              refine pure_ (i := 17) (N := (some 81)) (v := ?_) (a' := ?_) #[true, true, true, true, true, true, true, true, true, true, true, true, true, true, true, true, true, true, false] rfl rfl (by kernel_rfl) (fun _ _ _ h => h) (Or.inl ⟨by rfl, ?_⟩) ?_ ?_
              rotate_left
              · intro w'
                go_simp
                with_reducible rfl
              rotate_left
              · simp only [Act.put, List.setIfInBounds_toArray, List.set_cons_zero, List.set_cons_succ, i64_w, i32_w]
                rfl
              refine last_ (i := 18) (N := none) #[true, true, true, true, true, true, true, true, true, true, true, true, true, true, true, true, true, true, true] rfl rfl (by kernel_rfl) (by decide) (fun K hK => ?_)
              refine skip_ (w1 := ?_) (by rfl) rfl ?_ ?_
              rotate_left
              · go_simp
                rfl
              refine hK.out _ _ ?_
              clear hK K hHeld g2
              refine done_ (by kernel_rfl) ?_
              obtain ⟨W7, hW7⟩ : ∃ W7, w6.setCell ⟨w2.heap.size, 0, none⟩ (.slice (some ⟨g', 0, none⟩) (ps.length + 1) cap') = W7 := ⟨_, rfl⟩
              rw [hW7] at H2 HX7 HS7 HB7 ⊢
              clear hW7
              have HA := Lib.hid (add_any w2.heap.size w2.heap.size w2.heap.size w2.heap.size (nodes ++ [nodeOf x]) top st (.slice svA st.length svc) ps.length W7 H2.out HS7.out (by omega)
                (fun y hy => by
                  rcases List.mem_append.1 hy with hy | hy
                  · have := Hinv.out.lists y hy; omega
                  · simp at hy
                    subst hy
                    exact ⟨Nat.zero_le _, Nat.zero_le _⟩) (by omega)
                (fun o ho => by
                  have := Hinv.out.opens o (List.mem_of_getLast? ho)
                  dsimp only at this
                  rw [List.length_append, List.length_singleton]
                  omega) (by simp; omega))
              have HT7 : Hid (∃ cs, W7.heap[w2.heap.size]? = some (.cells cs 26)) := Lib.hid (by obtain ⟨_, _, _, _, _, h⟩ := H2.out; exact ⟨_, h.block⟩)
              clear H2
              go_wp2_with fail
              refine (HA.out).mono ?_
              rintro e w8 ⟨rfl, ht8, hf8⟩
              have hX8 := hf8.blk HX7.out hTX (by decide) (by decide)
              have hS8 : StackAt w8 w2.heap.size (.slice svA st.length svc) st := by
                obtain ⟨cs, h⟩ := HT7.out
                exact hf8.row HS7.out h (by decide) (by decide) (by decide)
              have Ht8 := Lib.hid ht8
              have HX8 := Lib.hid hX8
              have HS8 := Lib.hid hS8
              have HB8 := Lib.hid (HB7.out.trans hf8.below)
              have y0 : w8.cell? ⟨wr.heap.size, 0, none⟩ = some (.int .u8 kn) := by have := HX8.out; simp [World.cell?, this, Hkn.out]
              have hsz8 : w2.heap.size ≤ w8.heap.size := HB8.out.size
              clear ht8 hX8 hS8 hf8 HA HX7 HS7 HB7 HT7 HX8
              obtain ⟨i1', hi1, hy0, hy1, hy2⟩ := info_parts Tryd.info78
              have HRun : Hid (runR r0 (ws.take (k + 1)) = .ok ⟨(addF (nodes ++ [nodeOf x]) top st ps.length).1, (addF (nodes ++ [nodeOf x]) top st ps.length).2, st ++ [⟨ps.length, kn, false⟩]⟩) := Lib.hid (by
                rw [runR_next hrun.out.run Hx1.out]
                unfold stepR
                rw [if_neg H3.out, if_neg H5.out, if_neg (fun h => hdeep.out h.2), if_pos Hyes.out, hnl, Hkn.out])
              have y1 : w8.cell? ⟨wr.heap.size, 0, none⟩ = some (.int .u8 kn) := y0
              go_wp2_with (at_builtin; refine halt ?_)
              refine Halted.mk' ?_
              refine wpList_append_own _ rfl _ _ 73 rfl w2.heap.size 78 i1' _ 3 24 Tryd.underlying73 hi1 hy0 hy1 hy2 rfl (by decide) (.slice svA st.length svc) st.length (st.flatMap openCells) rfl (World.ownsRow.alloc HS8.out _) ⟨_, 0, none⟩ 1 1 (openCells ⟨ps.length, kn, false⟩) rfl rfl (cells_new _ (openCells ⟨ps.length, kn, false⟩) _ _ rfl) ?_ ?_ ?_ ?_ ?_
              · simp [openCells, Value.oneCell']
              · unfold maxLen; omega
              · omega
              · simp; omega
              intro v' w9 hown' hgrow _
              obtain ⟨g9, cap9, rfl⟩ := ownsRow_succ hown'
              have hgw := grown_two (World.grownBy_alloc w8 _ none) hgrow
              have hty : ∀ q, (Value.slice svA st.length svc).ownBlock = some q → ∃ c, w8.heap[q]? = some (.cells c 78) := row_type HS8.out
              have hlow : ∀ q, (Value.slice svA st.length svc).ownBlock = some q → w2.heap.size ≤ q := row_base HS8.out
              have Ht9 := Lib.hid (Ht8.out.other hgw (fun q e => ⟨hlow q e, hty q e⟩) (by decide) (by decide) (by decide))
              have HS9 : Hid (StackAt w9 w2.heap.size (.slice (some ⟨g9, 0, none⟩) (st.length + 1) cap9) (st ++ [⟨ps.length, kn, false⟩])) := Lib.hid (by simpa [StackAt] using hown')
              have HB9 : Hid (Below w2.heap.size w2 w9) := Lib.hid (HB8.out.trans ((Below.refl _ _).grown hgw hsz8 hlow))
              clear hown' hgrow hgw hty hlow hi1 hy0 hy1 hy2 y0 y1
              go_wp2
              go_roundw
              case rel =>
                exact ⟨k + 1, _, by omega, by go_num, Lib.hid ⟨HRun.out, Ht9.out, by simpa using HS9.out, HB9.out⟩⟩
              case measure => simp [intOf]; omega
          have d2 : ((kn : Int) == 2) = false := by simp; omega
          have d4 : ((kn : Int) == 4) = false := by simp; omega
          have Hno : Hid (¬ (x.kind = 2 ∨ x.kind = 4)) := Lib.hid (by rw [Hkn.out]; omega)
          clear h2 h4 z0 z1 zf zg
          have hTW3 : w2.heap.size < W3.heap.size := by omega
          go_upto_region 18 with (fail)
          obtain ⟨W5, hW5⟩ : ∃ W5, W3.alloc (.cells #[.int .i64 0, .int .i64 1, .int .i64 2, .int .i64 0, .int .i64 3, .int .i64 0, .int .i64 4] 3) = W5 := ⟨_, rfl⟩
          have hb5 : Below W3.heap.size W3 W5 := by rw [← hW5]; exact (Below.refl _ _).alloc (Nat.le_refl _) _
          have hK5 : W5.heap[W3.heap.size]? = some (.cells #[.int .i64 0, .int .i64 1, .int .i64 2, .int .i64 0, .int .i64 3, .int .i64 0, .int .i64 4] 3) := by rw [← hW5]; exact World.alloc_heap_new _ _
          rw [hW5]
          have Hts5 := Lib.hid (Hts.out.later hb5)
          have HS5 := Lib.hid (stack_later HS.out hb5)
          have HBb5 : Hid (Below w2.heap.size w2 W5) := Lib.hid (HBb.out.trans (hb5.mono (by omega)))
          have HNv5 := Lib.hid (HNv.out.below (hb5.mono (by omega)))
          have HX5 := Lib.hid (box_later HX.out hb5)
          have hTl5 : w2.heap.size < W5.heap.size := by have := hb5.size; omega
          have hXl5 : wr.heap.size < W5.heap.size := World.heap_lt HX5.out
          have hKl5 : W3.heap.size < W5.heap.size := World.heap_lt hK5
          have t0 : W5.cell? ⟨w2.heap.size, 0, none⟩ = some (.slice LA ps.length LC) := by have := Hts5.out.block; simp [World.cell?, this]
          have y0 : W5.cell? ⟨wr.heap.size, 0, none⟩ = some (.int .u8 kn) := by have := HX5.out; simp [World.cell?, this, Hkn.out]
          have y1 : W5.cell? ⟨wr.heap.size, 1, none⟩ = some (.int .i64 x.at_) := by have := HX5.out; simp [World.cell?, this]
          have y2 : W5.cell? ⟨wr.heap.size, 2, none⟩ = some (.string ⟨x.text.toArray⟩) := by have := HX5.out; simp [World.cell?, this]
          have y3 : W5.cell? ⟨wr.heap.size, 3, none⟩ = some (.bool x.root) := by have := HX5.out; simp [World.cell?, this]
          have y4 : W5.cell? ⟨wr.heap.size, 4, none⟩ = some (.slice NA x.names.length NC) := by have := HX5.out; simp [World.cell?, this]
          have kk : W5.cell? ⟨W3.heap.size, kn, none⟩ = some (.int .i64 (kindOf kn)) := by
            have hc : (#[.int .i64 0, .int .i64 1, .int .i64 2, .int .i64 0, .int .i64 3, .int .i64 0, .int .i64 4] : Array Value)[kn]? = some (.int .i64 (kindOf kn)) := by
              have : kn = 0 ∨ kn = 1 ∨ kn = 2 ∨ kn = 3 ∨ kn = 4 ∨ kn = 5 ∨ kn = 6 := by omega
              rcases this with h | h | h | h | h | h | h <;> subst h <;> first | rfl | (exact absurd rfl hk3.out) | (exact absurd rfl hk5.out)
            simp only [World.cell?, hK5]
            exact hc
          have HK5 := Lib.hid hK5
          clear hb5 hK5 hW5 Hts HS HBb HNv HX
          refine start_ (n := 19) (S := fun w' => w'.cell? ⟨w2.heap.size, 0, none⟩ = some (.slice LA ps.length LC) ∧ w'.cell? ⟨wr.heap.size, 0, none⟩ = some (.int .u8 kn) ∧ w'.cell? ⟨wr.heap.size, 1, none⟩ = some (.int .i64 x.at_) ∧ w'.cell? ⟨wr.heap.size, 2, none⟩ = some (.string ⟨x.text.toArray⟩) ∧ w'.cell? ⟨wr.heap.size, 3, none⟩ = some (.bool x.root) ∧ w'.cell? ⟨wr.heap.size, 4, none⟩ = some (.slice NA x.names.length NC) ∧ w'.cell? ⟨W3.heap.size, kn, none⟩ = some (.int .i64 (kindOf kn))) (ds := [18]) #[false, false, false, false, false, false, false, false, false, false, false, false, false, false, false, false, false, false, false] (by kernel_rfl) rfl rfl ⟨t0, y0, y1, y2, y3, y4, kk⟩ (fun hHeld => ?_)
          refine pure_ (i := 0) (N := (some 64)) (v := ?_) (a' := ?_) #[true, false, false, false, false, false, false, false, false, false, false, false, false, false, false, false, false, false, false] rfl rfl (by kernel_rfl) (fun _ _ _ h => h) (Or.inl ⟨by rfl, ?_⟩) ?_ ?_
          rotate_left
          · intro w'
            go_simp
            with_reducible rfl
          rotate_left
          · simp only [Act.put, List.setIfInBounds_toArray, List.set_cons_zero, List.set_cons_succ, i64_w, i32_w]
            rfl
          refine take_ (i := 1) (N := (some 65)) (v := ?_) (a' := ?_) #[true, true, false, false, false, false, false, false, false, false, false, false, false, false, false, false, false, false, false] rfl rfl (by kernel_rfl) (fun _ _ _ h => h) (Or.inl ⟨by rfl, ?_⟩) hHeld ?_ ?_
          rotate_left
          · rintro w' ⟨s0, s1, s2, s3, s4, s5, s6⟩
            go_simp
            with_reducible rfl
          rotate_left
          · simp only [Act.put, List.setIfInBounds_toArray, List.set_cons_zero, List.set_cons_succ, i64_w, i32_w]
            rfl
          refine pure_ (i := 2) (N := (some 66)) (v := ?_) (a' := ?_) #[true, true, true, false, false, false, false, false, false, false, false, false, false, false, false, false, false, false, false] rfl rfl (by kernel_rfl) (fun _ _ _ h => h) (Or.inl ⟨by rfl, ?_⟩) ?_ ?_
          rotate_left
          · intro w'
            go_simp
            with_reducible rfl
          rotate_left
          · simp only [Act.put, List.setIfInBounds_toArray, List.set_cons_zero, List.set_cons_succ, i64_w, i32_w]
            rfl
          refine pure_ (i := 3) (N := (some 67)) (v := ?_) (a' := ?_) #[true, true, true, true, false, false, false, false, false, false, false, false, false, false, false, false, false, false, false] rfl rfl (by kernel_rfl) (fun _ _ _ h => h) (Or.inl ⟨by rfl, ?_⟩) ?_ ?_
          rotate_left
          · intro w'
            go_simp
            with_reducible rfl
          rotate_left
          · simp only [Act.put, List.setIfInBounds_toArray, List.set_cons_zero, List.set_cons_succ, i64_w, i32_w]
            rfl
          refine take_ (i := 4) (N := (some 68)) (v := ?_) (a' := ?_) #[true, true, true, true, true, false, false, false, false, false, false, false, false, false, false, false, false, false, false] rfl rfl (by kernel_rfl) (fun _ _ _ h => h) (Or.inl ⟨by rfl, ?_⟩) hHeld ?_ ?_
          rotate_left
          · rintro w' ⟨s0, s1, s2, s3, s4, s5, s6⟩
            go_simp
            with_reducible rfl
          rotate_left
          · simp only [Act.put, List.setIfInBounds_toArray, List.set_cons_zero, List.set_cons_succ, i64_w, i32_w]
            rfl
          refine pure_ (i := 5) (N := (some 69)) (v := ?_) (a' := ?_) #[true, true, true, true, true, true, false, false, false, false, false, false, false, false, false, false, false, false, false] rfl rfl (by kernel_rfl) (fun _ _ _ h => h) (Or.inl ⟨by rfl, ?_⟩) ?_ ?_
          rotate_left
          · intro w'
            go_simp
            with_reducible rfl
          rotate_left
          · simp only [Act.put, List.setIfInBounds_toArray, List.set_cons_zero, List.set_cons_succ, i64_w, i32_w]
            rfl
          refine take_ (i := 6) (N := (some 70)) (v := ?_) (a' := ?_) #[true, true, true, true, true, true, true, false, false, false, false, false, false, false, false, false, false, false, false] rfl rfl (by kernel_rfl) (fun _ _ _ h => h) (Or.inl ⟨by rfl, ?_⟩) hHeld ?_ ?_
          rotate_left
          · rintro w' ⟨s0, s1, s2, s3, s4, s5, s6⟩
            go_simp
            with_reducible rfl
          rotate_left
          · simp only [Act.put, List.setIfInBounds_toArray, List.set_cons_zero, List.set_cons_succ, i64_w, i32_w]
            rfl
          refine pure_ (i := 7) (N := (some 71)) (v := ?_) (a' := ?_) #[true, true, true, true, true, true, true, true, false, false, false, false, false, false, false, false, false, false, false] rfl rfl (by kernel_rfl) (fun _ _ _ h => h) (Or.inl ⟨by rfl, ?_⟩) ?_ ?_
          rotate_left
          · intro w'
            go_simp
            with_reducible rfl
          rotate_left
          · simp only [Act.put, List.setIfInBounds_toArray, List.set_cons_zero, List.set_cons_succ, i64_w, i32_w]
            rfl
          refine pure_ (i := 8) (N := (some 72)) (v := ?_) (a' := ?_) #[true, true, true, true, true, true, true, true, true, false, false, false, false, false, false, false, false, false, false] rfl rfl (by kernel_rfl) (fun _ _ _ h => h) (Or.inl ⟨by rfl, ?_⟩) ?_ ?_
          rotate_left
          · intro w'
            go_simp
            with_reducible rfl
          rotate_left
          · simp only [Act.put, List.setIfInBounds_toArray, List.set_cons_zero, List.set_cons_succ, i64_w, i32_w]
            rfl
          refine take_ (i := 9) (N := (some 73)) (v := ?_) (a' := ?_) #[true, true, true, true, true, true, true, true, true, true, false, false, false, false, false, false, false, false, false] rfl rfl (by kernel_rfl) (fun _ _ _ h => h) (Or.inl ⟨by rfl, ?_⟩) hHeld ?_ ?_
          rotate_left
          · rintro w' ⟨s0, s1, s2, s3, s4, s5, s6⟩
            go_simp
            with_reducible rfl
          rotate_left
          · simp only [Act.put, List.setIfInBounds_toArray, List.set_cons_zero, List.set_cons_succ, i64_w, i32_w]
            rfl
          refine pure_ (i := 10) (N := (some 74)) (v := ?_) (a' := ?_) #[true, true, true, true, true, true, true, true, true, true, true, false, false, false, false, false, false, false, false] rfl rfl (by kernel_rfl) (fun _ _ _ h => h) (Or.inl ⟨by rfl, ?_⟩) ?_ ?_
          rotate_left
          · intro w'
            go_simp
            with_reducible rfl
          rotate_left
          · simp only [Act.put, List.setIfInBounds_toArray, List.set_cons_zero, List.set_cons_succ, i64_w, i32_w]
            rfl
          refine take_ (i := 11) (N := (some 75)) (v := ?_) (a' := ?_) #[true, true, true, true, true, true, true, true, true, true, true, true, false, false, false, false, false, false, false] rfl rfl (by kernel_rfl) (fun _ _ _ h => h) (Or.inl ⟨by rfl, ?_⟩) hHeld ?_ ?_
          rotate_left
          · rintro w' ⟨s0, s1, s2, s3, s4, s5, s6⟩
            go_simp
            with_reducible rfl
          rotate_left
          · simp only [Act.put, List.setIfInBounds_toArray, List.set_cons_zero, List.set_cons_succ, i64_w, i32_w]
            rfl
          refine pure_ (i := 12) (N := (some 76)) (v := ?_) (a' := ?_) #[true, true, true, true, true, true, true, true, true, true, true, true, true, false, false, false, false, false, false] rfl rfl (by kernel_rfl) (fun _ _ _ h => h) (Or.inl ⟨by rfl, ?_⟩) ?_ ?_
          rotate_left
          · intro w'
            go_simp
            with_reducible rfl
          rotate_left
          · simp only [Act.put, List.setIfInBounds_toArray, List.set_cons_zero, List.set_cons_succ, i64_w, i32_w]
            rfl
          refine take_ (i := 13) (N := (some 77)) (v := ?_) (a' := ?_) #[true, true, true, true, true, true, true, true, true, true, true, true, true, true, false, false, false, false, false] rfl rfl (by kernel_rfl) (fun _ _ _ h => h) (Or.inl ⟨by rfl, ?_⟩) hHeld ?_ ?_
          rotate_left
          · rintro w' ⟨s0, s1, s2, s3, s4, s5, s6⟩
            go_simp
            with_reducible rfl
          rotate_left
          · simp only [Act.put, List.setIfInBounds_toArray, List.set_cons_zero, List.set_cons_succ, i64_w, i32_w]
            rfl
          refine pure_ (i := 14) (N := (some 78)) (v := ?_) (a' := ?_) #[true, true, true, true, true, true, true, true, true, true, true, true, true, true, true, false, false, false, false] rfl rfl (by kernel_rfl) (fun _ _ _ h => h) (Or.inl ⟨by rfl, ?_⟩) ?_ ?_
          rotate_left
          · intro w'
            go_simp
            with_reducible rfl
          rotate_left
          · simp only [Act.put, List.setIfInBounds_toArray, List.set_cons_zero, List.set_cons_succ, i64_w, i32_w]
            rfl
          refine one_ (i := 15) (N := (some 79)) #[true, true, true, true, true, true, true, true, true, true, true, true, true, true, true, true, false, false, false] rfl rfl (by kernel_rfl) (by decide) (fun K hK => ?_)
          refine value_ (w1 := ?_) (v := ?_) (by rfl) rfl ?_ ?_
          rotate_left 2
          · go_simp
            constructor
            · rfl
            · rfl
          obtain ⟨s0, s1, s2, s3, s4, s5, s6⟩ := hHeld
          refine hK.out _ _ ⟨(World.cell?_alloc_past _ _ _ hTl5).trans s0, (World.cell?_alloc_past _ _ _ hXl5).trans s1, (World.cell?_alloc_past _ _ _ hXl5).trans s2, (World.cell?_alloc_past _ _ _ hXl5).trans s3, (World.cell?_alloc_past _ _ _ hXl5).trans s4, (World.cell?_alloc_past _ _ _ hXl5).trans s5, (World.cell?_alloc_past _ _ _ hKl5).trans s6⟩ (fun hHeld => ?_)
          clear hK K s0 s1 s2 s3 s4 s5 s6
          refine norm_ (a' := ?_) ?_ ?_
          rotate_left
          · show Act.put _ (some 79) _ = _
            simp only [Act.put, List.setIfInBounds_toArray, List.set_cons_zero, List.set_cons_succ, i64_w, i32_w]
            rfl
          refine one_ (i := 16) (N := (some 80)) #[true, true, true, true, true, true, true, true, true, true, true, true, true, true, true, true, true, false, false] rfl rfl (by kernel_rfl) (by decide) (fun K hK => ?_)
          refine step_grow rfl _ _ 23 rfl w2.heap.size 66 i0 _ 9 120 Tryd.underlying23 hi0 hz0 hz1 hz2 rfl (by decide) (.slice LA ps.length LC) ps.length (ps.flatMap nodeCells) rfl (World.ownsRow.alloc Hts5.out.row _) ⟨_, 0, none⟩ 1 1 (nodeCells ⟨nodeOf x, .slice NA x.names.length NC, .slice none 0 0, .slice none 0 0⟩) rfl rfl (by rw [Hcells.out]; exact cells_new _ _ _ _ (by simp)) (by simp [nodeCells, Value.oneCell', nodeOf]) (by unfold maxLen; omega) (by omega) (by simp; omega) ?_
          intro v' w6 hown' hgrow
          obtain ⟨g', cap', rfl⟩ := ownsRow_succ hown'
          have hgw := grown_two (World.grownBy_alloc W5 _ none) (grown_drew hgrow)
          have hty : ∀ q, (Value.slice LA ps.length LC).ownBlock = some q → ∃ c, W5.heap[q]? = some (.cells c 66) := row_type Hts5.out.row
          have hnT : some w2.heap.size ≠ (Value.slice LA ps.length LC).ownBlock := fun e => by obtain ⟨c, h⟩ := hty _ e.symm; have h2 := Hts5.out.block; rw [h2] at h; cases h
          have hnX : some wr.heap.size ≠ (Value.slice LA ps.length LC).ownBlock := fun e => by obtain ⟨c, h⟩ := hty _ e.symm; have h2 := HX5.out; rw [h2] at h; cases h
          have hnK : some W3.heap.size ≠ (Value.slice LA ps.length LC).ownBlock := fun e => by obtain ⟨c, h⟩ := hty _ e.symm; have h2 := HK5.out; rw [h2] at h; cases h
          obtain ⟨h1, h2, h3⟩ := Hts5.out.addNode (p := ⟨nodeOf x, .slice NA x.names.length NC, .slice none 0 0, .slice none 0 0⟩) HNv5.out rfl rfl rfl rfl hown' hgw
          rw [Hmap.out] at h2
          have hTX : wr.heap.size ≠ w2.heap.size := by omega
          have hX7 := h3.blk HX5.out hTX (by decide) (by decide)
          have hS7 : StackAt _ w2.heap.size (.slice svA st.length svc) st := h3.row HS5.out Hts5.out.block (by decide) (by decide) (by decide)
          have hB7 := HBb5.out.trans h3.below
          have H2 := Lib.hid h2
          have HX7 := Lib.hid hX7
          have HS7 := Lib.hid hS7
          have HB7 := Lib.hid hB7
          obtain ⟨s0, s1, s2, s3, s4, s5, s6⟩ := hHeld
          refine hK.out _ _ ⟨hgrow.cell s0 hnT, hgrow.cell s1 hnX, hgrow.cell s2 hnX, hgrow.cell s3 hnX, hgrow.cell s4 hnX, hgrow.cell s5 hnX, hgrow.cell s6 hnK⟩ (fun hHeld => ?_)
          have g2 : w6.frozen? ⟨w2.heap.size, 0, none⟩ = false := by simp [World.frozen?, h1]
          clear hK K s0 s1 s2 s3 s4 s5 s6 h1 h2 h3 hX7 hS7 hB7 hown' hgrow hgw hty hi0 hz0 hz1 hz2 hnT hnX hnK t0 y0 y1 y2 y3 y4 kk Hts5 HS5 HBb5 HNv5 HX5 HK5
          refine norm_ (a' := ?_) ?_ ?_
          rotate_left
          · show Act.put _ (some 80) _ = _
            simp only [Act.put, List.setIfInBounds_toArray, List.set_cons_zero, List.set_cons_succ, i64_w, i32_w]
            rfl
          refine pure_ (i := 17) (N := (some 81)) (v := ?_) (a' := ?_) #[true, true, true, true, true, true, true, true, true, true, true, true, true, true, true, true, true, true, false] rfl rfl (by kernel_rfl) (fun _ _ _ h => h) (Or.inl ⟨by rfl, ?_⟩) ?_ ?_
          rotate_left
          · intro w'
            go_simp
            with_reducible rfl
          rotate_left
          · simp only [Act.put, List.setIfInBounds_toArray, List.set_cons_zero, List.set_cons_succ, i64_w, i32_w]
            rfl
          refine last_ (i := 18) (N := none) #[true, true, true, true, true, true, true, true, true, true, true, true, true, true, true, true, true, true, true] rfl rfl (by kernel_rfl) (by decide) (fun K hK => ?_)
          refine skip_ (w1 := ?_) (by rfl) rfl ?_ ?_
          rotate_left
          · go_simp
            rfl
          refine hK.out _ _ ?_
          clear hK K hHeld g2
          refine done_ (by kernel_rfl) ?_
          obtain ⟨W7, hW7⟩ : ∃ W7, w6.setCell ⟨w2.heap.size, 0, none⟩ (.slice (some ⟨g', 0, none⟩) (ps.length + 1) cap') = W7 := ⟨_, rfl⟩
          rw [hW7] at H2 HX7 HS7 HB7 ⊢
          clear hW7
          have HA := Lib.hid (add_any w2.heap.size w2.heap.size w2.heap.size w2.heap.size (nodes ++ [nodeOf x]) top st (.slice svA st.length svc) ps.length W7 H2.out HS7.out (by omega)
            (fun y hy => by
              rcases List.mem_append.1 hy with hy | hy
              · have := Hinv.out.lists y hy; omega
              · simp at hy
                subst hy
                exact ⟨Nat.zero_le _, Nat.zero_le _⟩) (by omega)
            (fun o ho => by
              have := Hinv.out.opens o (List.mem_of_getLast? ho)
              dsimp only at this
              rw [List.length_append, List.length_singleton]
              omega) (by simp; omega))
          have HT7 : Hid (∃ cs, W7.heap[w2.heap.size]? = some (.cells cs 26)) := Lib.hid (by obtain ⟨_, _, _, _, _, h⟩ := H2.out; exact ⟨_, h.block⟩)
          clear H2
          go_wp2_with fail
          refine (HA.out).mono ?_
          rintro e w8 ⟨rfl, ht8, hf8⟩
          have hX8 := hf8.blk HX7.out hTX (by decide) (by decide)
          have hS8 : StackAt w8 w2.heap.size (.slice svA st.length svc) st := by
            obtain ⟨cs, h⟩ := HT7.out
            exact hf8.row HS7.out h (by decide) (by decide) (by decide)
          have Ht8 := Lib.hid ht8
          have HX8 := Lib.hid hX8
          have HS8 := Lib.hid hS8
          have HB8 := Lib.hid (HB7.out.trans hf8.below)
          have y0 : w8.cell? ⟨wr.heap.size, 0, none⟩ = some (.int .u8 kn) := by have := HX8.out; simp [World.cell?, this, Hkn.out]
          have hsz8 : w2.heap.size ≤ w8.heap.size := HB8.out.size
          clear ht8 hX8 hS8 hf8 HA HX7 HS7 HB7 HT7 HX8
          have HRun : Hid (runR r0 (ws.take (k + 1)) = .ok ⟨(addF (nodes ++ [nodeOf x]) top st ps.length).1, (addF (nodes ++ [nodeOf x]) top st ps.length).2, st⟩) := Lib.hid (by
            rw [runR_next hrun.out.run Hx1.out]
            unfold stepR
            rw [if_neg H3.out, if_neg H5.out, if_neg (fun h => Hno.out h.1), if_neg Hno.out, hnl])
          go_wp2
          go_roundw
          case rel =>
            exact ⟨k + 1, _, by omega, by go_num, Lib.hid ⟨HRun.out, Ht8.out, HS8.out, HB8.out⟩⟩
          case measure => simp [intOf]; omega
end Go.Proofs.YtcggeaobonblfaaDoor

/- bobbinlaw14: awake; the tree of any template is the reference's: walked. -/
namespace Go.Proofs.YtcggeaobonblfaaDoor
set_option linter.unusedSimpArgs false
set_option linter.unusedVariables false
open Go Go.RowKit Go.Proofs.YtcggeaobonblfaaDoorW.PrintWords Go.Proofs.YtcggeaobonblfaaDoor.PParseTrees
theorem ref_bounds {s : List UInt8} {top : List Int} {nodes : List Node} (h : refParse s = .ok (top, nodes)) : nodes.length ≤ 100000 ∧ top.length ≤ 100000 ∧ ∀ x ∈ nodes, x.names.length ≤ 100000 ∧ x.body.length ≤ 100000 ∧ x.els.length ≤ 100000 := by
  unfold refParse at h
  by_cases h1 : 65536 < s.length
  · rw [if_pos h1] at h; cases h
  rw [if_neg h1] at h
  by_cases h2 : 0 ≤ (lexW 0 s).2
  · rw [if_pos h2] at h; cases h
  rw [if_neg h2] at h
  have hs := lexF_short (s.length + 1) 0 s
  obtain ⟨ws, bad, hL⟩ : ∃ a b, lexW 0 s = (a, b) := ⟨_, _, rfl⟩
  have hL' : lexF (s.length + 1) 0 s = (ws, bad) := hL
  rw [hL'] at hs
  rw [hL] at h
  obtain ⟨h3, h4⟩ := hs
  dsimp only at h3 h4 h
  unfold stackR at h
  cases hr : runR r0 ws with
  | error f => rw [hr] at h; cases h
  | ok r =>
    rw [hr] at h
    have hi := runR_inv ws 0 r0 r r0_inv hr
    have hn := runR_names (m := 8) ws r0 r (fun x hx => by cases hx) h4 hr
    have h5 : finR r = .ok (top, nodes) := h
    unfold finR at h5
    cases hl : r.st.getLast? with
    | some o => rw [hl] at h5; cases h5
    | none =>
      rw [hl] at h5
      have h6 : (r.top, r.nodes) = (top, nodes) := Except.ok.inj h5
      have e1 : r.top = top := congrArg Prod.fst h6
      have e2 : r.nodes = nodes := congrArg Prod.snd h6
      obtain ⟨a, b, c, -, -⟩ := hi
      rw [← e1, ← e2]
      exact ⟨by omega, by omega, fun x hx => by have := hn x hx; have := c x hx; omega⟩
theorem way_C {W : World} {base : Nat} {v : Value} {names : List (List UInt8)} (h : WayAt W base v names) (hl : names.length ≤ 100000) : ∃ A c, v = .slice A names.length c ∧ names.length ≤ c ∧ StrsC W A (names.map toB) :=
  names_C (way_rd h (Nat.le_refl _)) hl
/-- The program's tree can be read. -/
theorem treeAt_C {W : World} {base : Nat} {nv tv : Value} {nodes : List Node} {top : List Int} (h : TreeAt W base nv tv nodes top) (h1 : nodes.length ≤ 100000) (h2 : top.length ≤ 100000) (h3 : ∀ x ∈ nodes, x.names.length ≤ 100000 ∧ x.body.length ≤ 100000 ∧ x.els.length ≤ 100000) :
    ∃ A c B d, nv = .slice A nodes.length c ∧ tv = .slice B top.length d ∧ TreeC W A c (nodes.map toN) B d top := by
  obtain ⟨⟨ps, hmap, hr, hp⟩, ht⟩ := h
  subst hmap
  exact tree_C hr ht (fun p hpm => by
    obtain ⟨a, b, c⟩ := hp p hpm
    exact ⟨way_C a (h3 p.x (List.mem_map_of_mem hpm)).1, b, c⟩) (by simpa using h1) h2 (fun p hpm => h3 p.x (List.mem_map_of_mem hpm))
theorem tree_none (W : World) : TreeC W none 0 [] none 0 [] :=
  ⟨⟨rfl, by simp, fun h => absurd h (Nat.lt_irrefl _)⟩, Nat.le_refl _, ⟨rfl, by simp, fun h => absurd h (Nat.lt_irrefl _)⟩, Nat.le_refl _, by simp, by simp, fun x hx => by cases hx⟩
theorem nodeB_refl (x : S66) : nodeB x x = true := by unfold nodeB; simp
theorem sameB_refl (l : List S66) (t : List Int) : sameB l t l t = true := by
  unfold sameB alikeB
  rw [Bool.and_eq_true, decide_eq_true_eq, decide_eq_true_eq]
  exact ⟨⟨rfl, rfl, fun i _ => nodeB_refl _⟩, fun i _ => rfl⟩
theorem awake_tree : ∃ x, parseF [123, 123, 120, 125, 125] = .ok ([0], [x]) ∧ x.kind = 1 := ⟨⟨1, 0, [], false, [[120]], [], [], false, 0⟩, by kernel_rfl, rfl⟩

set_option maxRecDepth 100000 in
set_option maxHeartbeats 2000000 in
theorem awake_any (w : World) (hm : MaxLenAt w) : Calls Tryd.prog 8 #[] w fun e w' => e = .returned (.bool true) ∧ Below w.heap.size w w' := by
  have HP := parse_any [123, 123, 120, 125, 125] w (by decide) hm
  obtain ⟨x, hx, hk⟩ := awake_tree
  rw [hx] at HP
  have HP' := Lib.hid HP
  clear HP hx
  go_enter Tryd.func8, Tryd.ntmps8
  go_wp2_with fail
  refine (HP'.out).mono ?_
  rintro e w2 ⟨nv, tv, rfl, ⟨⟨ps, hmap, hr, hp⟩, ht⟩, hb⟩
  obtain ⟨TA, TC, rfl⟩ := ints_slice ht
  obtain ⟨p, hps⟩ : ∃ p, ps = [p] := by
    match ps, hmap with
    | [p], _ => exact ⟨p, rfl⟩
  subst hps
  have hpx : p.x = x := by simpa using hmap
  obtain ⟨g, cap, rfl, -, hgl, pc0⟩ := row_cell hr (0 * 9 + 0) _ (by rw [flat9 [p] 0 p rfl 0 (by omega)]; rfl)
  rw [hpx, hk] at pc0
  have k0 : w2.cell? ⟨g, 0, none⟩ = some (.int .u8 1) := by simpa using pc0
  have Hb := Lib.hid hb
  clear hr hp ht hb HP' hmap pc0 hpx
  go_wp2
  go_ret
  exact ⟨rfl, Hb.out.alloc Hb.out.size _⟩

theorem box_two {W : World} {g : Nat} {a b : Value} {t : TypeId} (h : W.heap[g]? = some (.cells #[a, b] t)) : W.cell? ⟨g, 0, none⟩ = some a ∧ W.cell? ⟨g, 1, none⟩ = some b := by
  simp [World.cell?, h]
set_option maxRecDepth 100000 in
set_option maxHeartbeats 2000000 in
theorem parseTrees_any (s : List UInt8) (w : World) (hs : s.length ≤ 140737488351232) (hm : MaxLenAt w) :
    Calls Tryd.prog 3 #[.string ⟨s.toArray⟩] w fun e w' => e = .returned (.bool true) ∧ Below w.heap.size w w' := by
  have HA := Lib.hid (awake_any w hm)
  have Hm := Lib.hid hm
  clear hm
  go_enter Tryd.func3, Tryd.ntmps3
  go_wp2_with fail
  refine (HA.out).mono ?_
  rintro e w1 ⟨rfl, hb1⟩
  have HP := Lib.hid (parse_any s w1 hs (Hm.out.below hb1))
  have HB1 := Lib.hid hb1
  have hz1 := hb1.size
  clear hb1 HA Hm
  go_wp2_with fail
  cases hF : parseF s with
  | error f =>
    rw [hF] at HP
    refine (HP.out).mono ?_
    rintro e w2 ⟨rfl, hb2⟩
    have HR := Lib.hid (refParse_any s (w2.alloc (.cells #[.slice none 0 0, .slice none 0 0] 26)) hs)
    rw [← parse_ref, hF] at HR
    have HB2 := Lib.hid (HB1.out.trans (hb2.mono hz1))
    have hz2 := HB2.out.size
    clear hb2 HP hF
    go_wp2_with fail
    refine (HR.out).mono ?_
    rintro e w3 ⟨rfl, hb3⟩
    have k3 : w3.heap[w2.heap.size]? = some (.cells #[.slice none 0 0, .slice none 0 0] 26) := box_later (World.alloc_heap_new w2 _) hb3
    obtain ⟨z0, z1⟩ := box_two k3
    have HB3 : Hid (Below w.heap.size w w3) := Lib.hid ((HB2.out.alloc hz2 _).trans (hb3.mono (by simp; omega)))
    have hz3 := HB3.out.size
    have hl3 : w2.heap.size < w3.heap.size := World.heap_lt k3
    have HS := Lib.hid (same_any none 0 [] none 0 [] none 0 [] none 0 [] (w3.alloc (.cells #[.slice none 0 0, .slice none 0 0] 26)) (tree_none _) (tree_none _))
    have hsr : sameB [] [] [] [] = true := sameB_refl [] []
    rw [hsr] at HS
    clear hb3 k3 HR hsr
    go_wp2_with fail
    refine (HS.out).mono ?_
    rintro e w4 ⟨rfl, hb4⟩
    have HB4 : Hid (Below w.heap.size w w4) := Lib.hid ((HB3.out.alloc hz3 _).trans (hb4.mono (by simp; omega)))
    clear hb4 HS
    go_wp2
    go_ret
    exact ⟨rfl, HB4.out⟩
  | ok r =>
    obtain ⟨top, nodes⟩ := r
    rw [hF] at HP
    obtain ⟨n1, n2, n3⟩ := ref_bounds (s := s) (by rw [← parse_ref]; exact hF)
    refine (HP.out).mono ?_
    rintro e w2 ⟨nv, tv, rfl, htr, hb2⟩
    obtain ⟨A, c, B, d, rfl, rfl, hC⟩ := treeAt_C htr n1 n2 n3
    have HR := Lib.hid (refParse_any s (w2.alloc (.cells #[.slice A nodes.length c, .slice B top.length d] 26)) hs)
    rw [← parse_ref, hF] at HR
    have HB2 := Lib.hid (HB1.out.trans (hb2.mono hz1))
    have hz2 := HB2.out.size
    have HC := Lib.hid hC
    clear hb2 HP hF htr hC
    go_wp2_with fail
    refine (HR.out).mono ?_
    rintro e w3 ⟨A', c', B', d', rfl, hC', hb3⟩
    have k3 : w3.heap[w2.heap.size]? = some (.cells #[.slice A nodes.length c, .slice B top.length d] 26) := box_later (World.alloc_heap_new w2 _) hb3
    obtain ⟨z0, z1⟩ := box_two k3
    have HB3 : Hid (Below w.heap.size w w3) := Lib.hid ((HB2.out.alloc hz2 _).trans (hb3.mono (by simp; omega)))
    have hz3 := HB3.out.size
    have hl3 : w2.heap.size < w3.heap.size := World.heap_lt k3
    have hb23 : Below w2.heap.size w2 w3 := ((Below.refl _ _).alloc (Nat.le_refl _) _).trans (hb3.mono (by simp))
    have e1 : (nodes.map toN).length = nodes.length := by simp
    have hS := same_any A c (nodes.map toN) B d top A' c' (nodes.map toN) B' d' top (w3.alloc (.cells #[.slice A' nodes.length c', .slice B' top.length d'] 26))
      (HC.out.below (hb23.trans ((Below.refl w2.heap.size w3).alloc (by omega) _))) (hC'.below ((Below.refl _ _).alloc (Nat.le_refl _) _))
    rw [sameB_refl, e1] at hS
    have HS := Lib.hid hS
    clear hb3 k3 HR hS hC' hb23 HC e1
    go_wp2_with fail
    refine (HS.out).mono ?_
    rintro e w4 ⟨rfl, hb4⟩
    have HB4 : Hid (Below w.heap.size w w4) := Lib.hid ((HB3.out.alloc hz3 _).trans (hb4.mono (by simp; omega)))
    clear hb4 HS
    go_wp2
    go_ret
    exact ⟨rfl, HB4.out⟩
end Go.Proofs.YtcggeaobonblfaaDoor
