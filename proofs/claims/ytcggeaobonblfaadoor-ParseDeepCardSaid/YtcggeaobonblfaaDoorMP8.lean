/- Part 8 of the proof of RowParseTrees, RowParseDeep: lemmas and contracts: DeepF, Law14b. -/
import Derived.Test.YtcggeaobonblfaaDoorMP6
import Derived.Test.YtcggeaobonblfaaDoorMP7
/- Ifs and ranges in one another: what the parse of such a text comes to. -/
namespace Go.Proofs.YtcggeaobonblfaaDoor
set_option linter.unusedSimpArgs false
set_option linter.unusedVariables false
open Go Go.RowKit
def ifS : List UInt8 := [123, 123, 105, 102, 32, 97, 125, 125]
def rangeS : List UInt8 := [123, 123, 114, 97, 110, 103, 101, 32, 97, 125, 125]
def endS : List UInt8 := [123, 123, 101, 110, 100, 125, 125]
def opensS : List Bool → List UInt8
  | [] => []
  | b :: bs => (if b then ifS else rangeS) ++ opensS bs
def endsS : Nat → List UInt8
  | 0 => []
  | n + 1 => endS ++ endsS n
theorem opensS_snoc (bs : List Bool) (b : Bool) : opensS (bs ++ [b]) = opensS bs ++ (if b then ifS else rangeS) := by
  induction bs with
  | nil => simp [opensS]
  | cons c bs ih => rw [List.cons_append, opensS, opensS, ih, List.append_assoc]
theorem endsS_snoc (n : Nat) : endsS (n + 1) = endsS n ++ endS := by
  induction n with
  | zero => simp [endsS]
  | succ n ih =>
    show endS ++ endsS (n + 1) = (endS ++ endsS n) ++ endS
    rw [ih, List.append_assoc]
theorem opensS_len (bs : List Bool) : (opensS bs).length ≤ 11 * bs.length := by
  induction bs with
  | nil => simp [opensS]
  | cons b bs ih => rw [opensS, List.length_append, List.length_cons]; cases b <;> simp [ifS, rangeS] <;> omega
theorem endsS_len (n : Nat) : (endsS n).length = 7 * n := by
  induction n with
  | zero => rfl
  | succ n ih => rw [endsS, List.length_append, ih]; simp [endS]; omega
/-- An action at the head of a text. -/
theorem lex_if (at_ : Int) (r : List UInt8) : lexW at_ (ifS ++ r) = (⟨2, at_, [], false, [[97]]⟩ :: (lexW (at_ + 8) r).1, (lexW (at_ + 8) r).2) := by
  have h1 : ¬ 0 < litLen (ifS ++ r) := by simp [ifS, litLen, Lib.index, List.isPrefixOf]
  have h2 : closeAt (ifS ++ r) = 6 := by
    have : (-1 : Int) ≤ Lib.index r [125, 125] := Lib.index_ge _ _
    simp [ifS, closeAt, Lib.index, List.isPrefixOf]
  have h3 : actionF (((ifS ++ r).take (closeAt (ifS ++ r)).toNat).drop 2) = (2, false, [[97]], true) := by
    rw [h2]
    show actionF [105, 102, 32, 97] = _
    kernel_rfl
  have h := lexW_act at_ (ifS ++ r) (by simp [ifS]) h1 (by omega) (by rw [h3])
  rw [h, h3, h2]
  rfl
theorem lex_range (at_ : Int) (r : List UInt8) : lexW at_ (rangeS ++ r) = (⟨4, at_, [], false, [[97]]⟩ :: (lexW (at_ + 11) r).1, (lexW (at_ + 11) r).2) := by
  have h1 : ¬ 0 < litLen (rangeS ++ r) := by simp [rangeS, litLen, Lib.index, List.isPrefixOf]
  have h2 : closeAt (rangeS ++ r) = 9 := by
    simp [rangeS, closeAt, Lib.index, List.isPrefixOf]
  have h3 : actionF (((rangeS ++ r).take (closeAt (rangeS ++ r)).toNat).drop 2) = (4, false, [[97]], true) := by
    rw [h2]
    show actionF [114, 97, 110, 103, 101, 32, 97] = _
    kernel_rfl
  have h := lexW_act at_ (rangeS ++ r) (by simp [rangeS]) h1 (by omega) (by rw [h3])
  rw [h, h3, h2]
  rfl
theorem lex_end (at_ : Int) (r : List UInt8) : lexW at_ (endS ++ r) = (⟨5, at_, [], false, []⟩ :: (lexW (at_ + 7) r).1, (lexW (at_ + 7) r).2) := by
  have h1 : ¬ 0 < litLen (endS ++ r) := by simp [endS, litLen, Lib.index, List.isPrefixOf]
  have h2 : closeAt (endS ++ r) = 5 := by
    simp [endS, closeAt, Lib.index, List.isPrefixOf]
  have h3 : actionF (((endS ++ r).take (closeAt (endS ++ r)).toNat).drop 2) = (5, false, [], true) := by
    rw [h2]
    show actionF [101, 110, 100] = _
    kernel_rfl
  have h := lexW_act at_ (endS ++ r) (by simp [endS]) h1 (by omega) (by rw [h3])
  rw [h, h3, h2]
  rfl
theorem lex_x (at_ : Int) (n : Nat) : lexW at_ ([120] ++ endsS n) = (⟨0, at_, [120], false, []⟩ :: (lexW (at_ + 1) (endsS n)).1, (lexW (at_ + 1) (endsS n)).2) := by
  have h1 : litLen ([120] ++ endsS n) = 1 := by
    cases n with
    | zero => rfl
    | succ n => simp [endsS, endS, litLen, Lib.index, List.isPrefixOf]
  have h := lexW_lit at_ ([120] ++ endsS n) (by simp) (by omega)
  rw [h, h1]
  rfl
/-- Words that are all of one sort. -/
def KindsOpen (ws : List Word) : Prop := ∀ w ∈ ws, w.kind = 2 ∨ w.kind = 4
def KindsEnd (ws : List Word) : Prop := ∀ w ∈ ws, w.kind = 5
theorem lex_ends : ∀ (n : Nat) (at_ : Int), ∃ ws, lexW at_ (endsS n) = (ws, -1) ∧ ws.length = n ∧ KindsEnd ws
  | 0, at_ => ⟨[], lexW_nil at_, rfl, (fun w hw => by cases hw)⟩
  | n + 1, at_ => by
    obtain ⟨ws, h1, h2, h3⟩ := lex_ends n (at_ + 7)
    refine ⟨_ :: ws, by rw [endsS, lex_end, h1], by simp [h2], fun w hw => ?_⟩
    rcases List.mem_cons.1 hw with rfl | hw
    · rfl
    · exact h3 w hw
theorem lex_deep : ∀ (bs : List Bool) (n : Nat) (at_ : Int), ∃ (os : List Word) (x : Word) (es : List Word), lexW at_ (opensS bs ++ ([120] ++ endsS n)) = (os ++ x :: es, -1) ∧ os.length = bs.length ∧ KindsOpen os ∧ x.kind = 0 ∧ es.length = n ∧ KindsEnd es
  | [], n, at_ => by
    obtain ⟨ws, h1, h2, h3⟩ := lex_ends n (at_ + 1)
    exact ⟨[], _, ws, by rw [opensS, List.nil_append, lex_x, h1]; rfl, rfl, (fun w hw => by cases hw), rfl, h2, h3⟩
  | b :: bs, n, at_ => by
    cases b with
    | true =>
      obtain ⟨os, x, es, h1, h2, h3, h4, h5, h6⟩ := lex_deep bs n (at_ + 8)
      refine ⟨_ :: os, x, es, by rw [opensS, if_pos rfl, List.append_assoc, lex_if, h1]; rfl, by simp [h2], fun w hw => ?_, h4, h5, h6⟩
      rcases List.mem_cons.1 hw with rfl | hw
      · exact .inl rfl
      · exact h3 w hw
    | false =>
      obtain ⟨os, x, es, h1, h2, h3, h4, h5, h6⟩ := lex_deep bs n (at_ + 11)
      refine ⟨_ :: os, x, es, by rw [opensS, if_neg (by simp), List.append_assoc, lex_range, h1]; rfl, by simp [h2], fun w hw => ?_, h4, h5, h6⟩
      rcases List.mem_cons.1 hw with rfl | hw
      · exact .inr rfl
      · exact h3 w hw
theorem step_open {r : RSt} {w : Word} (hw : w.kind = 2 ∨ w.kind = 4) (h : r.st.length < 16) : ∃ r', stepR r w = .ok r' ∧ r'.st.length = r.st.length + 1 := by
  unfold stepR
  rw [if_neg (by omega), if_neg (by omega), if_neg (fun h2 => by omega)]
  exact ⟨_, rfl, by dsimp only; rw [if_pos hw]; simp⟩
theorem step_deep {r : RSt} {w : Word} (hw : w.kind = 2 ∨ w.kind = 4) (h : 16 ≤ r.st.length) : stepR r w = .error (w.at_, 3) := by
  unfold stepR
  rw [if_neg (by omega), if_neg (by omega), if_pos ⟨hw, h⟩]
theorem step_lit {r : RSt} {w : Word} (hw : w.kind = 0) : ∃ r', stepR r w = .ok r' ∧ r'.st = r.st := by
  unfold stepR
  rw [if_neg (by omega), if_neg (by omega), if_neg (fun h2 => by omega)]
  exact ⟨_, rfl, by dsimp only; rw [if_neg (by omega)]⟩
theorem step_end {r : RSt} {w : Word} (hw : w.kind = 5) (h : 0 < r.st.length) : ∃ r', stepR r w = .ok r' ∧ r'.st.length = r.st.length - 1 := by
  unfold stepR
  rw [if_neg (by omega), if_pos hw]
  cases hl : r.st.getLast? with
  | none => rw [List.getLast?_eq_none_iff] at hl; rw [hl] at h; cases h
  | some o => exact ⟨_, rfl, by simp⟩
theorem run_opens : ∀ (ws : List Word) (r : RSt), KindsOpen ws → r.st.length + ws.length ≤ 16 → ∃ r', runR r ws = .ok r' ∧ r'.st.length = r.st.length + ws.length
  | [], r, _, _ => ⟨r, rfl, by simp⟩
  | w :: ws, r, hk, hl => by
    simp only [List.length_cons] at hl
    obtain ⟨r1, h1, h2⟩ := step_open (r := r) (hk w List.mem_cons_self) (by omega)
    obtain ⟨r2, h3, h4⟩ := run_opens ws r1 (fun v hv => hk v (List.mem_cons_of_mem _ hv)) (by omega)
    exact ⟨r2, by rw [runR_ok h1]; exact h3, by simp only [List.length_cons]; omega⟩
theorem run_deep : ∀ (ws : List Word) (r : RSt), KindsOpen ws → r.st.length ≤ 16 → 16 < r.st.length + ws.length → ∃ p, runR r ws = .error (p, 3)
  | [], r, _, h1, h2 => by simp at h2; omega
  | w :: ws, r, hk, hl, hd => by
    rcases Nat.lt_or_ge r.st.length 16 with h | h
    · obtain ⟨r1, h1, h2⟩ := step_open (r := r) (hk w List.mem_cons_self) h
      simp only [List.length_cons] at hd
      obtain ⟨p, h3⟩ := run_deep ws r1 (fun v hv => hk v (List.mem_cons_of_mem _ hv)) (by omega) (by omega)
      exact ⟨p, by rw [runR_ok h1]; exact h3⟩
    · exact ⟨w.at_, runR_err (step_deep (hk w List.mem_cons_self) h)⟩
theorem run_ends : ∀ (ws : List Word) (r : RSt), KindsEnd ws → r.st.length = ws.length → ∃ r', runR r ws = .ok r' ∧ r'.st = []
  | [], r, _, h => ⟨r, rfl, List.length_eq_zero_iff.1 h⟩
  | w :: ws, r, hk, hl => by
    simp only [List.length_cons] at hl
    obtain ⟨r1, h1, h2⟩ := step_end (r := r) (hk w List.mem_cons_self) (by omega)
    obtain ⟨r2, h3, h4⟩ := run_ends ws r1 (fun v hv => hk v (List.mem_cons_of_mem _ hv)) (by omega)
    exact ⟨r2, by rw [runR_ok h1]; exact h3, h4⟩
/-- What a text of bs opened, a word, and n ends comes to. -/
theorem deep_ref (bs : List Bool) (n : Nat) (hb : bs.length ≤ 20) (hn : n ≤ 20) : refParse (opensS bs ++ ([120] ++ endsS n)) = (match lexW 0 (opensS bs ++ ([120] ++ endsS n)) with | (ws, _) => stackR ws) ∧ (lexW 0 (opensS bs ++ ([120] ++ endsS n))).2 = -1 := by
  obtain ⟨os, x, es, h1, -⟩ := lex_deep bs n 0
  have hl : (opensS bs ++ ([120] ++ endsS n)).length ≤ 65536 := by
    have := opensS_len bs
    have := endsS_len n
    simp only [List.length_append, List.length_singleton]
    omega
  refine ⟨?_, by rw [h1]⟩
  unfold refParse
  rw [if_neg (by omega), h1]
  rfl
theorem deep_open (bs : List Bool) (hb : bs.length ≤ 20) (h0 : 0 < bs.length) : ∃ f, parseF (opensS bs ++ [120]) = .error f ∧ f.2 ≠ 0 := by
  have h := (deep_ref bs 0 hb (by omega)).1
  obtain ⟨os, x, es, h1, h2, h3, h4, h5, h6⟩ := lex_deep bs 0 0
  rw [h1] at h
  have he : es = [] := List.length_eq_zero_iff.1 h5
  subst he
  have e : opensS bs ++ ([120] ++ endsS 0) = opensS bs ++ [120] := by simp [endsS]
  rw [e] at h
  rw [parse_ref, h]
  dsimp only
  unfold stackR
  rcases Nat.lt_or_ge 16 os.length with hd | hd
  · obtain ⟨p, hp⟩ := run_deep os r0 h3 (by decide) (by show 16 < 0 + os.length; omega)
    rw [runR_append_err hp]
    exact ⟨_, rfl, by dsimp only; omega⟩
  · obtain ⟨r1, h7, h8⟩ := run_opens os r0 h3 (by show 0 + os.length ≤ 16; omega)
    obtain ⟨r2, h9, h10⟩ := step_lit (r := r1) h4
    rw [runR_append h7, runR_ok h9]
    show ∃ f, finR r2 = .error f ∧ f.2 ≠ 0
    unfold finR
    rw [h10]
    have h11 : r1.st.length = os.length := by rw [h8]; show 0 + os.length = os.length; omega
    cases hl : r1.st.getLast? with
    | none => rw [List.getLast?_eq_none_iff] at hl; rw [hl] at h11; simp at h11; omega
    | some o => exact ⟨_, rfl, by dsimp only; omega⟩
theorem deep_whole (bs : List Bool) (hb : bs.length ≤ 20) : (bs.length ≤ 16 ∧ ∃ t, parseF (opensS bs ++ ([120] ++ endsS bs.length)) = .ok t) ∨ (16 < bs.length ∧ ∃ p, parseF (opensS bs ++ ([120] ++ endsS bs.length)) = .error (p, 3)) := by
  have h := (deep_ref bs bs.length hb hb).1
  obtain ⟨os, x, es, h1, h2, h3, h4, h5, h6⟩ := lex_deep bs bs.length 0
  rw [h1] at h
  rw [parse_ref, h]
  dsimp only
  unfold stackR
  rcases Nat.lt_or_ge 16 os.length with hd | hd
  · obtain ⟨p, hp⟩ := run_deep os r0 h3 (by decide) (by show 16 < 0 + os.length; omega)
    rw [runR_append_err hp]
    exact .inr ⟨by omega, p, rfl⟩
  · obtain ⟨r1, h7, h8⟩ := run_opens os r0 h3 (by show 0 + os.length ≤ 16; omega)
    obtain ⟨r2, h9, h10⟩ := step_lit (r := r1) h4
    obtain ⟨r3, h11, h12⟩ := run_ends es r2 h6 (by rw [h10, h8, h5]; show 0 + os.length = _; omega)
    rw [runR_append h7, runR_ok h9, h11]
    refine .inl ⟨by omega, ?_⟩
    show ∃ t, finR r3 = .ok t
    unfold finR
    rw [h12]
    exact ⟨_, rfl⟩
theorem deep_none : ∃ x, parseF [120] = .ok ([0], [x]) := ⟨⟨0, 0, [120], false, [], [], [], false, 0⟩, by kernel_rfl⟩
end Go.Proofs.YtcggeaobonblfaaDoor

/- bobbinlaw14.ParseDeep: walked. -/
namespace Go.Proofs.YtcggeaobonblfaaDoor
set_option linter.unusedSimpArgs false
set_option linter.unusedVariables false
open Go Go.RowKit Go.Proofs.YtcggeaobonblfaaDoorW.PrintWords Go.Proofs.YtcggeaobonblfaaDoor.PParseTrees
theorem str_app (l : List UInt8) (b : Array UInt8) : (⟨l.toArray⟩ : ByteArray) ++ ⟨b⟩ = ⟨(l ++ b.toList).toArray⟩ := by
  apply ByteArray.ext
  simp
/-- What a parse answers: the tree, the place at fault, the error's number. -/
structure Out where
  (nodes : List Node) (top : List Int) (at_ e : Int)
def outR : Except Fault (List Int × List Node) → Out
  | .error f => ⟨[], [], f.1, f.2⟩
  | .ok (top, nodes) => ⟨nodes, top, 0, 0⟩
def outF (s : List UInt8) : Out := outR (refParse s)
def OutPost (w : World) (o : Out) (e : Ending) (w' : World) : Prop :=
  ∃ A c B d, e = .returned (.tuple #[.agg #[.slice A o.nodes.length c, .slice B o.top.length d], .int .i64 o.at_, .int .i64 o.e]) ∧ TreeC w' A c (o.nodes.map toN) B d o.top ∧ Below w.heap.size w w'
theorem parse_out (s : List UInt8) (w : World) (hs : s.length ≤ 140737488351232) (hm : MaxLenAt w) : Calls Tryd.prog 9 #[.string ⟨s.toArray⟩] w (OutPost w (outF s)) := by
  refine (parse_any s w hs hm).mono fun e w' h => ?_
  unfold outF
  rw [parse_ref] at h
  cases hr : refParse s with
  | error f =>
    rw [hr] at h
    obtain ⟨rfl, hb⟩ := h
    exact ⟨_, _, _, _, rfl, tree_none _, hb⟩
  | ok r =>
    obtain ⟨top, nodes⟩ := r
    obtain ⟨n1, n2, n3⟩ := ref_bounds hr
    rw [hr] at h
    obtain ⟨nv, tv, rfl, htr, hb⟩ := h
    obtain ⟨A, c, B, d, rfl, rfl, hC⟩ := treeAt_C htr n1 n2 n3
    exact ⟨A, c, B, d, rfl, hC, hb⟩
theorem ref_out (s : List UInt8) (w : World) (hs : s.length ≤ 140737488351232) : Calls Tryd.prog 10 #[.string ⟨s.toArray⟩] w (OutPost w (outF s)) := by
  refine (refParse_any s w hs).mono fun e w' h => ?_
  unfold outF
  cases hr : refParse s with
  | error f =>
    rw [hr] at h
    obtain ⟨rfl, hb⟩ := h
    exact ⟨_, _, _, _, rfl, tree_none _, hb⟩
  | ok r =>
    obtain ⟨top, nodes⟩ := r
    rw [hr] at h
    obtain ⟨A, c, B, d, rfl, hC, hb⟩ := h
    exact ⟨A, c, B, d, rfl, hC, hb⟩
theorem deep_one (bs : List Bool) (hb : bs.length ≤ 20) : (bs.length = 0 ↔ (outF (opensS bs ++ [120])).e = 0) ∧ (bs.length = 0 ↔ (outF (opensS bs ++ [120])).nodes.length = 1) := by
  unfold outF
  rw [← parse_ref]
  rcases Nat.eq_zero_or_pos bs.length with h | h
  · have : bs = [] := List.length_eq_zero_iff.1 h
    subst this
    obtain ⟨x, hx⟩ := deep_none
    have e : opensS [] ++ [120] = [120] := rfl
    rw [e, hx]
    exact ⟨⟨fun _ => rfl, fun _ => rfl⟩, ⟨fun _ => rfl, fun _ => rfl⟩⟩
  · obtain ⟨f, hf, hne⟩ := deep_open bs hb h
    rw [hf]
    exact ⟨⟨fun h2 => by omega, fun h2 => absurd h2 hne⟩, ⟨fun h2 => by omega, fun h2 => by cases h2⟩⟩
theorem deep_two (bs : List Bool) (hb : bs.length ≤ 20) : (outF (opensS bs ++ ([120] ++ endsS bs.length))).e = 3 ↔ 16 < bs.length := by
  unfold outF
  rw [← parse_ref]
  rcases deep_whole bs hb with ⟨h, ⟨top, nodes⟩, ht⟩ | ⟨h, p, hp⟩
  · rw [ht]
    exact ⟨fun h2 => absurd h2 (by show ¬ (0 : Int) = 3; omega), fun h2 => by omega⟩
  · rw [hp]
    exact ⟨fun _ => h, fun _ => rfl⟩
set_option maxRecDepth 100000 in
set_option maxHeartbeats 4000000 in
theorem parseDeep_any (n kinds : Int) (w : World) (hn0 : 0 ≤ n) (hn1 : n < 256) (hk0 : 0 ≤ kinds) (hk1 : kinds < 4294967296) (hm : MaxLenAt w) :
    Calls Tryd.prog 4 #[.int .u8 n, .int .u32 kinds] w fun e w' => e = .returned (.bool true) ∧ Below w.heap.size w w' := by
  obtain ⟨n, rfl⟩ := Int.eq_ofNat_of_zero_le hn0
  obtain ⟨m, hmn⟩ : ∃ m, n % 20 = m := ⟨_, rfl⟩
  have hm20 : m < 20 := by omega
  have hmz : (n : Int) % 20 = (m : Int) := by omega
  have Hmz := Lib.hid hmz
  have HA := Lib.hid (awake_any w hm)
  have Hm := Lib.hid hm
  clear hm hmn hmz
  go_enter Tryd.func4, Tryd.ntmps4
  go_wp2_with fail
  refine (HA.out).mono ?_
  rintro e w1 ⟨rfl, hb1⟩
  have Hm1 := Lib.hid (Hm.out.below hb1)
  have HB1 := Lib.hid hb1
  have hz1 := hb1.size
  clear hb1 HA
  go_wp2_with fail
  rw [Hmz.out]
  go_loop [6, 7] (fun a b => ∃ bs : List Bool, bs.length ≤ m ∧ a = .string ⟨(opensS bs).toArray⟩ ∧ b = .int .i64 bs.length) (fun _ b => m - (intOf b).toNat)
  case atStart => exact ⟨[], by simp, rfl, rfl⟩
  case round =>
    obtain ⟨bs, hl, rfl, rfl⟩ := hrel
    have hlen := opensS_len bs
    by_cases hlt : bs.length < m
    · have e1 := Lib.hid (opensS_snoc bs true)
      have e2 := Lib.hid (opensS_snoc bs false)
      go_wp2
      · exact ⟨⟨bs ++ [true], by simp; omega, by rw [e1.out, str_app]; rfl, by simp⟩, by simp [intOf]; omega⟩
      · exact ⟨⟨bs ++ [false], by simp; omega, by rw [e2.out, str_app]; rfl, by simp⟩, by simp [intOf]; omega⟩
    · obtain rfl : m = bs.length := by omega
      have HL1 : Hid ((opensS bs ++ [120]).length ≤ 140737488351232) := Lib.hid (by simp; omega)
      have HL2 : Hid ((opensS bs ++ ([120] ++ endsS bs.length)).length ≤ 140737488351232) := Lib.hid (by have := endsS_len bs.length; simp; omega)
      obtain ⟨f1, f2⟩ := deep_one bs (by omega)
      have f3 := deep_two bs (by omega)
      obtain ⟨o1, ho1⟩ : ∃ o, outF (opensS bs ++ [120]) = o := ⟨_, rfl⟩
      obtain ⟨o2, ho2⟩ : ∃ o, outF (opensS bs ++ ([120] ++ endsS bs.length)) = o := ⟨_, rfl⟩
      have HP1 := Lib.hid (parse_out (opensS bs ++ [120]) w1 HL1.out Hm1.out)
      have HP2 := Lib.hid (fun W (h : Below w.heap.size w W) => parse_out (opensS bs ++ ([120] ++ endsS bs.length)) W HL2.out (Hm.out.below h))
      have HQ2 := Lib.hid (fun W => ref_out (opensS bs ++ ([120] ++ endsS bs.length)) W HL2.out)
      have HQ1 := Lib.hid (fun W => ref_out (opensS bs ++ [120]) W HL1.out)
      rw [ho1] at f1 f2 HP1 HQ1
      rw [ho2] at f3 HP2 HQ2
      have hs1 := Lib.hid (str_app (opensS bs) #[120])
      clear ho1 ho2
      have F1 := Lib.hid f1
      have F2 := Lib.hid f2
      have F3 := Lib.hid f3
      clear f1 f2 f3
      go_wp2_with fail
      rw [hs1.out]
      refine (HP1.out).mono ?_
      rintro e w2 ⟨A1, c1, B1, d1, rfl, hC1, hb2⟩
      obtain ⟨W2, hW2⟩ : ∃ W2, w2.alloc (.cells #[.slice A1 o1.nodes.length c1, .slice B1 o1.top.length d1] 26) = W2 := ⟨_, rfl⟩
      have hB2 : Below w.heap.size w W2 := by rw [← hW2]; exact ((HB1.out.trans (hb2.mono hz1)).alloc (Nat.le_trans hz1 hb2.size) _)
      have x2 : W2.heap[w2.heap.size]? = some (.cells #[.slice A1 o1.nodes.length c1, .slice B1 o1.top.length d1] 26) := by rw [← hW2]; exact World.alloc_heap_new w2 _
      have HW2 := Lib.hid hW2
      have HB2 := Lib.hid hB2
      have X2 := Lib.hid x2
      clear hW2 hB2 x2 hb2 hC1 HP1 HB1 Hm1
      go_wp2_with fail
      rw [HW2.out, hs1.out]
      clear HW2
      go_loop [11, 12] (fun a b => ∃ k : Nat, k ≤ bs.length ∧ a = .string ⟨(opensS bs ++ ([120] ++ endsS k)).toArray⟩ ∧ b = .int .i64 k) (fun _ b => bs.length - (intOf b).toNat)
      case atStart => exact ⟨0, Nat.zero_le _, by simp [endsS], rfl⟩
      case round =>
        obtain ⟨k, hk, rfl, rfl⟩ := hrel
        have hlen2 := endsS_len k
        by_cases hlt2 : k < bs.length
        · have e3 := Lib.hid (endsS_snoc k)
          go_wp2
          exact ⟨⟨k + 1, by omega, by rw [str_app, e3.out]; simp [endS], by go_num⟩, by simp [intOf]; omega⟩
        · obtain rfl : k = bs.length := by omega
          go_wp2_with fail
          refine (HP2.out W2 HB2.out).mono ?_
          rintro e w3 ⟨A2, c2, B2, d2, rfl, hC2, hb3⟩
          obtain ⟨W3, hW3⟩ : ∃ W3, w3.alloc (.cells #[.slice A2 o2.nodes.length c2, .slice B2 o2.top.length d2] 26) = W3 := ⟨_, rfl⟩
          have hb3' : Below W2.heap.size W2 W3 := by rw [← hW3]; exact hb3.alloc hb3.size _
          have hB3 : Below w.heap.size w W3 := HB2.out.trans (hb3'.mono HB2.out.size)
          have x3 : W3.heap[w3.heap.size]? = some (.cells #[.slice A2 o2.nodes.length c2, .slice B2 o2.top.length d2] 26) := by rw [← hW3]; exact World.alloc_heap_new w3 _
          have hC3 : TreeC W3 A2 c2 (o2.nodes.map toN) B2 d2 o2.top := hC2.below (by rw [← hW3]; exact (Below.refl _ _).alloc (Nat.le_refl _) _)
          have HW3 := Lib.hid hW3
          have HB3 := Lib.hid hB3
          have HC3 := Lib.hid hC3
          have X23 := Lib.hid (box_later X2.out hb3')
          have X3 := Lib.hid x3
          clear hW3 hB3 x3 hb3 hb3' hC2 hC3 HP2 HB2 X2
          go_wp2_with fail
          rw [HW3.out]
          clear HW3
          refine (HQ2.out W3).mono ?_
          rintro e w4 ⟨A3, c3, B3, d3, rfl, hC4, hb4⟩
          obtain ⟨W4, hW4⟩ : ∃ W4, w4.alloc (.cells #[.slice A3 o2.nodes.length c3, .slice B3 o2.top.length d3] 26) = W4 := ⟨_, rfl⟩
          have hb4' : Below W3.heap.size W3 W4 := by rw [← hW4]; exact hb4.alloc hb4.size _
          have hB4 : Below w.heap.size w W4 := HB3.out.trans (hb4'.mono HB3.out.size)
          have x4 : W4.heap[w4.heap.size]? = some (.cells #[.slice A3 o2.nodes.length c3, .slice B3 o2.top.length d3] 26) := by rw [← hW4]; exact World.alloc_heap_new w4 _
          have hC5 : TreeC W4 A3 c3 (o2.nodes.map toN) B3 d3 o2.top := hC4.below (by rw [← hW4]; exact (Below.refl _ _).alloc (Nat.le_refl _) _)
          have HW4 := Lib.hid hW4
          have HB4 := Lib.hid hB4
          have HC4 := Lib.hid (HC3.out.below hb4')
          have HC5 := Lib.hid hC5
          have X24 := Lib.hid (box_later X23.out hb4')
          have X34 := Lib.hid (box_later X3.out hb4')
          have X4 := Lib.hid x4
          clear hW4 hB4 x4 hb4 hb4' hC4 hC5 HQ2 HB3 X23 X3 HC3
          go_wp2_with fail
          rw [HW4.out, hs1.out]
          clear HW4
          refine (HQ1.out W4).mono ?_
          rintro e w5 ⟨A5, c5, B5, d5, rfl, hC6, hb5⟩
          obtain ⟨W5, hW5⟩ : ∃ W5, w5.alloc (.cells #[.slice A5 o1.nodes.length c5, .slice B5 o1.top.length d5] 26) = W5 := ⟨_, rfl⟩
          have hb5' : Below W4.heap.size W4 W5 := by rw [← hW5]; exact hb5.alloc hb5.size _
          have hB5 : Below w.heap.size w W5 := HB4.out.trans (hb5'.mono HB4.out.size)
          obtain ⟨t0, t1⟩ := box_two (box_later X24.out hb5')
          obtain ⟨v0, v1⟩ := box_two (box_later X34.out hb5')
          obtain ⟨q0, q1⟩ := box_two (box_later X4.out hb5')
          have hS := same_any A2 c2 (o2.nodes.map toN) B2 d2 o2.top A3 c3 (o2.nodes.map toN) B3 d3 o2.top W5 (HC4.out.below hb5') (HC5.out.below hb5')
          rw [sameB_refl, List.length_map] at hS
          have HS := Lib.hid hS
          have HW5 := Lib.hid hW5
          have HB5 := Lib.hid hB5
          have z2 : w2.heap.size < w5.heap.size := by have := World.heap_lt X24.out; have := hb5.size; omega
          have z3 : w3.heap.size < w5.heap.size := by have := World.heap_lt X34.out; have := hb5.size; omega
          have z4 : w4.heap.size < w5.heap.size := by have := World.heap_lt X4.out; have := hb5.size; omega
          clear hS hW5 hB5 hb5 hb5' hC6 HQ1 HB4 X24 X34 X4 HC4 HC5
          have g1 : ((bs.length : Int) == 0) = (o1.e == 0) := by
            have := F1.out
            rw [Bool.eq_iff_iff, beq_iff_eq, beq_iff_eq]; omega
          have g2 : ((bs.length : Int) == 0) = ((o1.nodes.length : Int) == 1) := by
            have := F2.out
            rw [Bool.eq_iff_iff, beq_iff_eq, beq_iff_eq]; omega
          have g3 : (o2.e == 3) = decide ((16 : Int) < (bs.length : Int)) := by
            have := F3.out
            rw [Bool.eq_iff_iff, beq_iff_eq, decide_eq_true_eq]; omega
          have G1 := Lib.hid g1
          have G2 := Lib.hid g2
          have G3 := Lib.hid g3
          clear g1 g2 g3
          go_upto_region 20 with (fail)
          rw [HW5.out]
          clear HW5
          obtain ⟨b, hbb⟩ : ∃ b, ((bs.length : Int) == 0) = b := ⟨_, rfl⟩
          obtain ⟨c, hcc⟩ : ∃ c, decide ((16 : Int) < (bs.length : Int)) = c := ⟨_, rfl⟩
          have a2 : (o1.e == 0) = b := G1.out.symm.trans hbb
          have a3 : ((o1.nodes.length : Int) == 1) = b := G2.out.symm.trans hbb
          have a4 : (o2.e == 3) = c := G3.out.trans hcc
          clear G1 G2 G3 F1 F2 F3
          cases b <;> cases c
          all_goals
            go_wp2_with fail
            refine (HS.out).mono ?_
            rintro e w6 ⟨rfl, hb6⟩
            have HB6 := Lib.hid (HB5.out.trans (hb6.mono HB5.out.size))
            clear hb6
            go_wp2
            go_ret
            exact ⟨rfl, HB6.out⟩
end Go.Proofs.YtcggeaobonblfaaDoor
