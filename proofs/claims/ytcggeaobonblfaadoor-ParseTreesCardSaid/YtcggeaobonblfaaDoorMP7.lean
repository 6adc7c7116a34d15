/- Part 7 of the proof of RowParseTrees, RowParseDeep: lemmas and contracts: R13b, R13c, R13d, R14g, R14a, R14b, R14c, R14h, R14i, Law14a. -/
import Derived.Test.YtcggeaobonblfaaDoorMP3
import Derived.Test.YtcggeaobonblfaaDoorMP6
import Derived.Test.YtcggeaobonblfaaDoorMP4
import Derived.Deep.RegionHeld3
import Derived.Deep.DeepCutAuto
import Derived.Deep.CutRange
import Derived.Outline
import Derived.Deep.QuietTactic
import Derived.BigQuiet
/- The reference's ways: what was printed answers as wayF says. -/
namespace Go.Proofs.YtcggeaobonblfaaDoor
set_option linter.unusedSimpArgs false
open Go Go.RowKit Go.Proofs.YtcggeaobonblfaaDoorW.PrintWords Go.Proofs.YtcggeaobonblfaaDoor.PParseTrees
theorem dots_plain : ∀ (p : List UInt8), (∀ b ∈ p, b ≠ 46) → dots p = [p] ∧ ∀ r, dots (p ++ 46 :: r) = p :: dots r
  | [], _ => ⟨rfl, fun r => by simp [dots]⟩
  | b :: p, h => by
    obtain ⟨h1, h2⟩ := dots_plain p (fun x hx => h x (List.mem_cons_of_mem _ hx))
    have hb : b ≠ 46 := h b (List.mem_cons_self)
    refine ⟨by unfold dots; rw [if_neg hb, h1], fun r => ?_⟩
    rw [List.cons_append]
    conv => lhs; unfold dots
    rw [if_neg hb, h2]
/-- What the loop of Way comes to. -/
def wayEnd (root : Bool) (names parts : List (List UInt8)) : Bool × List ByteArray × Bool :=
  if parts.all nameF && decide (names.length + parts.length ≤ 8) then (root, (names ++ parts).map toB, true) else (false, [], false)
theorem wayEnd_cons (root : Bool) (names : List (List UInt8)) (p : List UInt8) (parts : List (List UInt8)) :
    wayEnd root names (p :: parts) = if nameF p = true ∧ names.length < 8 then wayEnd root (names ++ [p]) parts else (false, [], false) := by
  by_cases h : nameF p = true ∧ names.length < 8
  · conv => rhs; rw [if_pos h]
    unfold wayEnd
    simp [h.1, Nat.add_assoc, Nat.add_comm 1]
  · conv => rhs; rw [if_neg h]
    unfold wayEnd
    rw [if_neg]
    intro h2
    simp at h2
    exact h ⟨h2.1.1, by omega⟩
theorem way_loop (l : List UInt8) (hl : l.length ≤ 100000) (root : Bool) : ∀ (m f i : Nat) (names : List (List UInt8)), l.length + 1 - i = m → f ≤ i → i ≤ l.length → names.length ≤ 8 → (∀ j, f ≤ j → j < i → l[j]? ≠ some 46) →
    Ev (fun k => bobbinref13_Way.l0 k (toB l) f i root (names.map toB)) (wayEnd root names (dots (l.drop f))) := by
  intro m
  induction m with
  | zero => intro f i names hm hf hi; omega
  | succ m ih =>
    intro f i names hm hf hi hn hj
    have hw : wrap64 ((i : Int) + 1) = ((i + 1 : Nat) : Int) := by rw [w64 (by omega) (by omega)]; omega
    -- the part that ends here
    have cut : (i = l.length ∨ l[i]? = some 46) → Ev (fun k => bobbinref13_Way.j3 k (toB l) f i false root (names.map toB)) (wayEnd root names (dots (l.drop f))) := by
      intro hc
      have hplain : ∀ b ∈ (l.drop f).take (i - f), b ≠ 46 := by
        intro b hb e
        obtain ⟨j, hjl, hjb⟩ := List.getElem_of_mem hb
        subst e
        have hjl' : j < i - f := by simp at hjl; omega
        refine hj (f + j) (by omega) (by omega) ?_
        rw [List.getElem_take, List.getElem_drop] at hjb
        rw [← hjb]
        exact List.getElem?_eq_getElem _
      obtain ⟨d1, d2⟩ := dots_plain _ hplain
      have hdots : dots (l.drop f) = (l.drop f).take (i - f) :: (if i = l.length then [] else dots (l.drop (i + 1))) := by
        by_cases hil : i = l.length
        · rw [if_pos hil]
          have : (l.drop f).take (i - f) = l.drop f := List.take_of_length_le (by simp; omega)
          rw [this] at d1 ⊢
          exact d1
        · rw [if_neg hil]
          have h46 : l[i]? = some 46 := hc.resolve_left hil
          have hlt : i < l.length := by omega
          have : l.drop f = (l.drop f).take (i - f) ++ 46 :: l.drop (i + 1) := by
            have e1 := (List.take_append_drop (i - f) (l.drop f)).symm
            rw [List.drop_drop, show f + (i - f) = i by omega, List.drop_eq_getElem_cons hlt] at e1
            rw [List.getElem?_eq_getElem hlt] at h46
            rw [Option.some.inj h46] at e1
            exact e1
          conv => lhs; rw [this]
          exact d2 _
      rw [hdots, wayEnd_cons]
      have hpart := name_ev ((l.drop f).take (i - f)) (by simp; omega)
      have e0 : ∀ k, bobbinref13_Way.j3 (k + 1) (toB l) f i false root (names.map toB) = (bobbinref13_Name.f k (toB ((l.drop f).take (i - f)))).bind fun t122 => (if t122 = true then (if ((names.map toB).length : Int) ≥ 8 then (some (false, ([] : List ByteArray), false)) else (if (names.map toB).length < 8796093022208 then (bobbinref13_Way.l0 k (toB l) ((i + 1 : Nat) : Int) ((i + 1 : Nat) : Int) root ((names.map toB) ++ [toB ((l.drop f).take (i - f))])) else (none))) else (some (false, ([] : List ByteArray), false))) := fun k => by
        conv => lhs; unfold bobbinref13_Way.j3
        rw [if_neg (by simp), if_pos (by omega), if_pos (by omega), if_pos (by rw [toB_size]; omega), hw]
        simp only [Int.toNat_natCast]
        rw [ext_cut]
      refine Ev.step e0 (Ev.bind hpart ?_)
      by_cases h1 : nameF ((l.drop f).take (i - f)) = true
      · by_cases h2 : names.length < 8
        · rw [if_pos ⟨h1, h2⟩]
          have key : Ev (fun k => bobbinref13_Way.l0 k (toB l) ((i + 1 : Nat) : Int) ((i + 1 : Nat) : Int) root ((names ++ [(l.drop f).take (i - f)]).map toB)) (wayEnd root (names ++ [(l.drop f).take (i - f)]) (if i = l.length then [] else dots (l.drop (i + 1)))) := by
            by_cases hil : i = l.length
            · rw [if_pos hil]
              refine Ev.step (f := fun _ => some (wayEnd root (names ++ [(l.drop f).take (i - f)]) [])) (fun k => ?_) (Ev.now _)
              conv => lhs; unfold bobbinref13_Way.l0
              rw [if_neg (by rw [toB_size]; omega)]
              unfold wayEnd
              rw [if_pos (by simp; omega)]
              simp
            · rw [if_neg hil]
              exact ih (i + 1) (i + 1) _ (by omega) (Nat.le_refl _) (by omega) (by simp; omega) (fun j h1 h2 => by omega)
          refine Ev.congr (fun k => ?_) key
          rw [if_pos h1, if_neg (by simp; omega), if_pos (by simp; omega)]
          simp
        · rw [if_neg (fun h => h2 h.2)]
          refine Ev.congr (fun k => ?_) (Ev.now _)
          rw [if_pos h1, if_pos (by simp; omega)]
      · rw [if_neg (fun h => h1 h.1)]
        refine Ev.congr (fun k => ?_) (Ev.now _)
        rw [if_neg h1]
    by_cases hil : i = l.length
    · refine Ev.step (fun k => ?_) (cut (.inl hil))
      conv => lhs; unfold bobbinref13_Way.l0
      rw [if_pos (by rw [toB_size]; omega), if_neg (by rw [toB_size]; omega)]
    · have hlt : i < l.length := by omega
      have hb := toB_bt l i hlt
      by_cases h46 : l[i] = 46
      · refine Ev.step (fun k => ?_) (cut (.inr (by rw [List.getElem?_eq_getElem hlt, h46])))
        conv => lhs; unfold bobbinref13_Way.l0
        rw [if_pos (by rw [toB_size]; omega), if_pos (by rw [toB_size]; omega), if_pos (by omega), hb, h46]
        rfl
      · have hne : (((l[i].toNat : Int)) != 46) = true := by
          simp only [bne_iff_ne, ne_eq]
          intro h
          exact h46 (UInt8.toNat_inj.1 (by have h3 : (46 : UInt8).toNat = 46 := rfl; omega))
        refine Ev.step (f := fun k => bobbinref13_Way.j3 k (toB l) f i true root (names.map toB)) (fun k => ?_) ?_
        · conv => lhs; unfold bobbinref13_Way.l0
          rw [if_pos (by rw [toB_size]; omega), if_pos (by rw [toB_size]; omega), if_pos (by omega), hb, hne]
        refine Ev.step (f := fun k => bobbinref13_Way.l0 k (toB l) f ((i + 1 : Nat) : Int) root (names.map toB)) (fun k => ?_) ?_
        · conv => lhs; unfold bobbinref13_Way.j3
          rw [if_pos rfl, hw]
        · refine ih f (i + 1) names (by omega) (by omega) (by omega) hn (fun j h1 h2 => ?_)
          by_cases hji : j = i
          · subst hji
            rw [List.getElem?_eq_getElem hlt]
            exact fun h => h46 (Option.some.inj h)
          · exact hj j h1 (by omega)
/-- A way, with its names as the print has them. -/
def wayB (r : Bool × List (List UInt8) × Bool) : Bool × List ByteArray × Bool := (r.1, r.2.1.map toB, r.2.2)
theorem way_ev (l : List UInt8) (hl : l.length ≤ 100000) : Ev (fun k => bobbinref13_Way.f k (toB l)) (wayB (wayF l)) := by
  have j1 : ∀ (x : List UInt8) (root : Bool), x.length ≤ 100000 → Ev (fun k => bobbinref13_Way.j1 k (toB x) root) (wayEnd root [] (dots x)) := fun x root hx =>
    Ev.step (f := fun k => bobbinref13_Way.l0 k (toB x) ((0 : Nat) : Int) ((0 : Nat) : Int) root (([] : List (List UInt8)).map toB)) (fun k => by
      conv => lhs; unfold bobbinref13_Way.j1
      rfl)
      (by simpa using way_loop x hx root _ 0 0 [] rfl (Nat.le_refl _) (Nat.zero_le _) (by simp) (fun j h1 h2 => by omega))
  have hend : ∀ root x, wayEnd root [] x = wayB (if (x.all nameF && decide (x.length ≤ 8)) = true then (root, x, true) else (false, [], false)) := fun root x => by
    unfold wayEnd wayB
    by_cases h : (x.all nameF && decide (x.length ≤ 8)) = true
    · rw [if_pos h, if_pos (by simpa using h)]; simp
    · rw [if_neg h, if_neg (by simpa using h)]; rfl
  have j0f : ∀ x : List UInt8, x.length ≤ 100000 → Ev (fun k => bobbinref13_Way.j0 k (toB x) false false) (wayEnd false [] (dots x)) := fun x hx =>
    Ev.step (f := fun k => bobbinref13_Way.j1 k (toB x) false) (fun k => by
      conv => lhs; unfold bobbinref13_Way.j0
      rfl) (j1 x false hx)
  have hf : ∀ k, bobbinref13_Way.f k (toB l) = if l = [46] then (some (false, ([] : List ByteArray), true)) else (if l = [36] then (some (true, ([] : List ByteArray), true)) else (if ((toB l).size : Int) ≥ 2 then (if 0 < ((toB l).size : Int) then (if (bt (toB l) ((0 : Nat) : Int)) = 36 then (if 1 < ((toB l).size : Int) then (bobbinref13_Way.j0 k (toB l) ((bt (toB l) ((1 : Nat) : Int)) == 46) false) else (none)) else (bobbinref13_Way.j0 k (toB l) false false)) else (none)) else (bobbinref13_Way.j0 k (toB l) false false))) := fun k => by
    unfold bobbinref13_Way.f
    rw [toB_list]
    rfl
  unfold wayF
  by_cases h1 : l = [46]
  · rw [if_pos h1]
    refine Ev.congr (fun k => ?_) (Ev.now _)
    rw [hf, if_pos h1]; rfl
  rw [if_neg h1]
  by_cases h2 : l = [36]
  · rw [if_pos h2]
    refine Ev.congr (fun k => ?_) (Ev.now _)
    rw [hf, if_neg h1, if_pos h2]; rfl
  rw [if_neg h2]
  have h46 : ∀ b : UInt8, ((b.toNat : Int) == 46) = (b == 46) := fun b => by
    by_cases h : b = 46
    · subst h; rfl
    · have h' : (b == 46) = false := by simpa using h
      rw [h']
      simp only [beq_eq_false_iff_ne, ne_eq]
      exact fun e => h (UInt8.toNat_inj.1 (by have h3 : (46 : UInt8).toNat = 46 := rfl; omega))
  have h36 : ∀ b : UInt8, (b.toNat : Int) = 36 ↔ b = 36 := fun b =>
    ⟨fun e => UInt8.toNat_inj.1 (by have h3 : (36 : UInt8).toNat = 36 := rfl; omega), fun e => by subst e; rfl⟩
  have plain : Lib.hasPrefix l [36, 46] = false → (∀ k, bobbinref13_Way.f k (toB l) = bobbinref13_Way.j0 k (toB l) false false) → Ev (fun k => bobbinref13_Way.f k (toB l))
      (wayB (if ((dots (if Lib.hasPrefix l [36, 46] = true then l.drop 2 else l)).all nameF && decide ((dots (if Lib.hasPrefix l [36, 46] = true then l.drop 2 else l)).length ≤ 8)) = true then (Lib.hasPrefix l [36, 46], dots (if Lib.hasPrefix l [36, 46] = true then l.drop 2 else l), true) else (false, [], false))) := fun hp hk => by
    refine Ev.congr hk ?_
    have := j0f l hl
    rw [hend] at this
    simpa [hp] using this
  cases l with
  | nil =>
    refine plain rfl (fun k => ?_)
    rw [hf, if_neg h1, if_neg h2, if_neg (by rw [toB_size]; simp)]
  | cons a l =>
    cases l with
    | nil =>
      refine plain (by simp [Lib.hasPrefix, List.isPrefixOf]) (fun k => ?_)
      rw [hf, if_neg h1, if_neg h2, if_neg (by rw [toB_size]; simp)]
    | cons b r =>
      have hb0 : bt (toB (a :: b :: r)) ((0 : Nat) : Int) = (a.toNat : Int) := toB_bt (a :: b :: r) 0 (by simp)
      have hb1 : bt (toB (a :: b :: r)) ((1 : Nat) : Int) = (b.toNat : Int) := toB_bt (a :: b :: r) 1 (by simp)
      have hs : (toB (a :: b :: r)).size = r.length + 2 := by rw [toB_size]; rfl
      by_cases ha : a = 36
      · by_cases hb : b = 46
        · subst ha hb
          have hp : Lib.hasPrefix (36 :: 46 :: r) [36, 46] = true := by simp [Lib.hasPrefix, List.isPrefixOf]
          have := j1 r true (by simp at hl; omega)
          rw [hend] at this
          refine Ev.congr (f := fun k => bobbinref13_Way.j0 k (toB (36 :: 46 :: r)) true false) (fun k => ?_) (Ev.step (f := fun k => bobbinref13_Way.j1 k (toB r) true) (fun k => ?_) ?_)
          · rw [hf, if_neg h1, if_neg h2, if_pos (by omega), if_pos (by omega), if_pos (by rw [hb0]; rfl), if_pos (by omega), hb1]
            rfl
          · conv => lhs; unfold bobbinref13_Way.j0
            dsimp only
            rw [if_pos rfl, if_pos (by omega), ext_drop _ _ _ (by rw [toB_size]; exact Nat.le_refl _)]
            rfl
          · simpa [hp] using this
        · refine plain (by simp [Lib.hasPrefix, List.isPrefixOf]; exact fun _ h => hb h.symm) (fun k => ?_)
          have hb' : (b == 46) = false := by simpa using hb
          rw [hf, if_neg h1, if_neg h2, if_pos (by omega), if_pos (by omega), if_pos (by rw [hb0]; exact (h36 a).2 ha), if_pos (by omega), hb1, h46, hb']
      · refine plain (by simp [Lib.hasPrefix, List.isPrefixOf]; exact fun h => absurd h.symm ha) (fun k => ?_)
        rw [hf, if_neg h1, if_neg h2, if_pos (by omega), if_pos (by omega), if_neg (by rw [hb0]; exact fun h => ha ((h36 a).1 h))]
end Go.Proofs.YtcggeaobonblfaaDoor

/- The reference's actions: what was printed answers as actionF says. -/
namespace Go.Proofs.YtcggeaobonblfaaDoor
set_option linter.unusedSimpArgs false
open Go Go.RowKit Go.Proofs.YtcggeaobonblfaaDoorW.PrintWords Go.Proofs.YtcggeaobonblfaaDoor.PParseTrees
theorem prefix_iff (s t : List UInt8) : Lib.hasPrefix s (t ++ [32]) = true ↔ s.take t.length = t ∧ s[t.length]? = some 32 := by
  unfold Lib.hasPrefix
  rw [List.isPrefixOf_iff_prefix]
  constructor
  · rintro ⟨r, rfl⟩
    simp
  · rintro ⟨h1, h2⟩
    refine ⟨s.drop (t.length + 1), ?_⟩
    have hlt := (List.getElem?_eq_some_iff.1 h2).1
    have h3 := (List.getElem?_eq_some_iff.1 h2).2
    have e := List.take_append_drop t.length s
    rw [List.drop_eq_getElem_cons hlt, h1, h3] at e
    simpa using e
theorem begins_f (s t : List UInt8) (_hs : s.length ≤ 100000) : bobbinref13_begins.f (toB s) (toB t) = some (Lib.hasPrefix s (t ++ [32])) := by
  have hp := prefix_iff s t
  unfold bobbinref13_begins.f
  by_cases h : t.length < s.length
  · have hb := toB_bt s t.length h
    have hq : s[t.length]? = some s[t.length] := List.getElem?_eq_getElem h
    rw [if_pos (by rw [toB_size, toB_size]; omega), if_pos (by omega), if_pos (by rw [toB_size, toB_size]; omega)]
    simp only [toB_size, Int.toNat_natCast]
    rw [ext_take, toB_list, toB_list]
    by_cases h2 : s.take t.length = t
    · rw [if_pos h2, if_pos (by omega), hb]
      congr 1
      by_cases h3 : s[t.length] = 32
      · rw [h3, hp.2 ⟨h2, by rw [hq, h3]⟩]
        rfl
      · have : Lib.hasPrefix s (t ++ [32]) = false := by
          rw [← Bool.not_eq_true, hp]
          exact fun h4 => h3 (Option.some.inj (hq.symm.trans h4.2))
        rw [this]
        simp only [beq_eq_false_iff_ne, ne_eq]
        exact fun e => h3 (UInt8.toNat_inj.1 (by have h3 : (32 : UInt8).toNat = 32 := rfl; omega))
    · rw [if_neg h2]
      have : Lib.hasPrefix s (t ++ [32]) = false := by
        rw [← Bool.not_eq_true, hp]
        exact fun h4 => h2 h4.1
      rw [this]
  · rw [if_neg (by rw [toB_size, toB_size]; omega)]
    have : Lib.hasPrefix s (t ++ [32]) = false := by
      rw [← Bool.not_eq_true, hp]
      exact fun h4 => h (List.getElem?_eq_some_iff.1 h4.2).1
    rw [this]
theorem right_suffix (c : UInt8) : ∀ (p y : List UInt8), Lib.trimRightB (p ++ y) c = p ++ y → Lib.trimRightB y c = y
  | [], y, h => h
  | b :: p, y, h => by
    rw [List.cons_append, trim_right_cons] at h
    by_cases h1 : Lib.trimRightB (p ++ y) c = []
    · rw [if_pos h1] at h
      have : p ++ y = [] := by
        by_cases hb : b = c
        · rw [if_pos hb] at h; cases h
        · rw [if_neg hb] at h; simpa using h.symm
      have hy : y = [] := (List.append_eq_nil_iff.1 this).2
      rw [hy]
      rfl
    · rw [if_neg h1] at h
      exact right_suffix c p y (List.cons.inj h).2
theorem right_trim (s : List UInt8) (c : UInt8) : Lib.trimRightB (Lib.trimB s c) c = Lib.trimB s c := by
  have : ∀ x : List UInt8, Lib.trimRightB (Lib.trimRightB x c) c = Lib.trimRightB x c := fun x => by
    unfold Lib.trimRightB
    rw [List.reverse_reverse]
    congr 1
    induction x.reverse with
    | nil => rfl
    | cons b l ih =>
      by_cases hb : (b == c) = true
      · simp only [List.dropWhile_cons, hb, if_true]; exact ih
      · rw [Bool.not_eq_true] at hb
        simp [List.dropWhile_cons, hb]
  rw [← trim_swap]
  exact this _
/-- Behind 'if' or 'range' and a blank. -/
theorem trim_behind (s : List UInt8) (n : Nat) (h : (Lib.trimB s 32)[n]? = some 32) : Lib.trimB ((Lib.trimB s 32).drop n) 32 = Lib.trimLeftB ((Lib.trimB s 32).drop (n + 1)) 32 := by
  have hlt := (List.getElem?_eq_some_iff.1 h).1
  have h3 := (List.getElem?_eq_some_iff.1 h).2
  rw [List.drop_eq_getElem_cons hlt, h3, ← trim_swap]
  have e : Lib.trimLeftB (32 :: (Lib.trimB s 32).drop (n + 1)) 32 = Lib.trimLeftB ((Lib.trimB s 32).drop (n + 1)) 32 := by
    unfold Lib.trimLeftB
    rw [List.dropWhile_cons_of_pos (by simp)]
  rw [e]
  obtain ⟨p, hp⟩ : ∃ p, p ++ Lib.trimLeftB ((Lib.trimB s 32).drop (n + 1)) 32 = (Lib.trimB s 32).drop (n + 1) := List.dropWhile_suffix _
  refine right_suffix 32 ((Lib.trimB s 32).take (n + 1) ++ p) _ ?_
  rw [List.append_assoc, hp, List.take_append_drop]
  exact right_trim s 32
def actB (r : Int × Bool × List (List UInt8) × Bool) : Int × Int × ByteArray × Bool × List ByteArray × Bool := (r.1, 0, ⟨#[]⟩, r.2.1, r.2.2.1.map toB, r.2.2.2)
theorem trim_len (s : List UInt8) : (Lib.trimB s 32).length ≤ s.length := by
  unfold Lib.trimB Lib.trimLeftB Lib.trimRightB
  refine Nat.le_trans (List.dropWhile_suffix _).length_le ?_
  rw [List.length_reverse]
  refine Nat.le_trans (List.dropWhile_suffix _).length_le ?_
  rw [List.length_reverse]
  exact Nat.le_refl _
theorem action_ev (s : List UInt8) (hs : s.length ≤ 65536) : Ev (fun k => bobbinref13_Action.f k (toB s)) (actB (actionF s)) := by
  have htl := trim_len s
  have ht := trim_ev s (by omega)
  have hbeh2 := trim_behind s 2
  have hbeh5 := trim_behind s 5
  obtain ⟨t, hT⟩ : ∃ t, Lib.trimB s 32 = t := ⟨_, rfl⟩
  rw [hT] at ht hbeh2 hbeh5 htl
  unfold bobbinref13_Action.f
  refine Ev.bind ht ?_
  have hA : actionF s = if t = [101, 108, 115, 101] then (3, false, [], true)
    else if t = [101, 110, 100] then (5, false, [], true)
    else if t = [102, 108, 117, 115, 104] then (6, false, [], true)
    else if Lib.hasPrefix t [105, 102, 32] then (2, wayF (Lib.trimLeftB (t.drop 3) 32))
    else if Lib.hasPrefix t [114, 97, 110, 103, 101, 32] then (4, wayF (Lib.trimLeftB (t.drop 6) 32))
    else if t = [105, 102] ∨ t = [114, 97, 110, 103, 101] then (0, false, [], false)
    else (1, wayF t) := by unfold actionF; rw [hT]
  rw [hA]
  simp only [toB_list]
  by_cases c1 : t = [101, 108, 115, 101]
  · simp only [if_pos c1]; exact Ev.now _
  simp only [if_neg c1]
  by_cases c2 : t = [101, 110, 100]
  · simp only [if_pos c2]; exact Ev.now _
  simp only [if_neg c2]
  by_cases c3 : t = [102, 108, 117, 115, 104]
  · simp only [if_pos c3]; exact Ev.now _
  simp only [if_neg c3]
  by_cases c4 : t = [105, 102]
  · simp only [if_pos c4]
    subst c4
    exact Ev.now _
  simp only [if_neg c4]
  by_cases c5 : t = [114, 97, 110, 103, 101]
  · simp only [if_pos c5]
    subst c5
    exact Ev.now _
  simp only [if_neg c5]
  have b2 : bobbinref13_begins.f (toB t) (⟨#[105, 102]⟩ : ByteArray) = some (Lib.hasPrefix t [105, 102, 32]) := begins_f t [105, 102] (by omega)
  have b5 : bobbinref13_begins.f (toB t) (⟨#[114, 97, 110, 103, 101]⟩ : ByteArray) = some (Lib.hasPrefix t [114, 97, 110, 103, 101, 32]) := begins_f t [114, 97, 110, 103, 101] (by omega)
  have p2 := prefix_iff t [105, 102]
  have p5 := prefix_iff t [114, 97, 110, 103, 101]
  simp only [b2, Option.bind_some]
  by_cases c6 : Lib.hasPrefix t [105, 102, 32] = true
  · simp only [if_pos c6]
    have h2 : t[2]? = some 32 := (p2.1 c6).2
    have hlt := (List.getElem?_eq_some_iff.1 h2).1
    have e := hbeh2 h2
    have ht2 := trim_ev (t.drop 2) (by simp; omega)
    rw [e] at ht2
    have hw := way_ev (Lib.trimLeftB (t.drop 3) 32) (by
      have : (Lib.trimLeftB (t.drop 3) 32).length ≤ (t.drop 3).length := (List.dropWhile_suffix _).length_le
      simp at this; omega)
    have hx : (toB t).extract 2 (toB t).size = toB (t.drop 2) := ext_drop _ _ _ (by rw [toB_size]; exact Nat.le_refl _)
    simp only [hx, if_pos (show (2 : Int) ≤ ((toB t).size : Int) by rw [toB_size]; omega)]
    exact Ev.bind ht2 (Ev.bind hw (Ev.now _))
  simp only [if_neg c6, b5, Option.bind_some]
  by_cases c7 : Lib.hasPrefix t [114, 97, 110, 103, 101, 32] = true
  · simp only [if_pos c7]
    have h2 : t[5]? = some 32 := (p5.1 c7).2
    have hlt := (List.getElem?_eq_some_iff.1 h2).1
    have e := hbeh5 h2
    have ht2 := trim_ev (t.drop 5) (by simp; omega)
    rw [e] at ht2
    have hw := way_ev (Lib.trimLeftB (t.drop 6) 32) (by
      have : (Lib.trimLeftB (t.drop 6) 32).length ≤ (t.drop 6).length := (List.dropWhile_suffix _).length_le
      simp at this; omega)
    have hx : (toB t).extract 5 (toB t).size = toB (t.drop 5) := ext_drop _ _ _ (by rw [toB_size]; exact Nat.le_refl _)
    simp only [hx, if_pos (show (5 : Int) ≤ ((toB t).size : Int) by rw [toB_size]; omega)]
    exact Ev.bind ht2 (Ev.bind hw (Ev.now _))
  simp only [if_neg c7]
  rw [if_neg (by intro h; rcases h with h | h; exact c4 h; exact c5 h)]
  exact Ev.bind (way_ev t (by omega)) (Ev.now _)
end Go.Proofs.YtcggeaobonblfaaDoor

/- The reference's words: what was printed answers as lexW says. -/
namespace Go.Proofs.YtcggeaobonblfaaDoor
set_option linter.unusedSimpArgs false
set_option linter.unusedVariables false
open Go Go.RowKit Go.Proofs.YtcggeaobonblfaaDoorW.PrintWords Go.Proofs.YtcggeaobonblfaaDoor.PParseTrees
theorem at_f (s t : List UInt8) (i : Nat) (hi : i ≤ s.length) (hs : s.length ≤ 100000) (ht : t.length ≤ 100) : bobbinref13_at.f (toB s) i (toB t) = some (t.isPrefixOf (s.drop i)) := by
  have hp : t.isPrefixOf (s.drop i) = true ↔ (s.drop i).take t.length = t := by
    rw [List.isPrefixOf_iff_prefix]
    constructor
    · rintro ⟨r, hr⟩
      rw [← hr]; simp
    · intro h
      rw [← h]
      exact List.take_prefix _ _
  have hw1 : wrap64 (((toB s).size : Int) - (i : Int)) = (s.length : Int) - i := by
    rw [toB_size]; unfold wrap64; omega
  have hw2 : wrap64 ((i : Int) + ((toB t).size : Int)) = ((i + t.length : Nat) : Int) := by rw [toB_size, w64 (by omega) (by omega)]; omega
  unfold bobbinref13_at.f
  rw [if_pos (by omega), hw1, hw2]
  by_cases h : i + t.length ≤ s.length
  · rw [if_pos (by rw [toB_size]; omega), if_pos (by omega), if_pos (by omega), if_pos (by rw [toB_size]; omega)]
    simp only [Int.toNat_natCast]
    rw [ext_cut, toB_list, toB_list, show i + t.length - i = t.length by omega]
    congr 1
    by_cases h2 : (s.drop i).take t.length = t
    · rw [hp.2 h2, h2]; simp
    · have h3 : t.isPrefixOf (s.drop i) = false := by rw [← Bool.not_eq_true, hp]; exact h2
      rw [h3]
      simpa using h2
  · rw [if_neg (by rw [toB_size]; omega)]
    have h3 : t.isPrefixOf (s.drop i) = false := by
      rw [← Bool.not_eq_true, hp]
      intro h4
      have := congrArg List.length h4
      simp at this
      by_cases h0 : t.length = 0
      · omega
      · omega
    rw [h3]
/-- How far it is to the first instance, or to the end. -/
def fnd (r p : List UInt8) : Nat := if Lib.index r p < 0 then r.length else (Lib.index r p).toNat
theorem fnd_hit (r p : List UInt8) (hr : r ≠ []) (h : p.isPrefixOf r = true) : fnd r p = 0 := by
  cases r with
  | nil => exact absurd rfl hr
  | cons c l =>
    unfold fnd Lib.index
    rw [if_pos h]
    simp
theorem index_ge' (l p : List UInt8) : -1 ≤ Lib.index l p := Lib.index_ge l p
theorem fnd_miss (c : UInt8) (l p : List UInt8) (h : p.isPrefixOf (c :: l) = false) : fnd (c :: l) p = fnd l p + 1 := by
  have hg := index_ge' l p
  unfold fnd
  have e : Lib.index (c :: l) p = if Lib.index l p = -1 then -1 else Lib.index l p + 1 := by
    conv => lhs; unfold Lib.index
    rw [if_neg (by rw [h]; simp)]
    by_cases h1 : Lib.index l p = -1
    · rw [if_pos h1, if_pos (by simp [h1])]
    · rw [if_neg h1, if_neg (by simp [h1])]
  rw [e]
  by_cases h1 : Lib.index l p = -1
  · rw [if_pos h1, if_pos (by omega), if_pos (by omega)]; rfl
  · rw [if_neg h1, if_neg (by omega), if_neg (by omega)]; omega
theorem scan1 (s : List UInt8) (hs : s.length ≤ 65536) (out : List S76) (i : Nat) (r : List S76 × Int) : ∀ (m j : Nat), s.length - j = m → j ≤ s.length →
    Ev (fun k => bobbinref13_All.j2 k (toB s) out i ((j + fnd (s.drop j) [123, 123] : Nat) : Int)) r → Ev (fun k => bobbinref13_All.l1 k (toB s) out i (j : Int)) r := by
  intro m
  induction m with
  | zero =>
    intro j hm hj h
    have hd : s.drop j = [] := List.drop_eq_nil_of_le (by omega)
    rw [hd] at h
    refine Ev.step (fun k => ?_) h
    conv => lhs; unfold bobbinref13_All.l1
    rw [if_neg (by rw [toB_size]; omega)]
    rfl
  | succ m ih =>
    intro j hm hj h
    have hlt : j < s.length := by omega
    have hd : s.drop j = s[j] :: s.drop (j + 1) := List.drop_eq_getElem_cons hlt
    have hat : bobbinref13_at.f (toB s) j (⟨#[123, 123]⟩ : ByteArray) = some (List.isPrefixOf [123, 123] (s.drop j)) := at_f s [123, 123] j (by omega) (by omega) (by simp)
    have hw : wrap64 ((j : Int) + 1) = ((j + 1 : Nat) : Int) := by rw [w64 (by omega) (by omega)]; omega
    cases hp : List.isPrefixOf [123, 123] (s.drop j) with
    | true =>
      rw [fnd_hit _ _ (by rw [hd]; exact List.cons_ne_nil _ _) hp] at h
      refine Ev.step (fun k => ?_) h
      conv => lhs; unfold bobbinref13_All.l1
      rw [if_pos (by rw [toB_size]; omega), hat, hp]
      simp
    | false =>
      have hf : fnd (s.drop j) [123, 123] = fnd (s.drop (j + 1)) [123, 123] + 1 := by
        rw [hd] at hp ⊢
        exact fnd_miss _ _ _ hp
      rw [hf, show j + (fnd (s.drop (j + 1)) [123, 123] + 1) = j + 1 + fnd (s.drop (j + 1)) [123, 123] by omega] at h
      refine Ev.step (fun k => ?_) (ih (j + 1) (by omega) (by omega) h)
      conv => lhs; unfold bobbinref13_All.l1
      rw [if_pos (by rw [toB_size]; omega), hat, hp, hw]
      simp
theorem scan2 (s : List UInt8) (hs : s.length ≤ 65536) (out : List S76) (i : Nat) (r : List S76 × Int) : ∀ (m j : Nat), s.length - j = m → j ≤ s.length →
    Ev (fun k => bobbinref13_All.j4 k (toB s) out i ((j + fnd (s.drop j) [125, 125] : Nat) : Int)) r → Ev (fun k => bobbinref13_All.l2 k (toB s) out i (j : Int)) r := by
  intro m
  induction m with
  | zero =>
    intro j hm hj h
    have hd : s.drop j = [] := List.drop_eq_nil_of_le (by omega)
    rw [hd] at h
    refine Ev.step (fun k => ?_) h
    conv => lhs; unfold bobbinref13_All.l2
    rw [if_neg (by rw [toB_size]; omega)]
    rfl
  | succ m ih =>
    intro j hm hj h
    have hlt : j < s.length := by omega
    have hd : s.drop j = s[j] :: s.drop (j + 1) := List.drop_eq_getElem_cons hlt
    have hat : bobbinref13_at.f (toB s) j (⟨#[125, 125]⟩ : ByteArray) = some (List.isPrefixOf [125, 125] (s.drop j)) := at_f s [125, 125] j (by omega) (by omega) (by simp)
    have hw : wrap64 ((j : Int) + 1) = ((j + 1 : Nat) : Int) := by rw [w64 (by omega) (by omega)]; omega
    cases hp : List.isPrefixOf [125, 125] (s.drop j) with
    | true =>
      rw [fnd_hit _ _ (by rw [hd]; exact List.cons_ne_nil _ _) hp] at h
      refine Ev.step (fun k => ?_) h
      conv => lhs; unfold bobbinref13_All.l2
      rw [if_pos (by rw [toB_size]; omega), hat, hp]
      simp
    | false =>
      have hf : fnd (s.drop j) [125, 125] = fnd (s.drop (j + 1)) [125, 125] + 1 := by
        rw [hd] at hp ⊢
        exact fnd_miss _ _ _ hp
      rw [hf, show j + (fnd (s.drop (j + 1)) [125, 125] + 1) = j + 1 + fnd (s.drop (j + 1)) [125, 125] by omega] at h
      refine Ev.step (fun k => ?_) (ih (j + 1) (by omega) (by omega) h)
      conv => lhs; unfold bobbinref13_All.l2
      rw [if_pos (by rw [toB_size]; omega), hat, hp, hw]
      simp
/-- A word, as the print has it. -/
def toS (w : Word) : S76 := ⟨w.kind, w.at_, toB w.text, ⟨w.root, w.names.map toB⟩⟩
/-- The word of an action whose inside says F. -/
def wordOf (F : Int × Bool × List (List UInt8) × Bool) (i : Int) : Word := ⟨F.1, i, [], F.2.1, F.2.2.1⟩
/-- An action is closed at i + c. -/
theorem all_close (s : List UInt8) (hs : s.length ≤ 65536) (i c : Nat) (out : List Word) (hge : 2 ≤ c) (hle : i + c + 2 ≤ s.length) (hout : out.length ≤ i) (r : List S76 × Int)
    (F : Int × Bool × List (List UInt8) × Bool) (hF : actionF (((s.drop i).take c).drop 2) = F) (hbad : F.2.2.2 = false → r = (out.map toS, (i : Int)))
    (hgood : F.2.2.2 = true → Ev (fun k => bobbinref13_All.l0 k (toB s) ((out ++ [wordOf F i]).map toS) ((i + (c + 2) : Nat) : Int)) r) :
    Ev (fun k => bobbinref13_All.j4 k (toB s) (out.map toS) i ((i + c : Nat) : Int)) r := by
  have hlen : (((s.drop i).take c).drop 2).length ≤ 65536 := by
    have := List.length_take_le c (s.drop i)
    simp only [List.length_drop]
    omega
  have hact := action_ev (((s.drop i).take c).drop 2) hlen
  rw [hF] at hact
  have hxx : (toB s).extract (i + 2) (i + c) = toB (((s.drop i).take c).drop 2) := by
    rw [ext_cut]
    congr 2
    rw [List.drop_take, List.drop_drop]
    congr 1
    omega
  have hw : wrap64 ((i : Int) + 2) = ((i + 2 : Nat) : Int) := by rw [w64 (by omega) (by omega)]; omega
  have hw2 : wrap64 (((i + c : Nat) : Int) + 2) = ((i + (c + 2) : Nat) : Int) := by rw [w64 (by omega) (by omega)]; omega
  have hsz : ((toB s).size : Int) = (s.length : Int) := by rw [toB_size]
  have hol : (out.map toS).length < 2199023255552 := by rw [List.length_map]; omega
  refine Ev.step (f := fun k => (bobbinref13_Action.f k (toB (((s.drop i).take c).drop 2))).bind fun bt155 => (if bt155.2.2.2.2.2 = true then (if (out.map toS).length < 2199023255552 then (bobbinref13_All.l0 k (toB s) (out.map toS ++ [(⟨bt155.1, i, bt155.2.2.1, (⟨bt155.2.2.2.1, bt155.2.2.2.2.1⟩ : S63)⟩ : S76)]) ((i + (c + 2) : Nat) : Int)) else (none)) else (some (out.map toS, (i : Int))))) (fun k => ?_) ?_
  · conv => lhs; unfold bobbinref13_All.j4
    have c1 : ¬ ((i + c : Nat) : Int) ≥ ((toB s).size : Int) := by rw [hsz]; omega
    have c2 : (0 : Int) ≤ ((i + 2 : Nat) : Int) := by omega
    have c3 : ((i + 2 : Nat) : Int) ≤ ((i + c : Nat) : Int) := by omega
    have c4 : ((i + c : Nat) : Int) ≤ ((toB s).size : Int) := by rw [hsz]; omega
    rw [if_neg c1, hw, if_pos c2, if_pos c3, if_pos c4, hw2]
    simp only [Int.toNat_natCast]
    rw [hxx]
  · refine Ev.bind hact ?_
    cases hok : F.2.2.2 with
    | false =>
      rw [hbad hok]
      have : ¬ (actB F).2.2.2.2.2 = true := by unfold actB; rw [hok]; simp
      refine Ev.congr (fun k => ?_) (Ev.now (out.map toS, (i : Int)))
      rw [if_neg this]
    | true =>
      have h2 : (actB F).2.2.2.2.2 = true := hok
      have h3 := hgood hok
      rw [List.map_append] at h3
      refine Ev.congr (fun k => ?_) h3
      rw [if_pos h2, if_pos hol]
      rfl
theorem close_index (s : List UInt8) (i : Nat) (hd : s.drop i = 123 :: 123 :: s.drop (i + 2)) : closeAt (s.drop i) = if Lib.index (s.drop (i + 2)) [125, 125] = -1 then -1 else Lib.index (s.drop (i + 2)) [125, 125] + 2 := by
  unfold closeAt
  rw [hd]
  have hg := index_ge' (s.drop (i + 2)) [125, 125]
  conv => lhs; unfold Lib.index
  rw [if_neg (by simp [List.isPrefixOf])]
  have e2 : Lib.index (123 :: s.drop (i + 2)) [125, 125] = if Lib.index (s.drop (i + 2)) [125, 125] = -1 then -1 else Lib.index (s.drop (i + 2)) [125, 125] + 1 := by
    conv => lhs; unfold Lib.index
    rw [if_neg (by simp [List.isPrefixOf])]
    by_cases h : Lib.index (s.drop (i + 2)) [125, 125] = -1
    · rw [if_pos h, if_pos (by simp [h])]
    · rw [if_neg h, if_neg (by simp [h])]
  rw [e2]
  by_cases h : Lib.index (s.drop (i + 2)) [125, 125] = -1
  · rw [if_pos h, if_pos h, if_pos (by simp)]
  · rw [if_neg h, if_neg h, if_neg (by simp; omega)]
    omega
theorem open_here (s : List UInt8) (i : Nat) (hlt : i < s.length) (h1 : ¬ 0 < litLen (s.drop i)) : i + 2 ≤ s.length ∧ s.drop i = 123 :: 123 :: s.drop (i + 2) := by
  have hne : s.drop i ≠ [] := by intro h; have := congrArg List.length h; simp at this; omega
  have h1' : litLen (s.drop i) = 0 := by omega
  have hidx : ¬ Lib.index (s.drop i) [123, 123] < 0 := fun h => by
    unfold litLen at h1'
    rw [if_pos h] at h1'
    exact hne (List.length_eq_zero_iff.1 h1')
  obtain ⟨hl2, a0, a1⟩ := index_spec (s.drop i) 123 123 (by omega)
  have ez : (Lib.index (s.drop i) [123, 123]).toNat = 0 := by
    unfold litLen at h1'
    rw [if_neg hidx] at h1'
    exact h1'
  rw [ez] at hl2 a0 a1
  simp at hl2
  have hi2' : i + 2 ≤ s.length := by omega
  refine ⟨hi2', ?_⟩
  have hlt2 : i + 1 < s.length := by omega
  rw [List.drop_eq_getElem_cons hlt, List.drop_eq_getElem_cons hlt2]
  rw [List.getElem?_drop, List.getElem?_eq_getElem (by omega)] at a0 a1
  congr 1
  · exact Option.some.inj a0
  · congr 1
    exact Option.some.inj a1
theorem all_loop (s : List UInt8) (hs : s.length ≤ 65536) : ∀ (m i : Nat) (out : List Word), s.length - i = m → i ≤ s.length → out.length ≤ i →
    Ev (fun k => bobbinref13_All.l0 k (toB s) (out.map toS) i) ((out ++ (lexW i (s.drop i)).1).map toS, (lexW i (s.drop i)).2) := by
  intro m
  induction m using Nat.strongRecOn with
  | ind m ih =>
    intro i out hm hi hout
    by_cases hil : i = s.length
    · have hd : s.drop i = [] := List.drop_eq_nil_of_le (by omega)
      rw [hd, lexW_nil]
      refine Ev.step (f := fun _ => some (out.map toS, -1)) (fun k => ?_) (by simpa using Ev.now (out.map toS, (-1 : Int)))
      conv => lhs; unfold bobbinref13_All.l0
      rw [if_neg (by rw [toB_size]; omega)]
    have hlt : i < s.length := by omega
    have hne : s.drop i ≠ [] := by intro h; have := congrArg List.length h; simp at this; omega
    have hfl : fnd (s.drop i) [123, 123] = litLen (s.drop i) := rfl
    refine Ev.step (f := fun k => bobbinref13_All.l1 k (toB s) (out.map toS) i (i : Int)) (fun k => ?_) (scan1 s hs _ i _ _ i rfl hi ?_)
    · conv => lhs; unfold bobbinref13_All.l0
      rw [if_pos (by rw [toB_size]; omega)]
    rw [hfl]
    by_cases h1 : 0 < litLen (s.drop i)
    · have hle := litLen_le (s.drop i)
      simp at hle
      rw [lexW_lit _ _ hne h1, List.drop_drop, ← Int.natCast_add]
      have hi2 := ih (s.length - (i + litLen (s.drop i))) (by omega) (i + litLen (s.drop i)) (out ++ [⟨0, i, (s.drop i).take (litLen (s.drop i)), false, []⟩]) rfl (by omega) (by simp; omega)
      rw [List.append_assoc] at hi2
      refine Ev.step (fun k => ?_) hi2
      conv => lhs; unfold bobbinref13_All.j2
      rw [if_pos (by omega), if_pos (by omega), if_pos (by omega), if_pos (by rw [toB_size]; omega), if_pos (by simp; omega)]
      simp only [Int.toNat_natCast]
      rw [ext_cut, show i + litLen (s.drop i) - i = litLen (s.drop i) by omega]
      simp [toS]
    · obtain ⟨hi2', hd⟩ := open_here s i hlt h1
      have h1' : litLen (s.drop i) = 0 := by omega
      rw [h1', Nat.add_zero]
      have hw : wrap64 ((i : Int) + 2) = ((i + 2 : Nat) : Int) := by rw [w64 (by omega) (by omega)]; omega
      have hstep : ∀ k, bobbinref13_All.j2 (k + 1) (toB s) (out.map toS) i (i : Int) = bobbinref13_All.l2 k (toB s) (out.map toS) i ((i + 2 : Nat) : Int) := fun k => by
        conv => lhs; unfold bobbinref13_All.j2
        rw [if_neg (Int.lt_irrefl _), hw]
      refine Ev.step hstep (scan2 s hs (out.map toS) i _ _ (i + 2) rfl hi2' ?_)
      have hc := close_index s i hd
      have hg := index_ge' (s.drop (i + 2)) [125, 125]
      by_cases h2 : Lib.index (s.drop (i + 2)) [125, 125] = -1
      · rw [if_pos h2] at hc
        have hf : fnd (s.drop (i + 2)) [125, 125] = (s.drop (i + 2)).length := by unfold fnd; rw [if_pos (by omega)]
        rw [hf, lexW_open i (s.drop i) hne h1 (by omega)]
        refine Ev.step (f := fun _ => some (out.map toS, (i : Int))) (fun k => ?_) (by simpa using Ev.now (out.map toS, (i : Int)))
        conv => lhs; unfold bobbinref13_All.j4
        rw [if_pos (by rw [toB_size, List.length_drop]; omega)]
      · rw [if_neg h2] at hc
        have hcn : ¬ closeAt (s.drop i) < 0 := by omega
        obtain ⟨hge, hle⟩ := close_ge _ hne h1 hcn
        rw [List.length_drop] at hle
        have hf : i + 2 + fnd (s.drop (i + 2)) [125, 125] = i + (closeAt (s.drop i)).toNat := by unfold fnd; rw [if_neg (by omega)]; omega
        rw [hf]
        refine all_close s hs i (closeAt (s.drop i)).toNat out hge (by omega) hout _ _ rfl (fun hok => ?_) (fun hok => ?_)
        · rw [lexW_bad i (s.drop i) hne h1 hcn hok]
          simp
        · rw [lexW_act i (s.drop i) hne h1 hcn hok, List.drop_drop, ← Int.natCast_add]
          have hi2 := ih (s.length - (i + ((closeAt (s.drop i)).toNat + 2))) (by omega) (i + ((closeAt (s.drop i)).toNat + 2))
            (out ++ [wordOf (actionF (((s.drop i).take (closeAt (s.drop i)).toNat).drop 2)) i]) rfl (by omega) (by rw [List.length_append, List.length_singleton]; omega)
          rw [List.append_assoc] at hi2
          exact hi2
theorem all_ev (s : List UInt8) (hs : s.length ≤ 65536) : ∃ k, bobbinref13_All.f k (toB s) = some ((lexW 0 s).1.map toS, (lexW 0 s).2) := by
  have := all_loop s hs _ 0 [] rfl (Nat.zero_le _) (by simp)
  simp only [List.drop_zero, List.nil_append, List.map_nil] at this
  exact Ev.rounds this
end Go.Proofs.YtcggeaobonblfaaDoor

/- The reference's tree and stack: what each step does to them. -/
namespace Go.Proofs.YtcggeaobonblfaaDoor
set_option linter.unusedSimpArgs false
set_option linter.unusedVariables false
open Go Go.RowKit
/-- What turns a row of another type, or nothing. -/
theorem TS.other {B base : Nat} {W W' : World} {T t : Nat} {nv tv : Value} {ps : List NodeV} {top : List Int} {f : Nat → Nat} {r : Option Nat} (h : TS B base W T nv tv ps top f) (hg : W.grownBy W' r) (hr : ∀ k, r = some k → B ≤ k ∧ ∃ c, W.heap[k]? = some (.cells c t))
    (h1 : 26 ≠ t) (h2 : 66 ≠ t) (h3 : 3 ≠ t) : TS B base W' T nv tv ps top f := by
  have hTl := World.heap_lt h.block
  have hB := h.low
  have hBT := h.lowT
  have hr' : ∀ k, r = some k → ∃ c, W.heap[k]? = some (.cells c t) := fun k e => (hr k e).2
  refine ⟨(hg.block T hTl (fun e => ?_)).trans h.block, row_else h.row hg hr' h2, row_else h.top hg hr' h3, h.own, fun i p hp => ?_, hB, hBT⟩
  · obtain ⟨c, hc⟩ := hr' T e.symm
    rw [h.block] at hc
    cases hc
    exact h1 rfl
  · obtain ⟨a, b, c, d, e⟩ := h.rows i p hp
    exact ⟨names_grown (base := base) a hg (by omega) (fun k e => (hr k e).1), row_else b hg hr' h3, row_else c hg hr' h3, d, e⟩
theorem TS.later {B base : Nat} {W W' : World} {T : Nat} {nv tv : Value} {ps : List NodeV} {top : List Int} {f : Nat → Nat} (h : TS B base W T nv tv ps top f) (hb : Below W.heap.size W W') : TS B base W' T nv tv ps top f :=
  h.other (t := 0) (grown_below hb) (fun k e => by cases e) (by decide) (by decide) (by decide)
theorem TSt.later {B base : Nat} {W W' : World} {T : Nat} {nodes : List Node} {top : List Int} (h : TSt B base W T nodes top) (hb : Below W.heap.size W W') : TSt B base W' T nodes top := by
  obtain ⟨nv, tv, ps, f, h1, h2⟩ := h
  exact ⟨nv, tv, ps, f, h1, h2.later hb⟩
theorem TSt.other {B base : Nat} {W W' : World} {T t : Nat} {nodes : List Node} {top : List Int} {r : Option Nat} (h : TSt B base W T nodes top) (hg : W.grownBy W' r) (hr : ∀ k, r = some k → B ≤ k ∧ ∃ c, W.heap[k]? = some (.cells c t))
    (h1 : 26 ≠ t) (h2 : 66 ≠ t) (h3 : 3 ≠ t) : TSt B base W' T nodes top := by
  obtain ⟨nv, tv, ps, f, e, h⟩ := h
  exact ⟨nv, tv, ps, f, e, h.other hg hr h1 h2 h3⟩
/-- A node more. -/
theorem TS.addNode {B base : Nat} {W w1 : World} {T : Nat} {nv tv : Value} {ps : List NodeV} {top : List Int} {f : Nat → Nat} (h : TS B base W T nv tv ps top f) {g cap : Nat} {p : NodeV}
    (hnv : NamesRd B W p.nv p.x.names) (hbv : p.bv = .slice none 0 0) (hev : p.ev = .slice none 0 0) (hb0 : p.x.body = []) (he0 : p.x.els = [])
    (ho : w1.ownsRow base 66 9 (.slice (some ⟨g, 0, none⟩) (ps.length + 1) cap) (ps.length + 1) (ps.flatMap nodeCells ++ nodeCells p)) (hg : W.grownBy w1 nv.ownBlock) :
    w1.heap[T]? = some (.cells #[nv, tv] 26) ∧ TSt B base (w1.setCell ⟨T, 0, none⟩ (.slice (some ⟨g, 0, none⟩) (ps.length + 1) cap)) T (ps.map NodeV.x ++ [p.x]) top ∧
      FrT base T W (w1.setCell ⟨T, 0, none⟩ (.slice (some ⟨g, 0, none⟩) (ps.length + 1) cap)) := by
  have hnb : ∀ k, nv.ownBlock = some k → ∃ cells, W.heap[k]? = some (Obj.cells cells 66) := row_type h.row
  have hlow : ∀ k, nv.ownBlock = some k → base ≤ k := row_base h.row
  have hTl := World.heap_lt h.block
  have hB := h.low
  have hBT := h.lowT
  have hbT : w1.heap[T]? = some (.cells #[nv, tv] 26) := (hg.block T hTl (fun e => by obtain ⟨cs, h2⟩ := hnb _ e.symm; rw [h.block] at h2; cases h2)).trans h.block
  have hset := grown_set w1 T 0 (.slice (some ⟨g, 0, none⟩) (ps.length + 1) cap)
  have hl : ∀ k, some T = some k → ∃ c, w1.heap[k]? = some (.cells c 26) := fun k e => by cases e; exact ⟨_, hbT⟩
  have hz := hg.size
  have key : ∀ {v : Value} {xs : List Int}, IntsAt W base v xs → IntsAt (w1.setCell ⟨T, 0, none⟩ (.slice (some ⟨g, 0, none⟩) (ps.length + 1) cap)) base v xs := fun hv => row_else (row_else hv hg hnb (by decide)) hset hl (by decide)
  have nm : ∀ {v : Value} {xs : List (List UInt8)}, NamesRd B W v xs → NamesRd B (w1.setCell ⟨T, 0, none⟩ (.slice (some ⟨g, 0, none⟩) (ps.length + 1) cap)) v xs := fun a =>
    names_grown (base := base) (names_grown (base := base) a hg (by omega) (fun k hk => by have := hlow k hk; omega)) hset (by omega) (fun k e => by cases e; omega)
  refine ⟨hbT, ⟨_, tv, ps ++ [p], f, by simp, ?_, by simpa using row_else ho hset hl (by decide), key h.top, h.own, fun i q hq => ?_, hB, hBT⟩, ?_⟩
  · have := blk_put hbT 0 (.slice (some ⟨g, 0, none⟩) (ps.length + 1) cap)
    simpa using this
  · rcases Nat.lt_or_ge i ps.length with hi | hi
    · rw [List.getElem?_append_left hi] at hq
      obtain ⟨a, b, c, d, e⟩ := h.rows i q hq
      exact ⟨nm a, key b, key c, d, e⟩
    · rw [List.getElem?_append_right hi] at hq
      have : q = p := by
        cases hj : i - ps.length with
        | zero => rw [hj] at hq; simpa using hq.symm
        | succ j => rw [hj] at hq; simp at hq
      subst this
      rw [hbv, hev, hb0, he0]
      exact ⟨nm hnv, ints_none _ _, ints_none _ _, fun k e => by simp [Value.ownBlock] at e, fun k e => by simp [Value.ownBlock] at e⟩
  · exact (FrT.grow hg (by omega) (fun k hk => ⟨hlow k hk, by obtain ⟨c, hc⟩ := hnb k hk; exact ⟨c, _, hc, .inl rfl⟩⟩)).set (p := ⟨T, 0, none⟩) hBT (.inl rfl) _
/-- An else begins. -/
theorem TS.setHas {B base : Nat} {W : World} {T g cap : Nat} {tv : Value} {ps : List NodeV} {top : List Int} {f : Nat → Nat} (h : TS B base W T (.slice (some ⟨g, 0, none⟩) ps.length cap) tv ps top f) {k : Nat} (hk : k < ps.length) :
    (∃ u, W.cell? ⟨g, k * 9 + 7, none⟩ = some u) ∧ W.frozen? ⟨g, k * 9 + 7, none⟩ = false ∧ TSt B base (W.setCell ⟨g, k * 9 + 7, none⟩ (.bool true)) T (Go.Proofs.YtcggeaobonblfaaDoor.setHas (ps.map NodeV.x) k) top ∧ FrT base T W (W.setCell ⟨g, k * 9 + 7, none⟩ (.bool true)) := by
  obtain ⟨p, hp⟩ : ∃ p, ps[k]? = some p := ⟨_, List.getElem?_eq_getElem hk⟩
  have hB := h.low
  have hBT := h.lowT
  have hTl := World.heap_lt h.block
  obtain ⟨s1, s2⟩ := World.ownsRow.stored h.row (k * 9 + 7) (.bool true)
  obtain ⟨p', hp'⟩ : ∃ p' : NodeV, p' = { p with x := { p.x with has := true } } := ⟨_, rfl⟩
  have hc : nodeCells p' = (nodeCells p).set 7 (.bool true) := by rw [hp']; rfl
  rw [flat9_set ps k p p' 7 (.bool true) hp (by omega) hc] at s1
  obtain ⟨g', cap', e, hb, hlt, hcc⟩ := row_cell h.row (k * 9 + 7) (.bool p.x.has) (by rw [flat9 ps k p hp 7 (by omega)]; rfl)
  cases e
  obtain ⟨cells, hty⟩ := row_type h.row g rfl
  have hl : ∀ q, some g = some q → ∃ c, W.heap[q]? = some (.cells c 66) := fun q e => by cases e; exact ⟨_, hty⟩
  have hset := grown_set W g (k * 9 + 7) (.bool true)
  have hgT : T ≠ g := by rintro rfl; rw [h.block] at hty; cases hty
  refine ⟨⟨_, hcc⟩, World.ownsRow.frozenAt h.row _, ⟨_, tv, ps.set k p', f, ?_, blk_far h.block (p := ⟨g, _, none⟩) hgT _, by simpa using s1, row_else h.top hset hl (by decide), h.own, fun i q hq => ?_, hB, hBT⟩, (FrT.refl base T W).set (p := ⟨g, _, none⟩) hb (.inr ⟨_, _, hty, .inl rfl⟩) _⟩
  · rw [map_set ps (fun x => { x with has := true }) k p p' hp (by rw [hp'])]
    rfl
  · have key : NamesRd B W q.nv q.x.names ∧ IntsAt W base q.bv q.x.body ∧ IntsAt W base q.ev q.x.els ∧ (∀ k, q.bv.ownBlock = some k → f k = 2 * i + 1) ∧ (∀ k, q.ev.ownBlock = some k → f k = 2 * i + 2) := by
      by_cases hik : i = k
      · subst hik
        rw [List.getElem?_set_self hk] at hq
        injection hq with hq
        rw [← hq, hp']
        exact h.rows i p hp
      · rw [List.getElem?_set_ne (fun e => hik e.symm)] at hq
        exact h.rows i q hq
    obtain ⟨a, b, c, d, e⟩ := key
    exact ⟨names_grown (base := base) a hset (by omega) (fun k e => by cases e; omega), row_else b hset hl (by decide), row_else c hset hl (by decide), d, e⟩
theorem stack_none (W : World) (base : Nat) : StackAt W base (.slice none 0 0) [] := ⟨by simp, .inl ⟨rfl, rfl⟩⟩
theorem stack_len (st : List Opn) : (st.flatMap openCells).length = st.length * 3 := by
  induction st with
  | nil => rfl
  | cons a st ih => rw [List.flatMap_cons, List.length_append, ih]; simp [openCells]; omega
theorem stack_pop {W : World} {base g cap : Nat} {st : List Opn} {o : Opn} (h : StackAt W base (.slice (some ⟨g, 0, none⟩) (st.length + 1) cap) (st ++ [o])) : StackAt W base (.slice (some ⟨g, 0, none⟩) st.length cap) st := by
  have h2 : W.ownsRow base 78 3 (.slice (some ⟨g, 0, none⟩) (st ++ [o]).length cap) (st ++ [o]).length ((st ++ [o]).flatMap openCells) := by simpa [StackAt] using h
  have h3 := Go.Proofs.YtcggeaobonblfaaDoorW.PrintWords.own_take h2 (m := st.length) (by simp)
  have e : ((st ++ [o]).flatMap openCells).take (st.length * 3) = st.flatMap openCells := by
    rw [List.flatMap_append, List.take_append_of_le_length (by rw [stack_len]; exact Nat.le_refl _), List.take_of_length_le (by rw [stack_len]; exact Nat.le_refl _)]
  rw [e] at h3
  exact h3
theorem stack_els {W : World} {base g cap : Nat} {st : List Opn} {o : Opn} (h : StackAt W base (.slice (some ⟨g, 0, none⟩) (st.length + 1) cap) (st ++ [o])) :
    StackAt (W.setCell ⟨g, st.length * 3 + 2, none⟩ (.bool true)) base (.slice (some ⟨g, 0, none⟩) (st.length + 1) cap) (st ++ [{ o with els := true }]) ∧ W.frozen? ⟨g, st.length * 3 + 2, none⟩ = false ∧ ∃ c, W.heap[g]? = some (.cells c 78) := by
  have h2 : W.ownsRow base 78 3 (.slice (some ⟨g, 0, none⟩) (st ++ [o]).length cap) (st ++ [o]).length ((st ++ [o]).flatMap openCells) := by simpa [StackAt] using h
  obtain ⟨s1, s2⟩ := World.ownsRow.stored h2 (st.length * 3 + 2) (.bool true)
  refine ⟨?_, World.ownsRow.frozenAt h2 _, row_type h2 g rfl⟩
  have e : ((st ++ [o]).flatMap openCells).set (st.length * 3 + 2) (.bool true) = (st ++ [{ o with els := true }]).flatMap openCells := by
    rw [List.flatMap_append, List.set_append_right _ _ (by rw [stack_len]; omega), stack_len, List.flatMap_append]
    congr 1
    rw [show st.length * 3 + 2 - st.length * 3 = 2 by omega]
    rfl
  rw [e] at s1
  simpa [StackAt] using s1
theorem stack_else {W W' : World} {base t : Nat} {v : Value} {st : List Opn} {r : Option Nat} (h : StackAt W base v st) (hg : W.grownBy W' r) (hr : ∀ k, r = some k → ∃ c, W.heap[k]? = some (.cells c t)) (hne : 78 ≠ t) : StackAt W' base v st :=
  row_else h hg hr hne
theorem stack_later {W W' : World} {base : Nat} {v : Value} {st : List Opn} (h : StackAt W base v st) (hb : Below W.heap.size W W') : StackAt W' base v st := stack_else (t := 0) h (grown_below hb) (fun k e => by cases e) (by decide)
end Go.Proofs.YtcggeaobonblfaaDoor

/- The reference's comparisons of lists and ways: what was printed of them answers whether they are equal. -/
namespace Go.Proofs.YtcggeaobonblfaaDoor
set_option linter.unusedSimpArgs false
set_option linter.unusedVariables false
open Go Go.RowKit Go.Proofs.YtcggeaobonblfaaDoorW.PrintWords Go.Proofs.YtcggeaobonblfaaDoor.PParseTrees
theorem dec_cons {α : Type} [DecidableEq α] {x y : α} (l m : List α) (h : x = y) : decide (x :: l = y :: m) = decide (l = m) := by subst h; simp
theorem dec_cons_no {α : Type} [DecidableEq α] {x y : α} (l m : List α) (h : ¬ x = y) : decide (x :: l = y :: m) = false := by simp [h]
theorem numbers_loop (a b : List Int) (hl : a.length = b.length) (ha : a.length ≤ 140737488351232) : ∀ (m i : Nat), a.length - i = m → i ≤ a.length →
    Ev (fun k => bobbinref14_numbers.l0 k a b i) (decide (a.drop i = b.drop i)) := by
  intro m
  induction m with
  | zero =>
    intro i hm hi
    have h1 : a.drop i = [] := List.drop_eq_nil_of_le (by omega)
    have h2 : b.drop i = [] := List.drop_eq_nil_of_le (by omega)
    rw [h1, h2]
    refine Ev.step (f := fun _ => some true) (fun k => ?_) (Ev.now _)
    unfold bobbinref14_numbers.l0
    rw [if_neg (by omega)]
  | succ m ih =>
    intro i hm hi
    have hlt : i < a.length := by omega
    have hlt' : i < b.length := by omega
    have h1 : a.drop i = a[i] :: a.drop (i + 1) := List.drop_eq_getElem_cons hlt
    have h2 : b.drop i = b[i] :: b.drop (i + 1) := List.drop_eq_getElem_cons hlt'
    have e1 : rd a (i : Int) = a[i] := by unfold rd; simp [hlt]
    have e2 : rd b (i : Int) = b[i] := by unfold rd; simp [hlt']
    have hw : wrap64 ((i : Int) + 1) = ((i + 1 : Nat) : Int) := by unfold wrap64; omega
    rw [h1, h2]
    by_cases h : a[i] = b[i]
    · refine Ev.step (fun k => ?_) (f := fun k => bobbinref14_numbers.l0 k a b ((i + 1 : Nat) : Int)) ?_
      · conv => lhs; unfold bobbinref14_numbers.l0
        rw [if_pos (by omega), if_pos (by omega), if_pos (by omega), e1, e2, if_pos h, hw]
      · rw [dec_cons _ _ h]
        exact ih (i + 1) (by omega) (by omega)
    · refine Ev.step (fun k => ?_) (f := fun k => some false) ?_
      · conv => lhs; unfold bobbinref14_numbers.l0
        rw [if_pos (by omega), if_pos (by omega), if_pos (by omega), e1, e2, if_neg h]
      · rw [dec_cons_no _ _ h]
        exact Ev.now _
theorem numbers_ev (a b : List Int) (ha : a.length ≤ 140737488351232) : ∃ k, bobbinref14_numbers.f k a b = some (decide (a = b)) := by
  refine Ev.rounds ?_
  unfold bobbinref14_numbers.f
  by_cases h : a.length = b.length
  · refine Ev.congr (fun k => ?_) (numbers_loop a b h ha a.length 0 (by omega) (by omega))
    rw [if_pos (by omega)]
    rfl
  · refine Ev.congr (fun k => ?_) (f := fun _ => some false) ?_
    · rw [if_neg (by omega)]
    · have : ¬ a = b := fun e => h (by rw [e])
      simp [this, Ev.now]
/-- A list of numbers that is read. -/
abbrev IntsC (w : World) (A : Option Addr) (xs : List Int) : Prop := Kd.C (Kd.int .i64) w A xs.length xs
theorem numbers_any (A0 : Option Addr) (c0 : Nat) (l0 : List Int) (A1 : Option Addr) (c1 : Nat) (l1 : List Int) (w : World) (r : Bool) (hr : decide (l0 = l1) = r) (h0 : IntsC w A0 l0) (hc0 : l0.length ≤ c0) (h1 : IntsC w A1 l1) (hc1 : l1.length ≤ c1) (hl : l0.length ≤ 140737488351232) :
    Calls Tryd.prog 35 #[.slice A0 l0.length c0, .slice A1 l1.length c1] w fun e w' => e = .returned (.bool r) ∧ ∃ n, w' = w.drewN n := by
  subst hr
  obtain ⟨k, hk⟩ := numbers_ev l0 l1 hl
  exact (bobbinref14_numbers.calls k A0 c0 l0 A1 c1 l1 _ w h0 hc0 h1 hc1 hk).mono fun e w' ⟨he, ⟨hd⟩⟩ => ⟨he, hd⟩
theorem sameway_loop (p q : Bool) (a b : List ByteArray) (hl : a.length = b.length) (ha : a.length ≤ 140737488351232) : ∀ (m i : Nat), a.length - i = m → i ≤ a.length →
    Ev (fun k => bobbinref13_SameWay.l0 k i p a q b) (decide (a.drop i = b.drop i)) := by
  intro m
  induction m with
  | zero =>
    intro i hm hi
    have h1 : a.drop i = [] := List.drop_eq_nil_of_le (by omega)
    have h2 : b.drop i = [] := List.drop_eq_nil_of_le (by omega)
    rw [h1, h2]
    refine Ev.step (f := fun _ => some true) (fun k => ?_) (Ev.now _)
    unfold bobbinref13_SameWay.l0
    rw [if_neg (by omega)]
  | succ m ih =>
    intro i hm hi
    have hlt : i < a.length := by omega
    have hlt' : i < b.length := by omega
    have h1 : a.drop i = a[i] :: a.drop (i + 1) := List.drop_eq_getElem_cons hlt
    have h2 : b.drop i = b[i] :: b.drop (i + 1) := List.drop_eq_getElem_cons hlt'
    have e1 : rdOf ByteArray.empty a (i : Int) = a[i] := by unfold rdOf; simp [hlt]
    have e2 : rdOf ByteArray.empty b (i : Int) = b[i] := by unfold rdOf; simp [hlt']
    have hw : wrap64 ((i : Int) + 1) = ((i + 1 : Nat) : Int) := by unfold wrap64; omega
    have hba : ∀ x y : ByteArray, x.toList = y.toList ↔ x = y := fun x y => by
      rw [ByteArray.toList_eq, ByteArray.toList_eq]
      constructor
      · intro h
        cases x; cases y
        congr
        exact Array.toList_inj.1 h
      · intro h; rw [h]
    rw [h1, h2]
    by_cases h : a[i] = b[i]
    · refine Ev.step (fun k => ?_) (f := fun k => bobbinref13_SameWay.l0 k ((i + 1 : Nat) : Int) p a q b) ?_
      · conv => lhs; unfold bobbinref13_SameWay.l0
        rw [if_pos (by omega), if_pos (by omega), if_pos (by omega), e1, e2, if_pos ((hba _ _).2 h), hw]
      · rw [dec_cons _ _ h]
        exact ih (i + 1) (by omega) (by omega)
    · refine Ev.step (fun k => ?_) (f := fun k => some false) ?_
      · conv => lhs; unfold bobbinref13_SameWay.l0
        rw [if_pos (by omega), if_pos (by omega), if_pos (by omega), e1, e2, if_neg (fun h' => h ((hba _ _).1 h'))]
      · rw [dec_cons_no _ _ h]
        exact Ev.now _
theorem sameway_ev (p q : Bool) (a b : List ByteArray) (ha : a.length ≤ 140737488351232) : ∃ k, bobbinref13_SameWay.f k p a q b = some (decide (p = q ∧ a = b)) := by
  have j : ∀ b' r, (b' = true → r = false) → (b' = false → Ev (fun k => bobbinref13_SameWay.l0 k 0 p a q b) r) → Ev (fun k => bobbinref13_SameWay.j0 k b' p a q b) r := by
    intro b' r h1 h2
    cases b' with
    | true =>
      refine Ev.step (fun k => ?_) (f := fun k => some false) (by rw [h1 rfl]; exact Ev.now _)
      unfold bobbinref13_SameWay.j0
      rfl
    | false =>
      refine Ev.step (fun k => ?_) (h2 rfl)
      conv => lhs; unfold bobbinref13_SameWay.j0
      rfl
  refine Ev.rounds ?_
  unfold bobbinref13_SameWay.f
  by_cases hp : p = q
  · subst hp
    refine Ev.congr (fun k => by rw [if_neg (by simp)]) (j _ _ ?_ ?_)
    · intro h
      have : a ≠ b := fun e => by subst e; simp at h
      simp [this]
    · intro h
      have hl : a.length = b.length := by simp at h; omega
      have := sameway_loop p p a b hl ha a.length 0 (by omega) (by omega)
      simpa using this
  · refine Ev.congr (fun k => by rw [if_pos (by simpa using hp)]) (j true _ ?_ (fun h => by cases h))
    intro _
    simp [hp]
/-- Texts that are read. -/
abbrev StrsC (w : World) (A : Option Addr) (xs : List ByteArray) : Prop := Kd.C Kd.string w A xs.length xs
theorem sameway_any (p : Bool) (A0 : Option Addr) (c0 : Nat) (l0 : List ByteArray) (q : Bool) (A1 : Option Addr) (c1 : Nat) (l1 : List ByteArray) (w : World) (r : Bool) (hr : decide (p = q ∧ l0 = l1) = r) (h0 : StrsC w A0 l0) (hc0 : l0.length ≤ c0) (h1 : StrsC w A1 l1) (hc1 : l1.length ≤ c1) (hl : l0.length ≤ 140737488351232) :
    Calls Tryd.prog 36 #[.agg #[.bool p, .slice A0 l0.length c0], .agg #[.bool q, .slice A1 l1.length c1]] w fun e w' => e = .returned (.bool r) ∧ Below w.heap.size w w' := by
  subst hr
  obtain ⟨k, hk⟩ := sameway_ev p q l0 l1 hl
  exact bobbinref13_SameWay.calls k p A0 c0 l0 q A1 c1 l1 _ w h0 hc0 h1 hc1 hk
end Go.Proofs.YtcggeaobonblfaaDoor

/- bobbinref14.Alike and Same: they answer whether two trees are equal. -/
namespace Go.Proofs.YtcggeaobonblfaaDoor
set_option linter.unusedSimpArgs false
set_option linter.unusedVariables false
open Go Go.RowKit Go.Proofs.YtcggeaobonblfaaDoorW.PrintWords Go.Proofs.YtcggeaobonblfaaDoor.PParseTrees
/-- Two nodes are one, but for the kinds of holes. -/
def nodeB (x y : S66) : Bool := (x.f0 == y.f0) && ((x.f1 == y.f1) && (decide (x.f2.toList = y.f2.toList) && ((x.f6 == y.f6) && (decide (x.f3.f0 = y.f3.f0 ∧ x.f3.f1 = y.f3.f1) && (decide (x.f4 = y.f4) && decide (x.f5 = y.f5))))))
def alikeB (l0 : List S66) (t0 : List Int) (l1 : List S66) (t1 : List Int) : Bool := decide (l0.length = l1.length ∧ t0 = t1 ∧ ∀ i : Nat, i < l0.length → nodeB (rd_T66 l0 i) (rd_T66 l1 i) = true)
/-- A tree that is read. -/
structure TreeC (w : World) (A : Option Addr) (c : Nat) (l : List S66) (B : Option Addr) (d : Nat) (t : List Int) : Prop where
  nodes : Kd.C k66 w A l.length l
  cap : l.length ≤ c
  top : IntsC w B t
  tcap : t.length ≤ d
  small : l.length ≤ 140737488351232
  tsmall : t.length ≤ 140737488351232
  inner : ∀ x ∈ l, x.f3.f1.length ≤ 140737488351232 ∧ x.f4.length ≤ 140737488351232 ∧ x.f5.length ≤ 140737488351232
theorem TreeC.below {w w1 : World} {A : Option Addr} {c : Nat} {l : List S66} {B : Option Addr} {d : Nat} {t : List Int} (h : TreeC w A c l B d t) (hb : Below w.heap.size w w1) : TreeC w1 A c l B d t :=
  ⟨Kd.C_below h.nodes hb, h.cap, Kd.C_below h.top hb, h.tcap, h.small, h.tsmall, h.inner⟩
theorem two_new (w : World) (o o' : Obj) : ((w.alloc o).alloc o').drew.heap[w.heap.size]? = some o ∧ ((w.alloc o).alloc o').drew.heap[w.heap.size + 1]? = some o' ∧ Below w.heap.size w ((w.alloc o).alloc o').drew := by
  refine ⟨(heap_old (by simp)).trans (World.alloc_heap_new w o), ?_, (((Below.refl w.heap.size w).alloc (Nat.le_refl _) o).alloc (by simp) o').drew⟩
  have := World.alloc_heap_new (w.alloc o) o'
  show ((w.alloc o).alloc o').heap[w.heap.size + 1]? = some o'
  simpa using this
/-- Boxes that lie there still. -/
theorem box_later {W W' : World} {g : Nat} {o : Obj} (h : W.heap[g]? = some o) (hb : Below W.heap.size W W') : W'.heap[g]? = some o := (hb.block g (World.heap_lt h)).trans h
theorem rd_mem (l : List S66) (i : Nat) (h : i < l.length) : rd_T66 l i ∈ l := by
  unfold rd_T66
  simp [h]
set_option maxRecDepth 100000 in
set_option maxHeartbeats 2000000 in
theorem alike_any (A0 : Option Addr) (c0 : Nat) (l0 : List S66) (B0 : Option Addr) (d0 : Nat) (t0 : List Int) (A1 : Option Addr) (c1 : Nat) (l1 : List S66) (B1 : Option Addr) (d1 : Nat) (t1 : List Int) (w : World)
    (h0 : TreeC w A0 c0 l0 B0 d0 t0) (h1 : TreeC w A1 c1 l1 B1 d1 t1) :
    Calls Tryd.prog 18 #[.agg #[.slice A0 l0.length c0, .slice B0 t0.length d0], .agg #[.slice A1 l1.length c1, .slice B1 t1.length d1]] w fun e w' => e = .returned (.bool (alikeB l0 t0 l1 t1)) ∧ Below w.heap.size w w' := by
  have b0 := h0.small
  have b1 := h1.small
  by_cases hl : l0.length = l1.length
  · have Hl := Lib.hid hl
    have hbl : ((l0.length : Int) != (l1.length : Int)) = false := by simp [hl]
    have H0 := Lib.hid h0
    have H1 := Lib.hid h1
    clear hl h0 h1
    have hN := fun (W : World) (r : Bool) hr hb => numbers_any B0 d0 t0 B1 d1 t1 W r hr ((H0.out.below hb).top) H0.out.tcap ((H1.out.below hb).top) H1.out.tcap H0.out.tsmall
    have HN := Lib.hid hN
    clear hN
    go_enter Tryd.func18, Tryd.ntmps18
    obtain ⟨W1, hW1⟩ : ∃ W1, (w.alloc (.cells #[.slice A0 l0.length c0, .slice B0 t0.length d0] 26)).alloc (.cells #[.slice A1 l1.length c1, .slice B1 t1.length d1] 26) = W1 := ⟨_, rfl⟩
    have hB1 : Below w.heap.size w W1 := by rw [← hW1]; exact ((Below.refl w.heap.size w).alloc (Nat.le_refl _) _).alloc (by simp) _
    have x0 : W1.heap[w.heap.size]? = some (.cells #[.slice A0 l0.length c0, .slice B0 t0.length d0] 26) := by rw [← hW1]; exact (heap_old (by simp)).trans (World.alloc_heap_new w _)
    have x1 : W1.heap[w.heap.size + 1]? = some (.cells #[.slice A1 l1.length c1, .slice B1 t1.length d1] 26) := by
      rw [← hW1]
      have := World.alloc_heap_new (w.alloc (.cells #[.slice A0 l0.length c0, .slice B0 t0.length d0] 26)) (.cells #[.slice A1 l1.length c1, .slice B1 t1.length d1] 26)
      simpa using this
    have X0 := Lib.hid x0
    have X1 := Lib.hid x1
    have HB1 := Lib.hid hB1
    have HW1 := Lib.hid hW1
    clear x0 x1 hB1 hW1
    by_cases ht : t0 = t1
    · have Ht := Lib.hid ht
      clear ht
      go_wp2_with fail
      rw [HW1.out]
      refine (HN.out W1 true (by simpa using Ht.out) HB1.out).mono ?_
      rintro e w2 ⟨rfl, n2, rfl⟩
      clear HW1
      have hsz : w.heap.size + 1 < W1.heap.size := World.heap_lt X1.out
      have hst : Below w.heap.size w (W1.drewN n2) := pw_below_drewN HB1.out n2
      have y0 : (W1.drewN n2).heap[w.heap.size]? = some (.cells #[.slice A0 l0.length c0, .slice B0 t0.length d0] 26) := X0.out
      have y1 : (W1.drewN n2).heap[w.heap.size + 1]? = some (.cells #[.slice A1 l1.length c1, .slice B1 t1.length d1] 26) := X1.out
      have Hst := Lib.hid hst
      have Y0 := Lib.hid y0
      have Y1 := Lib.hid y1
      clear hst y0 y1 HN X0 X1 HB1
      go_wp2_with fail
      go_loopw [5] (fun a wr => ∃ j : Nat, j ≤ l0.length ∧ a = .int .i64 j ∧ Hid (∀ i : Nat, i < j → nodeB (rd_T66 l0 i) (rd_T66 l1 i) = true) ∧ Hid (Below w.heap.size w wr) ∧
        Hid (wr.heap[w.heap.size]? = some (.cells #[.slice A0 l0.length c0, .slice B0 t0.length d0] 26)) ∧ Hid (wr.heap[w.heap.size + 1]? = some (.cells #[.slice A1 l1.length c1, .slice B1 t1.length d1] 26)) ∧ w.heap.size + 1 < wr.heap.size) (fun a _ => l0.length - (intOf a).toNat)
      case atStart => exact ⟨0, Nat.zero_le _, rfl, Lib.hid (fun i hi => by omega), Hst, Y0, Y1, hsz⟩
      case round =>
        clear Y0 Y1 Hst hsz
        obtain ⟨j, hj, rfl, hall, hb, y0, y1, hsz⟩ := hrel
        have k00 : wr.cell? ⟨w.heap.size, 0, none⟩ = some (.slice A0 l0.length c0) := by have := y0.out; simp [World.cell?, this]
        have k10 : wr.cell? ⟨w.heap.size + 1, 0, none⟩ = some (.slice A1 l1.length c1) := by have := y1.out; simp [World.cell?, this]
        by_cases hlt : j < l0.length
        · have hx := at_T66 (H0.out.below hb.out).nodes (j : Int) (by omega) (by omega)
          have hy := at_T66 (H1.out.below hb.out).nodes (j : Int) (by omega) (by have := Hl.out; omega)
          have hin0 := H0.out.inner _ (rd_mem l0 j hlt)
          obtain ⟨x, hxe⟩ : ∃ x, rd_T66 l0 (j : Int) = x := ⟨_, rfl⟩
          obtain ⟨y, hye⟩ : ∃ y, rd_T66 l1 (j : Int) = y := ⟨_, rfl⟩
          rw [hxe] at hx hin0
          rw [hye] at hy
          obtain ⟨i0, i1, i2⟩ := hin0
          have Hx := Lib.hid hxe
          have Hy := Lib.hid hye
          clear hxe hye
          obtain ⟨p, P4, e4, P5, e5, P6, e6, rfl, p0, p1, p2, p3, p4, p5, p6, p7, p8, l4, g4, l5, g5, l6, g6⟩ := hx
          obtain ⟨q, Q4, f4, Q5, f5, Q6, f6, rfl, q0, q1, q2, q3, q4, q5, q6, q7, q8, m4, n4, m5, n5, m6, n6⟩ := hy
          have jl0 : (j : Int) < (l0.length : Int) := by omega
          have jl1 : (j : Int) < (l1.length : Int) := by have := Hl.out; omega
          simp only [Int.toNat_natCast] at p0 p1 p2 p3 p4 p5 p6 p7 p8 q0 q1 q2 q3 q4 q5 q6 q7 q8
          go_upto_region 6 with (fail)
          have hwp : p.block < wr.heap.size ∨ True := .inr trivial
          go_cut [6, 7] from 23 to 89 (fun s6 s7 wx => ∃ g h : Nat, s6 = .pointer (some ⟨g, 0, none⟩) ∧ s7 = .pointer (some ⟨h, 0, none⟩) ∧ Hid (wx.heap[g]? = some (.cells #[.int .u8 x.f0, .int .i64 x.f1, .string x.f2, .bool x.f3.f0, .slice P4 x.f3.f1.length e4, .slice P5 x.f4.length e5, .slice P6 x.f5.length e6, .bool x.f6, .int .u8 x.f7] 66)) ∧
            Hid (wx.heap[h]? = some (.cells #[.int .u8 y.f0, .int .i64 y.f1, .string y.f2, .bool y.f3.f0, .slice Q4 y.f3.f1.length f4, .slice Q5 y.f4.length f5, .slice Q6 y.f5.length f6, .bool y.f6, .int .u8 y.f7] 66)) ∧ Hid (Below wr.heap.size wr wx))
          case first =>
            have nk00 := World.new_ne wr _ k00
            have nk10 := World.new_ne wr _ k10
            have np0 := World.new_ne wr _ p0
            have np1 := World.new_ne wr _ p1
            have np2 := World.new_ne wr _ p2
            have np3 := World.new_ne wr _ p3
            have np4 := World.new_ne wr _ p4
            have np5 := World.new_ne wr _ p5
            have np6 := World.new_ne wr _ p6
            have np7 := World.new_ne wr _ p7
            have np8 := World.new_ne wr _ p8
            have nq0 := World.new_ne wr _ q0
            have nq1 := World.new_ne wr _ q1
            have nq2 := World.new_ne wr _ q2
            have nq3 := World.new_ne wr _ q3
            have nq4 := World.new_ne wr _ q4
            have nq5 := World.new_ne wr _ q5
            have nq6 := World.new_ne wr _ q6
            have nq7 := World.new_ne wr _ q7
            have nq8 := World.new_ne wr _ q8
            go_region_held3 (fun w' => w'.cell? ⟨w.heap.size, 0, none⟩ = some (.slice (some p) l0.length c0) ∧ w'.cell? ⟨w.heap.size + 1, 0, none⟩ = some (.slice (some q) l1.length c1) ∧ w'.cell? (p.add (j * 9)) = some (.int .u8 x.f0) ∧ w'.cell? ⟨(p.add (j * 9)).block, (p.add (j * 9)).off + 1, none⟩ = some (.int .i64 x.f1) ∧ w'.cell? ⟨(p.add (j * 9)).block, (p.add (j * 9)).off + 2, none⟩ = some (.string x.f2) ∧ w'.cell? ⟨(p.add (j * 9)).block, (p.add (j * 9)).off + 3, none⟩ = some (.bool x.f3.f0) ∧ w'.cell? ⟨(p.add (j * 9)).block, (p.add (j * 9)).off + 4, none⟩ = some (.slice P4 x.f3.f1.length e4) ∧ w'.cell? ⟨(p.add (j * 9)).block, (p.add (j * 9)).off + 5, none⟩ = some (.slice P5 x.f4.length e5) ∧ w'.cell? ⟨(p.add (j * 9)).block, (p.add (j * 9)).off + 6, none⟩ = some (.slice P6 x.f5.length e6) ∧ w'.cell? ⟨(p.add (j * 9)).block, (p.add (j * 9)).off + 7, none⟩ = some (.bool x.f6) ∧ w'.cell? ⟨(p.add (j * 9)).block, (p.add (j * 9)).off + 8, none⟩ = some (.int .u8 x.f7) ∧ w'.cell? (q.add (j * 9)) = some (.int .u8 y.f0) ∧ w'.cell? ⟨(q.add (j * 9)).block, (q.add (j * 9)).off + 1, none⟩ = some (.int .i64 y.f1) ∧ w'.cell? ⟨(q.add (j * 9)).block, (q.add (j * 9)).off + 2, none⟩ = some (.string y.f2) ∧ w'.cell? ⟨(q.add (j * 9)).block, (q.add (j * 9)).off + 3, none⟩ = some (.bool y.f3.f0) ∧ w'.cell? ⟨(q.add (j * 9)).block, (q.add (j * 9)).off + 4, none⟩ = some (.slice Q4 y.f3.f1.length f4) ∧ w'.cell? ⟨(q.add (j * 9)).block, (q.add (j * 9)).off + 5, none⟩ = some (.slice Q5 y.f4.length f5) ∧ w'.cell? ⟨(q.add (j * 9)).block, (q.add (j * 9)).off + 6, none⟩ = some (.slice Q6 y.f5.length f6) ∧ w'.cell? ⟨(q.add (j * 9)).block, (q.add (j * 9)).off + 7, none⟩ = some (.bool y.f6) ∧ w'.cell? ⟨(q.add (j * 9)).block, (q.add (j * 9)).off + 8, none⟩ = some (.int .u8 y.f7)) (go_keep) (fail)
            all_goals (go_wp2_with fail; go_meet)
            · obtain ⟨a1, a2, a3⟩ := two_new wr (.cells #[.int .u8 x.f0, .int .i64 x.f1, .string x.f2, .bool x.f3.f0, .slice P4 x.f3.f1.length e4, .slice P5 x.f4.length e5, .slice P6 x.f5.length e6, .bool x.f6, .int .u8 x.f7] 66) (.cells #[.int .u8 y.f0, .int .i64 y.f1, .string y.f2, .bool y.f3.f0, .slice Q4 y.f3.f1.length f4, .slice Q5 y.f4.length f5, .slice Q6 y.f5.length f6, .bool y.f6, .int .u8 y.f7] 66)
              exact ⟨_, _, rfl, rfl, Lib.hid a1, Lib.hid a2, Lib.hid a3⟩
            · obtain ⟨a1, a2, a3⟩ := two_new wr (.cells #[.int .u8 y.f0, .int .i64 y.f1, .string y.f2, .bool y.f3.f0, .slice Q4 y.f3.f1.length f4, .slice Q5 y.f4.length f5, .slice Q6 y.f5.length f6, .bool y.f6, .int .u8 y.f7] 66) (.cells #[.int .u8 x.f0, .int .i64 x.f1, .string x.f2, .bool x.f3.f0, .slice P4 x.f3.f1.length e4, .slice P5 x.f4.length e5, .slice P6 x.f5.length e6, .bool x.f6, .int .u8 x.f7] 66)
              exact ⟨_, _, rfl, rfl, Lib.hid a2, Lib.hid a1, Lib.hid a3⟩
          case rest =>
            obtain ⟨g, h, rfl, rfl, hg, hh, hbx⟩ := hcut
            clear p0 p1 p2 p3 p4 p5 p6 p7 p8 q0 q1 q2 q3 q4 q5 q6 q7 q8 k00 k10
            have hHS := Lib.hid (fun (W : World) (r : Bool) hr (hb : Below wr.heap.size wr W) => sameway_any x.f3.f0 P4 e4 x.f3.f1 y.f3.f0 Q4 f4 y.f3.f1 W r hr (Kd.C_below g4 hb) l4 (Kd.C_below n4 hb) m4 i0)
            have hHB := Lib.hid (fun (W : World) (r : Bool) hr (hb : Below wr.heap.size wr W) => numbers_any P5 e5 x.f4 Q5 f5 y.f4 W r hr (Kd.C_below g5 hb) l5 (Kd.C_below n5 hb) m5 i1)
            have hHE := Lib.hid (fun (W : World) (r : Bool) hr (hb : Below wr.heap.size wr W) => numbers_any P6 e6 x.f5 Q6 f6 y.f5 W r hr (Kd.C_below g6 hb) l6 (Kd.C_below n6 hb) m6 i2)
            have a0 : wc.cell? ⟨g, 0, none⟩ = some (.int .u8 x.f0) := by have := hg.out; simp [World.cell?, this]
            have a1 : wc.cell? ⟨g, 1, none⟩ = some (.int .i64 x.f1) := by have := hg.out; simp [World.cell?, this]
            have a2 : wc.cell? ⟨g, 2, none⟩ = some (.string x.f2) := by have := hg.out; simp [World.cell?, this]
            have a3 : wc.cell? ⟨g, 3, none⟩ = some (.bool x.f3.f0) := by have := hg.out; simp [World.cell?, this]
            have a4 : wc.cell? ⟨g, 4, none⟩ = some (.slice P4 x.f3.f1.length e4) := by have := hg.out; simp [World.cell?, this]
            have a6 : wc.cell? ⟨g, 7, none⟩ = some (.bool x.f6) := by have := hg.out; simp [World.cell?, this]
            have b0 : wc.cell? ⟨h, 0, none⟩ = some (.int .u8 y.f0) := by have := hh.out; simp [World.cell?, this]
            have b1 : wc.cell? ⟨h, 1, none⟩ = some (.int .i64 y.f1) := by have := hh.out; simp [World.cell?, this]
            have b2 : wc.cell? ⟨h, 2, none⟩ = some (.string y.f2) := by have := hh.out; simp [World.cell?, this]
            have b3 : wc.cell? ⟨h, 3, none⟩ = some (.bool y.f3.f0) := by have := hh.out; simp [World.cell?, this]
            have b4 : wc.cell? ⟨h, 4, none⟩ = some (.slice Q4 y.f3.f1.length f4) := by have := hh.out; simp [World.cell?, this]
            have b6 : wc.cell? ⟨h, 7, none⟩ = some (.bool y.f6) := by have := hh.out; simp [World.cell?, this]
            clear i0 i1 i2 l4 g4 l5 g5 l6 g6 m4 n4 m5 n5 m6 n6
            have HBad : Hid (nodeB x y = false → alikeB l0 t0 l1 t1 = false) := Lib.hid (fun h => by
              unfold alikeB
              rw [decide_eq_false_iff_not]
              rintro ⟨-, -, h3⟩
              have := h3 j hlt
              rw [Hx.out, Hy.out, h] at this
              cases this)
            have HW : Hid (Below w.heap.size w wc) := Lib.hid (hb.out.trans (hbx.out.mono (by omega)))
            have hgl : g < wc.heap.size := World.heap_lt hg.out
            have hhl : h < wc.heap.size := World.heap_lt hh.out
            have c5 : Hid (wc.cell? ⟨g, 5, none⟩ = some (.slice P5 x.f4.length e5)) := Lib.hid (by have := hg.out; simp [World.cell?, this])
            have c6 : Hid (wc.cell? ⟨g, 6, none⟩ = some (.slice P6 x.f5.length e6)) := Lib.hid (by have := hg.out; simp [World.cell?, this])
            have d5 : Hid (wc.cell? ⟨h, 5, none⟩ = some (.slice Q5 y.f4.length f5)) := Lib.hid (by have := hh.out; simp [World.cell?, this])
            have d6 : Hid (wc.cell? ⟨h, 6, none⟩ = some (.slice Q6 y.f5.length f6)) := Lib.hid (by have := hh.out; simp [World.cell?, this])
            go_wp2_with fail
            all_goals try (go_ret; exact ⟨ret_bool (HBad.out (by unfold nodeB; simp [*])).symm, HW.out⟩)
            have HE4 : Hid (x.f0 = y.f0 ∧ x.f1 = y.f1 ∧ x.f2.toList = y.f2.toList ∧ x.f6 = y.f6) := Lib.hid ⟨by assumption, by assumption, by assumption, by assumption⟩
            by_cases hS : x.f3.f0 = y.f3.f0 ∧ x.f3.f1 = y.f3.f1
            · refine (hHS.out wc true (by simpa using hS) hbx.out).mono ?_
              rintro e w3 ⟨rfl, hb3⟩
              have HW3 := Lib.hid (HW.out.trans (hb3.mono HW.out.size))
              have HX3 := Lib.hid (hbx.out.trans (hb3.mono hbx.out.size))
              have hS' := Lib.hid hS
              have g3 := box_later hg.out hb3
              have h3 := box_later hh.out hb3
              have k5 : w3.cell? ⟨g, 5, none⟩ = some (.slice P5 x.f4.length e5) := by simp [World.cell?, g3]
              have k6 : w3.cell? ⟨g, 6, none⟩ = some (.slice P6 x.f5.length e6) := by simp [World.cell?, g3]
              have m5 : w3.cell? ⟨h, 5, none⟩ = some (.slice Q5 y.f4.length f5) := by simp [World.cell?, h3]
              have m6 : w3.cell? ⟨h, 6, none⟩ = some (.slice Q6 y.f5.length f6) := by simp [World.cell?, h3]
              have Y0 := Lib.hid (box_later y0.out HX3.out)
              have Y1 := Lib.hid (box_later y1.out HX3.out)
              have hz3 : w.heap.size + 1 < w3.heap.size := World.heap_lt Y1.out
              clear hS hb3 g3 h3 a0 a1 a2 a3 a4 a6 b0 b1 b2 b3 b4 b6
              by_cases hB : x.f4 = y.f4
              · have hB' := Lib.hid hB
                clear hB
                go_wp2_with fail
                refine (hHB.out w3 true (by simpa using hB'.out) HX3.out).mono ?_
                rintro e w4 ⟨rfl, n4, rfl⟩
                by_cases hE : x.f5 = y.f5
                · have hE' := Lib.hid hE
                  clear hE
                  go_wp2_with fail
                  refine (hHE.out (w3.drewN n4) true (by simpa using hE'.out) (pw_below_drewN HX3.out n4)).mono ?_
                  rintro e w5 ⟨rfl, n5, rfl⟩
                  go_wp2_with fail
                  go_roundw
                  case rel =>
                    refine ⟨j + 1, by omega, by go_num, Lib.hid (fun i hi => ?_), Lib.hid (pw_below_drewN HW3.out _), Lib.hid Y0.out, Lib.hid Y1.out, hz3⟩
                    rcases Nat.lt_succ_iff_lt_or_eq.1 hi with h2 | rfl
                    · exact hall.out i h2
                    · rw [Hx.out, Hy.out]
                      obtain ⟨z1, z2, z3, z4⟩ := HE4.out
                      unfold nodeB
                      simp [z1, z2, z3, z4, hS'.out, hB'.out, hE'.out]
                  case measure => simp [intOf]; omega
                · have hE' := Lib.hid hE
                  clear hE
                  go_wp2_with fail
                  refine (hHE.out (w3.drewN n4) false (by simpa using hE'.out) (pw_below_drewN HX3.out n4)).mono ?_
                  rintro e w5 ⟨rfl, n5, rfl⟩
                  go_wp2_with fail
                  go_ret
                  exact ⟨ret_bool (HBad.out (by unfold nodeB; simp [hE'.out])).symm, pw_below_drewN HW3.out _⟩
              · have hB' := Lib.hid hB
                clear hB
                go_wp2_with fail
                refine (hHB.out w3 false (by simpa using hB'.out) HX3.out).mono ?_
                rintro e w4 ⟨rfl, n4, rfl⟩
                go_wp2_with fail
                go_ret
                exact ⟨ret_bool (HBad.out (by unfold nodeB; simp [hB'.out])).symm, pw_below_drewN HW3.out n4⟩
            · refine (hHS.out wc false (by simpa using hS) hbx.out).mono ?_
              rintro e w3 ⟨rfl, hb3⟩
              have HW3 := Lib.hid (HW.out.trans (hb3.mono HW.out.size))
              clear hb3
              have hS' := Lib.hid hS
              clear hS
              go_wp2_with fail
              go_ret
              exact ⟨ret_bool (HBad.out (by unfold nodeB; simp [hS'.out])).symm, HW3.out⟩
        · obtain rfl : j = l0.length := by omega
          have HG : Hid (alikeB l0 t0 l1 t1 = true) := Lib.hid (by unfold alikeB; rw [decide_eq_true_eq]; exact ⟨Hl.out, Ht.out, hall.out⟩)
          go_wp2
          go_ret
          exact ⟨ret_bool HG.out.symm, hb.out⟩
    · have Ht := Lib.hid ht
      clear ht
      go_wp2_with fail
      rw [HW1.out]
      refine (HN.out W1 false (by simpa using Ht.out) HB1.out).mono ?_
      rintro e w2 ⟨rfl, n2, rfl⟩
      clear HW1
      go_wp2
      go_ret
      exact ⟨ret_bool (by unfold alikeB; simp [Ht.out]), pw_below_drewN HB1.out n2⟩
  · have Hl := Lib.hid hl
    have hbl : ((l0.length : Int) != (l1.length : Int)) = true := by simpa using (fun h : (l0.length : Int) = l1.length => hl (by omega))
    clear hl h0 h1
    go_enter Tryd.func18, Tryd.ntmps18
    go_wp2
    go_ret
    exact ⟨ret_bool (by unfold alikeB; simp [Hl.out]), ((Below.refl w.heap.size w).alloc (Nat.le_refl _) _).alloc (by simp) _⟩
end Go.Proofs.YtcggeaobonblfaaDoor

/- bobbinref14.Same: it answers whether two trees are equal, the kinds of holes too. -/
namespace Go.Proofs.YtcggeaobonblfaaDoor
set_option linter.unusedSimpArgs false
set_option linter.unusedVariables false
open Go Go.RowKit Go.Proofs.YtcggeaobonblfaaDoorW.PrintWords Go.Proofs.YtcggeaobonblfaaDoor.PParseTrees
def sameB (l0 : List S66) (t0 : List Int) (l1 : List S66) (t1 : List Int) : Bool := alikeB l0 t0 l1 t1 && decide (∀ i : Nat, i < l0.length → (rd_T66 l0 i).f7 = (rd_T66 l1 i).f7)
theorem alikeB_len {l0 : List S66} {t0 : List Int} {l1 : List S66} {t1 : List Int} (h : alikeB l0 t0 l1 t1 = true) : l0.length = l1.length := by
  unfold alikeB at h
  rw [decide_eq_true_eq] at h
  exact h.1
set_option maxRecDepth 100000 in
set_option maxHeartbeats 2000000 in
theorem same_any (A0 : Option Addr) (c0 : Nat) (l0 : List S66) (B0 : Option Addr) (d0 : Nat) (t0 : List Int) (A1 : Option Addr) (c1 : Nat) (l1 : List S66) (B1 : Option Addr) (d1 : Nat) (t1 : List Int) (w : World)
    (h0 : TreeC w A0 c0 l0 B0 d0 t0) (h1 : TreeC w A1 c1 l1 B1 d1 t1) :
    Calls Tryd.prog 11 #[.agg #[.slice A0 l0.length c0, .slice B0 t0.length d0], .agg #[.slice A1 l1.length c1, .slice B1 t1.length d1]] w fun e w' => e = .returned (.bool (sameB l0 t0 l1 t1)) ∧ Below w.heap.size w w' := by
  have b0 := h0.small
  have b1 := h1.small
  have H0 := Lib.hid h0
  have H1 := Lib.hid h1
  clear h0 h1
  obtain ⟨W1, hW1⟩ : ∃ W1, (w.alloc (.cells #[.slice A0 l0.length c0, .slice B0 t0.length d0] 26)).alloc (.cells #[.slice A1 l1.length c1, .slice B1 t1.length d1] 26) = W1 := ⟨_, rfl⟩
  have hB1 : Below w.heap.size w W1 := by rw [← hW1]; exact ((Below.refl w.heap.size w).alloc (Nat.le_refl _) _).alloc (by simp) _
  have x0 : W1.heap[w.heap.size]? = some (.cells #[.slice A0 l0.length c0, .slice B0 t0.length d0] 26) := by rw [← hW1]; exact (heap_old (by simp)).trans (World.alloc_heap_new w _)
  have x1 : W1.heap[w.heap.size + 1]? = some (.cells #[.slice A1 l1.length c1, .slice B1 t1.length d1] 26) := by
    rw [← hW1]
    have := World.alloc_heap_new (w.alloc (.cells #[.slice A0 l0.length c0, .slice B0 t0.length d0] 26)) (.cells #[.slice A1 l1.length c1, .slice B1 t1.length d1] 26)
    simpa using this
  have X0 := Lib.hid x0
  have X1 := Lib.hid x1
  have HB1 := Lib.hid hB1
  have HW1 := Lib.hid hW1
  clear x0 x1 hB1 hW1
  obtain ⟨r, hr⟩ : ∃ r, alikeB l0 t0 l1 t1 = r := ⟨_, rfl⟩
  have HA := Lib.hid (alike_any A0 c0 l0 B0 d0 t0 A1 c1 l1 B1 d1 t1 W1 (H0.out.below HB1.out) (H1.out.below HB1.out))
  rw [hr] at HA
  have Hr := Lib.hid hr
  clear hr
  go_enter Tryd.func11, Tryd.ntmps11
  go_wp2_with fail
  rw [HW1.out]
  refine (HA.out).mono ?_
  rintro e w2 ⟨rfl, hb2⟩
  have Y0 := Lib.hid (box_later X0.out hb2)
  have Y1 := Lib.hid (box_later X1.out hb2)
  have HB2 := Lib.hid (HB1.out.trans (hb2.mono HB1.out.size))
  clear hb2 HW1 HA X0 X1
  have hsz : w.heap.size + 1 < w2.heap.size := World.heap_lt Y1.out
  cases r with
  | false =>
    go_wp2
    go_ret
    exact ⟨ret_bool (by unfold sameB; simp [Hr.out]), HB2.out⟩
  | true =>
    have Hl := Lib.hid (alikeB_len Hr.out)
    go_wp2_with fail
    go_loopw [5] (fun a wr => ∃ j : Nat, j ≤ l0.length ∧ a = .int .i64 j ∧ Hid (∀ i : Nat, i < j → (rd_T66 l0 i).f7 = (rd_T66 l1 i).f7) ∧ Hid (Below w.heap.size w wr) ∧
      Hid (wr.heap[w.heap.size]? = some (.cells #[.slice A0 l0.length c0, .slice B0 t0.length d0] 26)) ∧ Hid (wr.heap[w.heap.size + 1]? = some (.cells #[.slice A1 l1.length c1, .slice B1 t1.length d1] 26)) ∧ w.heap.size + 1 < wr.heap.size) (fun a _ => l0.length - (intOf a).toNat)
    case atStart => exact ⟨0, Nat.zero_le _, rfl, Lib.hid (fun i hi => by omega), HB2, Y0, Y1, hsz⟩
    case round =>
      clear Y0 Y1 HB2 hsz
      obtain ⟨j, hj, rfl, hall, hb, y0, y1, hsz⟩ := hrel
      have k00 : wr.cell? ⟨w.heap.size, 0, none⟩ = some (.slice A0 l0.length c0) := by have := y0.out; simp [World.cell?, this]
      have k10 : wr.cell? ⟨w.heap.size + 1, 0, none⟩ = some (.slice A1 l1.length c1) := by have := y1.out; simp [World.cell?, this]
      by_cases hlt : j < l0.length
      · have hx := at_T66 (H0.out.below hb.out).nodes (j : Int) (by omega) (by omega)
        have hy := at_T66 (H1.out.below hb.out).nodes (j : Int) (by omega) (by have := Hl.out; omega)
        obtain ⟨x, hxe⟩ : ∃ x, rd_T66 l0 (j : Int) = x := ⟨_, rfl⟩
        obtain ⟨y, hye⟩ : ∃ y, rd_T66 l1 (j : Int) = y := ⟨_, rfl⟩
        rw [hxe] at hx
        rw [hye] at hy
        have Hx := Lib.hid hxe
        have Hy := Lib.hid hye
        clear hxe hye
        obtain ⟨p, P4, e4, P5, e5, P6, e6, rfl, p0, p1, p2, p3, p4, p5, p6, p7, p8, l4, g4, l5, g5, l6, g6⟩ := hx
        obtain ⟨q, Q4, f4, Q5, f5, Q6, f6, rfl, q0, q1, q2, q3, q4, q5, q6, q7, q8, m4, n4, m5, n5, m6, n6⟩ := hy
        have jl0 : (j : Int) < (l0.length : Int) := by omega
        have jl1 : (j : Int) < (l1.length : Int) := by have := Hl.out; omega
        simp only [Int.toNat_natCast] at p8 q8
        clear p0 p1 p2 p3 p4 p5 p6 p7 l4 g4 l5 g5 l6 g6 q0 q1 q2 q3 q4 q5 q6 q7 m4 n4 m5 n5 m6 n6
        go_wp2_with fail
        go_quiet (fail)
        go_wp2
        · have hne : ¬ x.f7 = y.f7 := by have h : (x.f7 != y.f7) = true := by assumption
                                         simpa using h
          go_ret
          refine ⟨ret_bool ?_, ?_⟩
          · unfold sameB
            rw [Hr.out]
            symm
            rw [Bool.true_and, decide_eq_false_iff_not]
            intro h3
            have := h3 j hlt
            rw [Hx.out, Hy.out] at this
            exact hne this
          · first
              | exact pw_below_drewN hb.out _
              | exact hb.out.drew
        · have heq : x.f7 = y.f7 := by have h : (x.f7 != y.f7) = false := by assumption
                                       simpa using h
          go_roundw
          case rel =>
            refine ⟨j + 1, by omega, by go_num, Lib.hid (fun i hi => ?_), Lib.hid ?_, Lib.hid y0.out, Lib.hid y1.out, hsz⟩
            · rcases Nat.lt_succ_iff_lt_or_eq.1 hi with h2 | rfl
              · exact hall.out i h2
              · rw [Hx.out, Hy.out]
                exact heq
            · first
                | exact pw_below_drewN hb.out _
                | exact hb.out.drew
          case measure => simp [intOf]; omega
      · obtain rfl : j = l0.length := by omega
        have HG : Hid (sameB l0 t0 l1 t1 = true) := Lib.hid (by unfold sameB; rw [Hr.out, Bool.true_and, decide_eq_true_eq]; exact hall.out)
        go_wp2
        go_ret
        exact ⟨ret_bool HG.out.symm, hb.out⟩
end Go.Proofs.YtcggeaobonblfaaDoor

/- The reference's words in memory; trees in memory that are read. -/
namespace Go.Proofs.YtcggeaobonblfaaDoor
set_option linter.unusedSimpArgs false
set_option linter.unusedVariables false
open Go Go.RowKit Go.Proofs.YtcggeaobonblfaaDoorW.PrintWords Go.Proofs.YtcggeaobonblfaaDoor.PParseTrees
theorem cell_R {w : World} {base : Nat} {ok : Nat → Prop} {v : Value} {xs : List ByteArray} (h : Kd.R Kd.string 9 w base ok v xs) (j : Nat) (x : ByteArray) (hx : xs[j]? = some x) :
    ∃ g cap, v = .slice (some ⟨g, 0, none⟩) xs.length cap ∧ g < w.heap.size ∧ w.cell? ⟨g, j, none⟩ = some (.string x) := by
  have hj := (List.getElem?_eq_some_iff.1 hx).1
  obtain ⟨g, cap, rfl, -, hg, -⟩ := Kd.R_form h (by omega)
  obtain ⟨-, -, hC⟩ := Kd.R_reads' h
  obtain ⟨ad, ha, hc⟩ := Kd.at_string hC (j : Int) (by omega) (by omega)
  cases ha
  refine ⟨g, cap, rfl, hg, ?_⟩
  have e : rdOf ByteArray.empty xs (j : Int) = x := by unfold rdOf; simp [hx]
  rw [e, addr_add] at hc
  simpa using hc
theorem names_R {w : World} {base : Nat} {ok : Nat → Prop} {v : Value} {xs : List (List UInt8)} (h : Kd.R Kd.string 9 w base ok v (xs.map toB)) : NamesRd w.heap.size w v xs := by
  obtain ⟨A, c, rfl, hcap, -⟩ := Kd.R_reads h
  refine ⟨A, c, by simp, fun j x hx => ?_, by simpa using hcap⟩
  obtain ⟨g, cap, e, hg, hc⟩ := cell_R h j (toB x) (by simp [hx])
  cases e
  exact ⟨g, rfl, hg, hc⟩
theorem words_S {w : World} {base : Nat} {ok : Nat → Prop} {v : Value} {ws : List Word} (h : Kd.S k76 76 w base ok v (ws.map toS)) : WordsRd w.heap.size w v ws := by
  obtain ⟨A, c, rfl⟩ := Kd.S_slice h
  refine ⟨A, c, by simp, fun i x hx => ?_⟩
  have hi := (List.getElem?_eq_some_iff.1 hx).1
  obtain ⟨g, cap, e, -, hg, -⟩ := Kd.S_form h (by simp; omega)
  cases e
  obtain ⟨cs, hcl, hM, hc⟩ := Kd.R_getA (Kd.S_R h) z76 (i : Int) (by omega) (by simp; omega)
  have e : (ws.map toS).getD (i : Int).toNat z76 = toS x := by simp [hx]
  rw [e] at hM
  obtain ⟨v4, rfl, hR⟩ := k76_openM hM
  have hcc : ∀ j u, [Value.int .u8 (toS x).f0, .int .i64 (toS x).f1, .string (toS x).f2, .bool (toS x).f3.f0, v4][j]? = some u → w.cell? ⟨g, i * 5 + j, none⟩ = some u := fun j u hu => by
    have := hc j u hu
    rw [addr_add] at this
    exact this
  exact ⟨g, v4, rfl, hg, hcc 0 _ rfl, hcc 1 _ rfl, hcc 2 _ rfl, hcc 3 _ rfl, hcc 4 _ rfl, names_R hR⟩
theorem all_any (s : List UInt8) (w : World) (hs : s.length ≤ 65536) :
    Calls Tryd.prog 21 #[.string ⟨s.toArray⟩] w fun e w' => ∃ v, e = .returned (.tuple #[v, .int .i64 (lexW 0 s).2]) ∧ WordsRd w'.heap.size w' v (lexW 0 s).1 ∧ Below w.heap.size w w' := by
  obtain ⟨k, hk⟩ := all_ev s hs
  exact (bobbinref13_All.calls k (toB s) _ _ w hk).mono fun e w' ⟨v, he, hS, hb⟩ => ⟨v, he, words_S hS, hb⟩
/-- A node, as the print has it. -/
def toN (x : Node) : S66 := ⟨x.kind, x.at_, toB x.text, ⟨x.root, x.names.map toB⟩, x.body, x.els, x.has, x.hole⟩
theorem own_cap {W : World} {base e size n c : Nat} {A : Option Addr} {xs : List Value} (h : W.ownsRow base e size (.slice A n c) n xs) : n ≤ c ∧ n ≤ 9223372036854775807 := by
  rcases h.2 with ⟨h1, h0⟩ | ⟨g, cap, cur, h1, _, _, h2, h3, _⟩
  · cases h1; exact ⟨Nat.le_refl _, by omega⟩
  · cases h1
    unfold maxLen at h3
    exact ⟨h2, by omega⟩
theorem ints_C {W : World} {base : Nat} {v : Value} {xs : List Int} (h : IntsAt W base v xs) : ∃ A c, v = .slice A xs.length c ∧ xs.length ≤ c ∧ IntsC W A xs := by
  obtain ⟨A, c, rfl⟩ := ints_slice h
  obtain ⟨h1, h2⟩ := own_cap h
  refine ⟨A, c, rfl, h1, rfl, h2, fun hp => ?_⟩
  obtain ⟨x, hx⟩ : ∃ x, (xs.map (Value.int .i64))[0]? = some x := ⟨_, List.getElem?_eq_getElem (by simpa using hp)⟩
  obtain ⟨g, cap, e, -, -, -⟩ := row_cell h 0 x hx
  injection e with e1 e2 e3
  refine ⟨⟨g, 0, none⟩, e1, fun j p hj => ⟨[.int .i64 p], rfl, rfl, fun i u hu => ?_⟩⟩
  cases i with
  | succ i => simp at hu
  | zero =>
    simp at hu
    subst hu
    obtain ⟨g2, cap2, e', -, -, hc⟩ := row_cell h j (.int .i64 p) (by simp [hj])
    injection e' with e4 e5 e6
    rw [e1] at e4
    cases e4
    rw [addr_add]
    have : j * (Kd.int IntKind.i64).sz + 0 = j := by show j * 1 + 0 = j; omega
    rw [this]
    exact hc
theorem names_C {B : Nat} {W : World} {v : Value} {names : List (List UInt8)} (h : NamesRd B W v names) (hl : names.length ≤ 100000) : ∃ A c, v = .slice A names.length c ∧ names.length ≤ c ∧ StrsC W A (names.map toB) := by
  obtain ⟨A, c, rfl, hj, hcap⟩ := h
  refine ⟨A, c, rfl, hcap, by simp, by simp; omega, fun hp => ?_⟩
  obtain ⟨x, hx⟩ : ∃ x, names[0]? = some x := ⟨_, List.getElem?_eq_getElem (by simpa using hp)⟩
  obtain ⟨b, ha, -, -⟩ := hj 0 x hx
  refine ⟨⟨b, 0, none⟩, ha, fun j p hjp => ⟨[.string p], rfl, rfl, fun i u hu => ?_⟩⟩
  cases i with
  | succ i => simp at hu
  | zero =>
    simp at hu
    subst hu
    obtain ⟨y, hy, rfl⟩ : ∃ y, names[j]? = some y ∧ toB y = p := by simpa using hjp
    obtain ⟨b2, hb2, -, hc⟩ := hj j y hy
    rw [ha] at hb2
    cases hb2
    rw [addr_add]
    have : j * Kd.string.sz + 0 = j := by show j * 1 + 0 = j; omega
    rw [this]
    exact hc
/-- A tree that is owned can be read. -/
theorem tree_C {W : World} {base : Nat} {nv tv : Value} {ps : List NodeV} {top : List Int} (hr : W.ownsRow base 66 9 nv ps.length (ps.flatMap nodeCells)) (ht : IntsAt W base tv top)
    (hp : ∀ p ∈ ps, (∃ A c, p.nv = .slice A p.x.names.length c ∧ p.x.names.length ≤ c ∧ StrsC W A (p.x.names.map toB)) ∧ IntsAt W base p.bv p.x.body ∧ IntsAt W base p.ev p.x.els)
    (h1 : ps.length ≤ 100000) (h2 : top.length ≤ 100000) (h3 : ∀ p ∈ ps, p.x.names.length ≤ 100000 ∧ p.x.body.length ≤ 100000 ∧ p.x.els.length ≤ 100000) :
    ∃ A c B d, nv = .slice A (ps.map NodeV.x).length c ∧ tv = .slice B top.length d ∧ TreeC W A c ((ps.map NodeV.x).map toN) B d top := by
  obtain ⟨B, d, rfl, hd, htC⟩ := ints_C ht
  obtain ⟨A, c, rfl⟩ : ∃ A c, nv = .slice A ps.length c := by
    rcases hr.2 with ⟨rfl, h0⟩ | ⟨g, cap, cur, rfl, _⟩
    · rw [h0]; exact ⟨_, _, rfl⟩
    · exact ⟨_, _, rfl⟩
  obtain ⟨hc, hm⟩ := own_cap hr
  refine ⟨A, c, B, d, by simp, rfl, ⟨⟨by simp, by simpa using hm, fun hpos => ?_⟩, by simpa using hc, htC, hd, by simp; omega, by omega, fun x hx => ?_⟩⟩
  · have hpos' : 0 < ps.length := by simpa using hpos
    obtain ⟨p0, hp0⟩ : ∃ p, ps[0]? = some p := ⟨_, List.getElem?_eq_getElem hpos'⟩
    obtain ⟨g, cap, e, -, -, -⟩ := row_cell hr (0 * 9 + 0) _ (by rw [flat9 ps 0 p0 hp0 0 (by omega)]; rfl)
    injection e with e1 e2 e3
    refine ⟨⟨g, 0, none⟩, e1, fun j x hj => ?_⟩
    obtain ⟨p, hpj, rfl⟩ : ∃ p, ps[j]? = some p ∧ toN p.x = x := by simpa using hj
    obtain ⟨⟨NA, NC, hn1, hn2, hn3⟩, hb, he⟩ := hp p (List.mem_of_getElem? hpj)
    obtain ⟨BA, BC, hb1, hb2, hb3⟩ := ints_C hb
    obtain ⟨EA, EC, he1, he2, he3⟩ := ints_C he
    have hK := k66_mk W (toN p.x) (A4 := NA) (c4 := NC) (by simpa [toN] using hn2) hn3 (A5 := BA) (c5 := BC) hb2 hb3 (A6 := EA) (c6 := EC) he2 he3
    refine ⟨_, rfl, hK, fun i u hu => ?_⟩
    have hi : i < 9 := (List.getElem?_eq_some_iff.1 hu).1
    have hcells : [Value.int .u8 (toN p.x).f0, .int .i64 (toN p.x).f1, .string (toN p.x).f2, .bool (toN p.x).f3.f0, .slice NA (toN p.x).f3.f1.length NC, .slice BA (toN p.x).f4.length BC, .slice EA (toN p.x).f5.length EC, .bool (toN p.x).f6, .int .u8 (toN p.x).f7] = nodeCells p := by
      unfold nodeCells toN
      rw [hn1, hb1, he1]
      simp
    rw [hcells] at hu
    obtain ⟨g2, cap2, e', -, -, hcc⟩ := row_cell hr (j * 9 + i) u (by rw [flat9 ps j p hpj i hi]; exact hu)
    injection e' with e4 e5 e6
    rw [e1] at e4
    cases e4
    rw [addr_add]
    exact hcc
  · obtain ⟨y, hy, rfl⟩ := List.mem_map.1 hx
    obtain ⟨p, hpm, rfl⟩ := List.mem_map.1 hy
    obtain ⟨a, b, c⟩ := h3 p hpm
    exact ⟨by simp [toN]; omega, by simp [toN]; omega, by simp [toN]; omega⟩
end Go.Proofs.YtcggeaobonblfaaDoor

/- bobbinref14.Parse: the tree by a stack of what is open. -/
namespace Go.Proofs.YtcggeaobonblfaaDoor
set_option linter.unusedSimpArgs false
set_option linter.unusedVariables false
open Go Go.RowKit Go.Proofs.YtcggeaobonblfaaDoorW.PrintWords Go.Proofs.YtcggeaobonblfaaDoor.PParseTrees Go.Proofs.YtcggeaobonblfaaDoorW.PrintLast
def RefPost (w : World) (r : Except Fault (List Int × List Node)) (e : Ending) (w' : World) : Prop :=
  match r with
  | .error f => e = .returned (.tuple #[.agg #[.slice none 0 0, .slice none 0 0], .int .i64 f.1, .int .i64 f.2]) ∧ Below w.heap.size w w'
  | .ok (top, nodes) => ∃ A c B d, e = .returned (.tuple #[.agg #[.slice A nodes.length c, .slice B top.length d], .int .i64 0, .int .i64 0]) ∧ TreeC w' A c (nodes.map toN) B d top ∧ Below w.heap.size w w'
/-- Between two rounds: k words have been read. -/
structure RunAt (B : Nat) (ws : List Word) (wv : Value) (w2 : World) (R : Nat) (T : Nat) (k : Nat) (r : RSt) (sv : Value) (W : World) : Prop where
  run : runR r0 (ws.take k) = .ok r
  tree : TSt B B W T r.nodes r.top
  stack : StackAt W B sv r.st
  below : Below B w2 W
theorem Tryd.info78 : (Tryd.prog.info? 78).map (fun i => (i.zero, i.size, i.bytes)) = some (some (.agg #[.int .i64 0, .int .i64 0, .bool false]), 3, 24) := by kernel_rfl
set_option maxRecDepth 100000 in
set_option maxHeartbeats 4000000 in
theorem refParse_any (s : List UInt8) (w : World) (hs : s.length ≤ 140737488351232) : Calls Tryd.prog 10 #[.string ⟨s.toArray⟩] w (RefPost w (refParse s)) := by
  by_cases hl : 65536 < s.length
  · have HF : Hid (refParse s = .error (0, 2)) := Lib.hid (by unfold refParse; rw [if_pos hl])
    go_enter Tryd.func10, Tryd.ntmps10
    go_wp2_with fail
    refine bodyPost_ret (v := .tuple #[.agg #[.slice none 0 0, .slice none 0 0], .int .i64 0, .int .i64 2]) (by simp [results, Tryd.results10, go_sem]) rfl ?_
    rw [HF.out]
    exact ⟨rfl, by repeat (first | exact Below.refl _ _ | refine Below.drew ?_ | refine Below.setCell ?_ (by simp) _ | refine Below.alloc ?_ (by simp) _)⟩
  obtain ⟨W1, hW1⟩ : ∃ W1, w.alloc (.cells #[.slice none 0 0, .slice none 0 0] 26) = W1 := ⟨_, rfl⟩
  have hb1 : Below w.heap.size w W1 := by rw [← hW1]; exact (Below.refl w.heap.size w).alloc (Nat.le_refl _) _
  have hR1 : W1.heap[w.heap.size]? = some (.cells #[.slice none 0 0, .slice none 0 0] 26) := by rw [← hW1]; exact World.alloc_heap_new w _
  have HA := Lib.hid (all_any s W1 (by omega))
  have HF : Hid (refParse s = if 0 ≤ (lexW 0 s).2 then .error ((lexW 0 s).2, 4) else stackR (lexW 0 s).1) := Lib.hid (by unfold refParse; rw [if_neg hl])
  have hshort := lexF_short (s.length + 1) 0 s
  have hkind := lexF_kind (s.length + 1) 0 s
  obtain ⟨ws, bad, hL⟩ : ∃ a b, lexW 0 s = (a, b) := ⟨_, _, rfl⟩
  have hL' : lexF (s.length + 1) 0 s = (ws, bad) := hL
  rw [hL'] at hshort hkind
  rw [hL] at HA HF
  obtain ⟨hwl, hnm⟩ := hshort
  have hwl' : ws.length ≤ 65536 := by dsimp only at hwl; omega
  have Hnm := Lib.hid hnm
  have Hkind := Lib.hid hkind
  have HW1 := Lib.hid hW1
  have HR1 := Lib.hid hR1
  have Hb1 := Lib.hid hb1
  have hsz1 : w.heap.size < W1.heap.size := World.heap_lt hR1
  clear hL hL' hwl hnm hkind hW1 hR1 hb1 hs
  go_enter Tryd.func10, Tryd.ntmps10
  go_wp2_with fail
  rw [HW1.out]
  refine (HA.out).mono ?_
  rintro e w2 ⟨wv, rfl, hwr, hb2⟩
  have r2 := (hb2.block _ hsz1).trans HR1.out
  have hB2 : Below w.heap.size w w2 := Hb1.out.trans (hb2.mono (by omega))
  obtain ⟨wA, wc, rfl⟩ : ∃ A c, wv = .slice A ws.length c := by obtain ⟨A, c, e, _⟩ := hwr; exact ⟨A, c, e⟩
  have z0 : w2.cell? ⟨w.heap.size, 0, none⟩ = some (.slice none 0 0) := by simp [World.cell?, r2]
  have z1 : w2.cell? ⟨w.heap.size, 1, none⟩ = some (.slice none 0 0) := by simp [World.cell?, r2]
  have zf : w2.frozen? ⟨w.heap.size, 0, none⟩ = false := by simp [World.frozen?, r2]
  have zg : w2.frozen? ⟨w.heap.size, 1, none⟩ = false := by simp [World.frozen?, r2]
  have Hwr := Lib.hid hwr
  have HB2 := Lib.hid hB2
  have R2 := Lib.hid r2
  have hsz2 : w.heap.size < w2.heap.size := World.heap_lt r2
  clear hwr hB2 r2 hb2 HA HW1 HR1 Hb1
  by_cases hbad : 0 ≤ bad
  · have HF' : Hid (refParse s = .error (bad, 4)) := Lib.hid (HF.out.trans (if_pos hbad))
    go_wp2
    refine bodyPost_ret (v := .tuple #[.agg #[.slice none 0 0, .slice none 0 0], .int .i64 bad, .int .i64 4]) (by simp [results, Tryd.results10, go_sem, z0, z1]) rfl ?_
    rw [HF'.out]
    exact ⟨rfl, by repeat (first | exact HB2.out | refine Below.drew ?_ | refine Below.setCell ?_ (by simp) _)⟩
  have HF' : Hid (refParse s = stackR ws) := Lib.hid (HF.out.trans (if_neg hbad))
  clear HF
  have H0 : Hid (RunAt w2.heap.size ws (.slice wA ws.length wc) w2 w.heap.size w2.heap.size 0 r0 (.slice none 0 0) (w2.alloc (.cells #[.slice none 0 0, .slice none 0 0] 26))) := Lib.hid
    ⟨rfl, ⟨.slice none 0 0, .slice none 0 0, [], fun _ => 0, rfl, ⟨World.alloc_heap_new _ _, ⟨by simp, .inl ⟨rfl, rfl⟩⟩, ints_none _ _, fun k e => (by simp [Value.ownBlock] at e), fun i p hp => (by simp at hp), Nat.le_refl _, Nat.le_refl _⟩⟩, stack_none _ _, (Below.refl _ _).alloc (Nat.le_refl _) _⟩
  go_wp2_with fail
  go_loopw [8, 9] (fun sv a wr => ∃ k r, k ≤ ws.length ∧ a = .int .i64 k ∧ Hid (RunAt w2.heap.size ws (.slice wA ws.length wc) w2 w.heap.size w2.heap.size k r sv wr)) (fun _ a _ => ws.length - (intOf a).toNat)
  case atStart => exact ⟨0, r0, Nat.zero_le _, rfl, H0⟩
  case round =>
    clear H0 z0 z1 zf zg
    obtain ⟨k, ⟨nodes, top, st⟩, hk, rfl, hrun⟩ := hrel
    obtain ⟨svA, svc, rfl⟩ := stack_slice hrun.out.stack
    have hinv := run_inv hrun.out.run
    have i1 := hinv.nodes
    have i2 := hinv.top
    have i4 := hinv.deep
    have Hinv := Lib.hid hinv
    dsimp only at i1 i2 i4
    clear hinv
    have hsz3 : w2.heap.size < wr.heap.size := by obtain ⟨_, _, _, _, _, h⟩ := hrun.out.tree; exact World.heap_lt h.block
    have Hw := Lib.hid (Hwr.out.below hrun.out.below)
    have Rr := Lib.hid ((hrun.out.below.block _ hsz2).trans R2.out)
    have d6 : decide ((k : Int) < (ws.length : Int)) = decide (k < ws.length) := by simp
    cases hx1 : ws[k]? with
    | none =>
      have hge : ws.length ≤ k := List.getElem?_eq_none_iff.1 hx1
      have htk : ws.take k = ws := List.take_of_length_le hge
      have hrunw : runR r0 ws = .ok ⟨nodes, top, st⟩ := by rw [← htk]; exact hrun.out.run
      have hnames := runR_names (m := 8) ws r0 _ (fun x hx => by cases hx) Hnm.out hrunw
      have HRun := Lib.hid hrunw
      have Hnames := Lib.hid hnames
      have d7 : decide (k < ws.length) = false := by simp; omega
      have d8 : decide ((k : Int) < (ws.length : Int)) = false := by simp; omega
      have jl : ¬ ((k : Int) < (ws.length : Int)) := by omega
      have HB3 : Hid (Below w.heap.size w wr) := Lib.hid (HB2.out.trans (hrun.out.below.mono (by omega)))
      have z0 : wr.cell? ⟨w.heap.size, 0, none⟩ = some (.slice none 0 0) := by have := Rr.out; simp [World.cell?, this]
      have z1 : wr.cell? ⟨w.heap.size, 1, none⟩ = some (.slice none 0 0) := by have := Rr.out; simp [World.cell?, this]
      have zf : wr.frozen? ⟨w.heap.size, 0, none⟩ = false := by have := Rr.out; simp [World.frozen?, this]
      have zg : wr.frozen? ⟨w.heap.size, 1, none⟩ = false := by have := Rr.out; simp [World.frozen?, this]
      obtain ⟨nv, tv, ps, f, hmap, hts⟩ := hrun.out.tree
      dsimp only at hmap
      have hnl : nodes.length = ps.length := by rw [← hmap]; simp
      obtain ⟨LA, LC, rfl⟩ : ∃ A c, nv = .slice A ps.length c := by
        rcases hts.row.2 with ⟨rfl, h0⟩ | ⟨g, cap, cur, rfl, _⟩
        · rw [h0]; exact ⟨_, _, rfl⟩
        · exact ⟨_, _, rfl⟩
      obtain ⟨TA, TC, rfl⟩ := ints_slice hts.top
      have t0 : wr.cell? ⟨w2.heap.size, 0, none⟩ = some (.slice LA ps.length LC) := by have := hts.block; simp [World.cell?, this]
      have t1 : wr.cell? ⟨w2.heap.size, 1, none⟩ = some (.slice TA top.length TC) := by have := hts.block; simp [World.cell?, this]
      have Hmap := Lib.hid hmap
      have Hts := Lib.hid hts
      clear hx1 htk hrunw hnames hmap hts d6
      rcases List.eq_nil_or_concat st with hst | ⟨st', o, hst⟩
      · subst hst
        have HE : Hid (refParse s = .ok (top, nodes)) := Lib.hid (HF'.out.trans (by unfold stackR; rw [HRun.out]; rfl))
        go_wp2
        refine bodyPost_ret (v := .tuple #[.agg #[.slice LA ps.length LC, .slice TA top.length TC], .int .i64 0, .int .i64 0]) (by simp [results, Tryd.results10, go_sem, z0, z1]) rfl ?_
        rw [HE.out]
        have h1 := grown_set wr w.heap.size 0 (.slice LA ps.length LC)
        have h2 := grown_set (wr.setCell ⟨w.heap.size, 0, none⟩ (.slice LA ps.length LC)) w.heap.size 1 (.slice TA top.length TC)
        have key : ∀ {base e size n : Nat} {u : Value} {xs : List Value}, e ≠ 26 → wr.ownsRow base e size u n xs → ((wr.setCell ⟨w.heap.size, 0, none⟩ (.slice LA ps.length LC)).setCell ⟨w.heap.size, 1, none⟩ (.slice TA top.length TC)).ownsRow base e size u n xs := fun he h =>
          row_else (row_else h h1 (fun k e => by cases e; exact ⟨_, Rr.out⟩) he) h2 (fun k e => by cases e; exact ⟨_, blk_put Rr.out 0 _⟩) he
        have hnm2 : ∀ {v : Value} {xs : List (List UInt8)}, NamesRd w2.heap.size wr v xs → xs.length ≤ 8 → ∃ A c, v = .slice A xs.length c ∧ xs.length ≤ c ∧ StrsC ((wr.setCell ⟨w.heap.size, 0, none⟩ (.slice LA ps.length LC)).setCell ⟨w.heap.size, 1, none⟩ (.slice TA top.length TC)) A (xs.map toB) := fun {v xs} hn hl => by
          obtain ⟨A, c, e, hj, hcap⟩ := hn
          refine names_C (B := w2.heap.size) ⟨A, c, e, fun j y hy => ?_, hcap⟩ (by omega)
          obtain ⟨q, ha, hlt, hc⟩ := hj j y hy
          have hq : q ≠ w.heap.size := by
            rintro rfl
            have h3 := Rr.out
            simp only [World.cell?, h3] at hc
            match j, hc with
            | 0, hc => cases hc
            | 1, hc => cases hc
            | j + 2, hc => simp at hc
          have h4 : ((wr.setCell ⟨w.heap.size, 0, none⟩ (.slice LA ps.length LC)).setCell ⟨w.heap.size, 1, none⟩ (.slice TA top.length TC)).heap[q]? = wr.heap[q]? := (Below.heap_setCell _ _ _ _ hq).trans (Below.heap_setCell _ _ _ _ hq)
          refine ⟨q, ha, hlt, ?_⟩
          rw [← hc]
          simp only [World.cell?, h4]
        obtain ⟨A, c, B, d, e1, e2, hC⟩ := tree_C (key (by decide) Hts.out.row) (key (by decide) Hts.out.top) (fun p hp => by
          obtain ⟨i, hi⟩ := List.mem_iff_getElem?.1 hp
          obtain ⟨a, b, c, -, -⟩ := Hts.out.rows i p hi
          have hpn : p.x ∈ nodes := by rw [← Hmap.out]; exact List.mem_map_of_mem hp
          exact ⟨hnm2 a (Hnames.out p.x hpn), key (by decide) b, key (by decide) c⟩) (by omega) (by omega) (fun p hp => by
          have hpn : p.x ∈ nodes := by rw [← Hmap.out]; exact List.mem_map_of_mem hp
          have h8 := Hnames.out p.x hpn
          have hl := Hinv.out.lists p.x hpn
          exact ⟨by omega, by omega, by omega⟩)
        rw [Hmap.out] at e1 hC
        injection e1 with a1 a2 a3
        injection e2 with a4 a5 a6
        subst a1 a3 a4 a6
        exact ⟨LA, LC, TA, TC, by rw [hnl], hC, by repeat (first | exact HB3.out | refine Below.drew ?_ | refine Below.setCell ?_ (by simp) _)⟩
      · rw [List.concat_eq_append] at hst
        subst hst
        have hlo : Hid ((st' ++ [o]).getLast? = some o) := Lib.hid (by simp)
        have HS := Lib.hid hrun.out.stack
        dsimp only at HS
        obtain ⟨sg, sc, hse, hsb, hsl, so0, so1, so2⟩ := stack_last HS.out
        obtain ⟨on0, on1⟩ := Hinv.out.opens o (by simp)
        dsimp only at on1
        injection hse with hse1 hse2 hse3
        subst hse1 hse3
        obtain ⟨n, hn⟩ := Int.eq_ofNat_of_zero_le on0
        have hnp : n < ps.length := by omega
        have hnz : (n : Int) < (ps.length : Int) := by omega
        obtain ⟨p, hp⟩ : ∃ p, ps[n]? = some p := ⟨_, List.getElem?_eq_getElem hnp⟩
        have HE : Hid (refParse s = .error (p.x.at_, 4)) := Lib.hid (HF'.out.trans (by
          unfold stackR
          rw [HRun.out]
          dsimp only
          unfold finR
          dsimp only
          rw [hlo.out]
          dsimp only
          have : nodes[o.node.toNat]? = some p.x := by rw [hn, Int.toNat_natCast, ← Hmap.out]; simp [hp]
          rw [this]))
        obtain ⟨g, cap, hge2, hbg, hgl, pc1⟩ := row_cell Hts.out.row (n * 9 + 1) _ (by rw [flat9 ps n p hp 1 (by omega)]; rfl)
        injection hge2 with hg1 hg2 hg3
        subst hg1 hg3
        have e1 : (st'.length : Int) + 1 - 1 = (st'.length : Int) := by omega
        rw [hn] at so0
        have d9 : decide ((0 : Int) < (st'.length : Int) + 1) = true := by simp <;> omega
        have hsl3 : st'.length + 1 ≤ 16 := by simpa using i4
        have hslz : (st'.length : Int) + 1 ≤ 16 := by omega
        have ew : IntKind.i64.wrap (st'.length : Int) = (st'.length : Int) := IntWalk.i64_in _ (by omega)
        clear hse2 hg2 hn on0 on1 hp so1 so2 HS
        go_wp2
        go_region
        go_wp2
        refine bodyPost_ret (v := .tuple #[.agg #[.slice none 0 0, .slice none 0 0], .int .i64 p.x.at_, .int .i64 4]) (by simp [results, Tryd.results10, go_sem, z0, z1]) rfl ?_
        rw [HE.out]
        exact ⟨rfl, by repeat (first | exact HB3.out | refine Below.drew ?_ | refine Below.setCell ?_ (by simp) _)⟩
    | some x =>
      have hlt : k < ws.length := (List.getElem?_eq_some_iff.1 hx1).1
      obtain ⟨A', c', e', hword⟩ := Hw.out
      cases e'
      obtain ⟨b, nv, rfl, hbB, k0, k1, k2, k3, k4, hnv⟩ := hword k x hx1
      obtain ⟨NA, NC, rfl⟩ : ∃ A c, nv = .slice A x.names.length c := by obtain ⟨A, c, e, _⟩ := hnv; exact ⟨A, c, e⟩
      have hxk := Hkind.out x (List.mem_of_getElem? hx1)
      have hxn := Hnm.out x (List.mem_of_getElem? hx1)
      obtain ⟨hx0, hx7⟩ := hxk
      have Hx1 := Lib.hid hx1
      have Hnv := Lib.hid hnv
      have jl : (k : Int) < (ws.length : Int) := by omega
      clear hx1 hnv hword d6
      go_upto_region 12 with (fail)
      obtain ⟨W3, hW3⟩ : ∃ W3, wr.alloc (.cells #[.int .u8 x.kind, .int .i64 x.at_, .string ⟨x.text.toArray⟩, .bool x.root, .slice NA x.names.length NC] 76) = W3 := ⟨_, rfl⟩
      have hb3 : Below wr.heap.size wr W3 := by rw [← hW3]; exact (Below.refl _ _).alloc (Nat.le_refl _) _
      have hX3 : W3.heap[wr.heap.size]? = some (.cells #[.int .u8 x.kind, .int .i64 x.at_, .string ⟨x.text.toArray⟩, .bool x.root, .slice NA x.names.length NC] 76) := by rw [← hW3]; exact World.alloc_heap_new _ _
      have hR3 : W3.heap[w.heap.size]? = some (.cells #[.slice none 0 0, .slice none 0 0] 26) := (hb3.block _ (by omega)).trans Rr.out
      have HT : Hid (TSt w2.heap.size w2.heap.size W3 w2.heap.size nodes top) := Lib.hid (hrun.out.tree.later hb3)
      have HS : Hid (StackAt W3 w2.heap.size (.slice svA st.length svc) st) := Lib.hid (stack_later hrun.out.stack hb3)
      have HBb : Hid (Below w2.heap.size w2 W3) := Lib.hid (hrun.out.below.trans (hb3.mono (by omega)))
      have HB3 : Hid (Below w.heap.size w W3) := Lib.hid (HB2.out.trans (HBb.out.mono (by omega)))
      have HNv : Hid (NamesRd w2.heap.size W3 (.slice NA x.names.length NC) x.names) := Lib.hid (Hnv.out.below (hb3.mono (by omega)))
      have z0 : W3.cell? ⟨w.heap.size, 0, none⟩ = some (.slice none 0 0) := by simp [World.cell?, hR3]
      have z1 : W3.cell? ⟨w.heap.size, 1, none⟩ = some (.slice none 0 0) := by simp [World.cell?, hR3]
      have zf : W3.frozen? ⟨w.heap.size, 0, none⟩ = false := by simp [World.frozen?, hR3]
      have zg : W3.frozen? ⟨w.heap.size, 1, none⟩ = false := by simp [World.frozen?, hR3]
      have x0 : W3.cell? ⟨wr.heap.size, 0, none⟩ = some (.int .u8 x.kind) := by simp [World.cell?, hX3]
      have x1 : W3.cell? ⟨wr.heap.size, 1, none⟩ = some (.int .i64 x.at_) := by simp [World.cell?, hX3]
      have hsz4 : wr.heap.size < W3.heap.size := World.heap_lt hX3
      have HX := Lib.hid hX3
      have HR3 := Lib.hid hR3
      have HW3 := Lib.hid hW3
      clear hb3 hX3 hR3 hW3 k0 k1 k2 k3 k4 Hnv Hw Rr R2
      rw [HW3.out]
      clear HW3
      by_cases h3 : x.kind = 3
      · have b3 : (x.kind == 3) = true := k_bool h3
        have H3 := Lib.hid h3
        clear h3
        rcases List.eq_nil_or_concat st with hst | ⟨st', o, hst⟩
        · subst hst
          have HE : Hid (refParse s = .error (x.at_, 4)) := Lib.hid (HF'.out.trans (runR_stop hrun.out.run Hx1.out (by unfold stepR; rw [if_pos H3.out]; rfl)))
          clear HT HS HX
          go_wp2
          go_region
          go_wp2
          refine bodyPost_ret (v := .tuple #[.agg #[.slice none 0 0, .slice none 0 0], .int .i64 x.at_, .int .i64 4]) (by simp [results, Tryd.results10, go_sem, z0, z1]) rfl ?_
          rw [HE.out]
          exact ⟨rfl, by repeat (first | exact HB3.out | refine Below.drew ?_ | refine Below.setCell ?_ (by simp) _)⟩
        · rw [List.concat_eq_append] at hst
          subst hst
          have hlo : Hid ((st' ++ [o]).getLast? = some o) := Lib.hid (by simp)
          obtain ⟨sg, sc, hse, hsb, hsl, so0, so1, so2⟩ := stack_last HS.out
          obtain ⟨on0, on1⟩ := Hinv.out.opens o (by simp)
          dsimp only at on1
          injection hse with hse1 hse2 hse3
          subst hse1 hse3
          have hcap : st'.length + 1 ≤ svc := by have := (own_cap HS.out).1; simpa using this
          have hsl3 : st'.length + 1 ≤ 16 := by simpa using i4
          have e1 : (st'.length : Int) + 1 - 1 = (st'.length : Int) := by omega
          rw [show (st' ++ [o]).length = st'.length + 1 by simp] at HS
          clear hse2
          by_cases ho : o.kind = 2
          · have ob : (o.kind != 2) = false := by simp [ho]
            have Ho := Lib.hid ho
            clear ho
            cases he : o.els with
            | true =>
              rw [he] at so2
              have He := Lib.hid he
              clear he
              have HE : Hid (refParse s = .error (x.at_, 4)) := Lib.hid (HF'.out.trans (runR_stop hrun.out.run Hx1.out (by unfold stepR; rw [if_pos H3.out]; dsimp only; rw [hlo.out]; dsimp only; rw [if_pos (.inr He.out)])))
              clear HT HS HX
              go_wp2
              go_region
              go_wp2
              refine bodyPost_ret (v := .tuple #[.agg #[.slice none 0 0, .slice none 0 0], .int .i64 x.at_, .int .i64 4]) (by simp [results, Tryd.results10, go_sem, z0, z1]) rfl ?_
              rw [HE.out]
              exact ⟨rfl, by repeat (first | exact HB3.out | refine Below.drew ?_ | refine Below.setCell ?_ (by simp) _)⟩
            | false =>
              rw [he] at so2
              have He := Lib.hid he
              obtain ⟨nv, tv, ps, f, hmap, hts⟩ := HT.out
              have hnl : nodes.length = ps.length := by rw [← hmap]; simp
              obtain ⟨n, hn⟩ := Int.eq_ofNat_of_zero_le on0
              have hnp : n < ps.length := by omega
              obtain ⟨g, cap, rfl, hbg, hgl, -⟩ := row_cell hts.row (n * 9 + 0) _ (by rw [flat9 ps n ps[n] (List.getElem?_eq_getElem hnp) 0 (by omega)]; rfl)
              rw [hn] at so0
              obtain ⟨se1, se2, sty⟩ := stack_els HS.out
              have hT0 : W3.cell? ⟨w2.heap.size, 0, none⟩ = some (.slice (some ⟨g, 0, none⟩) ps.length cap) := by have := hts.block; simp [World.cell?, this]
              have hsT : sg ≠ w2.heap.size := by rintro rfl; obtain ⟨c, hc⟩ := sty; have h2 := hts.block; rw [h2] at hc; cases hc
              have Hmap := Lib.hid hmap
              have Hts := Lib.hid hts
              have Hse := Lib.hid se1
              have Hsty := Lib.hid sty
              have Hn := Lib.hid hn
              have hTs : w2.heap.size ≠ sg := fun e => hsT e.symm
              clear hmap hts se1 sty hn he HX on0 on1
              go_upto_region 26 with (fail)
              obtain ⟨W4, hW4⟩ : ∃ W4, W3.setCell ⟨sg, st'.length * 3 + 2, none⟩ (.bool true) = W4 := ⟨_, rfl⟩
              have hg4 := grown_set W3 sg (st'.length * 3 + 2) (.bool true)
              rw [hW4] at hg4 Hse
              rw [hW4]
              have hts4 := Hts.out.other hg4 (fun k e => by cases e; exact ⟨hsb, Hsty.out⟩) (by decide) (by decide) (by decide)
              obtain ⟨⟨u, q1⟩, q2, q3, q4⟩ := hts4.setHas hnp
              rw [Hmap.out] at q3
              have p0 : W4.cell? ⟨w2.heap.size, 0, none⟩ = some (.slice (some ⟨g, 0, none⟩) ps.length cap) := by have := hts4.block; simp [World.cell?, this]
              have p1 : W4.cell? ⟨sg, st'.length * 3, none⟩ = some (.int .i64 n) := by
                obtain ⟨g2, cap2, e, -, -, c2⟩ := row_cell Hse.out (st'.length * 3 + 0) _ (by rw [stack_flat st' _ 0 (by omega)]; rfl)
                injection e with e2 e3 e4
                cases e2
                rw [Nat.add_zero] at c2
                rw [c2]
                show some (Value.int .i64 o.node) = _
                rw [Hn.out]
              have hgs : ∃ c, W4.heap[g]? = some (.cells c 66) := row_type hts4.row g rfl
              have hbel4 : Below w2.heap.size W3 W4 := by rw [← hW4]; exact (Below.refl _ _).setCell (p := ⟨sg, st'.length * 3 + 2, none⟩) hsb _
              have Hst5 := Lib.hid (stack_else Hse.out (grown_set W4 g (n * 9 + 7) (.bool true)) (fun k e => by cases e; exact hgs) (by decide))
              have Htr5 := Lib.hid q3
              have Hb5 := Lib.hid ((HBb.out.trans hbel4).trans ((Below.refl w2.heap.size W4).setCell (p := ⟨g, n * 9 + 7, none⟩) hbg (.bool true)))
              have hnz : (n : Int) < (ps.length : Int) := by omega
              have HRun : Hid (runR r0 (ws.take (k + 1)) = .ok ⟨setHas nodes n, top, st' ++ [{ node := o.node, kind := o.kind, els := true }]⟩) := Lib.hid (by
                rw [runR_next hrun.out.run Hx1.out]
                unfold stepR
                rw [if_pos H3.out]
                dsimp only
                rw [hlo.out]
                dsimp only
                rw [if_neg (by rw [Ho.out, He.out]; simp), Hn.out]
                simp)
              clear so0 so1 so2 z0 z1 zf zg se2 hT0 hg4 hts4 q3 q4 hgs hbel4 Hts Hse Hsty hW4
              go_region
              go_wp2
              go_roundw
              case rel =>
                exact ⟨k + 1, _, by omega, by go_num, Lib.hid ⟨HRun.out, Htr5.out.later ((Below.refl _ _).drew), by simpa using stack_later Hst5.out ((Below.refl _ _).drew), Hb5.out.drew⟩⟩
              case measure => simp [intOf]; omega
          · have ob : (o.kind != 2) = true := by simpa using ho
            have Ho := Lib.hid ho
            clear ho
            have HE : Hid (refParse s = .error (x.at_, 4)) := Lib.hid (HF'.out.trans (runR_stop hrun.out.run Hx1.out (by unfold stepR; rw [if_pos H3.out]; dsimp only; rw [hlo.out]; dsimp only; rw [if_pos (.inl Ho.out)])))
            clear HT HS HX
            go_wp2
            go_region
            go_wp2
            refine bodyPost_ret (v := .tuple #[.agg #[.slice none 0 0, .slice none 0 0], .int .i64 x.at_, .int .i64 4]) (by simp [results, Tryd.results10, go_sem, z0, z1]) rfl ?_
            rw [HE.out]
            exact ⟨rfl, by repeat (first | exact HB3.out | refine Below.drew ?_ | refine Below.setCell ?_ (by simp) _)⟩
      · have b3 : (x.kind == 3) = false := k_false h3
        have H3 := Lib.hid h3
        clear h3
        by_cases h5 : x.kind = 5
        · have b5 : (x.kind == 5) = true := k_bool h5
          have H5 := Lib.hid h5
          clear h5
          rcases List.eq_nil_or_concat st with hst | ⟨st', o, hst⟩
          · subst hst
            have HE : Hid (refParse s = .error (x.at_, 4)) := Lib.hid (HF'.out.trans (runR_stop hrun.out.run Hx1.out (by unfold stepR; rw [if_neg H3.out, if_pos H5.out]; rfl)))
            clear HT HS HX
            go_wp2
            go_region
            go_wp2
            refine bodyPost_ret (v := .tuple #[.agg #[.slice none 0 0, .slice none 0 0], .int .i64 x.at_, .int .i64 4]) (by simp [results, Tryd.results10, go_sem, z0, z1]) rfl ?_
            rw [HE.out]
            exact ⟨rfl, by repeat (first | exact HB3.out | refine Below.drew ?_ | refine Below.setCell ?_ (by simp) _)⟩
          · rw [List.concat_eq_append] at hst
            subst hst
            have hlo : Hid ((st' ++ [o]).getLast? = some o) := Lib.hid (by simp)
            obtain ⟨sg, sc, hse, hsb, hsl, so0, so1, so2⟩ := stack_last HS.out
            obtain ⟨on0, on1⟩ := Hinv.out.opens o (by simp)
            dsimp only at on1
            injection hse with hse1 hse2 hse3
            subst hse1 hse3
            have hcap : st'.length + 1 ≤ svc := by have := (own_cap HS.out).1; simpa using this
            have hsl3 : st'.length + 1 ≤ 16 := by simpa using i4
            have e1 : (st'.length : Int) + 1 - 1 = (st'.length : Int) := by omega
            rw [show (st' ++ [o]).length = st'.length + 1 by simp] at HS
            clear hse2
            have HRun : Hid (runR r0 (ws.take (k + 1)) = .ok ⟨nodes, top, st'⟩) := Lib.hid (by
              rw [runR_next hrun.out.run Hx1.out]
              unfold stepR
              rw [if_neg H3.out, if_pos H5.out]
              dsimp only
              rw [hlo.out]
              simp)
            have HS' := Lib.hid (stack_pop HS.out)
            have hc1 : (st'.length : Int) ≤ (svc : Int) := by omega
            clear HS HX z0 z1 zf zg so0 so1 so2 on0 on1
            go_wp2
            go_roundw
            case rel =>
              exact ⟨k + 1, _, by omega, by go_num, Lib.hid ⟨HRun.out, HT.out, HS'.out, HBb.out⟩⟩
            case measure => simp [intOf]; omega
        · have b5 : (x.kind == 5) = false := k_false h5
          have H5 := Lib.hid h5
          clear h5
          obtain ⟨kn, hkn⟩ := Int.eq_ofNat_of_zero_le hx0
          have hkn7 : kn < 7 := by omega
          have hkz : (kn : Int) < 7 := by omega
          have hk3 : Hid (kn ≠ 3) := Lib.hid (fun h => H3.out (by rw [hkn, h]; rfl))
          have hk5 : Hid (kn ≠ 5) := Lib.hid (fun h => H5.out (by rw [hkn, h]; rfl))
          have c3 : ((kn : Int) == 3) = false := by rw [← hkn]; exact b3
          have c5 : ((kn : Int) == 5) = false := by rw [← hkn]; exact b5
          rw [hkn] at x0
          have Hkn := Lib.hid hkn
          obtain ⟨nv, tv, ps, f, hmap, hts⟩ := HT.out
          have hnl : nodes.length = ps.length := by rw [← hmap]; simp
          obtain ⟨LA, LC, rfl⟩ : ∃ A c, nv = .slice A ps.length c := by
            rcases hts.row.2 with ⟨rfl, h0⟩ | ⟨g, cap, cur, rfl, _⟩
            · rw [h0]; exact ⟨_, _, rfl⟩
            · exact ⟨_, _, rfl⟩
          have hT0 : W3.cell? ⟨w2.heap.size, 0, none⟩ = some (.slice LA ps.length LC) := by have := hts.block; simp [World.cell?, this]
          obtain ⟨i0, hi0, hz0, hz1, hz2⟩ := info_parts Tryd.info66
          have Hmap := Lib.hid hmap
          have Hts := Lib.hid hts
          have kb0 : 0 ≤ kindOf kn := by unfold kindOf; repeat' split <;> omega
          have kb1 : kindOf kn ≤ 4 := by unfold kindOf; repeat' split <;> omega
          have kw : IntKind.u8.wrap (kindOf kn) = kindOf kn := by
            show kindOf kn % 256 = kindOf kn
            omega
          have Hcells : Hid (nodeCells ⟨nodeOf x, .slice NA x.names.length NC, .slice none 0 0, .slice none 0 0⟩ = [.int .u8 (kindOf kn), .int .i64 x.at_, .string ⟨x.text.toArray⟩, .bool x.root, .slice NA x.names.length NC, .slice none 0 0, .slice none 0 0, .bool false, .int .u8 0]) := Lib.hid (by unfold nodeCells nodeOf; rw [Hkn.out]; rfl)
          clear hmap hts hx0 hkn b3 b5
          by_cases h2 : kn = 2
          · have d2 : ((kn : Int) == 2) = true := by simp [h2]
            have Hyes : Hid (x.kind = 2 ∨ x.kind = 4) := Lib.hid (.inl (by rw [Hkn.out, h2]; rfl))
            clear h2
            by_cases hd : 16 ≤ st.length
            · have dd : decide ((16 : Int) ≤ (st.length : Int)) = true := by simp; omega
              have Hd := Lib.hid hd
              clear hd hT0
              have HE : Hid (refParse s = .error (x.at_, 3)) := Lib.hid (HF'.out.trans (runR_stop hrun.out.run Hx1.out (by unfold stepR; rw [if_neg H3.out, if_neg H5.out, if_pos ⟨Hyes.out, Hd.out⟩])))
              clear HT HS HX
              go_wp2
              go_region
              go_wp2
              refine bodyPost_ret (v := .tuple #[.agg #[.slice none 0 0, .slice none 0 0], .int .i64 x.at_, .int .i64 3]) (by simp [results, Tryd.results10, go_sem, z0, z1]) rfl ?_
              rw [HE.out]
              exact ⟨rfl, by repeat (first | exact HB3.out | refine Below.drew ?_ | refine Below.setCell ?_ (by simp) _)⟩
            · have dd : decide ((16 : Int) ≤ (st.length : Int)) = false := by simp; omega
              have hdeep : Hid (¬ 16 ≤ st.length) := Lib.hid hd
              have hst16 : st.length < 16 := by omega
              clear hd z0 z1 zf zg
              have hTW3 : w2.heap.size < W3.heap.size := by omega
              go_upto_region 18 with (fail)
              obtain ⟨W5, hW5⟩ : ∃ W5, W3.alloc (.cells #[.int .i64 0, .int .i64 1, .int .i64 2, .int .i64 0, .int .i64 3, .int .i64 0, .int .i64 4] 3) = W5 := ⟨_, rfl⟩
              have hb5 : Below W3.heap.size W3 W5 := by rw [← hW5]; exact (Below.refl _ _).alloc (Nat.le_refl _) _
              have hK5 : W5.heap[W3.heap.size]? = some (.cells #[.int .i64 0, .int .i64 1, .int .i64 2, .int .i64 0, .int .i64 3, .int .i64 0, .int .i64 4] 3) := by rw [← hW5]; exact World.alloc_heap_new _ _
              rw [hW5]
              have Hts5 := Lib.hid (Hts.out.later hb5)
              have HS5 := Lib.hid (stack_later HS.out hb5)
              have HBb5 : Hid (Below w2.heap.size w2 W5) := Lib.hid (HBb.out.trans (hb5.mono (by omega)))
              have HNv5 := Lib.hid (HNv.out.below (hb5.mono (by omega)))
              have HX5 := Lib.hid (box_later HX.out hb5)
              have hTl5 : w2.heap.size < W5.heap.size := by have := hb5.size; omega
              have hXl5 : wr.heap.size < W5.heap.size := World.heap_lt HX5.out
              have hKl5 : W3.heap.size < W5.heap.size := World.heap_lt hK5
              have t0 : W5.cell? ⟨w2.heap.size, 0, none⟩ = some (.slice LA ps.length LC) := by have := Hts5.out.block; simp [World.cell?, this]
              have y0 : W5.cell? ⟨wr.heap.size, 0, none⟩ = some (.int .u8 kn) := by have := HX5.out; simp [World.cell?, this, Hkn.out]
              have y1 : W5.cell? ⟨wr.heap.size, 1, none⟩ = some (.int .i64 x.at_) := by have := HX5.out; simp [World.cell?, this]
              have y2 : W5.cell? ⟨wr.heap.size, 2, none⟩ = some (.string ⟨x.text.toArray⟩) := by have := HX5.out; simp [World.cell?, this]
              have y3 : W5.cell? ⟨wr.heap.size, 3, none⟩ = some (.bool x.root) := by have := HX5.out; simp [World.cell?, this]
              have y4 : W5.cell? ⟨wr.heap.size, 4, none⟩ = some (.slice NA x.names.length NC) := by have := HX5.out; simp [World.cell?, this]
              have kk : W5.cell? ⟨W3.heap.size, kn, none⟩ = some (.int .i64 (kindOf kn)) := by
                have hc : (#[.int .i64 0, .int .i64 1, .int .i64 2, .int .i64 0, .int .i64 3, .int .i64 0, .int .i64 4] : Array Value)[kn]? = some (.int .i64 (kindOf kn)) := by
                  have : kn = 0 ∨ kn = 1 ∨ kn = 2 ∨ kn = 3 ∨ kn = 4 ∨ kn = 5 ∨ kn = 6 := by omega
                  rcases this with h | h | h | h | h | h | h <;> subst h <;> first | rfl | (exact absurd rfl hk3.out) | (exact absurd rfl hk5.out)
                simp only [World.cell?, hK5]
                exact hc
              have HK5 := Lib.hid hK5
              clear hb5 hK5 hW5 Hts HS HBb HNv HX
              refine start_ (n := 19) (S := fun w' => w'.cell? ⟨w2.heap.size, 0, none⟩ = some (.slice LA ps.length LC) ∧ w'.cell? ⟨wr.heap.size, 0, none⟩ = some (.int .u8 kn) ∧ w'.cell? ⟨wr.heap.size, 1, none⟩ = some (.int .i64 x.at_) ∧ w'.cell? ⟨wr.heap.size, 2, none⟩ = some (.string ⟨x.text.toArray⟩) ∧ w'.cell? ⟨wr.heap.size, 3, none⟩ = some (.bool x.root) ∧ w'.cell? ⟨wr.heap.size, 4, none⟩ = some (.slice NA x.names.length NC) ∧ w'.cell? ⟨W3.heap.size, kn, none⟩ = some (.int .i64 (kindOf kn))) (ds := [18]) #[false, false, false, false, false, false, false, false, false, false, false, false, false, false, false, false, false, false, false] (by kernel_rfl) rfl rfl ⟨t0, y0, y1, y2, y3, y4, kk⟩ (fun hHeld => ?_)
              refine pure_ (i := 0) (N := (some 64)) (v := ?_) (a' := ?_) #[true, false, false, false, false, false, false, false, false, false, false, false, false, false, false, false, false, false, false] rfl rfl (by kernel_rfl) (fun _ _ _ h => h) (Or.inl ⟨by rfl, ?_⟩) ?_ ?_
              rotate_left
              · intro w'
                go_simp
                with_reducible rfl
              rotate_left
              · simp only [Act.put, List.setIfInBounds_toArray, List.set_cons_zero, List.set_cons_succ, i64_w, i32_w]
                rfl
              refine take_ (i := 1) (N := (some 65)) (v := ?_) (a' := ?_) #[true, true, false, false, false, false, false, false, false, false, false, false, false, false, false, false, false, false, false] rfl rfl (by kernel_rfl) (fun _ _ _ h => h) (Or.inl ⟨by rfl, ?_⟩) hHeld ?_ ?_
              rotate_left
              · rintro w' ⟨s0, s1, s2, s3, s4, s5, s6⟩
                go_simp
                with_reducible rfl
              rotate_left
              · simp only [Act.put, List.setIfInBounds_toArray, List.set_cons_zero, List.set_cons_succ, i64_w, i32_w]
                rfl
              refine pure_ (i := 2) (N := (some 66)) (v := ?_) (a' := ?_) #[true, true, true, false, false, false, false, false, false, false, false, false, false, false, false, false, false, false, false] rfl rfl (by kernel_rfl) (fun _ _ _ h => h) (Or.inl ⟨by rfl, ?_⟩) ?_ ?_
              rotate_left
              · intro w'
                go_simp
                with_reducible rfl
              rotate_left
              · simp only [Act.put, List.setIfInBounds_toArray, List.set_cons_zero, List.set_cons_succ, i64_w, i32_w]
                rfl
              refine pure_ (i := 3) (N := (some 67)) (v := ?_) (a' := ?_) #[true, true, true, true, false, false, false, false, false, false, false, false, false, false, false, false, false, false, false] rfl rfl (by kernel_rfl) (fun _ _ _ h => h) (Or.inl ⟨by rfl, ?_⟩) ?_ ?_
              rotate_left
              · intro w'
                go_simp
                with_reducible rfl
              rotate_left
              · simp only [Act.put, List.setIfInBounds_toArray, List.set_cons_zero, List.set_cons_succ, i64_w, i32_w]
                rfl
              refine take_ (i := 4) (N := (some 68)) (v := ?_) (a' := ?_) #[true, true, true, true, true, false, false, false, false, false, false, false, false, false, false, false, false, false, false] rfl rfl (by kernel_rfl) (fun _ _ _ h => h) (Or.inl ⟨by rfl, ?_⟩) hHeld ?_ ?_
              rotate_left
              · rintro w' ⟨s0, s1, s2, s3, s4, s5, s6⟩
                go_simp
                with_reducible rfl
              rotate_left
              · simp only [Act.put, List.setIfInBounds_toArray, List.set_cons_zero, List.set_cons_succ, i64_w, i32_w]
                rfl
              refine pure_ (i := 5) (N := (some 69)) (v := ?_) (a' := ?_) #[true, true, true, true, true, true, false, false, false, false, false, false, false, false, false, false, false, false, false] rfl rfl (by kernel_rfl) (fun _ _ _ h => h) (Or.inl ⟨by rfl, ?_⟩) ?_ ?_
              rotate_left
              · intro w'
                go_simp
                with_reducible rfl
              rotate_left
              · simp only [Act.put, List.setIfInBounds_toArray, List.set_cons_zero, List.set_cons_succ, i64_w, i32_w]
                rfl
              refine take_ (i := 6) (N := (some 70)) (v := ?_) (a' := ?_) #[true, true, true, true, true, true, true, false, false, false, false, false, false, false, false, false, false, false, false] rfl rfl (by kernel_rfl) (fun _ _ _ h => h) (Or.inl ⟨by rfl, ?_⟩) hHeld ?_ ?_
              rotate_left
              · rintro w' ⟨s0, s1, s2, s3, s4, s5, s6⟩
                go_simp
                with_reducible rfl
              rotate_left
              · simp only [Act.put, List.setIfInBounds_toArray, List.set_cons_zero, List.set_cons_succ, i64_w, i32_w]
                rfl
              refine pure_ (i := 7) (N := (some 71)) (v := ?_) (a' := ?_) #[true, true, true, true, true, true, true, true, false, false, false, false, false, false, false, false, false, false, false] rfl rfl (by kernel_rfl) (fun _ _ _ h => h) (Or.inl ⟨by rfl, ?_⟩) ?_ ?_
              rotate_left
              · intro w'
                go_simp
                with_reducible rfl
              rotate_left
              · simp only [Act.put, List.setIfInBounds_toArray, List.set_cons_zero, List.set_cons_succ, i64_w, i32_w]
                rfl
              refine pure_ (i := 8) (N := (some 72)) (v := ?_) (a' := ?_) #[true, true, true, true, true, true, true, true, true, false, false, false, false, false, false, false, false, false, false] rfl rfl (by kernel_rfl) (fun _ _ _ h => h) (Or.inl ⟨by rfl, ?_⟩) ?_ ?_
              rotate_left
              · intro w'
                go_simp
                with_reducible rfl
              rotate_left
              · simp only [Act.put, List.setIfInBounds_toArray, List.set_cons_zero, List.set_cons_succ, i64_w, i32_w]
                rfl
              refine take_ (i := 9) (N := (some 73)) (v := ?_) (a' := ?_) #[true, true, true, true, true, true, true, true, true, true, false, false, false, false, false, false, false, false, false] rfl rfl (by kernel_rfl) (fun _ _ _ h => h) (Or.inl ⟨by rfl, ?_⟩) hHeld ?_ ?_
              rotate_left
              · rintro w' ⟨s0, s1, s2, s3, s4, s5, s6⟩
                go_simp
                with_reducible rfl
              rotate_left
              · simp only [Act.put, List.setIfInBounds_toArray, List.set_cons_zero, List.set_cons_succ, i64_w, i32_w]
                rfl
              refine pure_ (i := 10) (N := (some 74)) (v := ?_) (a' := ?_) #[true, true, true, true, true, true, true, true, true, true, true, false, false, false, false, false, false, false, false] rfl rfl (by kernel_rfl) (fun _ _ _ h => h) (Or.inl ⟨by rfl, ?_⟩) ?_ ?_
              rotate_left
              · intro w'
                go_simp
                with_reducible rfl
              rotate_left
              · simp only [Act.put, List.setIfInBounds_toArray, List.set_cons_zero, List.set_cons_succ, i64_w, i32_w]
                rfl
              refine take_ (i := 11) (N := (some 75)) (v := ?_) (a' := ?_) #[true, true, true, true, true, true, true, true, true, true, true, true, false, false, false, false, false, false, false] rfl rfl (by kernel_rfl) (fun _ _ _ h => h) (Or.inl ⟨by rfl, ?_⟩) hHeld ?_ ?_
              rotate_left
              · rintro w' ⟨s0, s1, s2, s3, s4, s5, s6⟩
                go_simp
                with_reducible rfl
              rotate_left
              · simp only [Act.put, List.setIfInBounds_toArray, List.set_cons_zero, List.set_cons_succ, i64_w, i32_w]
                rfl
              refine pure_ (i := 12) (N := (some 76)) (v := ?_) (a' := ?_) #[true, true, true, true, true, true, true, true, true, true, true, true, true, false, false, false, false, false, false] rfl rfl (by kernel_rfl) (fun _ _ _ h => h) (Or.inl ⟨by rfl, ?_⟩) ?_ ?_
              rotate_left
              · intro w'
                go_simp
                with_reducible rfl
              rotate_left
              · simp only [Act.put, List.setIfInBounds_toArray, List.set_cons_zero, List.set_cons_succ, i64_w, i32_w]
                rfl
              refine take_ (i := 13) (N := (some 77)) (v := ?_) (a' := ?_) #[true, true, true, true, true, true, true, true, true, true, true, true, true, true, false, false, false, false, false] rfl rfl (by kernel_rfl) (fun _ _ _ h => h) (Or.inl ⟨by rfl, ?_⟩) hHeld ?_ ?_
              rotate_left
              · rintro w' ⟨s0, s1, s2, s3, s4, s5, s6⟩
                go_simp
                with_reducible rfl
              rotate_left
              · simp only [Act.put, List.setIfInBounds_toArray, List.set_cons_zero, List.set_cons_succ, i64_w, i32_w]
                rfl
              refine pure_ (i := 14) (N := (some 78)) (v := ?_) (a' := ?_) #[true, true, true, true, true, true, true, true, true, true, true, true, true, true, true, false, false, false, false] rfl rfl (by kernel_rfl) (fun _ _ _ h => h) (Or.inl ⟨by rfl, ?_⟩) ?_ ?_
              rotate_left
              · intro w'
                go_simp
                with_reducible rfl
              rotate_left
              · simp only [Act.put, List.setIfInBounds_toArray, List.set_cons_zero, List.set_cons_succ, i64_w, i32_w]
                rfl
              refine one_ (i := 15) (N := (some 79)) #[true, true, true, true, true, true, true, true, true, true, true, true, true, true, true, true, false, false, false] rfl rfl (by kernel_rfl) (by decide) (fun K hK => ?_)
              refine value_ (w1 := ?_) (v := ?_) (by rfl) rfl ?_ ?_
              rotate_left 2
              · go_simp
                constructor
                · rfl
                · rfl
              obtain ⟨s0, s1, s2, s3, s4, s5, s6⟩ := hHeld
              refine hK.out _ _ ⟨(World.cell?_alloc_past _ _ _ hTl5).trans s0, (World.cell?_alloc_past _ _ _ hXl5).trans s1, (World.cell?_alloc_past _ _ _ hXl5).trans s2, (World.cell?_alloc_past _ _ _ hXl5).trans s3, (World.cell?_alloc_past _ _ _ hXl5).trans s4, (World.cell?_alloc_past _ _ _ hXl5).trans s5, (World.cell?_alloc_past _ _ _ hKl5).trans s6⟩ (fun hHeld => ?_)
              clear hK K s0 s1 s2 s3 s4 s5 s6
              refine norm_ (a' := ?_) ?_ ?_
              rotate_left
              · show Act.put _ (some 79) _ = _
                simp only [Act.put, List.setIfInBounds_toArray, List.set_cons_zero, List.set_cons_succ, i64_w, i32_w]
                rfl
              refine one_ (i := 16) (N := (some 80)) #[true, true, true, true, true, true, true, true, true, true, true, true, true, true, true, true, true, false, false] rfl rfl (by kernel_rfl) (by decide) (fun K hK => ?_)
              refine step_grow rfl _ _ 23 rfl w2.heap.size 66 i0 _ 9 120 Tryd.underlying23 hi0 hz0 hz1 hz2 rfl (by decide) (.slice LA ps.length LC) ps.length (ps.flatMap nodeCells) rfl (World.ownsRow.alloc Hts5.out.row _) ⟨_, 0, none⟩ 1 1 (nodeCells ⟨nodeOf x, .slice NA x.names.length NC, .slice none 0 0, .slice none 0 0⟩) rfl rfl (by rw [Hcells.out]; exact cells_new _ _ _ _ (by simp)) (by simp [nodeCells, Value.oneCell', nodeOf]) (by unfold maxLen; omega) (by omega) (by simp; omega) ?_
              intro v' w6 hown' hgrow
              obtain ⟨g', cap', rfl⟩ := ownsRow_succ hown'
              have hgw := grown_two (World.grownBy_alloc W5 _ none) (grown_drew hgrow)
              have hty : ∀ q, (Value.slice LA ps.length LC).ownBlock = some q → ∃ c, W5.heap[q]? = some (.cells c 66) := row_type Hts5.out.row
              have hnT : some w2.heap.size ≠ (Value.slice LA ps.length LC).ownBlock := fun e => by obtain ⟨c, h⟩ := hty _ e.symm; have h2 := Hts5.out.block; rw [h2] at h; cases h
              have hnX : some wr.heap.size ≠ (Value.slice LA ps.length LC).ownBlock := fun e => by obtain ⟨c, h⟩ := hty _ e.symm; have h2 := HX5.out; rw [h2] at h; cases h
              have hnK : some W3.heap.size ≠ (Value.slice LA ps.length LC).ownBlock := fun e => by obtain ⟨c, h⟩ := hty _ e.symm; have h2 := HK5.out; rw [h2] at h; cases h
              obtain ⟨h1, h2, h3⟩ := Hts5.out.addNode (p := ⟨nodeOf x, .slice NA x.names.length NC, .slice none 0 0, .slice none 0 0⟩) HNv5.out rfl rfl rfl rfl hown' hgw
              rw [Hmap.out] at h2
              have hTX : wr.heap.size ≠ w2.heap.size := by omega
              have hX7 := h3.blk HX5.out hTX (by decide) (by decide)
              have hS7 : StackAt _ w2.heap.size (.slice svA st.length svc) st := h3.row HS5.out Hts5.out.block (by decide) (by decide) (by decide)
              have hB7 := HBb5.out.trans h3.below
              have H2 := Lib.hid h2
              have HX7 := Lib.hid hX7
              have HS7 := Lib.hid hS7
              have HB7 := Lib.hid hB7
              obtain ⟨s0, s1, s2, s3, s4, s5, s6⟩ := hHeld
              refine hK.out _ _ ⟨hgrow.cell s0 hnT, hgrow.cell s1 hnX, hgrow.cell s2 hnX, hgrow.cell s3 hnX, hgrow.cell s4 hnX, hgrow.cell s5 hnX, hgrow.cell s6 hnK⟩ (fun hHeld => ?_)
              have g2 : w6.frozen? ⟨w2.heap.size, 0, none⟩ = false := by simp [World.frozen?, h1]
              clear hK K s0 s1 s2 s3 s4 s5 s6 h1 h2 h3 hX7 hS7 hB7 hown' hgrow hgw hty hi0 hz0 hz1 hz2 hnT hnX hnK t0 y0 y1 y2 y3 y4 kk Hts5 HS5 HBb5 HNv5 HX5 HK5
              refine norm_ (a' := ?_) ?_ ?_
              rotate_left
              · show Act.put _ (some 80) _ = _
                simp only [Act.put, List.setIfInBounds_toArray, List.set_cons_zero, List.set_cons_succ, i64_w, i32_w]
                rfl
              refine pure_ (i := 17) (N := (some 81)) (v := ?_) (a' := ?_) #[true, true, true, true, true, true, true, true, true, true, true, true, true, true, true, true, true, true, false] rfl rfl (by kernel_rfl) (fun _ _ _ h => h) (Or.inl ⟨by rfl, ?_⟩) ?_ ?_
              rotate_left
              · intro w'
                go_simp
                with_reducible rfl
              rotate_left
              · simp only [Act.put, List.setIfInBounds_toArray, List.set_cons_zero, List.set_cons_succ, i64_w, i32_w]
                rfl
              refine last_ (i := 18) (N := none) #[true, true, true, true, true, true, true, true, true, true, true, true, true, true, true, true, true, true, true] rfl rfl (by kernel_rfl) (by decide) (fun K hK => ?_)
              refine skip_ (w1 := ?_) (by rfl) rfl ?_ ?_
              rotate_left
              · go_simp
                rfl
              refine hK.out _ _ ?_
              clear hK K hHeld g2
              refine done_ (by kernel_rfl) ?_
              obtain ⟨W7, hW7⟩ : ∃ W7, w6.setCell ⟨w2.heap.size, 0, none⟩ (.slice (some ⟨g', 0, none⟩) (ps.length + 1) cap') = W7 := ⟨_, rfl⟩
              rw [hW7] at H2 HX7 HS7 HB7 ⊢
              clear hW7
              have HA := Lib.hid (add_any w2.heap.size w2.heap.size w2.heap.size w2.heap.size (nodes ++ [nodeOf x]) top st (.slice svA st.length svc) ps.length W7 H2.out HS7.out (by omega)
                (fun y hy => by
                  rcases List.mem_append.1 hy with hy | hy
                  · have := Hinv.out.lists y hy; omega
                  · simp at hy
                    subst hy
                    exact ⟨Nat.zero_le _, Nat.zero_le _⟩) (by omega)
                (fun o ho => by
                  have := Hinv.out.opens o (List.mem_of_getLast? ho)
                  dsimp only at this
                  rw [List.length_append, List.length_singleton]
                  omega) (by simp; omega))
              have HT7 : Hid (∃ cs, W7.heap[w2.heap.size]? = some (.cells cs 26)) := Lib.hid (by obtain ⟨_, _, _, _, _, h⟩ := H2.out; exact ⟨_, h.block⟩)
              clear H2
              go_wp2_with fail
              refine (HA.out).mono ?_
              rintro e w8 ⟨rfl, ht8, hf8⟩
              have hX8 := hf8.blk HX7.out hTX (by decide) (by decide)
              have hS8 : StackAt w8 w2.heap.size (.slice svA st.length svc) st := by
                obtain ⟨cs, h⟩ := HT7.out
                exact hf8.row HS7.out h (by decide) (by decide) (by decide)
              have Ht8 := Lib.hid ht8
              have HX8 := Lib.hid hX8
              have HS8 := Lib.hid hS8
              have HB8 := Lib.hid (HB7.out.trans hf8.below)
              have y0 : w8.cell? ⟨wr.heap.size, 0, none⟩ = some (.int .u8 kn) := by have := HX8.out; simp [World.cell?, this, Hkn.out]
              have hsz8 : w2.heap.size ≤ w8.heap.size := HB8.out.size
              clear ht8 hX8 hS8 hf8 HA HX7 HS7 HB7 HT7 HX8
              obtain ⟨i1', hi1, hy0, hy1, hy2⟩ := info_parts Tryd.info78
              have HRun : Hid (runR r0 (ws.take (k + 1)) = .ok ⟨(addF (nodes ++ [nodeOf x]) top st ps.length).1, (addF (nodes ++ [nodeOf x]) top st ps.length).2, st ++ [⟨ps.length, kn, false⟩]⟩) := Lib.hid (by
                rw [runR_next hrun.out.run Hx1.out]
                unfold stepR
                rw [if_neg H3.out, if_neg H5.out, if_neg (fun h => hdeep.out h.2), if_pos Hyes.out, hnl, Hkn.out])
              have y1 : w8.cell? ⟨wr.heap.size, 0, none⟩ = some (.int .u8 kn) := y0
              go_wp2_with (at_builtin; refine halt ?_)
              refine Halted.mk' ?_
              refine wpList_append_own _ rfl _ _ 73 rfl w2.heap.size 78 i1' _ 3 24 Tryd.underlying73 hi1 hy0 hy1 hy2 rfl (by decide) (.slice svA st.length svc) st.length (st.flatMap openCells) rfl (World.ownsRow.alloc HS8.out _) ⟨_, 0, none⟩ 1 1 (openCells ⟨ps.length, kn, false⟩) rfl rfl (cells_new _ (openCells ⟨ps.length, kn, false⟩) _ _ rfl) ?_ ?_ ?_ ?_ ?_
              · simp [openCells, Value.oneCell']
              · unfold maxLen; omega
              · omega
              · simp; omega
              intro v' w9 hown' hgrow _
              obtain ⟨g9, cap9, rfl⟩ := ownsRow_succ hown'
              have hgw := grown_two (World.grownBy_alloc w8 _ none) hgrow
              have hty : ∀ q, (Value.slice svA st.length svc).ownBlock = some q → ∃ c, w8.heap[q]? = some (.cells c 78) := row_type HS8.out
              have hlow : ∀ q, (Value.slice svA st.length svc).ownBlock = some q → w2.heap.size ≤ q := row_base HS8.out
              have Ht9 := Lib.hid (Ht8.out.other hgw (fun q e => ⟨hlow q e, hty q e⟩) (by decide) (by decide) (by decide))
              have HS9 : Hid (StackAt w9 w2.heap.size (.slice (some ⟨g9, 0, none⟩) (st.length + 1) cap9) (st ++ [⟨ps.length, kn, false⟩])) := Lib.hid (by simpa [StackAt] using hown')
              have HB9 : Hid (Below w2.heap.size w2 w9) := Lib.hid (HB8.out.trans ((Below.refl _ _).grown hgw hsz8 hlow))
              clear hown' hgrow hgw hty hlow hi1 hy0 hy1 hy2 y0 y1
              go_wp2
              go_roundw
              case rel =>
                exact ⟨k + 1, _, by omega, by go_num, Lib.hid ⟨HRun.out, Ht9.out, by simpa using HS9.out, HB9.out⟩⟩
              case measure => simp [intOf]; omega
          by_cases h4 : kn = 4
          · have d2 : ((kn : Int) == 2) = false := by simp; omega
            have d4 : ((kn : Int) == 4) = true := by simp [h4]
            have Hyes : Hid (x.kind = 2 ∨ x.kind = 4) := Lib.hid (.inr (by rw [Hkn.out, h4]; rfl))
            clear h2 h4
            by_cases hd : 16 ≤ st.length
            · have dd : decide ((16 : Int) ≤ (st.length : Int)) = true := by simp; omega
              have Hd := Lib.hid hd
              clear hd hT0
              have HE : Hid (refParse s = .error (x.at_, 3)) := Lib.hid (HF'.out.trans (runR_stop hrun.out.run Hx1.out (by unfold stepR; rw [if_neg H3.out, if_neg H5.out, if_pos ⟨Hyes.out, Hd.out⟩])))
              clear HT HS HX
              go_wp2
              go_region
              go_wp2
              refine bodyPost_ret (v := .tuple #[.agg #[.slice none 0 0, .slice none 0 0], .int .i64 x.at_, .int .i64 3]) (by simp [results, Tryd.results10, go_sem, z0, z1]) rfl ?_
              rw [HE.out]
              exact ⟨rfl, by repeat (first | exact HB3.out | refine Below.drew ?_ | refine Below.setCell ?_ (by simp) _)⟩
            · have dd : decide ((16 : Int) ≤ (st.length : Int)) = false := by simp; omega
              have hdeep : Hid (¬ 16 ≤ st.length) := Lib.hid hd
              have hst16 : st.length < 16 := by omega
              clear hd z0 z1 zf zg
              have hTW3 : w2.heap.size < W3.heap.size := by omega
              go_upto_region 18 with (fail)
              obtain ⟨W5, hW5⟩ : ∃ W5, W3.alloc (.cells #[.int .i64 0, .int .i64 1, .int .i64 2, .int .i64 0, .int .i64 3, .int .i64 0, .int .i64 4] 3) = W5 := ⟨_, rfl⟩
              have hb5 : Below W3.heap.size W3 W5 := by rw [← hW5]; exact (Below.refl _ _).alloc (Nat.le_refl _) _
              have hK5 : W5.heap[W3.heap.size]? = some (.cells #[.int .i64 0, .int .i64 1, .int .i64 2, .int .i64 0, .int .i64 3, .int .i64 0, .int .i64 4] 3) := by rw [← hW5]; exact World.alloc_heap_new _ _
              rw [hW5]
              have Hts5 := Lib.hid (Hts.out.later hb5)
              have HS5 := Lib.hid (stack_later HS.out hb5)
              have HBb5 : Hid (Below w2.heap.size w2 W5) := Lib.hid (HBb.out.trans (hb5.mono (by omega)))
              have HNv5 := Lib.hid (HNv.out.below (hb5.mono (by omega)))
              have HX5 := Lib.hid (box_later HX.out hb5)
              have hTl5 : w2.heap.size < W5.heap.size := by have := hb5.size; omega
              have hXl5 : wr.heap.size < W5.heap.size := World.heap_lt HX5.out
              have hKl5 : W3.heap.size < W5.heap.size := World.heap_lt hK5
              have t0 : W5.cell? ⟨w2.heap.size, 0, none⟩ = some (.slice LA ps.length LC) := by have := Hts5.out.block; simp [World.cell?, this]
              have y0 : W5.cell? ⟨wr.heap.size, 0, none⟩ = some (.int .u8 kn) := by have := HX5.out; simp [World.cell?, this, Hkn.out]
              have y1 : W5.cell? ⟨wr.heap.size, 1, none⟩ = some (.int .i64 x.at_) := by have := HX5.out; simp [World.cell?, this]
              have y2 : W5.cell? ⟨wr.heap.size, 2, none⟩ = some (.string ⟨x.text.toArray⟩) := by have := HX5.out; simp [World.cell?, this]
              have y3 : W5.cell? ⟨wr.heap.size, 3, none⟩ = some (.bool x.root) := by have := HX5.out; simp [World.cell?, this]
              have y4 : W5.cell? ⟨wr.heap.size, 4, none⟩ = some (.slice NA x.names.length NC) := by have := HX5.out; simp [World.cell?, this]
              have kk : W5.cell? ⟨W3.heap.size, kn, none⟩ = some (.int .i64 (kindOf kn)) := by
                have hc : (#[.int .i64 0, .int .i64 1, .int .i64 2, .int .i64 0, .int .i64 3, .int .i64 0, .int .i64 4] : Array Value)[kn]? = some (.int .i64 (kindOf kn)) := by
                  have : kn = 0 ∨ kn = 1 ∨ kn = 2 ∨ kn = 3 ∨ kn = 4 ∨ kn = 5 ∨ kn = 6 := by omega
                  rcases this with h | h | h | h | h | h | h <;> subst h <;> first | rfl | (exact absurd rfl hk3.out) | (exact absurd rfl hk5.out)
                simp only [World.cell?, hK5]
                exact hc
              have HK5 := Lib.hid hK5
              clear hb5 hK5 hW5 Hts HS HBb HNv HX
              refine start_ (n := 19) (S := fun w' => w'.cell? ⟨w2.heap.size, 0, none⟩ = some (.slice LA ps.length LC) ∧ w'.cell? ⟨wr.heap.size, 0, none⟩ = some (.int .u8 kn) ∧ w'.cell? ⟨wr.heap.size, 1, none⟩ = some (.int .i64 x.at_) ∧ w'.cell? ⟨wr.heap.size, 2, none⟩ = some (.string ⟨x.text.toArray⟩) ∧ w'.cell? ⟨wr.heap.size, 3, none⟩ = some (.bool x.root) ∧ w'.cell? ⟨wr.heap.size, 4, none⟩ = some (.slice NA x.names.length NC) ∧ w'.cell? ⟨W3.heap.size, kn, none⟩ = some (.int .i64 (kindOf kn))) (ds := [18]) #[false, false, false, false, false, false, false, false, false, false, false, false, false, false, false, false, false, false, false] (by kernel_rfl) rfl rfl ⟨t0, y0, y1, y2, y3, y4, kk⟩ (fun hHeld => ?_)
              refine pure_ (i := 0) (N := (some 64)) (v := ?_) (a' := ?_) #[true, false, false, false, false, false, false, false, false, false, false, false, false, false, false, false, false, false, false] rfl rfl (by kernel_rfl) (fun _ _ _ h => h) (Or.inl ⟨by rfl, ?_⟩) ?_ ?_
              rotate_left
              · intro w'
                go_simp
                with_reducible rfl
              rotate_left
              · simp only [Act.put, List.setIfInBounds_toArray, List.set_cons_zero, List.set_cons_succ, i64_w, i32_w]
                rfl
              refine take_ (i := 1) (N := (some 65)) (v := ?_) (a' := ?_) #[true, true, false, false, false, false, false, false, false, false, false, false, false, false, false, false, false, false, false] rfl rfl (by kernel_rfl) (fun _ _ _ h => h) (Or.inl ⟨by rfl, ?_⟩) hHeld ?_ ?_
              rotate_left
              · rintro w' ⟨s0, s1, s2, s3, s4, s5, s6⟩
                go_simp
                with_reducible rfl
              rotate_left
              · simp only [Act.put, List.setIfInBounds_toArray, List.set_cons_zero, List.set_cons_succ, i64_w, i32_w]
                rfl
              refine pure_ (i := 2) (N := (some 66)) (v := ?_) (a' := ?_) #[true, true, true, false, false, false, false, false, false, false, false, false, false, false, false, false, false, false, false] rfl rfl (by kernel_rfl) (fun _ _ _ h => h) (Or.inl ⟨by rfl, ?_⟩) ?_ ?_
              rotate_left
              · intro w'
                go_simp
                with_reducible rfl
              rotate_left
              · simp only [Act.put, List.setIfInBounds_toArray, List.set_cons_zero, List.set_cons_succ, i64_w, i32_w]
                rfl
              refine pure_ (i := 3) (N := (some 67)) (v := ?_) (a' := ?_) #[true, true, true, true, false, false, false, false, false, false, false, false, false, false, false, false, false, false, false] rfl rfl (by kernel_rfl) (fun _ _ _ h => h) (Or.inl ⟨by rfl, ?_⟩) ?_ ?_
              rotate_left
              · intro w'
                go_simp
                with_reducible rfl
              rotate_left
              · simp only [Act.put, List.setIfInBounds_toArray, List.set_cons_zero, List.set_cons_succ, i64_w, i32_w]
                rfl
              refine take_ (i := 4) (N := (some 68)) (v := ?_) (a' := ?_) #[true, true, true, true, true, false, false, false, false, false, false, false, false, false, false, false, false, false, false] rfl rfl (by kernel_rfl) (fun _ _ _ h => h) (Or.inl ⟨by rfl, ?_⟩) hHeld ?_ ?_
              rotate_left
              · rintro w' ⟨s0, s1, s2, s3, s4, s5, s6⟩
                go_simp
                with_reducible rfl
              rotate_left
              · simp only [Act.put, List.setIfInBounds_toArray, List.set_cons_zero, List.set_cons_succ, i64_w, i32_w]
                rfl
              refine pure_ (i := 5) (N := (some 69)) (v := ?_) (a' := ?_) #[true, true, true, true, true, true, false, false, false, false, false, false, false, false, false, false, false, false, false] rfl rfl (by kernel_rfl) (fun _ _ _ h => h) (Or.inl ⟨by rfl, ?_⟩) ?_ ?_
              rotate_left
              · intro w'
                go_simp
                with_reducible rfl
              rotate_left
              · simp only [Act.put, List.setIfInBounds_toArray, List.set_cons_zero, List.set_cons_succ, i64_w, i32_w]
                rfl
              refine take_ (i := 6) (N := (some 70)) (v := ?_) (a' := ?_) #[true, true, true, true, true, true, true, false, false, false, false, false, false, false, false, false, false, false, false] rfl rfl (by kernel_rfl) (fun _ _ _ h => h) (Or.inl ⟨by rfl, ?_⟩) hHeld ?_ ?_
              rotate_left
              · rintro w' ⟨s0, s1, s2, s3, s4, s5, s6⟩
                go_simp
                with_reducible rfl
              rotate_left
              · simp only [Act.put, List.setIfInBounds_toArray, List.set_cons_zero, List.set_cons_succ, i64_w, i32_w]
                rfl
              refine pure_ (i := 7) (N := (some 71)) (v := ?_) (a' := ?_) #[true, true, true, true, true, true, true, true, false, false, false, false, false, false, false, false, false, false, false] rfl rfl (by kernel_rfl) (fun _ _ _ h => h) (Or.inl ⟨by rfl, ?_⟩) ?_ ?_
              rotate_left
              · intro w'
                go_simp
                with_reducible rfl
              rotate_left
              · simp only [Act.put, List.setIfInBounds_toArray, List.set_cons_zero, List.set_cons_succ, i64_w, i32_w]
                rfl
              refine pure_ (i := 8) (N := (some 72)) (v := ?_) (a' := ?_) #[true, true, true, true, true, true, true, true, true, false, false, false, false, false, false, false, false, false, false] rfl rfl (by kernel_rfl) (fun _ _ _ h => h) (Or.inl ⟨by rfl, ?_⟩) ?_ ?_
              rotate_left
              · intro w'
                go_simp
                with_reducible rfl
              rotate_left
              · simp only [Act.put, List.setIfInBounds_toArray, List.set_cons_zero, List.set_cons_succ, i64_w, i32_w]
                rfl
              refine take_ (i := 9) (N := (some 73)) (v := ?_) (a' := ?_) #[true, true, true, true, true, true, true, true, true, true, false, false, false, false, false, false, false, false, false] rfl rfl (by kernel_rfl) (fun _ _ _ h => h) (Or.inl ⟨by rfl, ?_⟩) hHeld ?_ ?_
              rotate_left
              · rintro w' ⟨s0, s1, s2, s3, s4, s5, s6⟩
                go_simp
                with_reducible rfl
              rotate_left
              · simp only [Act.put, List.setIfInBounds_toArray, List.set_cons_zero, List.set_cons_succ, i64_w, i32_w]
                rfl
              refine pure_ (i := 10) (N := (some 74)) (v := ?_) (a' := ?_) #[true, true, true, true, true, true, true, true, true, true, true, false, false, false, false, false, false, false, false] rfl rfl (by kernel_rfl) (fun _ _ _ h => h) (Or.inl ⟨by rfl, ?_⟩) ?_ ?_
              rotate_left
              · intro w'
                go_simp
                with_reducible rfl
              rotate_left
              · simp only [Act.put, List.setIfInBounds_toArray, List.set_cons_zero, List.set_cons_succ, i64_w, i32_w]
                rfl
              refine take_ (i := 11) (N := (some 75)) (v := ?_) (a' := ?_) #[true, true, true, true, true, true, true, true, true, true, true, true, false, false, false, false, false, false, false] rfl rfl (by kernel_rfl) (fun _ _ _ h => h) (Or.inl ⟨by rfl, ?_⟩) hHeld ?_ ?_
              rotate_left
              · rintro w' ⟨s0, s1, s2, s3, s4, s5, s6⟩
                go_simp
                with_reducible rfl
              rotate_left
              · simp only [Act.put, List.setIfInBounds_toArray, List.set_cons_zero, List.set_cons_succ, i64_w, i32_w]
                rfl
              refine pure_ (i := 12) (N := (some 76)) (v := ?_) (a' := ?_) #[true, true, true, true, true, true, true, true, true, true, true, true, true, false, false, false, false, false, false] rfl rfl (by kernel_rfl) (fun _ _ _ h => h) (Or.inl ⟨by rfl, ?_⟩) ?_ ?_
              rotate_left
              · intro w'
                go_simp
                with_reducible rfl
              rotate_left
              · simp only [Act.put, List.setIfInBounds_toArray, List.set_cons_zero, List.set_cons_succ, i64_w, i32_w]
                rfl
              refine take_ (i := 13) (N := (some 77)) (v := ?_) (a' := ?_) #[true, true, true, true, true, true, true, true, true, true, true, true, true, true, false, false, false, false, false] rfl rfl (by kernel_rfl) (fun _ _ _ h => h) (Or.inl ⟨by rfl, ?_⟩) hHeld ?_ ?_
              rotate_left
              · rintro w' ⟨s0, s1, s2, s3, s4, s5, s6⟩
                go_simp
                with_reducible rfl
              rotate_left
              · simp only [Act.put, List.setIfInBounds_toArray, List.set_cons_zero, List.set_cons_succ, i64_w, i32_w]
                rfl
              refine pure_ (i := 14) (N := (some 78)) (v := ?_) (a' := ?_) #[true, true, true, true, true, true, true, true, true, true, true, true, true, true, true, false, false, false, false] rfl rfl (by kernel_rfl) (fun _ _ _ h => h) (Or.inl ⟨by rfl, ?_⟩) ?_ ?_
              rotate_left
              · intro w'
                go_simp
                with_reducible rfl
              rotate_left
              · simp only [Act.put, List.setIfInBounds_toArray, List.set_cons_zero, List.set_cons_succ, i64_w, i32_w]
                rfl
              refine one_ (i := 15) (N := (some 79)) #[true, true, true, true, true, true, true, true, true, true, true, true, true, true, true, true, false, false, false] rfl rfl (by kernel_rfl) (by decide) (fun K hK => ?_)
              refine value_ (w1 := ?_) (v := ?_) (by rfl) rfl ?_ ?_
              rotate_left 2
              · go_simp
                constructor
                · rfl
                · rfl
              obtain ⟨s0, s1, s2, s3, s4, s5, s6⟩ := hHeld
              refine hK.out _ _ ⟨(World.cell?_alloc_past _ _ _ hTl5).trans s0, (World.cell?_alloc_past _ _ _ hXl5).trans s1, (World.cell?_alloc_past _ _ _ hXl5).trans s2, (World.cell?_alloc_past _ _ _ hXl5).trans s3, (World.cell?_alloc_past _ _ _ hXl5).trans s4, (World.cell?_alloc_past _ _ _ hXl5).trans s5, (World.cell?_alloc_past _ _ _ hKl5).trans s6⟩ (fun hHeld => ?_)
              clear hK K s0 s1 s2 s3 s4 s5 s6
              refine norm_ (a' := ?_) ?_ ?_
              rotate_left
              · show Act.put _ (some 79) _ = _
                simp only [Act.put, List.setIfInBounds_toArray, List.set_cons_zero, List.set_cons_succ, i64_w, i32_w]
                rfl
              refine one_ (i := 16) (N := (some 80)) #[true, true, true, true, true, true, true, true, true, true, true, true, true, true, true, true, true, false, false] rfl rfl (by kernel_rfl) (by decide) (fun K hK => ?_)
              refine step_grow rfl _ _ 23 rfl w2.heap.size 66 i0 _ 9 120 Tryd.underlying23 hi0 hz0 hz1 hz2 rfl (by decide) (.slice LA ps.length LC) ps.length (ps.flatMap nodeCells) rfl (World.ownsRow.alloc Hts5.out.row _) ⟨_, 0, none⟩ 1 1 (nodeCells ⟨nodeOf x, .slice NA x.names.length NC, .slice none 0 0, .slice none 0 0⟩) rfl rfl (by rw [Hcells.out]; exact cells_new _ _ _ _ (by simp)) (by simp [nodeCells, Value.oneCell', nodeOf]) (by unfold maxLen; omega) (by omega) (by simp; omega) ?_
              intro v' w6 hown' hgrow
              obtain ⟨g', cap', rfl⟩ := ownsRow_succ hown'
              have hgw := grown_two (World.grownBy_alloc W5 _ none) (grown_drew hgrow)
              have hty : ∀ q, (Value.slice LA ps.length LC).ownBlock = some q → ∃ c, W5.heap[q]? = some (.cells c 66) := row_type Hts5.out.row
              have hnT : some w2.heap.size ≠ (Value.slice LA ps.length LC).ownBlock := fun e => by obtain ⟨c, h⟩ := hty _ e.symm; have h2 := Hts5.out.block; rw [h2] at h; cases h
              have hnX : some wr.heap.size ≠ (Value.slice LA ps.length LC).ownBlock := fun e => by obtain ⟨c, h⟩ := hty _ e.symm; have h2 := HX5.out; rw [h2] at h; cases h
              have hnK : some W3.heap.size ≠ (Value.slice LA ps.length LC).ownBlock := fun e => by obtain ⟨c, h⟩ := hty _ e.symm; have h2 := HK5.out; rw [h2] at h; cases h
              obtain ⟨h1, h2, h3⟩ := Hts5.out.addNode (p := ⟨nodeOf x, .slice NA x.names.length NC, .slice none 0 0, .slice none 0 0⟩) HNv5.out rfl rfl rfl rfl hown' hgw
              rw [Hmap.out] at h2
              have hTX : wr.heap.size ≠ w2.heap.size := by omega
              have hX7 := h3.blk HX5.out hTX (by decide) (by decide)
              have hS7 : StackAt _ w2.heap.size (.slice svA st.length svc) st := h3.row HS5.out Hts5.out.block (by decide) (by decide) (by decide)
              have hB7 := HBb5.out.trans h3.below
              have H2 := Lib.hid h2
              have HX7 := Lib.hid hX7
              have HS7 := Lib.hid hS7
              have HB7 := Lib.hid hB7
              obtain ⟨s0, s1, s2, s3, s4, s5, s6⟩ := hHeld
              refine hK.out _ _ ⟨hgrow.cell s0 hnT, hgrow.cell s1 hnX, hgrow.cell s2 hnX, hgrow.cell s3 hnX, hgrow.cell s4 hnX, hgrow.cell s5 hnX, hgrow.cell s6 hnK⟩ (fun hHeld => ?_)
              have g2 : w6.frozen? ⟨w2.heap.size, 0, none⟩ = false := by simp [World.frozen?, h1]
              clear hK K s0 s1 s2 s3 s4 s5 s6 h1 h2 h3 hX7 hS7 hB7 hown' hgrow hgw hty hi0 hz0 hz1 hz2 hnT hnX hnK t0 y0 y1 y2 y3 y4 kk Hts5 HS5 HBb5 HNv5 HX5 HK5
              refine norm_ (a' := ?_) ?_ ?_
              rotate_left
              · show Act.put _ (some 80) _ = _
                simp only [Act.put, List.setIfInBounds_toArray, List.set_cons_zero, List.set_cons_succ, i64_w, i32_w]
                rfl
              refine pure_ (i := 17) (N := (some 81)) (v := ?_) (a' := ?_) #[true, true, true, true, true, true, true, true, true, true, true, true, true, true, true, true, true, true, false] rfl rfl (by kernel_rfl) (fun _ _ _ h => h) (Or.inl ⟨by rfl, ?_⟩) ?_ ?_
              rotate_left
              · intro w'
                go_simp
                with_reducible rfl
              rotate_left
              · simp only [Act.put, List.setIfInBounds_toArray, List.set_cons_zero, List.set_cons_succ, i64_w, i32_w]
                rfl
              refine last_ (i := 18) (N := none) #[true, true, true, true, true, true, true, true, true, true, true, true, true, true, true, true, true, true, true] rfl rfl (by kernel_rfl) (by decide) (fun K hK => ?_)
              refine skip_ (w1 := ?_) (by rfl) rfl ?_ ?_
              rotate_left
              · go_simp
                rfl
              refine hK.out _ _ ?_
              clear hK K hHeld g2
              refine done_ (by kernel_rfl) ?_
              obtain ⟨W7, hW7⟩ : ∃ W7, w6.setCell ⟨w2.heap.size, 0, none⟩ (.slice (some ⟨g', 0, none⟩) (ps.length + 1) cap') = W7 := ⟨_, rfl⟩
              rw [hW7] at H2 HX7 HS7 HB7 ⊢
              clear hW7
              have HA := Lib.hid (add_any w2.heap.size w2.heap.size w2.heap.size w2.heap.size (nodes ++ [nodeOf x]) top st (.slice svA st.length svc) ps.length W7 H2.out HS7.out (by omega)
                (fun y hy => by
                  rcases List.mem_append.1 hy with hy | hy
                  · have := Hinv.out.lists y hy; omega
                  · simp at hy
                    subst hy
                    exact ⟨Nat.zero_le _, Nat.zero_le _⟩) (by omega)
                (fun o ho => by
                  have := Hinv.out.opens o (List.mem_of_getLast? ho)
                  dsimp only at this
                  rw [List.length_append, List.length_singleton]
                  omega) (by simp; omega))
              have HT7 : Hid (∃ cs, W7.heap[w2.heap.size]? = some (.cells cs 26)) := Lib.hid (by obtain ⟨_, _, _, _, _, h⟩ := H2.out; exact ⟨_, h.block⟩)
              clear H2
              go_wp2_with fail
              refine (HA.out).mono ?_
              rintro e w8 ⟨rfl, ht8, hf8⟩
              have hX8 := hf8.blk HX7.out hTX (by decide) (by decide)
              have hS8 : StackAt w8 w2.heap.size (.slice svA st.length svc) st := by
                obtain ⟨cs, h⟩ := HT7.out
                exact hf8.row HS7.out h (by decide) (by decide) (by decide)
              have Ht8 := Lib.hid ht8
              have HX8 := Lib.hid hX8
              have HS8 := Lib.hid hS8
              have HB8 := Lib.hid (HB7.out.trans hf8.below)
              have y0 : w8.cell? ⟨wr.heap.size, 0, none⟩ = some (.int .u8 kn) := by have := HX8.out; simp [World.cell?, this, Hkn.out]
              have hsz8 : w2.heap.size ≤ w8.heap.size := HB8.out.size
              clear ht8 hX8 hS8 hf8 HA HX7 HS7 HB7 HT7 HX8
              obtain ⟨i1', hi1, hy0, hy1, hy2⟩ := info_parts Tryd.info78
              have HRun : Hid (runR r0 (ws.take (k + 1)) = .ok ⟨(addF (nodes ++ [nodeOf x]) top st ps.length).1, (addF (nodes ++ [nodeOf x]) top st ps.length).2, st ++ [⟨ps.length, kn, false⟩]⟩) := Lib.hid (by
                rw [runR_next hrun.out.run Hx1.out]
                unfold stepR
                rw [if_neg H3.out, if_neg H5.out, if_neg (fun h => hdeep.out h.2), if_pos Hyes.out, hnl, Hkn.out])
              have y1 : w8.cell? ⟨wr.heap.size, 0, none⟩ = some (.int .u8 kn) := y0
              go_wp2_with (at_builtin; refine halt ?_)
              refine Halted.mk' ?_
              refine wpList_append_own _ rfl _ _ 73 rfl w2.heap.size 78 i1' _ 3 24 Tryd.underlying73 hi1 hy0 hy1 hy2 rfl (by decide) (.slice svA st.length svc) st.length (st.flatMap openCells) rfl (World.ownsRow.alloc HS8.out _) ⟨_, 0, none⟩ 1 1 (openCells ⟨ps.length, kn, false⟩) rfl rfl (cells_new _ (openCells ⟨ps.length, kn, false⟩) _ _ rfl) ?_ ?_ ?_ ?_ ?_
              · simp [openCells, Value.oneCell']
              · unfold maxLen; omega
              · omega
              · simp; omega
              intro v' w9 hown' hgrow _
              obtain ⟨g9, cap9, rfl⟩ := ownsRow_succ hown'
              have hgw := grown_two (World.grownBy_alloc w8 _ none) hgrow
              have hty : ∀ q, (Value.slice svA st.length svc).ownBlock = some q → ∃ c, w8.heap[q]? = some (.cells c 78) := row_type HS8.out
              have hlow : ∀ q, (Value.slice svA st.length svc).ownBlock = some q → w2.heap.size ≤ q := row_base HS8.out
              have Ht9 := Lib.hid (Ht8.out.other hgw (fun q e => ⟨hlow q e, hty q e⟩) (by decide) (by decide) (by decide))
              have HS9 : Hid (StackAt w9 w2.heap.size (.slice (some ⟨g9, 0, none⟩) (st.length + 1) cap9) (st ++ [⟨ps.length, kn, false⟩])) := Lib.hid (by simpa [StackAt] using hown')
              have HB9 : Hid (Below w2.heap.size w2 w9) := Lib.hid (HB8.out.trans ((Below.refl _ _).grown hgw hsz8 hlow))
              clear hown' hgrow hgw hty hlow hi1 hy0 hy1 hy2 y0 y1
              go_wp2
              go_roundw
              case rel =>
                exact ⟨k + 1, _, by omega, by go_num, Lib.hid ⟨HRun.out, Ht9.out, by simpa using HS9.out, HB9.out⟩⟩
              case measure => simp [intOf]; omega
          have d2 : ((kn : Int) == 2) = false := by simp; omega
          have d4 : ((kn : Int) == 4) = false := by simp; omega
          have Hno : Hid (¬ (x.kind = 2 ∨ x.kind = 4)) := Lib.hid (by rw [Hkn.out]; omega)
          clear h2 h4 z0 z1 zf zg
          have hTW3 : w2.heap.size < W3.heap.size := by omega
          go_upto_region 18 with (fail)
          obtain ⟨W5, hW5⟩ : ∃ W5, W3.alloc (.cells #[.int .i64 0, .int .i64 1, .int .i64 2, .int .i64 0, .int .i64 3, .int .i64 0, .int .i64 4] 3) = W5 := ⟨_, rfl⟩
          have hb5 : Below W3.heap.size W3 W5 := by rw [← hW5]; exact (Below.refl _ _).alloc (Nat.le_refl _) _
          have hK5 : W5.heap[W3.heap.size]? = some (.cells #[.int .i64 0, .int .i64 1, .int .i64 2, .int .i64 0, .int .i64 3, .int .i64 0, .int .i64 4] 3) := by rw [← hW5]; exact World.alloc_heap_new _ _
          rw [hW5]
          have Hts5 := Lib.hid (Hts.out.later hb5)
          have HS5 := Lib.hid (stack_later HS.out hb5)
          have HBb5 : Hid (Below w2.heap.size w2 W5) := Lib.hid (HBb.out.trans (hb5.mono (by omega)))
          have HNv5 := Lib.hid (HNv.out.below (hb5.mono (by omega)))
          have HX5 := Lib.hid (box_later HX.out hb5)
          have hTl5 : w2.heap.size < W5.heap.size := by have := hb5.size; omega
          have hXl5 : wr.heap.size < W5.heap.size := World.heap_lt HX5.out
          have hKl5 : W3.heap.size < W5.heap.size := World.heap_lt hK5
          have t0 : W5.cell? ⟨w2.heap.size, 0, none⟩ = some (.slice LA ps.length LC) := by have := Hts5.out.block; simp [World.cell?, this]
          have y0 : W5.cell? ⟨wr.heap.size, 0, none⟩ = some (.int .u8 kn) := by have := HX5.out; simp [World.cell?, this, Hkn.out]
          have y1 : W5.cell? ⟨wr.heap.size, 1, none⟩ = some (.int .i64 x.at_) := by have := HX5.out; simp [World.cell?, this]
          have y2 : W5.cell? ⟨wr.heap.size, 2, none⟩ = some (.string ⟨x.text.toArray⟩) := by have := HX5.out; simp [World.cell?, this]
          have y3 : W5.cell? ⟨wr.heap.size, 3, none⟩ = some (.bool x.root) := by have := HX5.out; simp [World.cell?, this]
          have y4 : W5.cell? ⟨wr.heap.size, 4, none⟩ = some (.slice NA x.names.length NC) := by have := HX5.out; simp [World.cell?, this]
          have kk : W5.cell? ⟨W3.heap.size, kn, none⟩ = some (.int .i64 (kindOf kn)) := by
            have hc : (#[.int .i64 0, .int .i64 1, .int .i64 2, .int .i64 0, .int .i64 3, .int .i64 0, .int .i64 4] : Array Value)[kn]? = some (.int .i64 (kindOf kn)) := by
              have : kn = 0 ∨ kn = 1 ∨ kn = 2 ∨ kn = 3 ∨ kn = 4 ∨ kn = 5 ∨ kn = 6 := by omega
              rcases this with h | h | h | h | h | h | h <;> subst h <;> first | rfl | (exact absurd rfl hk3.out) | (exact absurd rfl hk5.out)
            simp only [World.cell?, hK5]
            exact hc
          have HK5 := Lib.hid hK5
          clear hb5 hK5 hW5 Hts HS HBb HNv HX
          refine start_ (n := 19) (S := fun w' => w'.cell? ⟨w2.heap.size, 0, none⟩ = some (.slice LA ps.length LC) ∧ w'.cell? ⟨wr.heap.size, 0, none⟩ = some (.int .u8 kn) ∧ w'.cell? ⟨wr.heap.size, 1, none⟩ = some (.int .i64 x.at_) ∧ w'.cell? ⟨wr.heap.size, 2, none⟩ = some (.string ⟨x.text.toArray⟩) ∧ w'.cell? ⟨wr.heap.size, 3, none⟩ = some (.bool x.root) ∧ w'.cell? ⟨wr.heap.size, 4, none⟩ = some (.slice NA x.names.length NC) ∧ w'.cell? ⟨W3.heap.size, kn, none⟩ = some (.int .i64 (kindOf kn))) (ds := [18]) #[false, false, false, false, false, false, false, false, false, false, false, false, false, false, false, false, false, false, false] (by kernel_rfl) rfl rfl ⟨t0, y0, y1, y2, y3, y4, kk⟩ (fun hHeld => ?_)
          refine pure_ (i := 0) (N := (some 64)) (v := ?_) (a' := ?_) #[true, false, false, false, false, false, false, false, false, false, false, false, false, false, false, false, false, false, false] rfl rfl (by kernel_rfl) (fun _ _ _ h => h) (Or.inl ⟨by rfl, ?_⟩) ?_ ?_
          rotate_left
          · intro w'
            go_simp
            with_reducible rfl
          rotate_left
          · simp only [Act.put, List.setIfInBounds_toArray, List.set_cons_zero, List.set_cons_succ, i64_w, i32_w]
            rfl
          refine take_ (i := 1) (N := (some 65)) (v := ?_) (a' := ?_) #[true, true, false, false, false, false, false, false, false, false, false, false, false, false, false, false, false, false, false] rfl rfl (by kernel_rfl) (fun _ _ _ h => h) (Or.inl ⟨by rfl, ?_⟩) hHeld ?_ ?_
          rotate_left
          · rintro w' ⟨s0, s1, s2, s3, s4, s5, s6⟩
            go_simp
            with_reducible rfl
          rotate_left
          · simp only [Act.put, List.setIfInBounds_toArray, List.set_cons_zero, List.set_cons_succ, i64_w, i32_w]
            rfl
          refine pure_ (i := 2) (N := (some 66)) (v := ?_) (a' := ?_) #[true, true, true, false, false, false, false, false, false, false, false, false, false, false, false, false, false, false, false] rfl rfl (by kernel_rfl) (fun _ _ _ h => h) (Or.inl ⟨by rfl, ?_⟩) ?_ ?_
          rotate_left
          · intro w'
            go_simp
            with_reducible rfl
          rotate_left
          · simp only [Act.put, List.setIfInBounds_toArray, List.set_cons_zero, List.set_cons_succ, i64_w, i32_w]
            rfl
          refine pure_ (i := 3) (N := (some 67)) (v := ?_) (a' := ?_) #[true, true, true, true, false, false, false, false, false, false, false, false, false, false, false, false, false, false, false] rfl rfl (by kernel_rfl) (fun _ _ _ h => h) (Or.inl ⟨by rfl, ?_⟩) ?_ ?_
          rotate_left
          · intro w'
            go_simp
            with_reducible rfl
          rotate_left
          · simp only [Act.put, List.setIfInBounds_toArray, List.set_cons_zero, List.set_cons_succ, i64_w, i32_w]
            rfl
          refine take_ (i := 4) (N := (some 68)) (v := ?_) (a' := ?_) #[true, true, true, true, true, false, false, false, false, false, false, false, false, false, false, false, false, false, false] rfl rfl (by kernel_rfl) (fun _ _ _ h => h) (Or.inl ⟨by rfl, ?_⟩) hHeld ?_ ?_
          rotate_left
          · rintro w' ⟨s0, s1, s2, s3, s4, s5, s6⟩
            go_simp
            with_reducible rfl
          rotate_left
          · simp only [Act.put, List.setIfInBounds_toArray, List.set_cons_zero, List.set_cons_succ, i64_w, i32_w]
            rfl
          refine pure_ (i := 5) (N := (some 69)) (v := ?_) (a' := ?_) #[true, true, true, true, true, true, false, false, false, false, false, false, false, false, false, false, false, false, false] rfl rfl (by kernel_rfl) (fun _ _ _ h => h) (Or.inl ⟨by rfl, ?_⟩) ?_ ?_
          rotate_left
          · intro w'
            go_simp
            with_reducible rfl
          rotate_left
          · simp only [Act.put, List.setIfInBounds_toArray, List.set_cons_zero, List.set_cons_succ, i64_w, i32_w]
            rfl
          refine take_ (i := 6) (N := (some 70)) (v := ?_) (a' := ?_) #[true, true, true, true, true, true, true, false, false, false, false, false, false, false, false, false, false, false, false] rfl rfl (by kernel_rfl) (fun _ _ _ h => h) (Or.inl ⟨by rfl, ?_⟩) hHeld ?_ ?_
          rotate_left
          · rintro w' ⟨s0, s1, s2, s3, s4, s5, s6⟩
            go_simp
            with_reducible rfl
          rotate_left
          · simp only [Act.put, List.setIfInBounds_toArray, List.set_cons_zero, List.set_cons_succ, i64_w, i32_w]
            rfl
          refine pure_ (i := 7) (N := (some 71)) (v := ?_) (a' := ?_) #[true, true, true, true, true, true, true, true, false, false, false, false, false, false, false, false, false, false, false] rfl rfl (by kernel_rfl) (fun _ _ _ h => h) (Or.inl ⟨by rfl, ?_⟩) ?_ ?_
          rotate_left
          · intro w'
            go_simp
            with_reducible rfl
          rotate_left
          · simp only [Act.put, List.setIfInBounds_toArray, List.set_cons_zero, List.set_cons_succ, i64_w, i32_w]
            rfl
          refine pure_ (i := 8) (N := (some 72)) (v := ?_) (a' := ?_) #[true, true, true, true, true, true, true, true, true, false, false, false, false, false, false, false, false, false, false] rfl rfl (by kernel_rfl) (fun _ _ _ h => h) (Or.inl ⟨by rfl, ?_⟩) ?_ ?_
          rotate_left
          · intro w'
            go_simp
            with_reducible rfl
          rotate_left
          · simp only [Act.put, List.setIfInBounds_toArray, List.set_cons_zero, List.set_cons_succ, i64_w, i32_w]
            rfl
          refine take_ (i := 9) (N := (some 73)) (v := ?_) (a' := ?_) #[true, true, true, true, true, true, true, true, true, true, false, false, false, false, false, false, false, false, false] rfl rfl (by kernel_rfl) (fun _ _ _ h => h) (Or.inl ⟨by rfl, ?_⟩) hHeld ?_ ?_
          rotate_left
          · rintro w' ⟨s0, s1, s2, s3, s4, s5, s6⟩
            go_simp
            with_reducible rfl
          rotate_left
          · simp only [Act.put, List.setIfInBounds_toArray, List.set_cons_zero, List.set_cons_succ, i64_w, i32_w]
            rfl
          refine pure_ (i := 10) (N := (some 74)) (v := ?_) (a' := ?_) #[true, true, true, true, true, true, true, true, true, true, true, false, false, false, false, false, false, false, false] rfl rfl (by kernel_rfl) (fun _ _ _ h => h) (Or.inl ⟨by rfl, ?_⟩) ?_ ?_
          rotate_left
          · intro w'
            go_simp
            with_reducible rfl
          rotate_left
          · simp only [Act.put, List.setIfInBounds_toArray, List.set_cons_zero, List.set_cons_succ, i64_w, i32_w]
            rfl
          refine take_ (i := 11) (N := (some 75)) (v := ?_) (a' := ?_) #[true, true, true, true, true, true, true, true, true, true, true, true, false, false, false, false, false, false, false] rfl rfl (by kernel_rfl) (fun _ _ _ h => h) (Or.inl ⟨by rfl, ?_⟩) hHeld ?_ ?_
          rotate_left
          · rintro w' ⟨s0, s1, s2, s3, s4, s5, s6⟩
            go_simp
            with_reducible rfl
          rotate_left
          · simp only [Act.put, List.setIfInBounds_toArray, List.set_cons_zero, List.set_cons_succ, i64_w, i32_w]
            rfl
          refine pure_ (i := 12) (N := (some 76)) (v := ?_) (a' := ?_) #[true, true, true, true, true, true, true, true, true, true, true, true, true, false, false, false, false, false, false] rfl rfl (by kernel_rfl) (fun _ _ _ h => h) (Or.inl ⟨by rfl, ?_⟩) ?_ ?_
          rotate_left
          · intro w'
            go_simp
            with_reducible rfl
          rotate_left
          · simp only [Act.put, List.setIfInBounds_toArray, List.set_cons_zero, List.set_cons_succ, i64_w, i32_w]
            rfl
          refine take_ (i := 13) (N := (some 77)) (v := ?_) (a' := ?_) #[true, true, true, true, true, true, true, true, true, true, true, true, true, true, false, false, false, false, false] rfl rfl (by kernel_rfl) (fun _ _ _ h => h) (Or.inl ⟨by rfl, ?_⟩) hHeld ?_ ?_
          rotate_left
          · rintro w' ⟨s0, s1, s2, s3, s4, s5, s6⟩
            go_simp
            with_reducible rfl
          rotate_left
          · simp only [Act.put, List.setIfInBounds_toArray, List.set_cons_zero, List.set_cons_succ, i64_w, i32_w]
            rfl
          refine pure_ (i := 14) (N := (some 78)) (v := ?_) (a' := ?_) #[true, true, true, true, true, true, true, true, true, true, true, true, true, true, true, false, false, false, false] rfl rfl (by kernel_rfl) (fun _ _ _ h => h) (Or.inl ⟨by rfl, ?_⟩) ?_ ?_
          rotate_left
          · intro w'
            go_simp
            with_reducible rfl
          rotate_left
          · simp only [Act.put, List.setIfInBounds_toArray, List.set_cons_zero, List.set_cons_succ, i64_w, i32_w]
            rfl
          refine one_ (i := 15) (N := (some 79)) #[true, true, true, true, true, true, true, true, true, true, true, true, true, true, true, true, false, false, false] rfl rfl (by kernel_rfl) (by decide) (fun K hK => ?_)
          refine value_ (w1 := ?_) (v := ?_) (by rfl) rfl ?_ ?_
          rotate_left 2
          · go_simp
            constructor
            · rfl
            · rfl
          obtain ⟨s0, s1, s2, s3, s4, s5, s6⟩ := hHeld
          refine hK.out _ _ ⟨(World.cell?_alloc_past _ _ _ hTl5).trans s0, (World.cell?_alloc_past _ _ _ hXl5).trans s1, (World.cell?_alloc_past _ _ _ hXl5).trans s2, (World.cell?_alloc_past _ _ _ hXl5).trans s3, (World.cell?_alloc_past _ _ _ hXl5).trans s4, (World.cell?_alloc_past _ _ _ hXl5).trans s5, (World.cell?_alloc_past _ _ _ hKl5).trans s6⟩ (fun hHeld => ?_)
          clear hK K s0 s1 s2 s3 s4 s5 s6
          refine norm_ (a' := ?_) ?_ ?_
          rotate_left
          · show Act.put _ (some 79) _ = _
            simp only [Act.put, List.setIfInBounds_toArray, List.set_cons_zero, List.set_cons_succ, i64_w, i32_w]
            rfl
          refine one_ (i := 16) (N := (some 80)) #[true, true, true, true, true, true, true, true, true, true, true, true, true, true, true, true, true, false, false] rfl rfl (by kernel_rfl) (by decide) (fun K hK => ?_)
          refine step_grow rfl _ _ 23 rfl w2.heap.size 66 i0 _ 9 120 Tryd.underlying23 hi0 hz0 hz1 hz2 rfl (by decide) (.slice LA ps.length LC) ps.length (ps.flatMap nodeCells) rfl (World.ownsRow.alloc Hts5.out.row _) ⟨_, 0, none⟩ 1 1 (nodeCells ⟨nodeOf x, .slice NA x.names.length NC, .slice none 0 0, .slice none 0 0⟩) rfl rfl (by rw [Hcells.out]; exact cells_new _ _ _ _ (by simp)) (by simp [nodeCells, Value.oneCell', nodeOf]) (by unfold maxLen; omega) (by omega) (by simp; omega) ?_
          intro v' w6 hown' hgrow
          obtain ⟨g', cap', rfl⟩ := ownsRow_succ hown'
          have hgw := grown_two (World.grownBy_alloc W5 _ none) (grown_drew hgrow)
          have hty : ∀ q, (Value.slice LA ps.length LC).ownBlock = some q → ∃ c, W5.heap[q]? = some (.cells c 66) := row_type Hts5.out.row
          have hnT : some w2.heap.size ≠ (Value.slice LA ps.length LC).ownBlock := fun e => by obtain ⟨c, h⟩ := hty _ e.symm; have h2 := Hts5.out.block; rw [h2] at h; cases h
          have hnX : some wr.heap.size ≠ (Value.slice LA ps.length LC).ownBlock := fun e => by obtain ⟨c, h⟩ := hty _ e.symm; have h2 := HX5.out; rw [h2] at h; cases h
          have hnK : some W3.heap.size ≠ (Value.slice LA ps.length LC).ownBlock := fun e => by obtain ⟨c, h⟩ := hty _ e.symm; have h2 := HK5.out; rw [h2] at h; cases h
          obtain ⟨h1, h2, h3⟩ := Hts5.out.addNode (p := ⟨nodeOf x, .slice NA x.names.length NC, .slice none 0 0, .slice none 0 0⟩) HNv5.out rfl rfl rfl rfl hown' hgw
          rw [Hmap.out] at h2
          have hTX : wr.heap.size ≠ w2.heap.size := by omega
          have hX7 := h3.blk HX5.out hTX (by decide) (by decide)
          have hS7 : StackAt _ w2.heap.size (.slice svA st.length svc) st := h3.row HS5.out Hts5.out.block (by decide) (by decide) (by decide)
          have hB7 := HBb5.out.trans h3.below
          have H2 := Lib.hid h2
          have HX7 := Lib.hid hX7
          have HS7 := Lib.hid hS7
          have HB7 := Lib.hid hB7
          obtain ⟨s0, s1, s2, s3, s4, s5, s6⟩ := hHeld
          refine hK.out _ _ ⟨hgrow.cell s0 hnT, hgrow.cell s1 hnX, hgrow.cell s2 hnX, hgrow.cell s3 hnX, hgrow.cell s4 hnX, hgrow.cell s5 hnX, hgrow.cell s6 hnK⟩ (fun hHeld => ?_)
          have g2 : w6.frozen? ⟨w2.heap.size, 0, none⟩ = false := by simp [World.frozen?, h1]
          clear hK K s0 s1 s2 s3 s4 s5 s6 h1 h2 h3 hX7 hS7 hB7 hown' hgrow hgw hty hi0 hz0 hz1 hz2 hnT hnX hnK t0 y0 y1 y2 y3 y4 kk Hts5 HS5 HBb5 HNv5 HX5 HK5
          refine norm_ (a' := ?_) ?_ ?_
          rotate_left
          · show Act.put _ (some 80) _ = _
            simp only [Act.put, List.setIfInBounds_toArray, List.set_cons_zero, List.set_cons_succ, i64_w, i32_w]
            rfl
          refine pure_ (i := 17) (N := (some 81)) (v := ?_) (a' := ?_) #[true, true, true, true, true, true, true, true, true, true, true, true, true, true, true, true, true, true, false] rfl rfl (by kernel_rfl) (fun _ _ _ h => h) (Or.inl ⟨by rfl, ?_⟩) ?_ ?_
          rotate_left
          · intro w'
            go_simp
            with_reducible rfl
          rotate_left
          · simp only [Act.put, List.setIfInBounds_toArray, List.set_cons_zero, List.set_cons_succ, i64_w, i32_w]
            rfl
          refine last_ (i := 18) (N := none) #[true, true, true, true, true, true, true, true, true, true, true, true, true, true, true, true, true, true, true] rfl rfl (by kernel_rfl) (by decide) (fun K hK => ?_)
          refine skip_ (w1 := ?_) (by rfl) rfl ?_ ?_
          rotate_left
          · go_simp
            rfl
          refine hK.out _ _ ?_
          clear hK K hHeld g2
          refine done_ (by kernel_rfl) ?_
          obtain ⟨W7, hW7⟩ : ∃ W7, w6.setCell ⟨w2.heap.size, 0, none⟩ (.slice (some ⟨g', 0, none⟩) (ps.length + 1) cap') = W7 := ⟨_, rfl⟩
          rw [hW7] at H2 HX7 HS7 HB7 ⊢
          clear hW7
          have HA := Lib.hid (add_any w2.heap.size w2.heap.size w2.heap.size w2.heap.size (nodes ++ [nodeOf x]) top st (.slice svA st.length svc) ps.length W7 H2.out HS7.out (by omega)
            (fun y hy => by
              rcases List.mem_append.1 hy with hy | hy
              · have := Hinv.out.lists y hy; omega
              · simp at hy
                subst hy
                exact ⟨Nat.zero_le _, Nat.zero_le _⟩) (by omega)
            (fun o ho => by
              have := Hinv.out.opens o (List.mem_of_getLast? ho)
              dsimp only at this
              rw [List.length_append, List.length_singleton]
              omega) (by simp; omega))
          have HT7 : Hid (∃ cs, W7.heap[w2.heap.size]? = some (.cells cs 26)) := Lib.hid (by obtain ⟨_, _, _, _, _, h⟩ := H2.out; exact ⟨_, h.block⟩)
          clear H2
          go_wp2_with fail
          refine (HA.out).mono ?_
          rintro e w8 ⟨rfl, ht8, hf8⟩
          have hX8 := hf8.blk HX7.out hTX (by decide) (by decide)
          have hS8 : StackAt w8 w2.heap.size (.slice svA st.length svc) st := by
            obtain ⟨cs, h⟩ := HT7.out
            exact hf8.row HS7.out h (by decide) (by decide) (by decide)
          have Ht8 := Lib.hid ht8
          have HX8 := Lib.hid hX8
          have HS8 := Lib.hid hS8
          have HB8 := Lib.hid (HB7.out.trans hf8.below)
          have y0 : w8.cell? ⟨wr.heap.size, 0, none⟩ = some (.int .u8 kn) := by have := HX8.out; simp [World.cell?, this, Hkn.out]
          have hsz8 : w2.heap.size ≤ w8.heap.size := HB8.out.size
          clear ht8 hX8 hS8 hf8 HA HX7 HS7 HB7 HT7 HX8
          have HRun : Hid (runR r0 (ws.take (k + 1)) = .ok ⟨(addF (nodes ++ [nodeOf x]) top st ps.length).1, (addF (nodes ++ [nodeOf x]) top st ps.length).2, st⟩) := Lib.hid (by
            rw [runR_next hrun.out.run Hx1.out]
            unfold stepR
            rw [if_neg H3.out, if_neg H5.out, if_neg (fun h => Hno.out h.1), if_neg Hno.out, hnl])
          go_wp2
          go_roundw
          case rel =>
            exact ⟨k + 1, _, by omega, by go_num, Lib.hid ⟨HRun.out, Ht8.out, HS8.out, HB8.out⟩⟩
          case measure => simp [intOf]; omega
end Go.Proofs.YtcggeaobonblfaaDoor

/- bobbinlaw14: awake; the tree of any template is the reference's: walked. -/
namespace Go.Proofs.YtcggeaobonblfaaDoor
set_option linter.unusedSimpArgs false
set_option linter.unusedVariables false
open Go Go.RowKit Go.Proofs.YtcggeaobonblfaaDoorW.PrintWords Go.Proofs.YtcggeaobonblfaaDoor.PParseTrees
theorem ref_bounds {s : List UInt8} {top : List Int} {nodes : List Node} (h : refParse s = .ok (top, nodes)) : nodes.length ≤ 100000 ∧ top.length ≤ 100000 ∧ ∀ x ∈ nodes, x.names.length ≤ 100000 ∧ x.body.length ≤ 100000 ∧ x.els.length ≤ 100000 := by
  unfold refParse at h
  by_cases h1 : 65536 < s.length
  · rw [if_pos h1] at h; cases h
  rw [if_neg h1] at h
  by_cases h2 : 0 ≤ (lexW 0 s).2
  · rw [if_pos h2] at h; cases h
  rw [if_neg h2] at h
  have hs := lexF_short (s.length + 1) 0 s
  obtain ⟨ws, bad, hL⟩ : ∃ a b, lexW 0 s = (a, b) := ⟨_, _, rfl⟩
  have hL' : lexF (s.length + 1) 0 s = (ws, bad) := hL
  rw [hL'] at hs
  rw [hL] at h
  obtain ⟨h3, h4⟩ := hs
  dsimp only at h3 h4 h
  unfold stackR at h
  cases hr : runR r0 ws with
  | error f => rw [hr] at h; cases h
  | ok r =>
    rw [hr] at h
    have hi := runR_inv ws 0 r0 r r0_inv hr
    have hn := runR_names (m := 8) ws r0 r (fun x hx => by cases hx) h4 hr
    have h5 : finR r = .ok (top, nodes) := h
    unfold finR at h5
    cases hl : r.st.getLast? with
    | some o => rw [hl] at h5; cases h5
    | none =>
      rw [hl] at h5
      have h6 : (r.top, r.nodes) = (top, nodes) := Except.ok.inj h5
      have e1 : r.top = top := congrArg Prod.fst h6
      have e2 : r.nodes = nodes := congrArg Prod.snd h6
      obtain ⟨a, b, c, -, -⟩ := hi
      rw [← e1, ← e2]
      exact ⟨by omega, by omega, fun x hx => by have := hn x hx; have := c x hx; omega⟩
theorem way_C {W : World} {base : Nat} {v : Value} {names : List (List UInt8)} (h : WayAt W base v names) (hl : names.length ≤ 100000) : ∃ A c, v = .slice A names.length c ∧ names.length ≤ c ∧ StrsC W A (names.map toB) :=
  names_C (way_rd h (Nat.le_refl _)) hl
/-- The program's tree can be read. -/
theorem treeAt_C {W : World} {base : Nat} {nv tv : Value} {nodes : List Node} {top : List Int} (h : TreeAt W base nv tv nodes top) (h1 : nodes.length ≤ 100000) (h2 : top.length ≤ 100000) (h3 : ∀ x ∈ nodes, x.names.length ≤ 100000 ∧ x.body.length ≤ 100000 ∧ x.els.length ≤ 100000) :
    ∃ A c B d, nv = .slice A nodes.length c ∧ tv = .slice B top.length d ∧ TreeC W A c (nodes.map toN) B d top := by
  obtain ⟨⟨ps, hmap, hr, hp⟩, ht⟩ := h
  subst hmap
  exact tree_C hr ht (fun p hpm => by
    obtain ⟨a, b, c⟩ := hp p hpm
    exact ⟨way_C a (h3 p.x (List.mem_map_of_mem hpm)).1, b, c⟩) (by simpa using h1) h2 (fun p hpm => h3 p.x (List.mem_map_of_mem hpm))
theorem tree_none (W : World) : TreeC W none 0 [] none 0 [] :=
  ⟨⟨rfl, by simp, fun h => absurd h (Nat.lt_irrefl _)⟩, Nat.le_refl _, ⟨rfl, by simp, fun h => absurd h (Nat.lt_irrefl _)⟩, Nat.le_refl _, by simp, by simp, fun x hx => by cases hx⟩
theorem nodeB_refl (x : S66) : nodeB x x = true := by unfold nodeB; simp
theorem sameB_refl (l : List S66) (t : List Int) : sameB l t l t = true := by
  unfold sameB alikeB
  rw [Bool.and_eq_true, decide_eq_true_eq, decide_eq_true_eq]
  exact ⟨⟨rfl, rfl, fun i _ => nodeB_refl _⟩, fun i _ => rfl⟩
theorem awake_tree : ∃ x, parseF [123, 123, 120, 125, 125] = .ok ([0], [x]) ∧ x.kind = 1 := ⟨⟨1, 0, [], false, [[120]], [], [], false, 0⟩, by kernel_rfl, rfl⟩
set_option maxRecDepth 100000 in
set_option maxHeartbeats 2000000 in
theorem awake_any (w : World) (hm : MaxLenAt w) : Calls Tryd.prog 8 #[] w fun e w' => e = .returned (.bool true) ∧ Below w.heap.size w w' := by
  have HP := parse_any [123, 123, 120, 125, 125] w (by decide) hm
  obtain ⟨x, hx, hk⟩ := awake_tree
  rw [hx] at HP
  have HP' := Lib.hid HP
  clear HP hx
  go_enter Tryd.func8, Tryd.ntmps8
  go_wp2_with fail
  refine (HP'.out).mono ?_
  rintro e w2 ⟨nv, tv, rfl, ⟨⟨ps, hmap, hr, hp⟩, ht⟩, hb⟩
  obtain ⟨TA, TC, rfl⟩ := ints_slice ht
  obtain ⟨p, hps⟩ : ∃ p, ps = [p] := by
    match ps, hmap with
    | [p], _ => exact ⟨p, rfl⟩
  subst hps
  have hpx : p.x = x := by simpa using hmap
  obtain ⟨g, cap, rfl, -, hgl, pc0⟩ := row_cell hr (0 * 9 + 0) _ (by rw [flat9 [p] 0 p rfl 0 (by omega)]; rfl)
  rw [hpx, hk] at pc0
  have k0 : w2.cell? ⟨g, 0, none⟩ = some (.int .u8 1) := by simpa using pc0
  have Hb := Lib.hid hb
  clear hr hp ht hb HP' hmap pc0 hpx
  go_wp2
  go_ret
  exact ⟨rfl, Hb.out.alloc Hb.out.size _⟩
theorem box_two {W : World} {g : Nat} {a b : Value} {t : TypeId} (h : W.heap[g]? = some (.cells #[a, b] t)) : W.cell? ⟨g, 0, none⟩ = some a ∧ W.cell? ⟨g, 1, none⟩ = some b := by
  simp [World.cell?, h]
set_option maxRecDepth 100000 in
set_option maxHeartbeats 2000000 in
theorem parseTrees_any (s : List UInt8) (w : World) (hs : s.length ≤ 140737488351232) (hm : MaxLenAt w) :
    Calls Tryd.prog 3 #[.string ⟨s.toArray⟩] w fun e w' => e = .returned (.bool true) ∧ Below w.heap.size w w' := by
  have HA := Lib.hid (awake_any w hm)
  have Hm := Lib.hid hm
  clear hm
  go_enter Tryd.func3, Tryd.ntmps3
  go_wp2_with fail
  refine (HA.out).mono ?_
  rintro e w1 ⟨rfl, hb1⟩
  have HP := Lib.hid (parse_any s w1 hs (Hm.out.below hb1))
  have HB1 := Lib.hid hb1
  have hz1 := hb1.size
  clear hb1 HA Hm
  go_wp2_with fail
  cases hF : parseF s with
  | error f =>
    rw [hF] at HP
    refine (HP.out).mono ?_
    rintro e w2 ⟨rfl, hb2⟩
    have HR := Lib.hid (refParse_any s (w2.alloc (.cells #[.slice none 0 0, .slice none 0 0] 26)) hs)
    rw [← parse_ref, hF] at HR
    have HB2 := Lib.hid (HB1.out.trans (hb2.mono hz1))
    have hz2 := HB2.out.size
    clear hb2 HP hF
    go_wp2_with fail
    refine (HR.out).mono ?_
    rintro e w3 ⟨rfl, hb3⟩
    have k3 : w3.heap[w2.heap.size]? = some (.cells #[.slice none 0 0, .slice none 0 0] 26) := box_later (World.alloc_heap_new w2 _) hb3
    obtain ⟨z0, z1⟩ := box_two k3
    have HB3 : Hid (Below w.heap.size w w3) := Lib.hid ((HB2.out.alloc hz2 _).trans (hb3.mono (by simp; omega)))
    have hz3 := HB3.out.size
    have hl3 : w2.heap.size < w3.heap.size := World.heap_lt k3
    have HS := Lib.hid (same_any none 0 [] none 0 [] none 0 [] none 0 [] (w3.alloc (.cells #[.slice none 0 0, .slice none 0 0] 26)) (tree_none _) (tree_none _))
    have hsr : sameB [] [] [] [] = true := sameB_refl [] []
    rw [hsr] at HS
    clear hb3 k3 HR hsr
    go_wp2_with fail
    refine (HS.out).mono ?_
    rintro e w4 ⟨rfl, hb4⟩
    have HB4 : Hid (Below w.heap.size w w4) := Lib.hid ((HB3.out.alloc hz3 _).trans (hb4.mono (by simp; omega)))
    clear hb4 HS
    go_wp2
    go_ret
    exact ⟨rfl, HB4.out⟩
  | ok r =>
    obtain ⟨top, nodes⟩ := r
    rw [hF] at HP
    obtain ⟨n1, n2, n3⟩ := ref_bounds (s := s) (by rw [← parse_ref]; exact hF)
    refine (HP.out).mono ?_
    rintro e w2 ⟨nv, tv, rfl, htr, hb2⟩
    obtain ⟨A, c, B, d, rfl, rfl, hC⟩ := treeAt_C htr n1 n2 n3
    have HR := Lib.hid (refParse_any s (w2.alloc (.cells #[.slice A nodes.length c, .slice B top.length d] 26)) hs)
    rw [← parse_ref, hF] at HR
    have HB2 := Lib.hid (HB1.out.trans (hb2.mono hz1))
    have hz2 := HB2.out.size
    have HC := Lib.hid hC
    clear hb2 HP hF htr hC
    go_wp2_with fail
    refine (HR.out).mono ?_
    rintro e w3 ⟨A', c', B', d', rfl, hC', hb3⟩
    have k3 : w3.heap[w2.heap.size]? = some (.cells #[.slice A nodes.length c, .slice B top.length d] 26) := box_later (World.alloc_heap_new w2 _) hb3
    obtain ⟨z0, z1⟩ := box_two k3
    have HB3 : Hid (Below w.heap.size w w3) := Lib.hid ((HB2.out.alloc hz2 _).trans (hb3.mono (by simp; omega)))
    have hz3 := HB3.out.size
    have hl3 : w2.heap.size < w3.heap.size := World.heap_lt k3
    have hb23 : Below w2.heap.size w2 w3 := ((Below.refl _ _).alloc (Nat.le_refl _) _).trans (hb3.mono (by simp))
    have e1 : (nodes.map toN).length = nodes.length := by simp
    have hS := same_any A c (nodes.map toN) B d top A' c' (nodes.map toN) B' d' top (w3.alloc (.cells #[.slice A' nodes.length c', .slice B' top.length d'] 26))
      (HC.out.below (hb23.trans ((Below.refl w2.heap.size w3).alloc (by omega) _))) (hC'.below ((Below.refl _ _).alloc (Nat.le_refl _) _))
    rw [sameB_refl, e1] at hS
    have HS := Lib.hid hS
    clear hb3 k3 HR hS hC' hb23 HC e1
    go_wp2_with fail
    refine (HS.out).mono ?_
    rintro e w4 ⟨rfl, hb4⟩
    have HB4 : Hid (Below w.heap.size w w4) := Lib.hid ((HB3.out.alloc hz3 _).trans (hb4.mono (by simp; omega)))
    clear hb4 HS
    go_wp2
    go_ret
    exact ⟨rfl, HB4.out⟩
end Go.Proofs.YtcggeaobonblfaaDoor
