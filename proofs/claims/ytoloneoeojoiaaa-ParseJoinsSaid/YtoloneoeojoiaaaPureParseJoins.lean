/- Two texts, one behind the other, declare what both do: the walk of the law; no condition. -/
import Derived.Test.YtoloneoeojoiaaaPar8
namespace Go.Proofs.Ytoloneoeojoiaaa.EParseOwn
open Go.RowKit Go.Shelf Go.Proofs.YtoloneoeojoiaaaW.PrintWords Go.Proofs.YtoloneoeojoiaaaW.PrintLast Go.Proofs.YtoloneoeojoiaaaW.PrintMore
set_option linter.unusedVariables false
set_option linter.unusedSimpArgs false
def shT (d : Int) (t : S31) : S31 := ⟨t.f0, t.f1, t.f2 + d⟩
theorem sk_shift (d : Int) : ∀ (s : List UInt8) (b : Bool) (l : Int), sk b s (l + d) = ((sk b s l).1, (sk b s l).2 + d)
  | [], b, l => by cases b <;> simp [sk]
  | c :: t, b, l => by
    have h0 := fun l => sk_shift d t false l
    have h1 := fun l => sk_shift d t true l
    cases b
    · unfold sk
      split
      · rw [show l + d + 1 = l + 1 + d by omega]; exact h0 _
      · split
        · exact h1 _
        · split
          · exact h0 _
          · rfl
    · unfold sk
      split
      · rw [show l + d + 1 = l + 1 + d by omega]; exact h0 _
      · exact h1 _
theorem next_shift (d : Int) (s : List UInt8) (l : Int) : (nextL s (l + d)).2 = (nextL s l).2 ∧ ((nextL s l).2.1 = 0 → (nextL s (l + d)).1 = shT d (nextL s l).1) := by
  unfold nextL
  split
  · exact ⟨rfl, fun _ => rfl⟩
  · split
    · exact ⟨rfl, fun h => absurd (show (32 : Int) = 0 from h) (by decide)⟩
    · exact ⟨rfl, fun _ => rfl⟩
/-- The three, that many lines on. -/
def shR (d : Int) (r : List S31 × Int × Int) : List S31 × Int × Int := (r.1.map (shT d), if r.2.2 = 0 then r.2.1 else r.2.1 + d, r.2.2)
theorem toks_shift (d : Int) (n : Nat) : ∀ (s : List UInt8) (l : Int) (out : List S31), toksL n s (l + d) (out.map (shT d)) = shR d (toksL n s l out) := by
  induction n with
  | zero => intro s l out; rfl
  | succ n ih =>
    intro s l out
    rw [toksL_step, toksL_step, sk_shift]
    show tokStep n (sk false s l).1 ((sk false s l).2 + d) _ = _
    generalize (sk false s l).1 = r
    generalize (sk false s l).2 = l2
    unfold tokStep
    by_cases hr : r = []
    · rw [if_pos hr, if_pos hr]; rfl
    · rw [if_neg hr, if_neg hr]
      obtain ⟨e1, e2⟩ := next_shift d r l2
      rw [e1]
      by_cases he : (nextL r l2).2.1 = 0
      · rw [if_pos he, if_pos he, e2 he, ← ih]
        simp
      · rw [if_neg he, if_neg he]
        unfold shR
        simp only []
        rw [if_neg he]; rfl
theorem toks_zero (n : Nat) : ∀ (s : List UInt8) (l : Int) (out : List S31), (toksL n s l out).2.2 = 0 → (toksL n s l out).2.1 = 0 := by
  induction n with
  | zero => intro s l out h; rfl
  | succ n ih =>
    intro s l out
    rw [toksL_step]
    unfold tokStep
    split
    · intro _; rfl
    · split
      · exact ih _ _ _
      · rename_i h; intro h2; exact absurd h2 h
/-! Two texts, one behind the other. -/
theorem part10' : partB 10 = false := by decide +kernel
theorem sk_app (b : List UInt8) : ∀ (s : List UInt8) (m : Bool) (l : Int), ((sk m s l).1 = [] → ∃ l2, l ≤ l2 ∧ sk m (s ++ 10 :: b) l = sk false b l2) ∧ ((sk m s l).1 ≠ [] → sk m (s ++ 10 :: b) l = ((sk m s l).1 ++ 10 :: b, (sk m s l).2) ∧ l ≤ (sk m s l).2)
  | [], m, l => by
    cases m
    · refine ⟨fun _ => ⟨l + 1, by omega, ?_⟩, fun h => absurd rfl h⟩
      show sk false (10 :: b) l = _
      simp [sk]
    · refine ⟨fun _ => ⟨l + 1, by omega, ?_⟩, fun h => absurd rfl h⟩
      show sk true (10 :: b) l = _
      simp [sk]
  | c :: t, m, l => by
    have h0 := fun l => sk_app b t false l
    have h1 := fun l => sk_app b t true l
    have up : ∀ (m' : Bool) (l l' : Int), l' ≤ l → (((sk m' t l).1 = [] → ∃ l2, l ≤ l2 ∧ sk m' (t ++ 10 :: b) l = sk false b l2) ∧ ((sk m' t l).1 ≠ [] → sk m' (t ++ 10 :: b) l = ((sk m' t l).1 ++ 10 :: b, (sk m' t l).2) ∧ l ≤ (sk m' t l).2)) → ((sk m' t l).1 = [] → ∃ l2, l' ≤ l2 ∧ sk m' (t ++ 10 :: b) l = sk false b l2) ∧ ((sk m' t l).1 ≠ [] → sk m' (t ++ 10 :: b) l = ((sk m' t l).1 ++ 10 :: b, (sk m' t l).2) ∧ l' ≤ (sk m' t l).2) := by
      intro m' l l' hl h
      refine ⟨fun e => ?_, fun e => ?_⟩
      · obtain ⟨l2, h2, h3⟩ := h.1 e; exact ⟨l2, by omega, h3⟩
      · obtain ⟨h2, h3⟩ := h.2 e; exact ⟨h2, by omega⟩
    cases m
    · simp only [List.cons_append, sk]
      by_cases c1 : c = 10
      · simp only [if_pos c1]; exact up false (l + 1) l (by omega) (h0 (l + 1))
      · simp only [if_neg c1]
        by_cases c2 : c = 35
        · simp only [if_pos c2]; exact h1 l
        · simp only [if_neg c2]
          by_cases c3 : blankB c = true
          · simp only [if_pos c3]; exact h0 l
          · simp only [if_neg c3]
            exact ⟨(fun e => by cases e), fun _ => ⟨rfl, Int.le_refl _⟩⟩
    · simp only [List.cons_append, sk]
      by_cases c1 : c = 10
      · simp only [if_pos c1]; exact up false (l + 1) l (by omega) (h0 (l + 1))
      · simp only [if_neg c1]; exact h1 l
theorem tw_app (p : UInt8 → Bool) (c : UInt8) (b : List UInt8) (hc : p c = false) : ∀ s : List UInt8, (s ++ c :: b).takeWhile p = s.takeWhile p
  | [] => by simp [List.takeWhile_cons, hc]
  | x :: t => by
    rw [List.cons_append, List.takeWhile_cons, List.takeWhile_cons, tw_app p c b hc t]
theorem next_app (c : UInt8) (t b : List UInt8) (l : Int) : nextL ((c :: t) ++ 10 :: b) l = ((nextL (c :: t) l).1, (nextL (c :: t) l).2.1, (nextL (c :: t) l).2.2 ++ 10 :: b) := by
  have hr : runL ((c :: t) ++ 10 :: b) = runL (c :: t) := tw_app partB 10 b part10' (c :: t)
  have hl : (runL (c :: t)).length ≤ (c :: t).length := tw_len _ _
  unfold nextL
  rw [hr]
  have hh : ((c :: t) ++ 10 :: b).headD 0 = (c :: t).headD 0 := rfl
  rw [hh]
  by_cases h1 : signB ((c :: t).headD 0) = true
  · rw [if_pos h1, if_pos h1]; rfl
  · rw [if_neg h1, if_neg h1]
    by_cases h2 : runL (c :: t) = []
    · rw [if_pos h2, if_pos h2]
    · rw [if_neg h2, if_neg h2, List.drop_append_of_le_length hl]
theorem toks_join (b : List UInt8) : ∀ (n : Nat) (s : List UInt8) (l : Int) (out : List S31), s.length < n → (toksL n s l out).2.2 = 0 → ∃ l2, l ≤ l2 ∧ ∀ m, (s ++ 10 :: b).length < m → toksL m (s ++ 10 :: b) l out = toksL m b l2 (toksL n s l out).1
  | 0, s, l, out, h, _ => by omega
  | n + 1, s, l, out, h, he => by
    rw [toksL_step] at he ⊢
    have hsk := sk_app b s false l
    have hsl := sk_len s false l
    generalize hr : (sk false s l).1 = r at hsk hsl he ⊢
    generalize hl2 : (sk false s l).2 = q at hsk hsl he ⊢
    cases r with
    | nil =>
      obtain ⟨l2, h1, h2⟩ := hsk.1 rfl
      refine ⟨l2, h1, fun m hm => ?_⟩
      obtain ⟨m, rfl⟩ : ∃ k, m = k + 1 := ⟨m - 1, by omega⟩
      rw [toksL_step, toksL_step, h2]
      unfold tokStep
      rfl
    | cons c t =>
      obtain ⟨h1, h1'⟩ := hsk.2 (by simp)
      unfold tokStep at he ⊢
      rw [if_neg (by simp)] at he ⊢
      by_cases hz : (nextL (c :: t) q).2.1 = 0
      · rw [if_pos hz] at he ⊢
        have hn := next_len c t q hz
        simp at hsl
        obtain ⟨l2, h3, h4⟩ := toks_join b n (nextL (c :: t) q).2.2 q (out ++ [(nextL (c :: t) q).1]) (by omega) he
        refine ⟨l2, by omega, fun m hm => ?_⟩
        obtain ⟨m, rfl⟩ : ∃ k, m = k + 1 := ⟨m - 1, by omega⟩
        rw [toksL_step, h1]
        unfold tokStep
        show (if (c :: t) ++ 10 :: b = [] then _ else _) = _
        rw [if_neg (by simp)]
        show (if (nextL ((c :: t) ++ 10 :: b) q).2.1 = 0 then _ else _) = _
        rw [next_app, if_pos hz]
        simp at hm
        have h5 := h4 m (by simp; omega)
        show toksL m ((nextL (c :: t) q).2.2 ++ 10 :: b) q (out ++ [(nextL (c :: t) q).1]) = _
        rw [h5]
        exact toksL_fuel m (m + 1) b l2 _ (by omega) (by omega)
      · rw [if_neg hz] at he
        exact absurd he hz
theorem toks_out (n : Nat) : ∀ (s : List UInt8) (l : Int) (o out : List S31), toksL n s l (o ++ out) = if (toksL n s l out).2.2 = 0 then (o ++ (toksL n s l out).1, (toksL n s l out).2) else toksL n s l out := by
  induction n with
  | zero => intro s l o out; rfl
  | succ n ih =>
    intro s l o out
    rw [toksL_step, toksL_step]
    generalize (sk false s l).1 = r
    generalize (sk false s l).2 = q
    unfold tokStep
    by_cases hr : r = []
    · rw [if_pos hr, if_pos hr]; rfl
    · rw [if_neg hr, if_neg hr]
      by_cases hz : (nextL r q).2.1 = 0
      · rw [if_pos hz, if_pos hz, List.append_assoc]
        exact ih _ _ _ _
      · rw [if_neg hz, if_neg hz, if_neg hz]
theorem toks_good (s : List UInt8) (h : (tokF (txt s)).2.2 = 0) : s.length ≤ 65536 ∧ tokF (txt s) = toksL (s.length + 1) s 1 [] := by
  have e := tok_f (txt s)
  by_cases hs : s.length ≤ 65536
  · rw [toks_f s hs] at e
    injection e with e
    exact ⟨hs, e.symm⟩
  · rw [toks_big s hs] at e
    injection e with e
    rw [← e] at h
    exact absurd h (by show ¬ (5 : Int) = 0; decide)
theorem tok_join (a b : List UInt8) (ha : (tokF (txt a)).2.2 = 0) (hb : (tokF (txt b)).2.2 = 0) (hl : (a ++ 10 :: b).length ≤ 65536) : ∃ d : Int, 0 ≤ d ∧ tokF (txt (a ++ 10 :: b)) = ((tokF (txt a)).1 ++ (tokF (txt b)).1.map (shT d), 0, 0) := by
  obtain ⟨_, ea⟩ := toks_good a ha
  obtain ⟨_, eb⟩ := toks_good b hb
  rw [ea] at ha ⊢
  rw [eb] at hb ⊢
  obtain ⟨l2, h1, h2⟩ := toks_join b (a.length + 1) a 1 [] (by omega) ha
  have h3 := h2 ((a ++ 10 :: b).length + 1) (by omega)
  have e := tok_f (txt (a ++ 10 :: b))
  rw [toks_f _ hl] at e
  injection e with e
  refine ⟨l2 - 1, by omega, ?_⟩
  rw [← e, h3]
  have h4 := toks_shift (l2 - 1) ((a ++ 10 :: b).length + 1) b 1 []
  rw [show (1 : Int) + (l2 - 1) = l2 by omega, List.map_nil, toksL_fuel ((a ++ 10 :: b).length + 1) (b.length + 1) b 1 [] (by simp; omega) (by omega)] at h4
  have h5 := toks_out ((a ++ 10 :: b).length + 1) b l2 (toksL (a.length + 1) a 1 []).1 []
  rw [List.append_nil, h4] at h5
  rw [h5]
  have hz := toks_zero _ _ _ _ hb
  unfold shR
  show (if (toksL (b.length + 1) b 1 []).2.2 = 0 then _ else _) = _
  rw [if_pos hb]
  show (_, (if (toksL (b.length + 1) b 1 []).2.2 = 0 then (toksL (b.length + 1) b 1 []).2.1 else _), (toksL (b.length + 1) b 1 []).2.2) = _
  rw [if_pos hb, hz, hb]
theorem check_shift (d : Int) (h : 0 ≤ d) (t : S31) (ht : checkT t = 0) : checkT (shT d t) = 0 := by
  obtain ⟨k, x, n⟩ := t
  show checkT ⟨k, x, n + d⟩ = 0
  unfold checkT at ht ⊢
  simp only [] at ht ⊢
  by_cases h1 : k < 1
  · rw [if_pos h1] at ht; exact absurd ht (by decide)
  rw [if_neg h1] at ht ⊢
  by_cases h2 : k > 3
  · rw [if_pos h2] at ht; exact absurd ht (by decide)
  rw [if_neg h2] at ht ⊢
  by_cases h3 : (tokF x).2.2 ≠ 0
  · rw [if_pos h3] at ht; exact absurd ht (by decide)
  rw [if_neg h3] at ht ⊢
  by_cases h4 : (tokF x).1.length ≠ 1
  · rw [if_pos h4] at ht; exact absurd ht (by decide)
  rw [if_neg h4] at ht ⊢
  have e : isTok (tokF x).1 ⟨k, x, n + d⟩ = isTok (tokF x).1 ⟨k, x, n⟩ := rfl
  rw [e]
  by_cases h5 : isTok (tokF x).1 ⟨k, x, n⟩ = false
  · rw [if_pos h5] at ht; exact absurd ht (by decide)
  rw [if_neg h5] at ht ⊢
  by_cases h6 : n < 1
  · rw [if_pos h6] at ht; exact absurd ht (by decide)
  rw [if_neg (by omega)]
theorem sim_shift (d : Int) (h : 0 ≤ d) : ∀ l : List S31, Good l → Sim l (l.map (shT d)) ∧ Good (l.map (shT d))
  | [], _ => ⟨.nil, fun x hx => absurd hx (by simp)⟩
  | t :: l, hg => by
    obtain ⟨h1, h2⟩ := sim_shift d h l (fun x hx => hg x (List.mem_cons_of_mem _ hx))
    have h3 := hg t List.mem_cons_self
    have h4 := check_shift d h t h3
    refine ⟨.cons ⟨rfl, rfl⟩ h3 h4 h1, fun x hx => ?_⟩
    rcases List.mem_cons.1 hx with rfl | hx
    · exact h4
    · exact h2 x hx
def joinS (x y : S40) : S40 := ⟨x.f0 ++ y.f0, x.f1 ++ y.f1, x.f2 ++ y.f2⟩
theorem join_add (x y : S40) (d : DeclT) : addS (joinS x y) d = joinS x (addS y d) := by
  cases d <;> simp [addS, joinS, List.append_assoc]
theorem join_adds : ∀ (d : List DeclT) (x y : S40), d.foldl addS (joinS x y) = joinS x (d.foldl addS y)
  | [], x, y => rfl
  | a :: d, x, y => by rw [List.foldl_cons, join_add, join_adds d, List.foldl_cons]
theorem text_ok {s : ByteArray} {x : S40} {i : Int} (h : textF s = (x, i, 0)) : (tokF s).2.2 = 0 ∧ parseF (tokF s).1 = (x, i, 0) := by
  unfold textF at h
  by_cases hz : (tokF s).2.2 = 0
  · rw [if_pos hz] at h; exact ⟨hz, h⟩
  · rw [if_neg hz] at h
    injection h with h1 h2
    injection h2 with h2 h3
    exact absurd h3 hz
theorem join_law (a b : List UInt8) (x y : S40) (i j : Int) (ha : textF (txt a) = (x, i, 0)) (hb : textF (txt b) = (y, j, 0)) :
    (60000 < a.length + b.length ∧ textF (txt (a ++ 10 :: b)) = (x0, 0, 5)) ∨ (∃ k, textF (txt (a ++ 10 :: b)) = (x0, k, 3)) ∨ textF (txt (a ++ 10 :: b)) = (joinS x y, 0, 0) := by
  obtain ⟨ta, pa⟩ := text_ok ha
  obtain ⟨tb, pb⟩ := text_ok hb
  by_cases hl : (a ++ 10 :: b).length ≤ 65536
  · right
    obtain ⟨d, hd, ht⟩ := tok_join a b ta tb hl
    obtain ⟨_, ga, da, sa, ea, xa⟩ := parse_ok pa
    obtain ⟨_, gb, db, ⟨rb, kb⟩, eb, xb⟩ := parse_ok pb
    obtain ⟨hsim, hgs⟩ := sim_shift d hd _ gb
    have hg : Good ((tokF (txt a)).1 ++ (tokF (txt b)).1.map (shT d)) := fun z hz => by
      rcases List.mem_append.1 hz with hz | hz
      · exact ga z hz
      · exact hgs z hz
    have hT : textF (txt (a ++ 10 :: b)) = parseF ((tokF (txt a)).1 ++ (tokF (txt b)).1.map (shT d)) := by
      unfold textF
      rw [ht]; rfl
    obtain ⟨hlen, hj⟩ := decls_join 64 (tokF (txt a)).1 1 da sa ga ea
    have hj := hj ((tokF (txt b)).1.map (shT d))
    have hlin := decls_lin 64 _ _ 1 (lastL 1 (tokF (txt a)).1) hsim
    rw [eb] at hlin
    rcases hq : declsP 64 ((tokF (txt b)).1.map (shT d), lastL 1 (tokF (txt a)).1) with c | ⟨d', st'⟩
    · rw [hq] at hlin; exact hlin.elim
    · rw [hq] at hlin
      obtain ⟨e1, _⟩ := hlin
      have e1 : db = d' := e1
      subst e1
      rw [hT]
      unfold parseF
      rw [good_none _ hg]
      rcases decls_less 64 (64 - da.length) _ db st' hq with h | ⟨q, h⟩
      · rw [hj, h]
        right
        show ((da ++ db).foldl addS x0, (0 : Int), (0 : Int)) = _
        rw [List.foldl_append, ← xa]
        have : x = joinS x x0 := by simp [joinS, x0]
        rw [this, join_adds, ← xb, ← this]
      · rw [hj, h]
        exact .inl ⟨_, rfl⟩
  · left
    refine ⟨by simp at hl; omega, ?_⟩
    have e := tok_f (txt (a ++ 10 :: b))
    rw [toks_big _ hl] at e
    injection e with e
    unfold textF
    rw [← e]; rfl
theorem F_from {α : Type} {d : Kd α} {w w1 : World} {A : Option Addr} {n : Nat} {xs : List α} (hd : Kd.Heap d) (h : d.C w A n xs) (hb : Below w.heap.size w w1) : Kd.F d w1 (fun k => k < w.heap.size) A n xs := fun W' hW => hd.C (fun k hlt => (hW k hlt (Nat.lt_of_lt_of_le hlt hb.size)).trans (hb.block k hlt)) h
theorem grown_none {w w1 : World} (h : w.grownBy w1 (Value.slice none 0 0).ownBlock) : Below w.heap.size w w1 := ⟨h.os, h.tape, h.output, h.size, fun k hk => h.block k hk (by simp [Value.ownBlock])⟩
theorem grown_new {w w1 : World} {B : Nat} {v : Value} (h : w.grownBy w1 v.ownBlock) (hv : ∀ k, v.ownBlock = some k → B ≤ k) (hB : B ≤ w.heap.size) : Below B w w1 := ⟨h.os, h.tape, h.output, h.size, fun k hk => h.block k (Nat.lt_of_lt_of_le hk hB) (fun e => by have := hv k e.symm; omega)⟩
def tNL : ByteArray := ⟨#[10]⟩
theorem isSch.cs {x : S40} {b : Nat} {w : World} {v : Value} (h : isSch x b w v) : ∃ A1 c1 A2 c2 A3 c3, v = .agg #[.slice A1 x.f0.length c1, .slice A2 x.f1.length c2, .slice A3 x.f2.length c3] ∧ (Kd.C k47 w A1 x.f0.length x.f0 ∧ Kd.C k86 w A2 x.f1.length x.f1 ∧ Kd.C k91 w A3 x.f2.length x.f2) := by
  obtain ⟨a, b, c, rfl, h1, h2, h3⟩ := h
  obtain ⟨A1, c1, rfl⟩ := Kd.R_slice h1
  obtain ⟨A2, c2, rfl⟩ := Kd.R_slice h2
  obtain ⟨A3, c3, rfl⟩ := Kd.R_slice h3
  exact ⟨A1, c1, A2, c2, A3, c3, rfl, (Kd.R_reads' h1).2.2, (Kd.R_reads' h2).2.2, (Kd.R_reads' h3).2.2⟩
def sch3 (x : S40) (w : World) (A1 A2 A3 : Option Addr) : Prop := Kd.C k47 w A1 x.f0.length x.f0 ∧ Kd.C k86 w A2 x.f1.length x.f1 ∧ Kd.C k91 w A3 x.f2.length x.f2
theorem sch3.below {x : S40} {w w1 : World} {A1 A2 A3 : Option Addr} (h : sch3 x w A1 A2 A3) (hb : Below w.heap.size w w1) : sch3 x w1 A1 A2 A3 := ⟨Kd.C_below h.1 hb, Kd.C_below h.2.1 hb, Kd.C_below h.2.2 hb⟩
set_option maxHeartbeats 16000000 in
set_option maxRecDepth 100000 in
theorem ParseJoins.calls (a b : ByteArray) (w : World) (K : Nat) (x y z : S40) (xi xe yi ye zi ze : Int) (hX : textF a = (x, xi, xe)) (hY : textF b = (y, yi, ye)) (hZ : textF (a ++ tNL ++ b) = (z, zi, ze))
    (hne : xe ≠ 0 ∨ ye ≠ 0 → x.f0.length = 0 ∨ y.f0.length = 0) (hsz : xe = 0 → ye = 0 → a.size ≤ 65536 ∧ b.size ≤ 65536) (hlaw : xe = 0 → ye = 0 → ze ≠ 0 → ze = 3 ∨ 60000 < a.size + b.size) (hz : xe = 0 → ye = 0 → ze = 0 → z = joinS x y) (hl : (x.f0.length ≤ 64 ∧ x.f1.length ≤ 64 ∧ x.f2.length ≤ 64) ∧ (y.f0.length ≤ 64 ∧ y.f1.length ≤ 64 ∧ y.f2.length ≤ 64))
    (hT : ∀ s ∈ z.f0, ∀ f ∈ s.f1, waybillplain_SameType.f K f.f2.f0 f.f2.f1 f.f2.f2 f.f2.f0 f.f2.f1 f.f2.f2 = some true)
    (hM : ∀ s ∈ z.f2, ∀ f ∈ s.f1, waybillplain_SameMethod.f K f.f0 f.f1 f.f2.f0 f.f2.f1 f.f2.f2 f.f3.f0 f.f3.f1 f.f3.f2 f.f0 f.f1 f.f2.f0 f.f2.f1 f.f2.f2 f.f3.f0 f.f3.f1 f.f3.f2 = some true) :
    Calls Try.prog 7 #[.string a, .string b] w fun e w' => e = .returned (.bool true) ∧ Below w.heap.size w w' := by
  have HX := Aside0.mk hX
  have HY := Aside0.mk hY
  have HZ := Aside0.mk hZ
  have HNE := Aside0.mk hne
  have HSZ := Aside0.mk hsz
  have HLAW := Aside0.mk hlaw
  have HZZ := Aside0.mk hz
  have HLL := Aside0.mk hl
  have HTT := Aside0.mk hT
  have HMM := Aside0.mk hM
  clear hX hY hZ hne hsz hlaw hz hl hT hM
  obtain ⟨nX1, hn1⟩ : ∃ n, n = x.f0.length := ⟨_, rfl⟩
  obtain ⟨nX2, hn2⟩ : ∃ n, n = x.f1.length := ⟨_, rfl⟩
  obtain ⟨nX3, hn3⟩ : ∃ n, n = x.f2.length := ⟨_, rfl⟩
  have HNX := Aside0.mk (show nX1 = x.f0.length ∧ nX2 = x.f1.length ∧ nX3 = x.f2.length from ⟨hn1, hn2, hn3⟩)
  clear hn1 hn2 hn3
  obtain ⟨nY1, hn1⟩ : ∃ n, n = y.f0.length := ⟨_, rfl⟩
  obtain ⟨nY2, hn2⟩ : ∃ n, n = y.f1.length := ⟨_, rfl⟩
  obtain ⟨nY3, hn3⟩ : ∃ n, n = y.f2.length := ⟨_, rfl⟩
  have HNY := Aside0.mk (show nY1 = y.f0.length ∧ nY2 = y.f1.length ∧ nY3 = y.f2.length from ⟨hn1, hn2, hn3⟩)
  clear hn1 hn2 hn3
  obtain ⟨nZ1, hn1⟩ : ∃ n, n = z.f0.length := ⟨_, rfl⟩
  obtain ⟨nZ2, hn2⟩ : ∃ n, n = z.f1.length := ⟨_, rfl⟩
  obtain ⟨nZ3, hn3⟩ : ∃ n, n = z.f2.length := ⟨_, rfl⟩
  have HNZ := Aside0.mk (show nZ1 = z.f0.length ∧ nZ2 = z.f1.length ∧ nZ3 = z.f2.length from ⟨hn1, hn2, hn3⟩)
  clear hn1 hn2 hn3
  go_enter Try.func7, Try.ntmps7
  go_wp2_with fail
  go_at_call 19
  refine (alive.calls _).mono ?_
  rintro e w1 ⟨rfl, hb⟩
  have HB1 := Aside0.mk hb
  clear hb
  go_wp2_with fail
  go_at_call 22
  refine (Text.calls a _).mono ?_
  rw [HX.out]
  rintro e w2 ⟨⟨v, rfl, hs⟩, hb⟩
  obtain ⟨AX1, cX1, AX2, cX2, AX3, cX3, rfl, CX⟩ := hs.cs
  have HCX := Aside0.mk CX
  have HTw2 := Aside0.mk hb
  clear hs hb CX
  rw [← HNX.out.1, ← HNX.out.2.1, ← HNX.out.2.2]
  go_wp2_with (first | ((with_reducible refine gate_dst (N := 5) rfl ?_); refine box_event ?hg (N := 5) ?hd (cs := #[.slice none 0 0, .slice none 0 0, .slice none 0 0]) (t := 40) ?hr ?_; (case hd => rfl); (case hg => rfl); (case hr => first | (go_simp; done) | (go_simp; rfl)); intro g5 hg1 w3 hbox hb; have BKw3 := Aside0.mk hbox; have HBw3 := Aside0.mk hb; have HGg5 := Aside0.mk hg1; clear hbox hb hg1) | ((with_reducible refine gate_store (p := 5) rfl ?_); refine store_all rfl rfl 40 _ _ rfl #[.slice AX1 nX1 cX1, .slice AX2 nX2 cX2, .slice AX3 nX3 cX3] rfl rfl BKw3.out rfl (by kernel_rfl) (by rfl) ?_; intro w4 h1 h2; have BKw4 := Aside0.mk h1; have HBw4 := Aside0.mk (below_ch HBw3.out h2 HBw3.out.size (fun k e => by rw [e, HGg5.out]; exact Nat.le_refl _)); clear h1 h2))
  have HB4 := Aside0.mk (below_b (below_b HB1.out HTw2.out HB1.out.size) HBw4.out (below_b HB1.out HTw2.out HB1.out.size).size)
  go_at_call 22
  refine (Text.calls b _).mono ?_
  rw [HY.out]
  rintro e w5 ⟨⟨v, rfl, hs⟩, hb⟩
  obtain ⟨AY1, cY1, AY2, cY2, AY3, cY3, rfl, CY⟩ := hs.cs
  have HCY := Aside0.mk CY
  have HTw5 := Aside0.mk hb
  clear hs hb CY
  rw [← HNY.out.1, ← HNY.out.2.1, ← HNY.out.2.2]
  go_wp2_with (first | ((with_reducible refine gate_dst (N := 8) rfl ?_); refine box_event ?hg (N := 8) ?hd (cs := #[.slice none 0 0, .slice none 0 0, .slice none 0 0]) (t := 40) ?hr ?_; (case hd => rfl); (case hg => rfl); (case hr => first | (go_simp; done) | (go_simp; rfl)); intro g8 hg1 w6 hbox hb; have BKw6 := Aside0.mk hbox; have HBw6 := Aside0.mk hb; have HGg8 := Aside0.mk hg1; clear hbox hb hg1) | ((with_reducible refine gate_store (p := 8) rfl ?_); refine store_all rfl rfl 40 _ _ rfl #[.slice AY1 nY1 cY1, .slice AY2 nY2 cY2, .slice AY3 nY3 cY3] rfl rfl BKw6.out rfl (by kernel_rfl) (by rfl) ?_; intro w7 h1 h2; have BKw7 := Aside0.mk h1; have HBw7 := Aside0.mk (below_ch HBw6.out h2 HBw6.out.size (fun k e => by rw [e, HGg8.out]; exact Nat.le_refl _)); clear h1 h2))
  have K5 := Aside0.mk (heapB (heapB BKw4.out HTw5.out) HBw7.out)
  have K8 := Aside0.mk BKw7.out
  have HB7 := Aside0.mk (below_b (below_b HB4.out HTw5.out HB4.out.size) HBw7.out (below_b HB4.out HTw5.out HB4.out.size).size)
  have CX := Aside0.mk (show sch3 x w7 AX1 AX2 AX3 from (((show sch3 x w2 AX1 AX2 AX3 from HCX.out).below HBw4.out).below HTw5.out).below HBw7.out)
  have CY := Aside0.mk (show sch3 y w7 AY1 AY2 AY3 from (show sch3 y w5 AY1 AY2 AY3 from HCY.out).below HBw7.out)
  clear HCX HCY BKw3 HBw3 BKw4 HBw4 BKw6 HBw6 BKw7 HBw7 HTw2 HTw5 HB4 HB1 HGg5 HGg8
  by_cases hxe : xe = 0
  · subst hxe
    by_cases hye : ye = 0
    · subst hye
      go_at_call 21
      refine (waybilllaw05_num.calls 0 0 _ rfl).mono ?_
      rintro e w8 ⟨rfl, hd⟩
      have HNw8 := Aside0.mk hd.below
      clear hd
      go_wp2_with fail
      go_at_call 21
      refine (waybilllaw05_num.calls 0 0 _ rfl).mono ?_
      rintro e w9 ⟨rfl, hd⟩
      have HNw9 := Aside0.mk hd.below
      clear hd
      have K5a := Aside0.mk (heapB (heapB K5.out HNw8.out) HNw9.out)
      have K8a := Aside0.mk (heapB (heapB K8.out HNw8.out) HNw9.out)
      have HB9 := Aside0.mk (below_b (below_b HB7.out HNw8.out HB7.out.size) HNw9.out (below_b HB7.out HNw8.out HB7.out.size).size)
      have CX9 := Aside0.mk ((CX.out.below HNw8.out).below HNw9.out)
      have CY9 := Aside0.mk ((CY.out.below HNw8.out).below HNw9.out)
      clear K5 K8 HB7 CX CY HNw8 HNw9 HNE
      have hsz := HSZ.out (by first | rfl | trivial) (by first | rfl | trivial)
      have HSZ2 := Aside0.mk hsz
      have hs1 : ¬ 9223372036854775807 < a.size + 1 := by omega
      have hs2 : ¬ 9223372036854775807 < a.size + 1 + b.size := by omega
      clear hsz
      go_wp2_with fail
      go_at_call 22
      refine (Text.calls (a ++ tNL ++ b) _).mono ?_
      rw [HZ.out]
      rintro e w10 ⟨⟨v, rfl, hs⟩, hb⟩
      obtain ⟨AZ1, cZ1, AZ2, cZ2, AZ3, cZ3, rfl, CZ⟩ := hs.cs
      have HCZ := Aside0.mk CZ
      have HTw10 := Aside0.mk hb
      clear hs hb CZ
      rw [← HNZ.out.1, ← HNZ.out.2.1, ← HNZ.out.2.2]
      go_wp2_with (first | ((with_reducible refine gate_dst (N := 11) rfl ?_); refine box_event ?hg (N := 11) ?hd (cs := #[.slice none 0 0, .slice none 0 0, .slice none 0 0]) (t := 40) ?hr ?_; (case hd => rfl); (case hg => rfl); (case hr => first | (go_simp; done) | (go_simp; rfl)); intro g11 hg1 w11 hbox hb; have BKw11 := Aside0.mk hbox; have HBw11 := Aside0.mk hb; have HGg11 := Aside0.mk hg1; clear hbox hb hg1) | ((with_reducible refine gate_store (p := 11) rfl ?_); refine store_all rfl rfl 40 _ _ rfl #[.slice AZ1 nZ1 cZ1, .slice AZ2 nZ2 cZ2, .slice AZ3 nZ3 cZ3] rfl rfl BKw11.out rfl (by kernel_rfl) (by rfl) ?_; intro w12 h1 h2; have BKw12 := Aside0.mk h1; have HBw12 := Aside0.mk (below_ch HBw11.out h2 HBw11.out.size (fun k e => by rw [e, HGg11.out]; exact Nat.le_refl _)); clear h1 h2))
      have K5b := Aside0.mk (heapB (heapB K5a.out HTw10.out) HBw12.out)
      have K8b := Aside0.mk (heapB (heapB K8a.out HTw10.out) HBw12.out)
      have HB12 := Aside0.mk (below_b (below_b HB9.out HTw10.out HB9.out.size) HBw12.out (below_b HB9.out HTw10.out HB9.out.size).size)
      have CXb := Aside0.mk ((CX9.out.below HTw10.out).below HBw12.out)
      have CYb := Aside0.mk ((CY9.out.below HTw10.out).below HBw12.out)
      have CZb := Aside0.mk ((show sch3 z w10 AZ1 AZ2 AZ3 from HCZ.out).below HBw12.out)
      clear K5a K8a HB9 CX9 CY9 HCZ HTw10 BKw11 HBw11 hs1 hs2
      by_cases hze : ze = 0
      · subst hze
        have HJ := Aside0.mk (HZZ.out (by first | rfl | trivial) (by first | rfl | trivial) (by first | rfl | trivial))
        go_at_call 21
        refine (waybilllaw05_num.calls 0 0 _ rfl).mono ?_
        rintro e w13 ⟨rfl, hd⟩
        have HNw13 := Aside0.mk hd.below
        clear hd
        have K5c := Aside0.mk (heapB K5b.out HNw13.out)
        have K8c := Aside0.mk (heapB K8b.out HNw13.out)
        have KZc := Aside0.mk (heapB BKw12.out HNw13.out)
        have CX13 := Aside0.mk (CXb.out.below HNw13.out)
        have CY13 := Aside0.mk (CYb.out.below HNw13.out)
        have CZ13 := Aside0.mk (CZb.out.below HNw13.out)
        have HB13 := Aside0.mk (below_b HB12.out HNw13.out HB12.out.size)
        clear K5b K8b BKw12 CXb CYb CZb HB12 HNw13
        go_wp2_with (first | ((with_reducible refine gate_dst (N := 14) rfl ?_); refine box_event ?hg (N := 14) ?hd (cs := #[.slice none 0 0, .slice none 0 0, .slice none 0 0]) (t := 40) ?hr ?_; (case hd => rfl); (case hg => rfl); (case hr => first | (go_simp; done) | (go_simp; rfl)); intro g14 hg1 w14 hbox hb; have BKw14 := Aside0.mk hbox; have HBw14 := Aside0.mk hb; have HGg14 := Aside0.mk hg1; clear hbox hb hg1) | ((with_reducible refine gate_store (p := 14) rfl ?_); refine store_all rfl rfl 40 _ _ rfl #[.slice none 0 0, .slice none 0 0, .slice none 0 0] rfl rfl BKw14.out rfl (by kernel_rfl) (by rfl) ?_; intro w15 h1 h2; have BKw15 := Aside0.mk h1; have HBw15 := Aside0.mk (below_ch HBw14.out h2 HBw14.out.size (fun k e => by rw [e, HGg14.out]; exact Nat.le_refl _)); clear h1 h2))
        have GE14 : Aside0 (w13.heap.size ≤ g14) := ⟨by rw [HGg14.out]; exact Nat.le_refl _⟩
        have KG0 := BKw15
        have HBA0 := HBw15
        clear BKw15 HBw15 BKw14 HBw14 HGg14
        (try simp only [Act.put, List.setIfInBounds_toArray, List.set_cons_zero, List.set_cons_succ])
        go_cut [] from 71 to 79 (fun W' => ∃ A' n' c', n' = (x.f0 ++ y.f0).length ∧ Aside0 (W'.heap[g14]? = some (.cells #[.slice A' n' c', .slice none 0 0, .slice none 0 0] 40 (0, 0))) ∧ Aside0 (Kd.N k47 47 W' w13.heap.size (fun k => k ≠ g14) (.slice A' n' c') (x.f0 ++ y.f0)) ∧ Aside0 (Ch (fun k => k = g14) w15 W'))
        case first =>
          have p14 := zcell KG0.out 0 _ rfl
          have p5 := zcell (heapB K5c.out HBA0.out) 0 _ rfl
          have p8 := zcell (heapB K8c.out HBA0.out) 0 _ rfl
          have SZ := Aside0.mk HBA0.out.size
          have GL := Aside0.mk (lt_of_block KG0.out)
          have NZ := Aside0.mk (show (([] : List S47).length + nX1) * 40 ≤ 140737488355328 ∧ ((([] : List S47) ++ x.f0).length + nY1) * 40 ≤ 140737488355328 from by have h1 := HLL.out; have h2 := HNX.out; have h3 := HNY.out; simp only [List.nil_append, List.length_nil]; omega)
          go_region_law (first | (refine Kd.N_append_rows_step k47 (w0 := w15) w13.heap.size (by simp [Region.wanted]) (.tmp 72) (.tmp 74) 36 47 (.agg #[.string ⟨#[]⟩, .slice none 0 0]) 40 rfl Try.underlying36 info47 rfl (by decide) (by decide) (.slice none 0 0) [] x.f0 AX1 nX1 cX1 (fun k => k ≠ g14) (fun k => k < w13.heap.size) ?hs ?hx (Kd.N_nil _ _ _ _ _) ?hF ?hok ?hfr (below_drew (Below.refl _ _)) SZ.out NZ.out.1 ?_; (case hs => first | (go_simp; done) | (go_simp; rfl)); (case hx => first | (go_simp; done) | (go_simp; rfl)); (case hF => (rw [HNX.out.1]; exact F_from k47_heap CX13.out.1 (below_drew HBA0.out))); (case hok => exact (fun k h => ⟨by have := GE14.out; omega, by simp [Value.ownBlock]⟩)); (case hfr => exact (fun k h => by have h' : w15.heap.size ≤ k := h; have := GL.out; omega)); intro v1 wA hn1 hb1 hg1 hat1; have HAT := Aside0.mk (show ∀ k, v1.ownBlock = some k → w15.heap.size ≤ k from fun k e => by rcases hat1 with h | ⟨b, h, hb⟩; (rw [h] at e; simp [Value.ownBlock] at e); (rw [h] at e; injection e with e; have hb' : w15.heap.size ≤ b := hb; omega)); obtain ⟨A1', c1', hv1⟩ := Kd.N_slice hn1; obtain ⟨n1', hnn⟩ : ∃ n, n = (([] : List S47) ++ x.f0).length := ⟨_, rfl⟩; rw [← hnn] at hv1; subst hv1; have HN1 := Aside0.mk hn1; have HG1 := Aside0.mk (grown_none hg1); have p14b := zcell (heapB (w := w15.drew) KG0.out HG1.out) 0 _ rfl; have f14b := zfree (heapB (w := w15.drew) KG0.out HG1.out) 0; have p8b := zcell (heapB (w := w15.drew) (heapB K8c.out (below_drew HBA0.out)) HG1.out) 0 _ rfl; clear hn1 hb1 hg1 hat1 hnn) | (refine Kd.N_append_rows_step k47 (w0 := w15) w13.heap.size (by simp [Region.wanted]) (.tmp 75) (.tmp 77) 36 47 (.agg #[.string ⟨#[]⟩, .slice none 0 0]) 40 rfl Try.underlying36 info47 rfl (by decide) (by decide) (.slice A1' n1' c1') ([] ++ x.f0) y.f0 AY1 nY1 cY1 (fun k => k ≠ g14) (fun k => k < w13.heap.size) ?hs ?hx HN1.out ?hF ?hok ?hfr (below_b (below_drew (Below.refl _ _)) HG1.out SZ.out) (Nat.le_trans SZ.out HG1.out.size) NZ.out.2 ?_; (case hs => first | (go_simp; done) | (go_simp; rfl)); (case hx => first | (go_simp; done) | (go_simp; rfl)); (case hF => (rw [HNY.out.1]; exact F_from k47_heap CY13.out.1 (below_b (below_drew HBA0.out) HG1.out SZ.out))); (case hok => exact (fun k h => ⟨by have := GE14.out; omega, fun e => by have := Kd.N_base HN1.out k e.symm; omega⟩)); (case hfr => exact (fun k h => by have h' : w15.heap.size ≤ wA.heap.size := HG1.out.size; have := GL.out; omega)); intro v2 wB hn2 hb2 hg2 hat2; obtain ⟨A2', c2', hv2⟩ := Kd.N_slice hn2; obtain ⟨n2', hnn⟩ : ∃ n, n = (([] : List S47) ++ x.f0 ++ y.f0).length := ⟨_, rfl⟩; rw [← hnn] at hv2; subst hv2; have HN2 := Aside0.mk hn2; have HNN := Aside0.mk hnn; have HG2 := Aside0.mk (grown_new (B := w15.heap.size) hg2 HAT.out HG1.out.size); have K14b := Aside0.mk ((HG2.out.block g14 GL.out).trans (heapB (w := w15.drew) KG0.out HG1.out)); have p14c := zcell K14b.out 0 _ rfl; have f14c := zfree K14b.out 0; clear hn2 hb2 hg2 hat2 hnn))
          all_goals
            go_wp2_with fail
            go_meet
            have hbb := (below_b (below_drew (Below.refl w15.heap.size w15)) HG1.out (Nat.le_refl _)).trans HG2.out
            refine ⟨A2', n2', c2', by rw [HNN.out, List.nil_append], ⟨?_⟩, ⟨Kd.N_far (p := ⟨g14, 0, none⟩) (by have h := HN2.out; rw [List.nil_append] at h; exact h) (fun k h => h) (.slice A2' n2' c2')⟩, ⟨(Ch.of_below hbb (fun k => k = g14)).set (p := ⟨g14, 0, none⟩) (.inl rfl) _⟩⟩
            simpa using zset K14b.out 0 (.slice A2' n2' c2')
        case rest =>
        obtain ⟨E1, m1, e1, hm_0, KG1, NN0, HCH0⟩ := hcut
        obtain ⟨W1, hWW⟩ : ∃ x, x = wc := ⟨_, rfl⟩
        subst hWW
        have HBA1 := Aside0.mk (below_ch HBA0.out HCH0.out HBA0.out.size (fun k h => by rw [h]; exact GE14.out))
        have HM0 := Aside0.mk hm_0
        clear hm_0
        go_wp2_with fail
        go_cut [] from 80 to 88 (fun W' => ∃ A' n' c', n' = (x.f1 ++ y.f1).length ∧ Aside0 (W'.heap[g14]? = some (.cells #[.slice E1 m1 e1, .slice A' n' c', .slice none 0 0] 40 (0, 0))) ∧ Aside0 (Kd.N k86 86 W' w13.heap.size (fun k => k ≠ g14) (.slice A' n' c') (x.f1 ++ y.f1)) ∧ Aside0 (Ch (fun k => k = g14) W1 W'))
        case first =>
          have p14 := zcell KG1.out 1 _ rfl
          have p5 := zcell (heapB K5c.out HBA1.out) 1 _ rfl
          have p8 := zcell (heapB K8c.out HBA1.out) 1 _ rfl
          have SZ := Aside0.mk HBA1.out.size
          have GL := Aside0.mk (lt_of_block KG1.out)
          have NZ := Aside0.mk (show (([] : List S86).length + nX2) * 40 ≤ 140737488355328 ∧ ((([] : List S86) ++ x.f1).length + nY2) * 40 ≤ 140737488355328 from by have h1 := HLL.out; have h2 := HNX.out; have h3 := HNY.out; simp only [List.nil_append, List.length_nil]; omega)
          go_region_law (first | (refine Kd.N_append_rows_step k86 (w0 := W1) w13.heap.size (by simp [Region.wanted]) (.tmp 81) (.tmp 83) 37 86 (.agg #[.string ⟨#[]⟩, .slice none 0 0]) 40 rfl Try.underlying37 info86 rfl (by decide) (by decide) (.slice none 0 0) [] x.f1 AX2 nX2 cX2 (fun k => k ≠ g14) (fun k => k < w13.heap.size) ?hs ?hx (Kd.N_nil _ _ _ _ _) ?hF ?hok ?hfr (below_drew (Below.refl _ _)) SZ.out NZ.out.1 ?_; (case hs => first | (go_simp; done) | (go_simp; rfl)); (case hx => first | (go_simp; done) | (go_simp; rfl)); (case hF => (rw [HNX.out.2.1]; exact F_from k86_heap CX13.out.2.1 (below_drew HBA1.out))); (case hok => exact (fun k h => ⟨by have := GE14.out; omega, by simp [Value.ownBlock]⟩)); (case hfr => exact (fun k h => by have h' : W1.heap.size ≤ k := h; have := GL.out; omega)); intro v1 wA hn1 hb1 hg1 hat1; have HAT := Aside0.mk (show ∀ k, v1.ownBlock = some k → W1.heap.size ≤ k from fun k e => by rcases hat1 with h | ⟨b, h, hb⟩; (rw [h] at e; simp [Value.ownBlock] at e); (rw [h] at e; injection e with e; have hb' : W1.heap.size ≤ b := hb; omega)); obtain ⟨A1', c1', hv1⟩ := Kd.N_slice hn1; obtain ⟨n1', hnn⟩ : ∃ n, n = (([] : List S86) ++ x.f1).length := ⟨_, rfl⟩; rw [← hnn] at hv1; subst hv1; have HN1 := Aside0.mk hn1; have HG1 := Aside0.mk (grown_none hg1); have p14b := zcell (heapB (w := W1.drew) KG1.out HG1.out) 1 _ rfl; have f14b := zfree (heapB (w := W1.drew) KG1.out HG1.out) 1; have p8b := zcell (heapB (w := W1.drew) (heapB K8c.out (below_drew HBA1.out)) HG1.out) 1 _ rfl; clear hn1 hb1 hg1 hat1 hnn) | (refine Kd.N_append_rows_step k86 (w0 := W1) w13.heap.size (by simp [Region.wanted]) (.tmp 84) (.tmp 86) 37 86 (.agg #[.string ⟨#[]⟩, .slice none 0 0]) 40 rfl Try.underlying37 info86 rfl (by decide) (by decide) (.slice A1' n1' c1') ([] ++ x.f1) y.f1 AY2 nY2 cY2 (fun k => k ≠ g14) (fun k => k < w13.heap.size) ?hs ?hx HN1.out ?hF ?hok ?hfr (below_b (below_drew (Below.refl _ _)) HG1.out SZ.out) (Nat.le_trans SZ.out HG1.out.size) NZ.out.2 ?_; (case hs => first | (go_simp; done) | (go_simp; rfl)); (case hx => first | (go_simp; done) | (go_simp; rfl)); (case hF => (rw [HNY.out.2.1]; exact F_from k86_heap CY13.out.2.1 (below_b (below_drew HBA1.out) HG1.out SZ.out))); (case hok => exact (fun k h => ⟨by have := GE14.out; omega, fun e => by have := Kd.N_base HN1.out k e.symm; omega⟩)); (case hfr => exact (fun k h => by have h' : W1.heap.size ≤ wA.heap.size := HG1.out.size; have := GL.out; omega)); intro v2 wB hn2 hb2 hg2 hat2; obtain ⟨A2', c2', hv2⟩ := Kd.N_slice hn2; obtain ⟨n2', hnn⟩ : ∃ n, n = (([] : List S86) ++ x.f1 ++ y.f1).length := ⟨_, rfl⟩; rw [← hnn] at hv2; subst hv2; have HN2 := Aside0.mk hn2; have HNN := Aside0.mk hnn; have HG2 := Aside0.mk (grown_new (B := W1.heap.size) hg2 HAT.out HG1.out.size); have K14b := Aside0.mk ((HG2.out.block g14 GL.out).trans (heapB (w := W1.drew) KG1.out HG1.out)); have p14c := zcell K14b.out 1 _ rfl; have f14c := zfree K14b.out 1; clear hn2 hb2 hg2 hat2 hnn))
          all_goals
            go_wp2_with fail
            go_meet
            have hbb := (below_b (below_drew (Below.refl W1.heap.size W1)) HG1.out (Nat.le_refl _)).trans HG2.out
            refine ⟨A2', n2', c2', by rw [HNN.out, List.nil_append], ⟨?_⟩, ⟨Kd.N_far (p := ⟨g14, 1, none⟩) (by have h := HN2.out; rw [List.nil_append] at h; exact h) (fun k h => h) (.slice A2' n2' c2')⟩, ⟨(Ch.of_below hbb (fun k => k = g14)).set (p := ⟨g14, 1, none⟩) (.inl rfl) _⟩⟩
            simpa using zset K14b.out 1 (.slice A2' n2' c2')
        case rest =>
        obtain ⟨E2, m2, e2, hm_1, KG2, NN1, HCH1⟩ := hcut
        obtain ⟨W2, hWW⟩ : ∃ x, x = wc := ⟨_, rfl⟩
        subst hWW
        have HBA2 := Aside0.mk (below_ch HBA1.out HCH1.out HBA1.out.size (fun k h => by rw [h]; exact GE14.out))
        have HM1 := Aside0.mk hm_1
        clear hm_1
        go_wp2_with fail
        go_cut [] from 89 to 97 (fun W' => ∃ A' n' c', n' = (x.f2 ++ y.f2).length ∧ Aside0 (W'.heap[g14]? = some (.cells #[.slice E1 m1 e1, .slice E2 m2 e2, .slice A' n' c'] 40 (0, 0))) ∧ Aside0 (Kd.N k91 91 W' w13.heap.size (fun k => k ≠ g14) (.slice A' n' c') (x.f2 ++ y.f2)) ∧ Aside0 (Ch (fun k => k = g14) W2 W'))
        case first =>
          have p14 := zcell KG2.out 2 _ rfl
          have p5 := zcell (heapB K5c.out HBA2.out) 2 _ rfl
          have p8 := zcell (heapB K8c.out HBA2.out) 2 _ rfl
          have SZ := Aside0.mk HBA2.out.size
          have GL := Aside0.mk (lt_of_block KG2.out)
          have NZ := Aside0.mk (show (([] : List S91).length + nX3) * 40 ≤ 140737488355328 ∧ ((([] : List S91) ++ x.f2).length + nY3) * 40 ≤ 140737488355328 from by have h1 := HLL.out; have h2 := HNX.out; have h3 := HNY.out; simp only [List.nil_append, List.length_nil]; omega)
          go_region_law (first | (refine Kd.N_append_rows_step k91 (w0 := W2) w13.heap.size (by simp [Region.wanted]) (.tmp 90) (.tmp 92) 38 91 (.agg #[.string ⟨#[]⟩, .slice none 0 0]) 40 rfl Try.underlying38 info91 rfl (by decide) (by decide) (.slice none 0 0) [] x.f2 AX3 nX3 cX3 (fun k => k ≠ g14) (fun k => k < w13.heap.size) ?hs ?hx (Kd.N_nil _ _ _ _ _) ?hF ?hok ?hfr (below_drew (Below.refl _ _)) SZ.out NZ.out.1 ?_; (case hs => first | (go_simp; done) | (go_simp; rfl)); (case hx => first | (go_simp; done) | (go_simp; rfl)); (case hF => (rw [HNX.out.2.2]; exact F_from k91_heap CX13.out.2.2 (below_drew HBA2.out))); (case hok => exact (fun k h => ⟨by have := GE14.out; omega, by simp [Value.ownBlock]⟩)); (case hfr => exact (fun k h => by have h' : W2.heap.size ≤ k := h; have := GL.out; omega)); intro v1 wA hn1 hb1 hg1 hat1; have HAT := Aside0.mk (show ∀ k, v1.ownBlock = some k → W2.heap.size ≤ k from fun k e => by rcases hat1 with h | ⟨b, h, hb⟩; (rw [h] at e; simp [Value.ownBlock] at e); (rw [h] at e; injection e with e; have hb' : W2.heap.size ≤ b := hb; omega)); obtain ⟨A1', c1', hv1⟩ := Kd.N_slice hn1; obtain ⟨n1', hnn⟩ : ∃ n, n = (([] : List S91) ++ x.f2).length := ⟨_, rfl⟩; rw [← hnn] at hv1; subst hv1; have HN1 := Aside0.mk hn1; have HG1 := Aside0.mk (grown_none hg1); have p14b := zcell (heapB (w := W2.drew) KG2.out HG1.out) 2 _ rfl; have f14b := zfree (heapB (w := W2.drew) KG2.out HG1.out) 2; have p8b := zcell (heapB (w := W2.drew) (heapB K8c.out (below_drew HBA2.out)) HG1.out) 2 _ rfl; clear hn1 hb1 hg1 hat1 hnn) | (refine Kd.N_append_rows_step k91 (w0 := W2) w13.heap.size (by simp [Region.wanted]) (.tmp 93) (.tmp 95) 38 91 (.agg #[.string ⟨#[]⟩, .slice none 0 0]) 40 rfl Try.underlying38 info91 rfl (by decide) (by decide) (.slice A1' n1' c1') ([] ++ x.f2) y.f2 AY3 nY3 cY3 (fun k => k ≠ g14) (fun k => k < w13.heap.size) ?hs ?hx HN1.out ?hF ?hok ?hfr (below_b (below_drew (Below.refl _ _)) HG1.out SZ.out) (Nat.le_trans SZ.out HG1.out.size) NZ.out.2 ?_; (case hs => first | (go_simp; done) | (go_simp; rfl)); (case hx => first | (go_simp; done) | (go_simp; rfl)); (case hF => (rw [HNY.out.2.2]; exact F_from k91_heap CY13.out.2.2 (below_b (below_drew HBA2.out) HG1.out SZ.out))); (case hok => exact (fun k h => ⟨by have := GE14.out; omega, fun e => by have := Kd.N_base HN1.out k e.symm; omega⟩)); (case hfr => exact (fun k h => by have h' : W2.heap.size ≤ wA.heap.size := HG1.out.size; have := GL.out; omega)); intro v2 wB hn2 hb2 hg2 hat2; obtain ⟨A2', c2', hv2⟩ := Kd.N_slice hn2; obtain ⟨n2', hnn⟩ : ∃ n, n = (([] : List S91) ++ x.f2 ++ y.f2).length := ⟨_, rfl⟩; rw [← hnn] at hv2; subst hv2; have HN2 := Aside0.mk hn2; have HNN := Aside0.mk hnn; have HG2 := Aside0.mk (grown_new (B := W2.heap.size) hg2 HAT.out HG1.out.size); have K14b := Aside0.mk ((HG2.out.block g14 GL.out).trans (heapB (w := W2.drew) KG2.out HG1.out)); have p14c := zcell K14b.out 2 _ rfl; have f14c := zfree K14b.out 2; clear hn2 hb2 hg2 hat2 hnn))
          all_goals
            go_wp2_with fail
            go_meet
            have hbb := (below_b (below_drew (Below.refl W2.heap.size W2)) HG1.out (Nat.le_refl _)).trans HG2.out
            refine ⟨A2', n2', c2', by rw [HNN.out, List.nil_append], ⟨?_⟩, ⟨Kd.N_far (p := ⟨g14, 2, none⟩) (by have h := HN2.out; rw [List.nil_append] at h; exact h) (fun k h => h) (.slice A2' n2' c2')⟩, ⟨(Ch.of_below hbb (fun k => k = g14)).set (p := ⟨g14, 2, none⟩) (.inl rfl) _⟩⟩
            simpa using zset K14b.out 2 (.slice A2' n2' c2')
        case rest =>
        obtain ⟨E3, m3, e3, hm_2, KG3, NN2, HCH2⟩ := hcut
        obtain ⟨W3, hWW⟩ : ∃ x, x = wc := ⟨_, rfl⟩
        subst hWW
        have HBA3 := Aside0.mk (below_ch HBA2.out HCH2.out HBA2.out.size (fun k h => by rw [h]; exact GE14.out))
        have HM2 := Aside0.mk hm_2
        clear hm_2
        have N1 := Aside0.mk (Kd.N_step (Kd.N_step NN0.out (fun k ho hk => HCH1.out.block k hk ho)) (fun k ho hk => HCH2.out.block k hk ho))
        have N2 := Aside0.mk (Kd.N_step NN1.out (fun k ho hk => HCH2.out.block k hk ho))
        have m1e : m1 = nZ1 := by rw [HM0.out, HNZ.out.1, HJ.out]; rfl
        have m2e : m2 = nZ2 := by rw [HM1.out, HNZ.out.2.1, HJ.out]; rfl
        have m3e : m3 = nZ3 := by rw [HM2.out, HNZ.out.2.2, HJ.out]; rfl
        subst m1e m2e m3e
        have KZ3 := Aside0.mk (heapB KZc.out HBA3.out)
        have p0 := zcell KZ3.out 0 _ rfl
        have p1 := zcell KZ3.out 1 _ rfl
        have p2 := zcell KZ3.out 2 _ rfl
        have q0 := zcell KG3.out 0 _ rfl
        have q1 := zcell KG3.out 1 _ rfl
        have q2 := zcell KG3.out 2 _ rfl
        go_wp2_with fail
        go_at_call 23
        have HS := Same.calls K z AZ1 AZ2 AZ3 E1 E2 E3 cZ1 cZ2 cZ3 e1 e2 e3 W3 (CZ13.out.below HBA3.out) ⟨by rw [HJ.out]; exact (Kd.N_reads' N1.out).2.2, by rw [HJ.out]; exact (Kd.N_reads' N2.out).2.2, by rw [HJ.out]; exact (Kd.N_reads' NN2.out).2.2⟩ HTT.out HMM.out
        rw [← HNZ.out.1, ← HNZ.out.2.1, ← HNZ.out.2.2] at HS
        refine HS.mono ?_
        rintro e wE ⟨rfl, hb⟩
        have HE := Aside0.mk hb
        clear hb HS p0 p1 p2 q0 q1 q2
        go_wp2_with fail
        go_ret
        exact ⟨rfl, below_b HB13.out (below_b HBA3.out HE.out HBA3.out.size) HB13.out.size⟩
      · have hze2 : (ze != 0) = true := bne_iff_ne.mpr hze
        have hlw := HLAW.out (by first | rfl | trivial) (by first | rfl | trivial) hze
        have hzs := HSZ2.out
        by_cases h3 : ze = 3
        · subst h3
          clear hlw hzs hze
          go_at_call 21
          refine (waybilllaw05_num.calls 3 3 _ rfl).mono ?_
          rintro e w13 ⟨rfl, hd⟩
          have HNw13 := Aside0.mk hd.below
          clear hd
          go_wp2_with fail
          go_at_call 21
          refine (waybilllaw05_num.calls 3 3 _ rfl).mono ?_
          rintro e w14 ⟨rfl, hd⟩
          have HNw14 := Aside0.mk hd.below
          clear hd
          go_wp2_with fail
          go_ret
          exact ⟨rfl, below_b (below_b HB12.out HNw13.out HB12.out.size) HNw14.out (below_b HB12.out HNw13.out HB12.out.size).size⟩
        · have h3' : (ze == 3) = false := beq_eq_false_iff_ne.mpr h3
          have hgt : 60000 < a.size + b.size := by
            rcases hlw with h | h
            · exact absurd h h3
            · exact h
          have e1 : ((a.size : Nat) : Int) ≤ 65536 := by omega
          have e2 : ((b.size : Nat) : Int) ≤ 65536 := by omega
          have e3 : (60000 : Int) < ((a.size : Nat) : Int) + ((b.size : Nat) : Int) := by omega
          have e4 : decide ((60000 : Int) < ((a.size : Nat) : Int) + ((b.size : Nat) : Int)) = true := decide_eq_true e3
          clear hlw hzs hze h3 hgt
          go_at_call 21
          refine (waybilllaw05_num.calls ze ze _ rfl).mono ?_
          rintro e w13 ⟨rfl, hd⟩
          have HNw13 := Aside0.mk hd.below
          clear hd
          go_wp2_with fail
          go_at_call 21
          refine (waybilllaw05_num.calls ze ze _ rfl).mono ?_
          rintro e w14 ⟨rfl, hd⟩
          have HNw14 := Aside0.mk hd.below
          clear hd
          go_wp2_with fail
          go_ret
          exact ⟨rfl, below_b (below_b HB12.out HNw13.out HB12.out.size) HNw14.out (below_b HB12.out HNw13.out HB12.out.size).size⟩
    · have hye2 : (ye != 0) = true := bne_iff_ne.mpr hye
      have hn := HNE.out (.inr hye)
      clear hye
      by_cases hq : nX1 = 0
      · have hq1 : (((nX1 : Nat) : Int) == 0) = true := by rw [hq]; rfl
        clear hn hq
        go_at_call 21
        refine (waybilllaw05_num.calls 0 0 _ rfl).mono ?_
        rintro e w8 ⟨rfl, hd⟩
        have HNw8 := Aside0.mk hd.below
        clear hd
        go_wp2_with fail
        go_at_call 21
        refine (waybilllaw05_num.calls ye ye _ rfl).mono ?_
        rintro e w9 ⟨rfl, hd⟩
        have HNw9 := Aside0.mk hd.below
        clear hd
        have J5 := zcell (heapB (heapB K5.out HNw8.out) HNw9.out) 0 _ rfl
        go_wp2_with fail
        skip
        go_ret
        exact ⟨rfl, below_b (below_b HB7.out HNw8.out HB7.out.size) HNw9.out (below_b HB7.out HNw8.out HB7.out.size).size⟩
      · have hq1 : (((nX1 : Nat) : Int) == 0) = false := beq_eq_false_iff_ne.mpr (by omega)
        have hr1 : (((nY1 : Nat) : Int) == 0) = true := by
          have : nY1 = 0 := by
            rcases hn with h | h
            · exact absurd (HNX.out.1.trans h) hq
            · exact HNY.out.1.trans h
          rw [this]; rfl
        clear hn hq
        go_at_call 21
        refine (waybilllaw05_num.calls 0 0 _ rfl).mono ?_
        rintro e w8 ⟨rfl, hd⟩
        have HNw8 := Aside0.mk hd.below
        clear hd
        go_wp2_with fail
        go_at_call 21
        refine (waybilllaw05_num.calls ye ye _ rfl).mono ?_
        rintro e w9 ⟨rfl, hd⟩
        have HNw9 := Aside0.mk hd.below
        clear hd
        have J5 := zcell (heapB (heapB K5.out HNw8.out) HNw9.out) 0 _ rfl
        have J8 := zcell (heapB (heapB K8.out HNw8.out) HNw9.out) 0 _ rfl
        go_wp2_with fail
        skip
        go_ret
        exact ⟨rfl, below_b (below_b HB7.out HNw8.out HB7.out.size) HNw9.out (below_b HB7.out HNw8.out HB7.out.size).size⟩
  · have hxe2 : (xe != 0) = true := bne_iff_ne.mpr hxe
    have hn := HNE.out (.inl hxe)
    clear hxe
    by_cases hq : nX1 = 0
    · have hq1 : (((nX1 : Nat) : Int) == 0) = true := by rw [hq]; rfl
      clear hn hq
      go_at_call 21
      refine (waybilllaw05_num.calls xe xe _ rfl).mono ?_
      rintro e w8 ⟨rfl, hd⟩
      have HNw8 := Aside0.mk hd.below
      clear hd
      have J5 := zcell (heapB K5.out HNw8.out) 0 _ rfl
      go_wp2_with fail
      skip
      go_ret
      exact ⟨rfl, below_b HB7.out HNw8.out HB7.out.size⟩
    · have hq1 : (((nX1 : Nat) : Int) == 0) = false := beq_eq_false_iff_ne.mpr (by omega)
      have hr1 : (((nY1 : Nat) : Int) == 0) = true := by
        have : nY1 = 0 := by
          rcases hn with h | h
          · exact absurd (HNX.out.1.trans h) hq
          · exact HNY.out.1.trans h
        rw [this]; rfl
      clear hn hq
      go_at_call 21
      refine (waybilllaw05_num.calls xe xe _ rfl).mono ?_
      rintro e w8 ⟨rfl, hd⟩
      have HNw8 := Aside0.mk hd.below
      clear hd
      have J5 := zcell (heapB K5.out HNw8.out) 0 _ rfl
      have J8 := zcell (heapB K8.out HNw8.out) 0 _ rfl
      go_wp2_with fail
      skip
      go_ret
      exact ⟨rfl, below_b HB7.out HNw8.out HB7.out.size⟩
/-! What is parsed holds types that are not deep. -/
def OKT : Nat → S50 → Prop
  | 0, _ => False
  | n + 1, t => t.f2 = [] ∨ ∃ x, t.f2 = [x] ∧ OKT n x
def PP {α : Type} (f : St31 → Out α) (P : α → Prop) : Prop := ∀ st a st', f st = .inr (a, st') → P a
theorem PP.bind {α β : Type} {f : St31 → Out α} {g : α → St31 → Out β} {P : α → Prop} {R : β → Prop} (h : PP f P) (k : ∀ a, P a → PP (g a) R) : PP (fun st => bindO (f st) g) R := by
  intro st b st' e
  obtain ⟨a, st1, e1, e2⟩ := bindO_inr e
  exact k a (h _ _ _ e1) _ _ _ e2
theorem PP.any {α : Type} (f : St31 → Out α) : PP f (fun _ => True) := fun _ _ _ _ => trivial
theorem PP.pure {α : Type} {P : α → Prop} {a : α} (h : P a) : PP (fun st => (.inr (a, st) : Out α)) P := fun st b st' e => by
  injection e with e
  injection e with e1 e2
  exact e1 ▸ h
theorem PP.ite {α : Type} {f g : St31 → Out α} {P : α → Prop} (p : S31 → Bool) (h : PP f P) (k : PP g P) : PP (fun st => if p (peekP st.1) = true then f st else g st) P := by
  intro st a st' e
  have e : (if p (peekP st.1) = true then f st else g st) = .inr (a, st') := e
  by_cases hp : p (peekP st.1) = true
  · rw [if_pos hp] at e; exact h _ _ _ e
  · rw [if_neg hp] at e; exact k _ _ _ e
theorem typed_okt : ∀ k, PP (typedP k) (OKT k)
  | 0 => fun st a st' e => by
    obtain ⟨l, n⟩ := st
    cases l <;> cases e
  | k + 1 => by
    have ih := typed_okt k
    have : typedP (k + 1) = typedQ k := funext (typed_eq k)
    rw [this]
    refine PP.ite (fun x => decide (plainP x.f1 > 0)) ?_ (PP.ite (fun x => eqS x.f1 tLB) ((PP.any (signP tLB)).bind fun _ _ => ih.bind fun x hx => (PP.any (signP tRB)).bind fun _ _ => PP.pure (.inr ⟨x, rfl, hx⟩)) (PP.ite (fun x => eqS x.f1 tQ) ((PP.any (signP tQ)).bind fun _ _ => ih.bind fun x hx => PP.pure (.inr ⟨x, rfl, hx⟩)) ((PP.any nameP).bind fun a _ => PP.pure (.inl rfl))))
    intro st a st' e
    have e : (askP (decide (plainP (peekP st.1).f1 > 0)) st).map id (fun r => ((⟨plainP (peekP st.1).f1, ⟨#[]⟩, []⟩ : S50), r.2)) = .inr (a, st') := e
    rcases hq : askP (decide (plainP (peekP st.1).f1 > 0)) st with q | q
    · rw [hq] at e; cases e
    · rw [hq] at e
      injection e with e
      injection e with e1 e2
      rw [← e1]
      exact .inl rfl
theorem struct1_okt : PP struct1P (fun f => OKT 8 f.f2) := (PP.any numberP).bind fun n _ => (PP.any nameP).bind fun a _ => (PP.any (signP tCO)).bind fun _ _ => (typed_okt 8).bind fun ty h => (PP.any (signP tSC)).bind fun _ _ => PP.pure h
theorem svc1_okt : PP svc1P (fun f => OKT 8 f.f2 ∧ OKT 8 f.f3) := (PP.any fun st : St31 => askP (eqS (peekP st.1).f1 tOnce || eqS (peekP st.1).f1 tRead) st).bind fun k _ => (PP.any nameP).bind fun a _ => (PP.any (signP tLP)).bind fun _ _ => (typed_okt 8).bind fun x hx => (PP.any (signP tRP)).bind fun _ _ => (typed_okt 8).bind fun y hy => (PP.any (signP tSC)).bind fun _ _ => PP.pure ⟨hx, hy⟩
theorem parts_okt {α : Type} {one : St31 → Out α} {P : α → Prop} (h : PP one P) : ∀ m, PP (partsP one m) (fun l => ∀ a ∈ l, P a)
  | 0 => PP.ite (fun x => isRC x) ((PP.any (signP tRC)).bind fun _ _ => PP.pure (fun a ha => absurd ha (by simp))) (g := fun st : St31 => if st.1.length = 0 then bindO (one st) fun _ st1 => .inl (3, st1) else .inl (3, st)) (by
      intro st a st' e
      have e : (if st.1.length = 0 then bindO (one st) fun _ st1 => .inl (3, st1) else .inl (3, st)) = .inr (a, st') := e
      split at e
      · obtain ⟨_, _, _, e2⟩ := bindO_inr e
        cases e2
      · cases e)
  | m + 1 => PP.ite (fun x => isRC x) ((PP.any (signP tRC)).bind fun _ _ => PP.pure (fun a ha => absurd ha (by simp))) (h.bind fun a ha => (parts_okt h m).bind fun l hl => PP.pure (fun b hb => by
      rcases List.mem_cons.1 hb with rfl | hb
      · exact ha
      · exact hl b hb))
theorem block_okt {α : Type} {one : St31 → Out α} {P : α → Prop} (h : PP one P) : PP (blockP one) (fun q => ∀ a ∈ q.2, P a) := (PP.any nameP).bind fun a _ => (PP.any (signP tLC)).bind fun _ _ => (parts_okt h 32).bind fun l hl => PP.pure hl
def DOK : DeclT → Prop
  | .s _ l => ∀ f ∈ l, OKT 8 f.f2
  | .e _ _ => True
  | .v _ l => ∀ f ∈ l, OKT 8 f.f2 ∧ OKT 8 f.f3
theorem decl_okt : PP declP DOK := by
  refine (PP.any fun st : St31 => askP (wordB (peekP st.1).f1) st).bind fun k _ => ?_
  by_cases h1 : eqS k tStruct = true
  · simp only [h1, if_true]
    exact (block_okt struct1_okt).bind fun q hq => PP.pure hq
  · by_cases h2 : eqS k tEnum = true
    · simp only [h1, h2, if_true, if_false, Bool.false_eq_true]
      exact (PP.any (blockP enum1P)).bind fun q _ => PP.pure trivial
    · simp only [h1, h2, if_false, Bool.false_eq_true]
      exact (block_okt svc1_okt).bind fun q hq => PP.pure hq
theorem decls_okt : ∀ m, PP (declsP m) (fun l => ∀ d ∈ l, DOK d)
  | 0 => fun st a st' e => by
    have e : (if st.1.length = 0 then (.inr ([], st) : Out (List DeclT)) else .inl (3, st)) = .inr (a, st') := e
    split at e
    · injection e with e
      injection e with e1 e2
      rw [← e1]; exact fun d hd => absurd hd (by simp)
    · cases e
  | m + 1 => fun st a st' e => by
    have e : (if st.1.length = 0 then (.inr ([], st) : Out (List DeclT)) else bindO (declP st) fun d st1 => bindO (declsP m st1) fun l st2 => .inr (d :: l, st2)) = .inr (a, st') := e
    split at e
    · injection e with e
      injection e with e1 e2
      rw [← e1]; exact fun d hd => absurd hd (by simp)
    · exact (decl_okt.bind fun d hd => (decls_okt m).bind fun l hl => PP.pure (P := fun l => ∀ d ∈ l, DOK d) (fun b hb => by
        rcases List.mem_cons.1 hb with rfl | hb
        · exact hd
        · exact hl b hb)) _ _ _ e
def SOK (x : S40) : Prop := (∀ s ∈ x.f0, ∀ f ∈ s.f1, OKT 8 f.f2) ∧ ∀ s ∈ x.f2, ∀ f ∈ s.f1, OKT 8 f.f2 ∧ OKT 8 f.f3
theorem sok_add (x : S40) (d : DeclT) (h : SOK x) (hd : DOK d) : SOK (addS x d) := by
  cases d with
  | s a l =>
    refine ⟨fun s hs => ?_, h.2⟩
    rcases List.mem_append.1 hs with hs | hs
    · exact h.1 s hs
    · have : s = ⟨a, l⟩ := by simpa using hs
      subst this; exact hd
  | e a l => exact h
  | v a l =>
    refine ⟨h.1, fun s hs => ?_⟩
    rcases List.mem_append.1 hs with hs | hs
    · exact h.2 s hs
    · have : s = ⟨a, l⟩ := by simpa using hs
      subst this; exact hd
theorem sok_adds : ∀ (d : List DeclT) (x : S40), SOK x → (∀ e ∈ d, DOK e) → SOK (d.foldl addS x)
  | [], x, h, _ => h
  | a :: d, x, h, hd => sok_adds d _ (sok_add x a h (hd a List.mem_cons_self)) (fun e he => hd e (List.mem_cons_of_mem _ he))
theorem sok0 : SOK x0 := ⟨fun s hs => absurd hs (by simp [x0]), fun s hs => absurd hs (by simp [x0])⟩
theorem parse_sok (l : List S31) : SOK (parseF l).1 := by
  unfold parseF
  rcases badT l with _ | ⟨j, e⟩
  · rcases hd : declsP 64 (l, 1) with ⟨c, st⟩ | ⟨d, st⟩
    · exact sok0
    · exact sok_adds d x0 sok0 (decls_okt 64 _ _ _ hd)
  · exact sok0
theorem text_sok (s : ByteArray) : SOK (textF s).1 := by
  unfold textF
  split
  · exact parse_sok _
  · exact sok0
theorem same_okt : ∀ (n : Nat) (t : S50), OKT n t → ∀ k, 4 * n + 4 ≤ k → waybillplain_SameTypes.f k [t] [t] = some true
  | 0, t, h, k, _ => h.elim
  | n + 1, t, h, k, hk => by
    obtain ⟨k, rfl⟩ : ∃ q, k = q + 1 + 1 + 1 + 1 := ⟨k - 4, by omega⟩
    have hnil : ∀ q, waybillplain_SameTypes.f (q + 1 + 1) [] [] = some true := fun q => by
      simp [waybillplain_SameTypes.f, waybillplain_SameTypes.l0]
    have hin : waybillplain_SameTypes.f (k + 1 + 1) t.f2 t.f2 = some true := by
      rcases h with h | ⟨x, h, hx⟩
      · rw [h]; exact hnil k
      · rw [h]; exact same_okt n x hx (k + 1 + 1) (by omega)
    have e0 : rd_T50 [t] 0 = t := rfl
    simp only [waybillplain_SameTypes.f, List.length_singleton, if_true]
    rw [waybillplain_SameTypes.l0, if_pos (by simp), if_pos (by decide), if_pos (by simp), e0, if_pos rfl, if_pos rfl, hin]
    show (if true = true then waybillplain_SameTypes.l0 (k + 1 + 1) [t] [t] (wrap64 (0 + 1)) else some false) = some true
    rw [if_pos rfl, show wrap64 (0 + 1) = 1 from by unfold wrap64; decide, waybillplain_SameTypes.l0, if_neg (by simp)]
theorem same_type (t : S50) (h : OKT 8 t) : waybillplain_SameType.f 100 t.f0 t.f1 t.f2 t.f0 t.f1 t.f2 = some true := by
  unfold waybillplain_SameType.f
  have e : (⟨t.f0, t.f1, t.f2⟩ : S50) = t := by cases t; rfl
  rw [e, same_okt 8 t h 100 (by decide)]
  rfl
theorem same_method (f : S94) (h : OKT 8 f.f2) (k : OKT 8 f.f3) : waybillplain_SameMethod.f 100 f.f0 f.f1 f.f2.f0 f.f2.f1 f.f2.f2 f.f3.f0 f.f3.f1 f.f3.f2 f.f0 f.f1 f.f2.f0 f.f2.f1 f.f2.f2 f.f3.f0 f.f3.f1 f.f3.f2 = some true := by
  unfold waybillplain_SameMethod.f
  rw [if_pos rfl, if_pos (by simp), same_type f.f2 h, same_type f.f3 k]
  rfl
theorem parse_bad {l : List S31} {x : S40} {i e : Int} (h : parseF l = (x, i, e)) (he : e ≠ 0) : x = x0 := by
  unfold parseF at h
  rcases hb : badT l with _ | ⟨j, e'⟩
  · rw [hb] at h
    rcases hd : declsP 64 (l, 1) with ⟨c, st⟩ | ⟨d, st⟩
    · rw [hd] at h
      injection h with h1 h2
      exact h1.symm
    · rw [hd] at h
      injection h with h1 h2
      injection h2 with h2 h3
      exact absurd h3.symm he
  · rw [hb] at h
    injection h with h1 h2
    exact h1.symm
theorem text_bad {s : ByteArray} {x : S40} {i e : Int} (h : textF s = (x, i, e)) (he : e ≠ 0) : x = x0 := by
  unfold textF at h
  split at h
  · exact parse_bad h he
  · injection h with h1 h2
    exact h1.symm
theorem text_len (s : ByteArray) : (textF s).1.f0.length ≤ 64 ∧ (textF s).1.f1.length ≤ 64 ∧ (textF s).1.f2.length ≤ 64 := by
  unfold textF
  split
  · exact parse_len _
  · exact ⟨Nat.zero_le _, Nat.zero_le _, Nat.zero_le _⟩
theorem ParseJoins_true (a b : ByteArray) (w : World) : Calls Try.prog 7 #[.string a, .string b] w fun e w' => e = .returned (.bool true) ∧ Below w.heap.size w w' := by
  obtain ⟨s, rfl⟩ : ∃ s, a = txt s := ⟨a.data.toList, (txt_data a).symm⟩
  obtain ⟨t, rfl⟩ : ∃ t, b = txt t := ⟨b.data.toList, (txt_data b).symm⟩
  have hcat : txt s ++ tNL ++ txt t = txt (s ++ 10 :: t) := by
    rw [show tNL = txt [10] from rfl, txt_app, txt_app]
    simp
  obtain ⟨x, xi, xe, hX⟩ : ∃ x i e, textF (txt s) = (x, i, e) := ⟨_, _, _, rfl⟩
  obtain ⟨y, yi, ye, hY⟩ : ∃ x i e, textF (txt t) = (x, i, e) := ⟨_, _, _, rfl⟩
  obtain ⟨z, zi, ze, hZ⟩ : ∃ x i e, textF (txt (s ++ 10 :: t)) = (x, i, e) := ⟨_, _, _, rfl⟩
  have hj : xe = 0 → ye = 0 → _ := fun h1 h2 => join_law s t x y xi yi (by rw [← h1]; exact hX) (by rw [← h2]; exact hY)
  have hx := text_len (txt s)
  have hy := text_len (txt t)
  have hzs := text_sok (txt (s ++ 10 :: t))
  rw [hX] at hx
  rw [hY] at hy
  rw [hZ] at hzs hj
  refine ParseJoins.calls (txt s) (txt t) w 100 x y z xi xe yi ye zi ze hX hY (by rw [hcat]; exact hZ) ?_ ?_ ?_ ?_ ⟨hx, hy⟩ (fun q hq f hf => same_type f.f2 (hzs.1 q hq f hf)) (fun q hq f hf => same_method f (hzs.2 q hq f hf).1 (hzs.2 q hq f hf).2)
  · rintro (h | h)
    · left; rw [text_bad hX h]; rfl
    · right; rw [text_bad hY h]; rfl
  · intro h1 h2
    subst h1 h2
    have g1 := toks_good s (text_ok hX).1
    have g2 := toks_good t (text_ok hY).1
    rw [txt_size, txt_size]
    exact ⟨g1.1, g2.1⟩
  · intro h1 h2 h3
    rw [txt_size, txt_size]
    rcases hj h1 h2 with ⟨h, e⟩ | ⟨k, e⟩ | e
    · exact .inr h
    · injection e with e1 e2
      injection e2 with e2 e3
      exact .inl e3
    · injection e with e1 e2
      injection e2 with e2 e3
      exact absurd e3 h3
  · intro h1 h2 h3
    rcases hj h1 h2 with ⟨h, e⟩ | ⟨k, e⟩ | e
    · injection e with e1 e2
      injection e2 with e2 e3
      rw [h3] at e3
      exact absurd e3 (by decide)
    · injection e with e1 e2
      injection e2 with e2 e3
      rw [h3] at e3
      exact absurd e3 (by decide)
    · injection e with e1 e2
end Go.Proofs.Ytoloneoeojoiaaa.EParseOwn
