/- ParseBack: the row of the law, over its pure statement. Written by a program of this seat; the arguments are opened by Opn. -/
import Derived.Test.YtoloneoeojoiaaaRows
import Derived.Test.YtoloneoeojoiaaaEParseBackx5
import Derived.Test.YtoloneoeojoiaaaPureParseBack
import Derived.WalkKit
import Derived.ProofKit
import Derived.OpenShut
import Derived.ShutString
import Derived.ChangeOld
import Derived.Below
import Derived.SizedLaws
import Derived.Deep.Slices
namespace Go.Proofs.Ytoloneoeojoiaaa.parseBack
open Go.ChangeShapes Go.WideShapes Go.ChangeAt Go.RowKit
open Go.ChangeMaps (open_string shut_string)
open Go.Proofs.Ytoloneoeojoiaaa.EParseBack Go.Proofs.YtoloneoeojoiaaaW.PrintWords
set_option linter.unusedVariables false
/-! What an argument reads as, kind by kind: out of the row's own reading, with what its weight allows. -/
def Opn (P : Program) (w : World) (spare : Nat → Bool) {α : Type} (d : Kd α) (T : TypeId) (wf : α → Prop) : Prop :=
  ∀ (H : Type) (enc : TypeId × Value → H) (fuel : Nat) (cs : List Value) (D : DataW H) (ps : List MemPlace), DataW.trod enc P w 0 spare true fuel T cs = some (D, ps) → (∀ n ∈ D.weights P T, n ≤ reachBytes) → ∃ x, d.K w x cs ∧ wf x
def OpnFs (P : Program) (w : World) (spare : Nat → Bool) (fs : List Field) (off : Nat) {α : Type} (d : Kd α) (wf : α → Prop) : Prop :=
  ∀ (H : Type) (enc : TypeId × Value → H) (n : Nat) (cs : List Value) (xs : List (DataW H × List MemPlace)), cs.length = off + d.sz → xs.length = fs.length →
    (∀ (i : Nat) (f : Field), fs[i]? = some f → DataW.trod enc P w 0 spare true n f.type ((cs.drop f.offset).take (P.cellsOf f.type)) = xs[i]?) →
    (∀ k ∈ DataW.weightsEach P (fs.map (·.type)) (xs.map (·.1)), k ≤ reachBytes) → ∃ x, d.K w x (cs.drop off) ∧ wf x
theorem opn_int {P : Program} {w : World} {spare : Nat → Bool} {T : TypeId} {k : IntKind} (ht : P.underlying T = some (.int k)) : Opn P w spare (Kd.int k) T (fun x => (Lit.int k x).wf = true) := by
  intro H enc fuel cs D ps h _
  obtain ⟨n, rfl, _, hw⟩ := DataW.trod_int ht h
  exact ⟨n, rfl, hw⟩
theorem opn_bool {P : Program} {w : World} {spare : Nat → Bool} {T : TypeId} (ht : P.underlying T = some .bool) : Opn P w spare Kd.bool T (fun _ => True) := by
  intro H enc fuel cs D ps h _
  obtain ⟨b, rfl, _⟩ := DataW.trod_bool ht h
  exact ⟨b, rfl, trivial⟩
theorem opn_string {P : Program} {w : World} {spare : Nat → Bool} {T : TypeId} (ht : P.underlying T = some .string) : Opn P w spare Kd.string T (fun s => s.size ≤ 140737488351232) := by
  intro H enc fuel cs D ps h hw
  obtain ⟨s, rfl, hx, _⟩ := DataW.trod_string ht h
  refine ⟨s, rfl, ?_⟩
  injection hx with hD _
  subst hD
  have := hw s.data.toList.length (by simp [DataW.weights])
  rw [data_length] at this
  exact this
theorem mapM_get {α β : Type} (f : α → Option β) : ∀ (l : List α) (r : List β), l.mapM f = some r → r.length = l.length ∧ ∀ (i : Nat) (a : α), l[i]? = some a → f a = r[i]?
  | [], r, h => by
    simp at h; subst h
    exact ⟨rfl, fun i a h => by simp at h⟩
  | x :: l, r, h => by
    rw [List.mapM_cons] at h
    obtain ⟨y, hy, h⟩ := Option.bind_eq_some_iff.1 h
    obtain ⟨t, ht, h⟩ := Option.bind_eq_some_iff.1 h
    obtain rfl := Option.some.inj h
    obtain ⟨hl, hi⟩ := mapM_get f l t ht
    refine ⟨by simp [hl], fun i a ha => ?_⟩
    cases i with
    | zero => simp at ha; subst ha; simpa using hy
    | succ i => simp at ha; simpa using hi i a ha
theorem cells_get {w : World} {a : Addr} {n : Nat} {cs : List Value} (h : w.cells? 0 a n = some cs) : cs.length = n ∧ ∀ (i : Nat) (u : Value), cs[i]? = some u → w.cell? (a.add i) = some u := by
  unfold World.cells? at h
  rw [if_pos (Nat.zero_le _)] at h
  obtain ⟨hl, hi⟩ := mapM_get _ _ _ h
  rw [List.length_range] at hl
  refine ⟨hl, fun i u hu => ?_⟩
  have hlt : i < n := by have := (List.getElem?_eq_some_iff.1 hu).1; omega
  rw [hi i i (by simp [hlt]), hu]
theorem weightsAll_mem {H : Type} {P : Program} {e : TypeId} : ∀ (l : List (DataW H)) (d : DataW H), d ∈ l → ∀ n ∈ d.weights P e, n ∈ DataW.weightsAll P e l
  | x :: l, d, h, n, hn => by
    rw [DataW.weightsAll, List.mem_append]
    rcases List.mem_cons.1 h with rfl | h
    · exact .inl hn
    · exact .inr (weightsAll_mem l d h n hn)
theorem opn_slice {P : Program} {w : World} {spare : Nat → Bool} {α : Type} [Inhabited α] {d : Kd α} {T e B : Nat} {wf : α → Prop} (ht : P.underlying T = some (.slice e)) (hc : P.cellsOf e = d.sz) (hB : P.bytesOf e = B) (hd : Opn P w spare d e wf) :
    Opn P w spare (Kd.slice e d) T (fun xs => xs.length * B ≤ 140737488351232 ∧ ∀ x ∈ xs, wf x) := by
  intro H enc fuel cs D ps h hw
  rcases Deep.open_slice ht h with ⟨rfl, _⟩ | ⟨a, len, cap, m, n, Df, Pl, rfl, hb, hl, hm, hmm, hx, hel⟩
  · exact ⟨[], ⟨none, 0, rfl, Nat.le_refl _, Kd.C_nil _ _⟩, by simp, by simp⟩
  · injection hx with hD _
    subst hD
    have hlm : len ≤ m := by rw [hmm]; split <;> omega
    have hwl : ∀ i, i < len → ∀ n ∈ (Df i).weights P e, n ≤ reachBytes := fun i hi n hn => hw n (by
      rw [DataW.weights, ht]
      refine List.mem_cons_of_mem _ (List.mem_append_left _ ?_)
      exact weightsAll_mem _ (Df i) (List.mem_map.2 ⟨i, List.mem_range.2 hi, rfl⟩) n hn)
    have hall : ∀ i, i < len → ∃ x, ∃ c, w.cells? 0 (a.add (i * P.cellsOf e)) (P.cellsOf e) = some c ∧ d.K w x c ∧ wf x := fun i hi => by
      obtain ⟨c, h1, h2⟩ := hel i (by omega)
      obtain ⟨x, h3, h4⟩ := hd H enc n c _ _ h2 (hwl i hi)
      exact ⟨x, c, h1, h3, h4⟩
    obtain ⟨f, hf⟩ := Deep.choose_lt hall
    have hlen : ((List.range len).map f).length = len := by simp
    refine ⟨(List.range len).map f, ⟨some a, cap, by rw [hlen], by rw [hlen]; exact hl, ?_⟩, ?_, ?_⟩
    · refine ⟨rfl, by rw [hlen]; simp only [maxLen] at hm; omega, fun hp => ⟨a, rfl, fun j p hj => ?_⟩⟩
      have hjl : j < len := by have := (List.getElem?_eq_some_iff.1 hj).1; omega
      obtain ⟨c, h1, h2, h3⟩ := hf j hjl
      have hpj : p = f j := by simp [hjl] at hj; exact hj.symm
      subst hpj
      obtain ⟨hcl, hcg⟩ := cells_get h1
      refine ⟨c, by rw [hcl, hc], h2, fun i u hu => ?_⟩
      have := hcg i u hu
      rwa [Deep.add_add, hc] at this
    · rw [hlen]
      have := hw _ (by rw [DataW.weights, ht]; exact List.mem_cons_self)
      simp only [List.length_map, List.length_range, hB] at this
      have h2 : len * B ≤ (len + (m - len)) * B := Nat.mul_le_mul_right _ (by omega)
      simp only [reachBytes] at this
      omega
    · intro x hx
      obtain ⟨i, hi, rfl⟩ := List.mem_map.1 hx
      obtain ⟨c, _, _, h3⟩ := hf i (List.mem_range.1 hi)
      exact h3
theorem opnFs_one {P : Program} {w : World} {spare : Nat → Bool} {α : Type} {d : Kd α} {wf : α → Prop} {f : Field} {off : Nat} (ho : f.offset = off) (hc : P.cellsOf f.type = d.sz) (hd : Opn P w spare d f.type wf) : OpnFs P w spare [f] off d wf := by
  intro H enc n cs xs hl hx ht hw
  obtain ⟨x, rfl⟩ : ∃ x, xs = [x] := by match xs, hx with | [x], _ => exact ⟨x, rfl⟩
  have h := ht 0 f rfl
  rw [ho, hc, List.take_of_length_le (by simp; omega)] at h
  exact hd H enc n _ _ _ h (fun k hk => hw k (by simp [DataW.weightsEach]; exact hk))
theorem opnFs_cons {P : Program} {w : World} {spare : Nat → Bool} {α β : Type} {d : Kd α} {ds : Kd β} {wf : α → Prop} {wfs : β → Prop} {f : Field} {fs : List Field} {off : Nat} (ho : f.offset = off) (hc : P.cellsOf f.type = d.sz) (hd : Opn P w spare d f.type wf) (hds : OpnFs P w spare fs (off + d.sz) ds wfs) :
    OpnFs P w spare (f :: fs) off (Kd.pair d ds) (fun x => wf x.1 ∧ wfs x.2) := by
  intro H enc n cs xs hl hx ht hw
  obtain ⟨x, xs, rfl⟩ : ∃ x l, xs = x :: l := by match xs, hx with | x :: l, _ => exact ⟨x, l, rfl⟩
  have h := ht 0 f rfl
  rw [ho, hc] at h
  have hsz : (Kd.pair d ds).sz = d.sz + ds.sz := rfl
  rw [hsz] at hl
  obtain ⟨y, hy, wy⟩ := hd H enc n _ _ _ h (fun k hk => hw k (by simp [DataW.weightsEach]; exact .inl hk))
  obtain ⟨z, hz, wz⟩ := hds H enc n cs xs (by omega) (by simpa using hx) (fun i g hg => by have := ht (i + 1) g (by simpa using hg); simpa using this) (fun k hk => hw k (by simp [DataW.weightsEach]; exact .inr (by simpa using hk)))
  refine ⟨(y, z), ⟨(cs.drop off).take d.sz, cs.drop (off + d.sz), ?_, hy, hz⟩, wy, wz⟩
  rw [← List.drop_drop, List.take_append_drop]
theorem opn_struct {P : Program} {w : World} {spare : Nat → Bool} {α : Type} {d : Kd α} {wf : α → Prop} {T : TypeId} {fs : Array Field} (ht : P.underlying T = some (.struct fs)) (hc : P.cellsOf T = d.sz) (hd : OpnFs P w spare fs.toList 0 d wf) : Opn P w spare d T wf := by
  intro H enc fuel cs D ps h hw
  obtain ⟨xs, n, rfl, hx, hl, hxl, hel⟩ := DataW.trod_struct ht h
  injection hx with hD _
  subst hD
  have := hd H enc n cs xs (by rw [hl, hc]; omega) (by rw [hxl]; simp) (fun i f hf => hel i f (by simpa using hf)) (fun k hk => hw k (by rw [DataW.weights, ht]; exact hk))
  simpa using this
theorem opn_iso {P : Program} {w : World} {spare : Nat → Bool} {α β : Type} {d : Kd α} {wf : α → Prop} {T : TypeId} (f : β → α) (g : α → β) (hfg : ∀ y, f (g y) = y) (h : Opn P w spare d T wf) : Opn P w spare (Kd.iso d f) T (fun x => wf (f x)) := by
  intro H enc fuel cs D ps ht hw
  obtain ⟨y, hy, wy⟩ := h H enc fuel cs D ps ht hw
  exact ⟨g y, by show d.K w (f (g y)) cs; rw [hfg]; exact hy, by show wf (f (g y)); rw [hfg]; exact wy⟩
theorem opn_mono {P : Program} {w : World} {spare : Nat → Bool} {α : Type} {d : Kd α} {wf wf' : α → Prop} {T : TypeId} (h : Opn P w spare d T wf) (hm : ∀ x, wf x → wf' x) : Opn P w spare d T wf' := by
  intro H enc fuel cs D ps ht hw
  obtain ⟨y, hy, wy⟩ := h H enc fuel cs D ps ht hw
  exact ⟨y, hy, hm y wy⟩

theorem own : ownKnob Try.prog.godebug = none := by kernel_rfl
theorem laidOut : laidOutB Try.prog = true := by kernel_rfl
/-! The same of data smaller than N: for kinds that are nested in themselves. -/
def OpnN (N : Nat) (P : Program) (w : World) (spare : Nat → Bool) {α : Type} (d : Kd α) (T : TypeId) (wf : α → Prop) : Prop :=
  ∀ (H : Type) (enc : TypeId × Value → H) (fuel : Nat) (cs : List Value) (D : DataW H) (ps : List MemPlace), DataW.trod enc P w 0 spare true fuel T cs = some (D, ps) → SizeOf.sizeOf D < N → (∀ n ∈ D.weights P T, n ≤ reachBytes) → ∃ x, d.K w x cs ∧ wf x
def OpnFsN (N : Nat) (P : Program) (w : World) (spare : Nat → Bool) (fs : List Field) (off : Nat) {α : Type} (d : Kd α) (wf : α → Prop) : Prop :=
  ∀ (H : Type) (enc : TypeId × Value → H) (n : Nat) (cs : List Value) (xs : List (DataW H × List MemPlace)), cs.length = off + d.sz → xs.length = fs.length →
    (∀ (i : Nat) (f : Field), fs[i]? = some f → DataW.trod enc P w 0 spare true n f.type ((cs.drop f.offset).take (P.cellsOf f.type)) = xs[i]?) → (∀ y ∈ xs, SizeOf.sizeOf y.1 < N) →
    (∀ k ∈ DataW.weightsEach P (fs.map (·.type)) (xs.map (·.1)), k ≤ reachBytes) → ∃ x, d.K w x (cs.drop off) ∧ wf x
theorem opnN_int {N : Nat} {P : Program} {w : World} {spare : Nat → Bool} {T : TypeId} {k : IntKind} (ht : P.underlying T = some (.int k)) : OpnN N P w spare (Kd.int k) T (fun x => (Lit.int k x).wf = true) := by
  intro H enc fuel cs D ps h _ _
  obtain ⟨n, rfl, _, hw⟩ := DataW.trod_int ht h
  exact ⟨n, rfl, hw⟩
theorem opnN_string {N : Nat} {P : Program} {w : World} {spare : Nat → Bool} {T : TypeId} (ht : P.underlying T = some .string) : OpnN N P w spare Kd.string T (fun s => s.size ≤ 140737488351232) := by
  intro H enc fuel cs D ps h hsz hw
  obtain ⟨s, rfl, hx, _⟩ := DataW.trod_string ht h
  refine ⟨s, rfl, ?_⟩
  injection hx with hD _
  subst hD
  have := hw s.data.toList.length (by simp [DataW.weights])
  rw [data_length] at this
  exact this
theorem opnN_slice {N : Nat} {P : Program} {w : World} {spare : Nat → Bool} {α : Type} [Inhabited α] {d : Kd α} {T e B : Nat} {wf : α → Prop} (ht : P.underlying T = some (.slice e)) (hc : P.cellsOf e = d.sz) (hB : P.bytesOf e = B) (hd : OpnN N P w spare d e wf) :
    OpnN (N + 1) P w spare (Kd.slice e d) T (fun xs => xs.length * B ≤ 140737488351232 ∧ ∀ x ∈ xs, wf x) := by
  intro H enc fuel cs D ps h hsz hw
  rcases Deep.open_slice ht h with ⟨rfl, _⟩ | ⟨a, len, cap, m, n, Df, Pl, rfl, hb, hl, hm, hmm, hx, hel⟩
  · exact ⟨[], ⟨none, 0, rfl, Nat.le_refl _, Kd.C_nil _ _⟩, by simp, by simp⟩
  · injection hx with hD _
    subst hD
    have hlm : len ≤ m := by rw [hmm]; split <;> omega
    have hwl : ∀ i, i < len → ∀ n ∈ (Df i).weights P e, n ≤ reachBytes := fun i hi n hn => hw n (by
      rw [DataW.weights, ht]
      refine List.mem_cons_of_mem _ (List.mem_append_left _ ?_)
      exact weightsAll_mem _ (Df i) (List.mem_map.2 ⟨i, List.mem_range.2 hi, rfl⟩) n hn)
    have hall : ∀ i, i < len → ∃ x, ∃ c, w.cells? 0 (a.add (i * P.cellsOf e)) (P.cellsOf e) = some c ∧ d.K w x c ∧ wf x := fun i hi => by
      obtain ⟨c, h1, h2⟩ := hel i (by omega)
      have hlt : SizeOf.sizeOf (Df i) < N := by
        have hm : Df i ∈ (List.range len).map Df := List.mem_map.2 ⟨i, List.mem_range.2 hi, rfl⟩
        have := List.sizeOf_lt_of_mem hm
        simp only [DataW.slice.sizeOf_spec] at hsz
        omega
      obtain ⟨x, h3, h4⟩ := hd H enc n c _ _ h2 hlt (hwl i hi)
      exact ⟨x, c, h1, h3, h4⟩
    obtain ⟨f, hf⟩ := Deep.choose_lt hall
    have hlen : ((List.range len).map f).length = len := by simp
    refine ⟨(List.range len).map f, ⟨some a, cap, by rw [hlen], by rw [hlen]; exact hl, ?_⟩, ?_, ?_⟩
    · refine ⟨rfl, by rw [hlen]; simp only [maxLen] at hm; omega, fun hp => ⟨a, rfl, fun j p hj => ?_⟩⟩
      have hjl : j < len := by have := (List.getElem?_eq_some_iff.1 hj).1; omega
      obtain ⟨c, h1, h2, h3⟩ := hf j hjl
      have hpj : p = f j := by simp [hjl] at hj; exact hj.symm
      subst hpj
      obtain ⟨hcl, hcg⟩ := cells_get h1
      refine ⟨c, by rw [hcl, hc], h2, fun i u hu => ?_⟩
      have := hcg i u hu
      rwa [Deep.add_add, hc] at this
    · rw [hlen]
      have := hw _ (by rw [DataW.weights, ht]; exact List.mem_cons_self)
      simp only [List.length_map, List.length_range, hB] at this
      have h2 : len * B ≤ (len + (m - len)) * B := Nat.mul_le_mul_right _ (by omega)
      simp only [reachBytes] at this
      omega
    · intro x hx
      obtain ⟨i, hi, rfl⟩ := List.mem_map.1 hx
      obtain ⟨c, _, _, h3⟩ := hf i (List.mem_range.1 hi)
      exact h3
theorem opnFsN_one {N : Nat} {P : Program} {w : World} {spare : Nat → Bool} {α : Type} {d : Kd α} {wf : α → Prop} {f : Field} {off : Nat} (ho : f.offset = off) (hc : P.cellsOf f.type = d.sz) (hd : OpnN N P w spare d f.type wf) : OpnFsN N P w spare [f] off d wf := by
  intro H enc n cs xs hl hx ht hss hw
  obtain ⟨x, rfl⟩ : ∃ x, xs = [x] := by match xs, hx with | [x], _ => exact ⟨x, rfl⟩
  have h := ht 0 f rfl
  rw [ho, hc, List.take_of_length_le (by simp; omega)] at h
  exact hd H enc n _ _ _ h (hss x List.mem_cons_self) (fun k hk => hw k (by simp [DataW.weightsEach]; exact hk))
theorem opnFsN_cons {N : Nat} {P : Program} {w : World} {spare : Nat → Bool} {α β : Type} {d : Kd α} {ds : Kd β} {wf : α → Prop} {wfs : β → Prop} {f : Field} {fs : List Field} {off : Nat} (ho : f.offset = off) (hc : P.cellsOf f.type = d.sz) (hd : OpnN N P w spare d f.type wf) (hds : OpnFsN N P w spare fs (off + d.sz) ds wfs) :
    OpnFsN N P w spare (f :: fs) off (Kd.pair d ds) (fun x => wf x.1 ∧ wfs x.2) := by
  intro H enc n cs xs hl hx ht hss hw
  obtain ⟨x, xs, rfl⟩ : ∃ x l, xs = x :: l := by match xs, hx with | x :: l, _ => exact ⟨x, l, rfl⟩
  have h := ht 0 f rfl
  rw [ho, hc] at h
  have hsz : (Kd.pair d ds).sz = d.sz + ds.sz := rfl
  rw [hsz] at hl
  obtain ⟨y, hy, wy⟩ := hd H enc n _ _ _ h (hss x List.mem_cons_self) (fun k hk => hw k (by simp [DataW.weightsEach]; exact .inl hk))
  obtain ⟨z, hz, wz⟩ := hds H enc n cs xs (by omega) (by simpa using hx) (fun i g hg => by have := ht (i + 1) g (by simpa using hg); simpa using this) (fun y hy => hss y (List.mem_cons_of_mem _ hy)) (fun k hk => hw k (by simp [DataW.weightsEach]; exact .inr (by simpa using hk)))
  refine ⟨(y, z), ⟨(cs.drop off).take d.sz, cs.drop (off + d.sz), ?_, hy, hz⟩, wy, wz⟩
  rw [← List.drop_drop, List.take_append_drop]
theorem opnN_struct {N : Nat} {P : Program} {w : World} {spare : Nat → Bool} {α : Type} {d : Kd α} {wf : α → Prop} {T : TypeId} {fs : Array Field} (ht : P.underlying T = some (.struct fs)) (hc : P.cellsOf T = d.sz) (hd : OpnFsN N P w spare fs.toList 0 d wf) : OpnN (N + 1) P w spare d T wf := by
  intro H enc fuel cs D ps h hsz hw
  obtain ⟨xs, n, rfl, hx, hl, hxl, hel⟩ := DataW.trod_struct ht h
  injection hx with hD _
  subst hD
  have := hd H enc n cs xs (by rw [hl, hc]; omega) (by rw [hxl]; simp) (fun i f hf => hel i f (by simpa using hf)) (fun y hy => by
    have hm : y.1 ∈ xs.map (·.1) := List.mem_map.2 ⟨y, hy, rfl⟩
    have := List.sizeOf_lt_of_mem hm
    simp only [DataW.agg.sizeOf_spec] at hsz
    omega) (fun k hk => hw k (by rw [DataW.weights, ht]; exact hk))
  simpa using this
theorem opnN_iso {N : Nat} {P : Program} {w : World} {spare : Nat → Bool} {α β : Type} {d : Kd α} {wf : α → Prop} {T : TypeId} (f : β → α) (g : α → β) (hfg : ∀ y, f (g y) = y) (h : OpnN N P w spare d T wf) : OpnN N P w spare (Kd.iso d f) T (fun x => wf (f x)) := by
  intro H enc fuel cs D ps ht hsz hw
  obtain ⟨y, hy, wy⟩ := h H enc fuel cs D ps ht hsz hw
  exact ⟨g y, by show d.K w (f (g y)) cs; rw [hfg]; exact hy, by show wf (f (g y)); rw [hfg]; exact wy⟩
theorem opnN_mono {N : Nat} {P : Program} {w : World} {spare : Nat → Bool} {α : Type} {d : Kd α} {wf wf' : α → Prop} {T : TypeId} (h : OpnN N P w spare d T wf) (hm : ∀ x, wf x → wf' x) : OpnN N P w spare d T wf' := by
  intro H enc fuel cs D ps ht hsz hw
  obtain ⟨y, hy, wy⟩ := h H enc fuel cs D ps ht hsz hw
  exact ⟨y, hy, hm y wy⟩
theorem opn_all {P : Program} {w : World} {spare : Nat → Bool} {α : Type} {d : Kd α} {wf : α → Prop} {T : TypeId} (h : ∀ N, OpnN N P w spare d T wf) : Opn P w spare d T wf := fun H enc fuel cs D ps ht hw => h (SizeOf.sizeOf D + 1) H enc fuel cs D ps ht (Nat.lt_succ_self _) hw
set_option maxRecDepth 100000 in
theorem opn50N (w : World) (spare : Nat → Bool) : ∀ N, OpnN N Try.prog w spare k50 50 (fun _ => True)
  | 0 => fun H enc fuel cs D ps ht hsz hw => absurd hsz (Nat.not_lt_zero _)
  | N + 1 => by
    have hi : Inhabited S50 := ⟨z50⟩
    have ih := opn50N w spare N
    have hs : OpnN (N + 1) Try.prog w spare (Kd.slice 50 k50) 48 (fun xs => xs.length * 48 ≤ 140737488351232 ∧ ∀ x ∈ xs, True) := opnN_slice Try.underlying48 (by kernel_rfl) (by kernel_rfl) ih
    have hst : OpnN (N + 1 + 1) Try.prog w spare (F50 k50) 50 (fun _ => True) := by
      refine opnN_mono (wf := fun x => ((Lit.int .i64 x.f0).wf = true ∧ x.f1.size ≤ 140737488351232 ∧ (x.f2.length * 48 ≤ 140737488351232 ∧ ∀ y ∈ x.f2, True))) ?_ (fun _ _ => trivial)
      refine opnN_iso (wf := fun y : Int × ByteArray × List S50 => (Lit.int .i64 y.1).wf = true ∧ y.2.1.size ≤ 140737488351232 ∧ (y.2.2.length * 48 ≤ 140737488351232 ∧ ∀ z : S50, z ∈ y.2.2 → True)) (fun x : S50 => (x.f0, x.f1, x.f2)) (fun y => ⟨y.1, y.2.1, y.2.2⟩) (fun _ => rfl) ?_
      refine opnN_struct Try.underlying50 (by kernel_rfl) ?_
      refine opnFsN_cons (wf := fun a : Int => (Lit.int .i64 a).wf = true) (wfs := fun y : ByteArray × List S50 => y.1.size ≤ 140737488351232 ∧ (y.2.length * 48 ≤ 140737488351232 ∧ ∀ z : S50, z ∈ y.2 → True)) rfl (by kernel_rfl) (opnN_int Try.underlying3) ?_
      refine opnFsN_cons (wf := fun a : ByteArray => a.size ≤ 140737488351232) (wfs := fun y : List S50 => (y.length * 48 ≤ 140737488351232 ∧ ∀ z : S50, z ∈ y → True)) rfl (by kernel_rfl) (opnN_string Try.underlying9) ?_
      exact opnFsN_one rfl (by kernel_rfl) hs
    intro H enc fuel cs D ps ht hsz hw
    obtain ⟨x, hx, _⟩ := hst H enc fuel cs D ps ht (by omega) hw
    obtain ⟨_, _, rfl, rfl, ⟨_, _, rfl, rfl, ⟨A2, c2, rfl, l2, g2⟩⟩⟩ := hx
    exact ⟨x, k50_mk w x l2 g2, trivial⟩
theorem opn50 (w : World) (spare : Nat → Bool) : Opn Try.prog w spare k50 50 (fun _ => True) := opn_all (opn50N w spare)
def k40 : Kd S40 := Kd.iso (Kd.pair (Kd.slice 47 k47) (Kd.pair (Kd.slice 86 k86) (Kd.slice 91 k91))) (fun x : S40 => (x.f0, x.f1, x.f2))
theorem k40_open {w : World} {x : S40} {cs : List Value} (h : k40.K w x cs) : ∃ A1 c1 A2 c2 A3 c3, cs = [.slice A1 x.f0.length c1, .slice A2 x.f1.length c2, .slice A3 x.f2.length c3] ∧ sch3 x w A1 A2 A3 := by
  obtain ⟨_, _, rfl, ⟨A1, c1, rfl, l1, g1⟩, ⟨_, _, rfl, ⟨A2, c2, rfl, l2, g2⟩, ⟨A3, c3, rfl, l3, g3⟩⟩⟩ := h
  exact ⟨A1, c1, A2, c2, A3, c3, rfl, g1, g2, g3⟩
set_option maxRecDepth 100000 in
theorem opn52 (w : World) (spare : Nat → Bool) : Opn Try.prog w spare k52 52 (fun _ => True) := by
  refine opn_mono (wf := fun x : S52 => ((x.f0.size ≤ 140737488351232) ∧ ((Lit.int .i64 x.f1).wf = true) ∧ (True))) ?_ (fun _ _ => trivial)
  refine opn_iso (wf := fun y : ByteArray × Int × S50 => (y.1.size ≤ 140737488351232) ∧ ((Lit.int .i64 y.2.1).wf = true) ∧ (True)) (fun x : S52 => (x.f0, x.f1, x.f2)) (fun y => ⟨y.1, y.2.1, y.2.2⟩) (fun _ => rfl) ?_
  refine opn_struct Try.underlying52 (by kernel_rfl) ?_
  refine opnFs_cons (wf := fun a : ByteArray => a.size ≤ 140737488351232) (wfs := fun y : Int × S50 => ((Lit.int .i64 y.1).wf = true) ∧ (True)) rfl (by kernel_rfl) (opn_string Try.underlying9) ?_
  refine opnFs_cons (wf := fun a : Int => (Lit.int .i64 a).wf = true) (wfs := fun y : S50 => (True)) rfl (by kernel_rfl) (opn_int Try.underlying3) ?_
  exact opnFs_one rfl (by kernel_rfl) (opn50 w spare)
set_option maxRecDepth 100000 in
theorem opn45 (w : World) (spare : Nat → Bool) : Opn Try.prog w spare (Kd.slice 52 k52) 45 (fun _ => True) := by
  have hi : Inhabited S52 := ⟨z52⟩
  exact opn_mono (opn_slice Try.underlying45 (by kernel_rfl) rfl (opn52 w spare)) (fun _ _ => trivial)
set_option maxRecDepth 100000 in
theorem opn47 (w : World) (spare : Nat → Bool) : Opn Try.prog w spare k47 47 (fun _ => True) := by
  refine opn_mono (wf := fun x : S47 => ((x.f0.size ≤ 140737488351232) ∧ (True))) ?_ (fun _ _ => trivial)
  refine opn_iso (wf := fun y : ByteArray × (List S52) => (y.1.size ≤ 140737488351232) ∧ (True)) (fun x : S47 => (x.f0, x.f1)) (fun y => ⟨y.1, y.2⟩) (fun _ => rfl) ?_
  refine opn_struct Try.underlying47 (by kernel_rfl) ?_
  refine opnFs_cons (wf := fun a : ByteArray => a.size ≤ 140737488351232) (wfs := fun y : (List S52) => (True)) rfl (by kernel_rfl) (opn_string Try.underlying9) ?_
  exact opnFs_one rfl (by kernel_rfl) (opn45 w spare)
set_option maxRecDepth 100000 in
theorem opn88 (w : World) (spare : Nat → Bool) : Opn Try.prog w spare k88 88 (fun _ => True) := by
  refine opn_mono (wf := fun x : S88 => ((x.f0.size ≤ 140737488351232) ∧ ((Lit.int .i64 x.f1).wf = true))) ?_ (fun _ _ => trivial)
  refine opn_iso (wf := fun y : ByteArray × Int => (y.1.size ≤ 140737488351232) ∧ ((Lit.int .i64 y.2).wf = true)) (fun x : S88 => (x.f0, x.f1)) (fun y => ⟨y.1, y.2⟩) (fun _ => rfl) ?_
  refine opn_struct Try.underlying88 (by kernel_rfl) ?_
  refine opnFs_cons (wf := fun a : ByteArray => a.size ≤ 140737488351232) (wfs := fun y : Int => ((Lit.int .i64 y).wf = true)) rfl (by kernel_rfl) (opn_string Try.underlying9) ?_
  exact opnFs_one rfl (by kernel_rfl) (opn_int Try.underlying3)
set_option maxRecDepth 100000 in
theorem opn84 (w : World) (spare : Nat → Bool) : Opn Try.prog w spare (Kd.slice 88 k88) 84 (fun _ => True) := by
  have hi : Inhabited S88 := ⟨z88⟩
  exact opn_mono (opn_slice Try.underlying84 (by kernel_rfl) rfl (opn88 w spare)) (fun _ _ => trivial)
set_option maxRecDepth 100000 in
theorem opn86 (w : World) (spare : Nat → Bool) : Opn Try.prog w spare k86 86 (fun _ => True) := by
  refine opn_mono (wf := fun x : S86 => ((x.f0.size ≤ 140737488351232) ∧ (True))) ?_ (fun _ _ => trivial)
  refine opn_iso (wf := fun y : ByteArray × (List S88) => (y.1.size ≤ 140737488351232) ∧ (True)) (fun x : S86 => (x.f0, x.f1)) (fun y => ⟨y.1, y.2⟩) (fun _ => rfl) ?_
  refine opn_struct Try.underlying86 (by kernel_rfl) ?_
  refine opnFs_cons (wf := fun a : ByteArray => a.size ≤ 140737488351232) (wfs := fun y : (List S88) => (True)) rfl (by kernel_rfl) (opn_string Try.underlying9) ?_
  exact opnFs_one rfl (by kernel_rfl) (opn84 w spare)
set_option maxRecDepth 100000 in
theorem opn94 (w : World) (spare : Nat → Bool) : Opn Try.prog w spare k94 94 (fun _ => True) := by
  refine opn_mono (wf := fun x : S94 => ((x.f0.size ≤ 140737488351232) ∧ (True) ∧ (True) ∧ (True))) ?_ (fun _ _ => trivial)
  refine opn_iso (wf := fun y : ByteArray × Bool × S50 × S50 => (y.1.size ≤ 140737488351232) ∧ (True) ∧ (True) ∧ (True)) (fun x : S94 => (x.f0, x.f1, x.f2, x.f3)) (fun y => ⟨y.1, y.2.1, y.2.2.1, y.2.2.2⟩) (fun _ => rfl) ?_
  refine opn_struct Try.underlying94 (by kernel_rfl) ?_
  refine opnFs_cons (wf := fun a : ByteArray => a.size ≤ 140737488351232) (wfs := fun y : Bool × S50 × S50 => (True) ∧ (True) ∧ (True)) rfl (by kernel_rfl) (opn_string Try.underlying9) ?_
  refine opnFs_cons (wf := fun a : Bool => True) (wfs := fun y : S50 × S50 => (True) ∧ (True)) rfl (by kernel_rfl) (opn_bool Try.underlying4) ?_
  refine opnFs_cons (wf := fun a : S50 => True) (wfs := fun y : S50 => (True)) rfl (by kernel_rfl) (opn50 w spare) ?_
  exact opnFs_one rfl (by kernel_rfl) (opn50 w spare)
set_option maxRecDepth 100000 in
theorem opn89 (w : World) (spare : Nat → Bool) : Opn Try.prog w spare (Kd.slice 94 k94) 89 (fun _ => True) := by
  have hi : Inhabited S94 := ⟨z94⟩
  exact opn_mono (opn_slice Try.underlying89 (by kernel_rfl) rfl (opn94 w spare)) (fun _ _ => trivial)
set_option maxRecDepth 100000 in
theorem opn91 (w : World) (spare : Nat → Bool) : Opn Try.prog w spare k91 91 (fun _ => True) := by
  refine opn_mono (wf := fun x : S91 => ((x.f0.size ≤ 140737488351232) ∧ (True))) ?_ (fun _ _ => trivial)
  refine opn_iso (wf := fun y : ByteArray × (List S94) => (y.1.size ≤ 140737488351232) ∧ (True)) (fun x : S91 => (x.f0, x.f1)) (fun y => ⟨y.1, y.2⟩) (fun _ => rfl) ?_
  refine opn_struct Try.underlying91 (by kernel_rfl) ?_
  refine opnFs_cons (wf := fun a : ByteArray => a.size ≤ 140737488351232) (wfs := fun y : (List S94) => (True)) rfl (by kernel_rfl) (opn_string Try.underlying9) ?_
  exact opnFs_one rfl (by kernel_rfl) (opn89 w spare)
set_option maxRecDepth 100000 in
theorem opn36 (w : World) (spare : Nat → Bool) : Opn Try.prog w spare (Kd.slice 47 k47) 36 (fun _ => True) := by
  have hi : Inhabited S47 := ⟨z47⟩
  exact opn_mono (opn_slice Try.underlying36 (by kernel_rfl) rfl (opn47 w spare)) (fun _ _ => trivial)
set_option maxRecDepth 100000 in
theorem opn37 (w : World) (spare : Nat → Bool) : Opn Try.prog w spare (Kd.slice 86 k86) 37 (fun _ => True) := by
  have hi : Inhabited S86 := ⟨z86⟩
  exact opn_mono (opn_slice Try.underlying37 (by kernel_rfl) rfl (opn86 w spare)) (fun _ _ => trivial)
set_option maxRecDepth 100000 in
theorem opn38 (w : World) (spare : Nat → Bool) : Opn Try.prog w spare (Kd.slice 91 k91) 38 (fun _ => True) := by
  have hi : Inhabited S91 := ⟨z91⟩
  exact opn_mono (opn_slice Try.underlying38 (by kernel_rfl) rfl (opn91 w spare)) (fun _ _ => trivial)
set_option maxRecDepth 100000 in
theorem opn40 (w : World) (spare : Nat → Bool) : Opn Try.prog w spare k40 40 (fun _ => True) := by
  refine opn_mono (wf := fun x : S40 => ((True) ∧ (True) ∧ (True))) ?_ (fun _ _ => trivial)
  refine opn_iso (wf := fun y : (List S47) × (List S86) × (List S91) => (True) ∧ (True) ∧ (True)) (fun x : S40 => (x.f0, x.f1, x.f2)) (fun y => ⟨y.1, y.2.1, y.2.2⟩) (fun _ => rfl) ?_
  refine opn_struct Try.underlying40 (by kernel_rfl) ?_
  refine opnFs_cons (wf := fun a : (List S47) => True) (wfs := fun y : (List S86) × (List S91) => (True) ∧ (True)) rfl (by kernel_rfl) (opn36 w spare) ?_
  refine opnFs_cons (wf := fun a : (List S86) => True) (wfs := fun y : (List S91) => (True)) rfl (by kernel_rfl) (opn37 w spare) ?_
  exact opnFs_one rfl (by kernel_rfl) (opn38 w spare)

set_option maxRecDepth 100000 in
theorem lifted (os : Os) (started : os.Started) (H : Type) (enc : TypeId × Value → H) :
    ReturnsInHanded {} Try.checked os 12 .any (Rows.parseBackSpec.pre6 enc Try.prog Try.f12 Rows.parseBackRow.domain false) (Rows.parseBackSpec.post enc Try.prog Try.f12 false true false false) := by
  refine returnsInHanded_of_change_sized (C := Try.checked) own started (by kernel_rfl) Try.func12
    (ChangeSpec.witness6 (enc := enc) (C := Try.checked) false ⟨#[], #[.agg #[.slice none 0 0, .slice none 0 0, .slice none 0 0]], []⟩ 8 (by kernel_rfl) (by kernel_rfl) (by kernel_rfl) (by kernel_rfl)) ?_
  intro W base args ds gs before hval0 hW hcnd hsz0 _
  have hsz : (DataW.weightsEach Try.prog (Try.f12.params.toList ++ Rows.parseBackSpec.plain.varTypes Try.prog) (ds ++ gs)).all (· ≤ reachBytes) = true := hsz0
  have hval : ∀ (j : Nat) t v, Try.f12.params[j]? = some t → args[j]? = some v → Value.okWide Try.prog W .any base t v := hval0
  have hW' := hW
  obtain ⟨p, q, hA0, hV, rfl, hfz, hnd⟩ := hW
  have hA : DataW.TrodAll enc Try.prog W 0 (fun _ => true) true Try.f12.params.toList args.toList ds p := hA0
  rw [Try.params12] at hA hval hsz
  obtain ⟨v0, vs0, d0, ds0, p0, q0, hargs, rfl, rfl, h0, r0⟩ := trodAll_cons hA
  obtain ⟨rfl, rfl, rfl⟩ := trodAll_nil r0
  obtain rfl : args = #[v0] := by cases args; simp_all
  obtain ⟨rfl, rfl⟩ := trodVars_none hV
  obtain ⟨cs0, rfl, hcz0⟩ := okWide_struct Try.underlying40 (hval 0 40 v0 rfl rfl)
  have k0 := h0
  have lt0 : ∀ x ∈ p0, x.block < W.heap.size := by obtain ⟨m, hm⟩ := k0; exact DataW.trod_lt m _ _ _ hm
  obtain ⟨fuel0, hf0⟩ := h0
  obtain ⟨x0, hK0, hw0⟩ := opn40 W _ H enc fuel0 _ _ _ hf0 (fun n hn => of_decide_eq_true (List.all_eq_true.1 hsz n (by simp [DataW.weightsEach]; first | exact hn | exact .inl hn | exact .inr hn)))
  obtain ⟨A1, c1, A2, c2, A3, c3, hO0, hX0⟩ := k40_open hK0
  obtain rfl : cs0 = #[.slice A1 x0.f0.length c1, .slice A2 x0.f1.length c2, .slice A3 x0.f2.length c3] := Array.ext' (by simpa [Value.cells] using hO0)
  clear hA0 hval0 hsz0 hsz
  refine (ParseBack_true x0 A1 A2 A3 c1 c2 c3 W hX0).mono fun e W' ⟨he, bel⟩ => ?_
  subst he
  exact ⟨_, rfl, _, _, _, [], _, [], hW', trodAll_mk1 (shut_bool Try.underlying4 _), (trodAll_cons_mk (Below.trod laidOut (by kernel_rfl) (of_decide_eq_true (by kernel_rfl)) k0 bel lt0) trodAll_mk0), rfl, bel.frame _, fun h => by cases h⟩
theorem over : Rows.parseBackRow.holds Try.pinned (OpenSpec.ofChange Rows.parseBackSpec) :=
  OpenClaim.holds_of_wide 12 Try.f12 rfl rfl rfl rfl rfl rfl rfl ⟨rfl, rfl, rfl, rfl, rfl⟩ rfl rfl rfl rfl rfl (by kernel_rfl) Try.func12 (by kernel_rfl)
    (of_decide_eq_true (by kernel_rfl)) (by unfold Func.isWrapper; first | (rw [if_pos (by decide +kernel)]; kernel_rfl) | (rw [if_neg (by decide +kernel)]; exact ⟨rfl, rfl⟩))
    (fun os started H enc _ => lifted os started H enc)
theorem proved : Rows.ParseBackSaid := over
#print axioms proved
end Go.Proofs.Ytoloneoeojoiaaa.parseBack
namespace Go.Proofs.Ytoloneoeojoiaaa
/-- The row, under a short name, for the claim. -/
theorem parseBack_holds : Rows.ParseBackSaid := parseBack.proved
end Go.Proofs.Ytoloneoeojoiaaa

