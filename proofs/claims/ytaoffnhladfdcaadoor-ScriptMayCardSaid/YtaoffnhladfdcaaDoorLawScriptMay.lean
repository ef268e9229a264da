/- ScriptMay: the row of the law, over its pure statement. Written by a program of this seat; the arguments are opened by Opn. -/
import Derived.Test.YtaoffnhladfdcaaDoorRows
import Derived.Test.YtaoffnhladfdcaaDoorEScriptTracex6
import Derived.Test.YtaoffnhladfdcaaDoorPureScriptMay
import Derived.WalkKit
import Derived.ProofKit
import Derived.OpenShut
import Derived.ShutString
import Derived.ChangeOld
import Derived.Below
import Derived.SizedLaws
import Derived.Deep.Slices
import Derived.LaidMore
import Derived.Stop.Joined
import Derived.Stop.LaidErr
import Derived.SevenTiedAt
import Derived.Lib.LaidTab
import Derived.MakeChecks
import Derived.LaidHandle
import Derived.Handed
import Derived.Test.YtaoffnhladfdcaaDoorTie
import Derived.Test.YtaoffnhladfdcaaDoorCards
namespace Go.Proofs.YtaoffnhladfdcaaDoor.scriptMay
open Go.ChangeShapes Go.WideShapes Go.ChangeAt Go.RowKit
open Go.ChangeMaps (open_string shut_string)
open Go.Proofs.YtaoffnhladfdcaaDoor.EScriptTrace Go.Proofs.YtaoffnhladfdcaaDoorW.PrintWords
set_option linter.unusedVariables false
/-! What an argument reads as, kind by kind: out of the row's own reading, with what its weight allows. -/
def Opn (P : Program) (w : World) (spare : Nat → Bool) {α : Type} (d : Kd α) (T : TypeId) (wf : α → Prop) : Prop :=
  ∀ (H : Type) (enc : TypeId × Value → H) (fuel : Nat) (cs : List Value) (D : DataW H) (ps : List MemPlace), DataW.trod enc P w 0 spare true fuel T cs = some (D, ps) → (∀ n ∈ D.weights P T, n ≤ reachBytes) → ∃ x, d.K w x cs ∧ wf x
def OpnFs (P : Program) (w : World) (spare : Nat → Bool) (fs : List Field) (off : Nat) {α : Type} (d : Kd α) (wf : α → Prop) : Prop :=
  ∀ (H : Type) (enc : TypeId × Value → H) (n : Nat) (cs : List Value) (xs : List (DataW H × List MemPlace)), cs.length = off + d.sz → xs.length = fs.length →
    (∀ (i : Nat) (f : Field), fs[i]? = some f → DataW.trod enc P w 0 spare true n f.type ((cs.drop f.offset).take (P.cellsOf f.type)) = xs[i]?) →
    (∀ k ∈ DataW.weightsEach P (fs.map (·.type)) (xs.map (·.1)), k ≤ reachBytes) → ∃ x, d.K w x (cs.drop off) ∧ wf x
theorem opn_int {P : Program} {w : World} {spare : Nat → Bool} {T : TypeId} {k : IntKind} (ht : P.underlying T = some (.int k)) : Opn P w spare (Kd.int k) T (fun x => (Lit.int k x).wf = true) := by
  intro H enc fuel cs D ps h _
  obtain ⟨n, rfl, _, hw⟩ := DataW.trod_int ht h
  exact ⟨n, rfl, hw⟩
theorem opn_bool {P : Program} {w : World} {spare : Nat → Bool} {T : TypeId} (ht : P.underlying T = some .bool) : Opn P w spare Kd.bool T (fun _ => True) := by
  intro H enc fuel cs D ps h _
  obtain ⟨b, rfl, _⟩ := DataW.trod_bool ht h
  exact ⟨b, rfl, trivial⟩
theorem opn_string {P : Program} {w : World} {spare : Nat → Bool} {T : TypeId} (ht : P.underlying T = some .string) : Opn P w spare Kd.string T (fun s => s.size ≤ 140737488351232) := by
  intro H enc fuel cs D ps h hw
  obtain ⟨s, rfl, hx, _⟩ := DataW.trod_string ht h
  refine ⟨s, rfl, ?_⟩
  injection hx with hD _
  subst hD
  have := hw s.data.toList.length (by simp [DataW.weights])
  rw [data_length] at this
  exact this
theorem mapM_get {α β : Type} (f : α → Option β) : ∀ (l : List α) (r : List β), l.mapM f = some r → r.length = l.length ∧ ∀ (i : Nat) (a : α), l[i]? = some a → f a = r[i]?
  | [], r, h => by
    simp at h; subst h
    exact ⟨rfl, fun i a h => by simp at h⟩
  | x :: l, r, h => by
    rw [List.mapM_cons] at h
    obtain ⟨y, hy, h⟩ := Option.bind_eq_some_iff.1 h
    obtain ⟨t, ht, h⟩ := Option.bind_eq_some_iff.1 h
    obtain rfl := Option.some.inj h
    obtain ⟨hl, hi⟩ := mapM_get f l t ht
    refine ⟨by simp [hl], fun i a ha => ?_⟩
    cases i with
    | zero => simp at ha; subst ha; simpa using hy
    | succ i => simp at ha; simpa using hi i a ha
theorem cells_get {w : World} {a : Addr} {n : Nat} {cs : List Value} (h : w.cells? 0 a n = some cs) : cs.length = n ∧ ∀ (i : Nat) (u : Value), cs[i]? = some u → w.cell? (a.add i) = some u := by
  unfold World.cells? at h
  rw [if_pos (Nat.zero_le _)] at h
  obtain ⟨hl, hi⟩ := mapM_get _ _ _ h
  rw [List.length_range] at hl
  refine ⟨hl, fun i u hu => ?_⟩
  have hlt : i < n := by have := (List.getElem?_eq_some_iff.1 hu).1; omega
  rw [hi i i (by simp [hlt]), hu]
theorem weightsAll_mem {H : Type} {P : Program} {e : TypeId} : ∀ (l : List (DataW H)) (d : DataW H), d ∈ l → ∀ n ∈ d.weights P e, n ∈ DataW.weightsAll P e l
  | x :: l, d, h, n, hn => by
    rw [DataW.weightsAll, List.mem_append]
    rcases List.mem_cons.1 h with rfl | h
    · exact .inl hn
    · exact .inr (weightsAll_mem l d h n hn)
theorem opn_slice {P : Program} {w : World} {spare : Nat → Bool} {α : Type} [Inhabited α] {d : Kd α} {T e B : Nat} {wf : α → Prop} (ht : P.underlying T = some (.slice e)) (hc : P.cellsOf e = d.sz) (hB : P.bytesOf e = B) (hd : Opn P w spare d e wf) :
    Opn P w spare (Kd.slice e d) T (fun xs => xs.length * B ≤ 140737488351232 ∧ ∀ x ∈ xs, wf x) := by
  intro H enc fuel cs D ps h hw
  rcases Deep.open_slice ht h with ⟨rfl, _⟩ | ⟨a, len, cap, m, n, Df, Pl, rfl, hb, hl, hm, hmm, hx, hel⟩
  · exact ⟨[], ⟨none, 0, rfl, Nat.le_refl _, Kd.C_nil _ _⟩, by simp, by simp⟩
  · injection hx with hD _
    subst hD
    have hlm : len ≤ m := by rw [hmm]; split <;> omega
    have hwl : ∀ i, i < len → ∀ n ∈ (Df i).weights P e, n ≤ reachBytes := fun i hi n hn => hw n (by
      rw [DataW.weights, ht]
      refine List.mem_cons_of_mem _ (List.mem_append_left _ ?_)
      exact weightsAll_mem _ (Df i) (List.mem_map.2 ⟨i, List.mem_range.2 hi, rfl⟩) n hn)
    have hall : ∀ i, i < len → ∃ x, ∃ c, w.cells? 0 (a.add (i * P.cellsOf e)) (P.cellsOf e) = some c ∧ d.K w x c ∧ wf x := fun i hi => by
      obtain ⟨c, h1, h2⟩ := hel i (by omega)
      obtain ⟨x, h3, h4⟩ := hd H enc n c _ _ h2 (hwl i hi)
      exact ⟨x, c, h1, h3, h4⟩
    obtain ⟨f, hf⟩ := Deep.choose_lt hall
    have hlen : ((List.range len).map f).length = len := by simp
    refine ⟨(List.range len).map f, ⟨some a, cap, by rw [hlen], by rw [hlen]; exact hl, ?_⟩, ?_, ?_⟩
    · refine ⟨rfl, by rw [hlen]; simp only [maxLen] at hm; omega, fun hp => ⟨a, rfl, fun j p hj => ?_⟩⟩
      have hjl : j < len := by have := (List.getElem?_eq_some_iff.1 hj).1; omega
      obtain ⟨c, h1, h2, h3⟩ := hf j hjl
      have hpj : p = f j := by simp [hjl] at hj; exact hj.symm
      subst hpj
      obtain ⟨hcl, hcg⟩ := cells_get h1
      refine ⟨c, by rw [hcl, hc], h2, fun i u hu => ?_⟩
      have := hcg i u hu
      rwa [Deep.add_add, hc] at this
    · rw [hlen]
      have := hw _ (by rw [DataW.weights, ht]; exact List.mem_cons_self)
      simp only [List.length_map, List.length_range, hB] at this
      have h2 : len * B ≤ (len + (m - len)) * B := Nat.mul_le_mul_right _ (by omega)
      simp only [reachBytes] at this
      omega
    · intro x hx
      obtain ⟨i, hi, rfl⟩ := List.mem_map.1 hx
      obtain ⟨c, _, _, h3⟩ := hf i (List.mem_range.1 hi)
      exact h3
theorem opnFs_one {P : Program} {w : World} {spare : Nat → Bool} {α : Type} {d : Kd α} {wf : α → Prop} {f : Field} {off : Nat} (ho : f.offset = off) (hc : P.cellsOf f.type = d.sz) (hd : Opn P w spare d f.type wf) : OpnFs P w spare [f] off d wf := by
  intro H enc n cs xs hl hx ht hw
  obtain ⟨x, rfl⟩ : ∃ x, xs = [x] := by match xs, hx with | [x], _ => exact ⟨x, rfl⟩
  have h := ht 0 f rfl
  rw [ho, hc, List.take_of_length_le (by simp; omega)] at h
  exact hd H enc n _ _ _ h (fun k hk => hw k (by simp [DataW.weightsEach]; exact hk))
theorem opnFs_cons {P : Program} {w : World} {spare : Nat → Bool} {α β : Type} {d : Kd α} {ds : Kd β} {wf : α → Prop} {wfs : β → Prop} {f : Field} {fs : List Field} {off : Nat} (ho : f.offset = off) (hc : P.cellsOf f.type = d.sz) (hd : Opn P w spare d f.type wf) (hds : OpnFs P w spare fs (off + d.sz) ds wfs) :
    OpnFs P w spare (f :: fs) off (Kd.pair d ds) (fun x => wf x.1 ∧ wfs x.2) := by
  intro H enc n cs xs hl hx ht hw
  obtain ⟨x, xs, rfl⟩ : ∃ x l, xs = x :: l := by match xs, hx with | x :: l, _ => exact ⟨x, l, rfl⟩
  have h := ht 0 f rfl
  rw [ho, hc] at h
  have hsz : (Kd.pair d ds).sz = d.sz + ds.sz := rfl
  rw [hsz] at hl
  obtain ⟨y, hy, wy⟩ := hd H enc n _ _ _ h (fun k hk => hw k (by simp [DataW.weightsEach]; exact .inl hk))
  obtain ⟨z, hz, wz⟩ := hds H enc n cs xs (by omega) (by simpa using hx) (fun i g hg => by have := ht (i + 1) g (by simpa using hg); simpa using this) (fun k hk => hw k (by simp [DataW.weightsEach]; exact .inr (by simpa using hk)))
  refine ⟨(y, z), ⟨(cs.drop off).take d.sz, cs.drop (off + d.sz), ?_, hy, hz⟩, wy, wz⟩
  rw [← List.drop_drop, List.take_append_drop]
theorem opn_struct {P : Program} {w : World} {spare : Nat → Bool} {α : Type} {d : Kd α} {wf : α → Prop} {T : TypeId} {fs : Array Field} (ht : P.underlying T = some (.struct fs)) (hc : P.cellsOf T = d.sz) (hd : OpnFs P w spare fs.toList 0 d wf) : Opn P w spare d T wf := by
  intro H enc fuel cs D ps h hw
  obtain ⟨xs, n, rfl, hx, hl, hxl, hel⟩ := DataW.trod_struct ht h
  injection hx with hD _
  subst hD
  have := hd H enc n cs xs (by rw [hl, hc]; omega) (by rw [hxl]; simp) (fun i f hf => hel i f (by simpa using hf)) (fun k hk => hw k (by rw [DataW.weights, ht]; exact hk))
  simpa using this
theorem opn_iso {P : Program} {w : World} {spare : Nat → Bool} {α β : Type} {d : Kd α} {wf : α → Prop} {T : TypeId} (f : β → α) (g : α → β) (hfg : ∀ y, f (g y) = y) (h : Opn P w spare d T wf) : Opn P w spare (Kd.iso d f) T (fun x => wf (f x)) := by
  intro H enc fuel cs D ps ht hw
  obtain ⟨y, hy, wy⟩ := h H enc fuel cs D ps ht hw
  exact ⟨g y, by show d.K w (f (g y)) cs; rw [hfg]; exact hy, by show wf (f (g y)); rw [hfg]; exact wy⟩
theorem opn_mono {P : Program} {w : World} {spare : Nat → Bool} {α : Type} {d : Kd α} {wf wf' : α → Prop} {T : TypeId} (h : Opn P w spare d T wf) (hm : ∀ x, wf x → wf' x) : Opn P w spare d T wf' := by
  intro H enc fuel cs D ps ht hw
  obtain ⟨y, hy, wy⟩ := h H enc fuel cs D ps ht hw
  exact ⟨y, hy, hm y wy⟩

theorem own : ownKnob Tryd.prog.godebug = none := by kernel_rfl
theorem laidOut : laidOutB Tryd.prog = true := by kernel_rfl

def LL : List (String × DataW Unit) := [("unicode.White_Space", Rows.laid_unicode_White_Space), ("strings.asciiSpace", Rows.laid_strings_asciiSpace)]
theorem gTab : Tryd.prog.globalNamed "strings.asciiSpace" = some 0 := by kernel_rfl
theorem gTabT : (Tryd.prog.globals[0]?).map (·.type) = some 168 := by kernel_rfl
set_option maxRecDepth 100000 in
theorem door_met (os : Os) (args : Array Value) : laidMetH Tryd.prog LL ((World.doorLaid Tryd.prog 400 os).forCall (fun _ _ => 0) ⟨#[], args, []⟩).memory :=
  laidMetH_of_parts3 (fuel := 8) (laidMet_of_run' 8 (by kernel_rfl) (by kernel_rfl)) (by kernel_rfl) (by kernel_rfl)
theorem tab_of {W : World} (h : laidMetH Tryd.prog LL W) : Tab W := by
  rw [MakeChecks.laidMetH_plain _ _ _ (by kernel_rfl)] at h
  have h2 : laidMet Tryd.prog [("strings.asciiSpace", Lib.tabData .u8 Lib.asciiSpaceTab)] W := by
    have h3 := laidMet.tail h
    have e : (Rows.laid_strings_asciiSpace : DataW Unit) = Lib.tabData .u8 Lib.asciiSpaceTab := by kernel_rfl
    rwa [e] at h3
  have ht : Lib.TabIs Tryd.prog W "strings.asciiSpace" .u8 Lib.asciiSpaceTab := Lib.tabIs_of_head gTab gTabT Tryd.underlying168 Tryd.underlying5 (by kernel_rfl) (by kernel_rfl) h2
  refine ⟨ht, ?_⟩
  have h1 := ht
  unfold Lib.TabIs World.var? at h1
  rw [gTab] at h1
  simp only [Option.bind_some] at h1
  rcases hh : W.heap[0]? with _ | o
  · rw [hh] at h1; cases h1
  · exact lt_of_block hh
set_option maxRecDepth 100000 in
theorem lifted (os : Os) (started : os.Started) (H : Type) (enc : TypeId × Value → H) :
    ReturnsInHanded {} Tryd.checked os 10 .any (fun w args => (Rows.scriptMaySpec.pre enc Tryd.prog Tryd.f10 [] false w args ∧ laidMetH Tryd.prog LL w) ∧ sizedMet enc Tryd.prog Tryd.f10 (OpenSpec.ofChange Rows.scriptMaySpec) false w args) (Rows.scriptMaySpec.post enc Tryd.prog Tryd.f10 false true false false) := by
  refine returnsInHanded_of_change_and (C := Tryd.checked) (X := fun w _ => laidMetH Tryd.prog LL w) (fun _ _ _ hh h => h.of_heap hh) own started (by kernel_rfl) Tryd.func10
    (ChangeSpec.witness_shaped (enc := enc) (C := Tryd.checked) (os := os) (X := fun w _ => laidMetH Tryd.prog LL w) false (World.doorLaid Tryd.prog 400 os) #[.string ⟨#[]⟩] 8 rfl (World.shaped_of_RefB (by kernel_rfl) (by kernel_rfl)) (by kernel_rfl) (by kernel_rfl) (by kernel_rfl) (door_met os _)) ?_
  intro W base args ds gs before hval0 hW hcnd hsz0 hL _
  have hTab := tab_of hL
  have hsz : (DataW.weightsEach Tryd.prog (Tryd.f10.params.toList ++ Rows.scriptMaySpec.plain.varTypes Tryd.prog) (ds ++ gs)).all (· ≤ reachBytes) = true := hsz0
  have hval : ∀ (j : Nat) t v, Tryd.f10.params[j]? = some t → args[j]? = some v → Value.okWide Tryd.prog W .any base t v := hval0
  have hW' := hW
  obtain ⟨p, q, hA0, hV, rfl, hfz, hnd⟩ := hW
  have hA : DataW.TrodAll enc Tryd.prog W 0 (fun _ => true) true Tryd.f10.params.toList args.toList ds p := hA0
  rw [Tryd.params10] at hA hval hsz
  obtain ⟨v0, vs0, d0, ds0, p0, q0, hargs, rfl, rfl, h0, r0⟩ := trodAll_cons hA
  obtain ⟨rfl, rfl, rfl⟩ := trodAll_nil r0
  obtain rfl : args = #[v0] := by cases args; simp_all
  obtain ⟨rfl, rfl⟩ := trodVars_none hV
  obtain ⟨s0, rfl, hy0⟩ := okWide_string Tryd.underlying9 (hval 0 9 v0 rfl rfl)
  have k0 := h0
  have lt0 : ∀ x ∈ p0, x.block < W.heap.size := by obtain ⟨m, hm⟩ := k0; exact DataW.trod_lt m _ _ _ hm
  obtain ⟨fuel0, hf0⟩ := h0
  obtain ⟨t0, ht0, hw0⟩ := opn_string Tryd.underlying9 H enc fuel0 _ _ _ hf0 (fun n hn => of_decide_eq_true (List.all_eq_true.1 hsz n (by simp [DataW.weightsEach]; first | exact hn | exact .inl hn | exact .inr hn)))
  obtain rfl : s0 = t0 := by have : [Value.string s0] = [Value.string t0] := ht0; simpa using this
  clear hA0 hval0 hsz0 hsz
  refine (scriptMay.calls s0 W hTab).mono fun e W' ⟨he, bel⟩ => ?_
  subst he
  exact ⟨_, rfl, _, _, _, [], _, [], hW', trodAll_mk1 (shut_bool Tryd.underlying4 _), (trodAll_cons_mk (Below.trod laidOut (by kernel_rfl) (of_decide_eq_true (by kernel_rfl)) k0 bel lt0) trodAll_mk0), rfl, bel.frame _, fun h => by cases h⟩
theorem over : Rows.scriptMayRow.holds Tryd.pinned (OpenSpec.ofChange Rows.scriptMaySpec) :=
  OpenClaim.holds_of_wide 10 Tryd.f10 rfl rfl rfl rfl rfl rfl rfl ⟨rfl, rfl, rfl, rfl, rfl⟩ rfl rfl rfl rfl rfl (by kernel_rfl) Tryd.func10 (by kernel_rfl)
    (of_decide_eq_true (by kernel_rfl)) (by unfold Func.isWrapper; first | (rw [if_pos (by decide +kernel)]; kernel_rfl) | (rw [if_neg (by decide +kernel)]; exact ⟨rfl, rfl⟩))
    (fun os started H enc _ => lifted os started H enc)
theorem proved : Rows.ScriptMaySaid := over
theorem card_holds : Rows.ScriptMayCardSaid :=
  Claim7.holds_tied_plain_at .later [] [.listed, .data] true (true, "b20b47f8cf553a681b86a4c45b30dd36c1d7b969a33a3fc2c0f552ee148971dc") true
    proved (fun _ h => by cases h) (by kernel_rfl) (fun _ h => by cases h) scriptMay_row_tie rfl ⟨rfl, rfl⟩ (by kernel_rfl) rfl
    (fun f fn hf hfn => by
      obtain rfl : f = 10 := Option.some.inj ((show Tryd.prog.funcNamed "waybill/waybilllaw35.ScriptMay" = some 10 by kernel_rfl).symm.trans hf) |>.symm
      obtain rfl : fn = Tryd.f10 := (Option.some.inj (Tryd.func10.symm.trans hfn)).symm
      exact ⟨by kernel_rfl, fun j t ht => by
        rw [Tryd.params10] at ht
        have hm : t ∈ [9] := by simpa using Array.mem_of_getElem? ht
        have hall : ([9].all fun u => !Tryd.prog.wantsStandIn u) = true := by kernel_rfl
        exact (show Tryd.prog.wantsStandIn t = false by simpa using List.all_eq_true.1 hall t hm)⟩)
    (by kernel_rfl)
#print axioms card_holds
end Go.Proofs.YtaoffnhladfdcaaDoor.scriptMay
namespace Go.Proofs.YtaoffnhladfdcaaDoor
/-- The card, under a short name, for the claim. -/
theorem scriptMay_holds : Rows.ScriptMayCardSaid := scriptMay.card_holds
end Go.Proofs.YtaoffnhladfdcaaDoor
