/- Issues change nothing of how many rounds there are: the walk of the law; no condition. -/
import Derived.Test.YtemleanglkaedaaCalm4
namespace Go.Proofs.Ytemleanglkaedaa.ECalmPlans
open Go.RowKit Go.Shelf Go.Proofs.YtemleanglkaedaaW.PrintWords Go.Proofs.YtemleanglkaedaaW.PrintLast Go.Proofs.YtemleanglkaedaaW.PrintMore
set_option linter.unusedVariables false
set_option linter.unusedSimpArgs false
theorem rounds_iss (cl be : Int) (l : List SE) (x : SE) (k : Nat) (hx : x.f0 = 1) (hl : l.length ≤ 500) : roundsL cl be ((([] : List SE) ++ l.take k ++ [x] ++ l.drop k).map pE) = roundsL cl be (l.map pE) := by
  have hlen : (([] : List SE) ++ l.take k ++ [x] ++ l.drop k).length = l.length + 1 := by simp; omega
  have hf : ((([] : List SE) ++ l.take k ++ [x] ++ l.drop k).map pE).filter (fun x => !(decide (x.1 = 1))) = (l.map pE).filter (fun x => !(decide (x.1 = 1))) := by
    have hp : pE x = (1, x.f1, x.f2) := by unfold pE; rw [hx]
    rw [List.nil_append, List.map_append, List.map_append, List.filter_append, List.filter_append, List.map_cons, hp, List.map_nil, show List.filter (fun x : T3 => !(decide (x.1 = 1))) [(1, x.f1, x.f2)] = [] from by simp, List.append_nil, ← List.filter_append, ← List.map_append, List.take_append_drop]
  unfold roundsL
  rw [hf, List.length_map, List.length_map, hlen, if_neg (by omega), if_neg (by omega)]
theorem at_bd (a : Int) (n : Nat) (hn : n ≤ 500) : 0 ≤ (wrap64 (wrap64 (a.tmod ((n : Int) + 1) + n) + 1)).tmod ((n : Int) + 1) ∧ (wrap64 (wrap64 (a.tmod ((n : Int) + 1) + n) + 1)).tmod ((n : Int) + 1) ≤ n := by
  have h2 := Int.tmod_lt_of_pos a (show (0 : Int) < (n : Int) + 1 by omega)
  have h3 := Int.lt_tmod_of_pos a (show (0 : Int) < (n : Int) + 1 by omega)
  have e1 : wrap64 (wrap64 (a.tmod ((n : Int) + 1) + n) + 1) = a.tmod ((n : Int) + 1) + n + 1 := by unfold wrap64; omega
  rw [e1]
  have h4 := Int.tmod_lt_of_pos (a.tmod ((n : Int) + 1) + n + 1) (show (0 : Int) < (n : Int) + 1 by omega)
  exact ⟨Int.tmod_nonneg _ (by omega), by omega⟩
set_option maxHeartbeats 4000000 in
set_option maxRecDepth 100000 in
theorem issues.calls (a0 a1 : Int) (A2 : Option Addr) (c2 : Nat) (l2 : List SE) (a3 : Int) (x4 : S73) (w : World) (hr : Kd.C kE w A2 l2.length l2) (hc : l2.length ≤ c2) :
    Calls Try.prog 9 #[.int .i64 a0, .int .i64 a1, .slice A2 l2.length c2, .int .i64 a3, .agg #[.int .i64 x4.f0, .int .i64 x4.f1, .int .i64 x4.f2, .int .i64 x4.f3]] w fun e w' => e = .returned (.bool true) ∧ Below w.heap.size w w' := by
  have HR := Aside0.mk hr
  have hlen : l2.length ≤ 9223372036854775807 := hr.2.1
  clear hr
  obtain ⟨cl0, cl1⟩ := clC_bd a0
  obtain ⟨be0, be1⟩ := beC_bd a1
  by_cases hl : ((l2.length : Nat) : Int) > 500
  · have hd : decide (((l2.length : Nat) : Int) > 500) = true := decide_eq_true hl
    go_enter Try.func9, Try.ntmps9
    go_wp2_with (first | ((with_reducible refine gate_dst (N := 9) rfl ?_); refine box_event ?hg (N := 9) ?hd (cs := #[.int .i64 x4.f0, .int .i64 x4.f1, .int .i64 x4.f2, .int .i64 x4.f3]) (t := 73) ?hr ?_; (case hd => rfl); (case hg => rfl); (case hr => first | (go_simp; done) | (go_simp; rfl)); intro xb hg w0 hbox hb; have HB0 := Aside0.mk hb; have XK0 := Aside0.mk hbox; clear hb hbox hg) | (go_at_call 24; refine (alive.calls _).mono ?_; rintro e w1 ⟨rfl, hb⟩; have HB1 := Aside0.mk (below_b HB0.out hb HB0.out.size); have XK1 := Aside0.mk ((Ch.of_below hb (fun _ => False)).heap XK0.out (fun h => h)); clear hb) | (go_at_call 25; refine (cfg.calls a0 a1 1 _).mono ?_; rintro e w2 ⟨rfl, hb⟩; have HB2 := Aside0.mk (below_b HB1.out hb HB1.out.size); have XK2 := Aside0.mk ((Ch.of_below hb (fun _ => False)).heap XK1.out (fun h => h)); clear hb) | ((with_reducible refine gate_dst (N := 11) rfl ?_); refine box_event ?hg (N := 11) ?hd (cs := #[.int .i64 0, .int .i64 0, .int .u64 0, .int .i64 0, .bool false, .int .i64 0, .int .i64 0, .int .i64 0, .int .i64 0, .int .i64 0, .int .i64 0, .int .i64 0, .int .i64 0, .int .i64 0, .int .i64 0, .int .i64 0, .int .i64 0, .int .i64 0, .int .i64 0, .int .i64 0, .int .i64 0, .int .i64 0, .int .i64 0, .int .i64 0, .int .i64 0, .int .i64 0, .int .i64 0, .int .i64 0, .int .i64 0, .int .i64 0, .int .i64 0, .int .i64 0]) (t := 69) ?hr ?_; (case hd => rfl); (case hg => rfl); (case hr => first | (go_simp; done) | (go_simp; rfl)); intro gb hg w3 hbox hb; have HB3 := Aside0.mk (below_b HB2.out hb HB2.out.size); have BK3 := Aside0.mk hbox; have GB := Aside0.mk (show w.heap.size ≤ gb from by rw [hg]; exact HB2.out.size); have XK3 := Aside0.mk ((Ch.of_below hb (fun _ => False)).heap XK2.out (fun h => h)); have NE := Aside0.mk (show xb ≠ gb from by rw [hg]; exact Nat.ne_of_lt (lt_of_block XK2.out)); clear hb hbox hg) | ((with_reducible refine gate_store (p := 11) rfl ?_); refine store_all rfl rfl 69 _ _ rfl #[.int .i64 (clC a0), .int .i64 (beC a1), .int .u64 1, .int .i64 3, .bool false, .int .i64 4, .int .i64 2, .int .i64 6, .int .i64 1, .int .i64 3, .int .i64 800, .int .i64 5, .int .i64 4, .int .i64 16, .int .i64 50, .int .i64 40, .int .i64 200, .int .i64 50, .int .i64 2, .int .i64 5, .int .i64 3, .int .i64 1, .int .i64 5, .int .i64 900, .int .i64 2, .int .i64 1, .int .i64 4, .int .i64 500, .int .i64 4, .int .i64 4, .int .i64 30, .int .i64 8] rfl rfl BK3.out rfl (by kernel_rfl) (by rfl) ?_; intro w4 h1 h2; have BK4 := Aside0.mk h1; have HB4 := Aside0.mk (below_ch HB3.out h2 HB3.out.size (fun k e => by rw [e]; exact GB.out)); have XK4 := Aside0.mk (h2.heap XK3.out NE.out); clear h1 h2))
    go_ret
    exact ⟨rfl, HB4.out⟩
  · have hd : decide (((l2.length : Nat) : Int) > 500) = false := decide_eq_false hl
    go_enter Try.func9, Try.ntmps9
    go_wp2_with (first | ((with_reducible refine gate_dst (N := 9) rfl ?_); refine box_event ?hg (N := 9) ?hd (cs := #[.int .i64 x4.f0, .int .i64 x4.f1, .int .i64 x4.f2, .int .i64 x4.f3]) (t := 73) ?hr ?_; (case hd => rfl); (case hg => rfl); (case hr => first | (go_simp; done) | (go_simp; rfl)); intro xb hg w0 hbox hb; have HB0 := Aside0.mk hb; have XK0 := Aside0.mk hbox; clear hb hbox hg) | (go_at_call 24; refine (alive.calls _).mono ?_; rintro e w1 ⟨rfl, hb⟩; have HB1 := Aside0.mk (below_b HB0.out hb HB0.out.size); have XK1 := Aside0.mk ((Ch.of_below hb (fun _ => False)).heap XK0.out (fun h => h)); clear hb) | (go_at_call 25; refine (cfg.calls a0 a1 1 _).mono ?_; rintro e w2 ⟨rfl, hb⟩; have HB2 := Aside0.mk (below_b HB1.out hb HB1.out.size); have XK2 := Aside0.mk ((Ch.of_below hb (fun _ => False)).heap XK1.out (fun h => h)); clear hb) | ((with_reducible refine gate_dst (N := 11) rfl ?_); refine box_event ?hg (N := 11) ?hd (cs := #[.int .i64 0, .int .i64 0, .int .u64 0, .int .i64 0, .bool false, .int .i64 0, .int .i64 0, .int .i64 0, .int .i64 0, .int .i64 0, .int .i64 0, .int .i64 0, .int .i64 0, .int .i64 0, .int .i64 0, .int .i64 0, .int .i64 0, .int .i64 0, .int .i64 0, .int .i64 0, .int .i64 0, .int .i64 0, .int .i64 0, .int .i64 0, .int .i64 0, .int .i64 0, .int .i64 0, .int .i64 0, .int .i64 0, .int .i64 0, .int .i64 0, .int .i64 0]) (t := 69) ?hr ?_; (case hd => rfl); (case hg => rfl); (case hr => first | (go_simp; done) | (go_simp; rfl)); intro gb hg w3 hbox hb; have HB3 := Aside0.mk (below_b HB2.out hb HB2.out.size); have BK3 := Aside0.mk hbox; have GB := Aside0.mk (show w.heap.size ≤ gb from by rw [hg]; exact HB2.out.size); have XK3 := Aside0.mk ((Ch.of_below hb (fun _ => False)).heap XK2.out (fun h => h)); have NE := Aside0.mk (show xb ≠ gb from by rw [hg]; exact Nat.ne_of_lt (lt_of_block XK2.out)); clear hb hbox hg) | ((with_reducible refine gate_store (p := 11) rfl ?_); refine store_all rfl rfl 69 _ _ rfl #[.int .i64 (clC a0), .int .i64 (beC a1), .int .u64 1, .int .i64 3, .bool false, .int .i64 4, .int .i64 2, .int .i64 6, .int .i64 1, .int .i64 3, .int .i64 800, .int .i64 5, .int .i64 4, .int .i64 16, .int .i64 50, .int .i64 40, .int .i64 200, .int .i64 50, .int .i64 2, .int .i64 5, .int .i64 3, .int .i64 1, .int .i64 5, .int .i64 900, .int .i64 2, .int .i64 1, .int .i64 4, .int .i64 500, .int .i64 4, .int .i64 4, .int .i64 30, .int .i64 8] rfl rfl BK3.out rfl (by kernel_rfl) (by rfl) ?_; intro w4 h1 h2; have BK4 := Aside0.mk h1; have HB4 := Aside0.mk (below_ch HB3.out h2 HB3.out.size (fun k e => by rw [e]; exact GB.out)); have XK4 := Aside0.mk (h2.heap XK3.out NE.out); clear h1 h2))
    obtain ⟨z, hz⟩ : ∃ z, z = (wrap64 (wrap64 (a3.tmod (((l2.length : Nat) : Int) + 1) + ((l2.length : Nat) : Int)) + 1)).tmod (((l2.length : Nat) : Int) + 1) := ⟨_, rfl⟩
    have hzb := at_bd a3 l2.length (by omega)
    rw [← hz] at hzb ⊢
    obtain ⟨z0, z1⟩ := hzb
    clear hz
    have hzl : (l2.take z.toNat).length = z.toNat := by rw [List.length_take]; omega
    have HC := Aside0.mk (Kd.C_below HR.out HB4.out)
    have HC1 : Aside0 (Kd.C kE w4 A2 z.toNat (l2.take z.toNat)) := ⟨by have h := Kd.C_take HC.out (m := z.toNat) (by omega); rwa [hzl] at h⟩
    have HC2 : Aside0 (∀ W, Below w4.heap.size w4 W → Kd.C kE W (dropA A2 c2 z.toNat) (l2.length - z.toNat) (l2.drop z.toNat)) := ⟨fun W h => by have h2 := C_dropA (Kd.C_below HC.out h) (m := z.toNat) (by omega) hc; rwa [List.length_drop] at h2⟩
    have HL1 : Aside0 (([] : List SE).length + z.toNat ≤ 10000) := ⟨by show 0 + z.toNat ≤ 10000; omega⟩
    have HL2 : Aside0 ((([] : List SE) ++ l2.take z.toNat).length + 1 ≤ 10000) := ⟨by rw [List.nil_append, hzl]; omega⟩
    have HL3 : Aside0 ((([] : List SE) ++ l2.take z.toNat ++ [(⟨1, 0, 0, x4.f0, x4.f1, x4.f2, x4.f3, 0, (none, 0, 0)⟩ : SE)]).length + (l2.length - z.toNat) ≤ 10000) := ⟨by rw [List.length_append, List.nil_append, hzl]; show z.toNat + 1 + _ ≤ 10000; omega⟩
    have hcE : ∀ W : World, (Instr.slice 71 (.slice A2 l2.length c2) (some (.int .i64 z)) none none).run Try.prog W = .ok (.slice (dropA A2 c2 z.toNat) (l2.length - z.toNat) (c2 - z.toNat)) W := cutE A2 l2.length c2 z z0 z1 hc
    have hb1 : z ≤ (c2 : Int) := by omega
    have hb2 : z ≤ (l2.length : Int) := z1
    have hy0 := zcell XK4.out 0 _ rfl
    have hy1 := zcell XK4.out 1 _ rfl
    have hy2 := zcell XK4.out 2 _ rfl
    have hy3 := zcell XK4.out 3 _ rfl
    clear hzl HB0 HB1 HB2 HB3 XK0 XK1 XK2 XK3
    have HM : Aside0 (roundsL (clC a0) (beC a1) ((([] : List SE) ++ l2.take z.toNat ++ [(⟨1, 0, 0, x4.f0, x4.f1, x4.f2, x4.f3, 0, (none, 0, 0)⟩ : SE)] ++ l2.drop z.toNat).map pE) = roundsL (clC a0) (beC a1) (l2.map pE)) := ⟨rounds_iss (clC a0) (beC a1) l2 _ z.toNat rfl (by omega)⟩
    go_region_law (first | (refine step_appE rfl (.tmp 40) (.tmp 43) 71 (.inl rfl) rfl _ (.slice none 0 0) [] (l2.take z.toNat) A2 z.toNat c2 ?hs ?hx (Kd.R_nil _ _ _ _ _) (Kd.C_below HC1.out (by repeat (first | exact Below.refl _ _ | apply below_alloc | apply below_drew))) (Below.refl _ _) (Nat.le_refl _) HL1.out ?_; (case hs => first | (go_simp; done) | (go_simp; rfl)); (case hx => first | (go_simp; done) | (go_simp; rfl)); intro v5 w5 hr5 hb5; have HR5 := Aside0.mk hr5; have HB5 := Aside0.mk hb5; have HB45 := Aside0.mk (below_b (show Below w4.heap.size w4 _ from by repeat (first | exact Below.refl _ _ | apply below_alloc | apply below_drew)) hb5 (by first | exact Nat.le_refl _ | (simp; done) | (simp; omega))); have hz0 := zcell ((Ch.of_below HB45.out (fun _ => False)).heap XK4.out (fun h => h)) 0 _ rfl; have hz1 := zcell ((Ch.of_below HB45.out (fun _ => False)).heap XK4.out (fun h => h)) 1 _ rfl; have hz2 := zcell ((Ch.of_below HB45.out (fun _ => False)).heap XK4.out (fun h => h)) 2 _ rfl; have hz3 := zcell ((Ch.of_below HB45.out (fun _ => False)).heap XK4.out (fun h => h)) 3 _ rfl; clear hr5 hb5) | (refine step_appE rfl (.tmp 48) (.tmp 51) 71 (.inl rfl) rfl _ v6 ([] ++ l2.take z.toNat ++ [⟨1, 0, 0, x4.f0, x4.f1, x4.f2, x4.f3, 0, (none, 0, 0)⟩]) (l2.drop z.toNat) (dropA A2 c2 z.toNat) (l2.length - z.toNat) (c2 - z.toNat) ?hs ?hx HR6.out (HC2.out _ (below_b (show Below w4.heap.size w4 _ from by repeat (first | exact Below.refl _ _ | apply below_alloc | apply below_drew)) HB6.out (by first | exact Nat.le_refl _ | (simp; done) | (simp; omega)))) HB6.out HB6.out.size HL3.out ?_; (case hs => first | (go_simp; done) | (go_simp; rfl)); (case hx => first | (go_simp; done) | (go_simp; rfl)); intro v7 w7 hr7 hb7; have HR7 := Aside0.mk hr7; have HB7 := Aside0.mk (below_b (show Below w4.heap.size w4 _ from by repeat (first | exact Below.refl _ _ | apply below_alloc | apply below_drew)) hb7 (by first | exact Nat.le_refl _ | (simp; done) | (simp; omega))); clear hr7 hb7) | (refine step_appE rfl (.tmp 44) (.tmp 47) 71 (.inl rfl) rfl _ v5 ([] ++ l2.take z.toNat) [⟨1, 0, 0, x4.f0, x4.f1, x4.f2, x4.f3, 0, (none, 0, 0)⟩] _ 1 1 ?hs ?hx (by first | exact HR5.out | exact Kd.R_below HR5.out (below_alloc (Below.refl _ _) _)) (by first | exact C_newE w5 ⟨1, 0, 0, x4.f0, x4.f1, x4.f2, x4.f3, 0, (none, 0, 0)⟩ | exact Kd.C_below (C_newE w4.drew ⟨1, 0, 0, x4.f0, x4.f1, x4.f2, x4.f3, 0, (none, 0, 0)⟩) HB5.out | (trace_state; fail)) (by first | exact HB5.out | exact below_alloc HB5.out _) (by first | exact HB5.out.size | exact (below_alloc HB5.out _).size) HL2.out ?_; (case hs => first | (go_simp; done) | (go_simp; rfl)); (case hx => first | (go_simp; done) | (go_simp; rfl)); intro v6 w6 hr6 hb6; have HR6 := Aside0.mk hr6; have HB6 := Aside0.mk hb6; clear hr6 hb6))
    all_goals
      clear hcE hb1 hb2 HC1 HC2 HL1 HL2 HL3
      have BK7 := Aside0.mk ((Ch.of_below HB7.out (fun _ => False)).heap BK4.out (fun h => h))
      have HC7 := Aside0.mk (Kd.C_below HC.out HB7.out)
      obtain ⟨m, hm⟩ : ∃ m, m = (([] : List SE) ++ l2.take z.toNat ++ [(⟨1, 0, 0, x4.f0, x4.f1, x4.f2, x4.f3, 0, (none, 0, 0)⟩ : SE)] ++ l2.drop z.toNat) := ⟨_, rfl⟩
      rw [← hm] at HM HR7
      clear hm
      obtain ⟨A7, c7, rfl⟩ := Kd.R_slice HR7.out
      have HM7 := Aside0.mk (Kd.R_reads' HR7.out).2.2
      have HP7 := Aside0.mk (Kd.R_reads' HR7.out).2.1
      go_wp2_with (first | ((with_reducible refine gate_dst (N := 54) rfl ?_); refine load_mid_w ?hw 69 _ rfl gb 0 rfl [.int .i64 (clC a0), .int .i64 (beC a1), .int .u64 1, .int .i64 3, .bool false, .int .i64 4, .int .i64 2, .int .i64 6, .int .i64 1, .int .i64 3, .int .i64 800, .int .i64 5, .int .i64 4, .int .i64 16, .int .i64 50, .int .i64 40, .int .i64 200, .int .i64 50, .int .i64 2, .int .i64 5, .int .i64 3, .int .i64 1, .int .i64 5, .int .i64 900, .int .i64 2, .int .i64 1, .int .i64 4, .int .i64 500, .int .i64 4, .int .i64 4, .int .i64 30, .int .i64 8] _ (range_of BK7.out (by rfl)) Try.underlying69 rfl (by kernel_rfl) ?_; (case hw => first | rfl | (go_simp; done) | (go_simp; rfl))))
      go_at_call 27
      refine (rounds.calls (clC a0) (beC a1) 1 A2 c2 l2 _ HC7.out hc (by omega) (by omega) (by omega) (by omega)).mono ?_
      rintro e w8 ⟨rfl, hb⟩
      have HB8 := Aside0.mk (below_b (below_b HB4.out HB7.out HB4.out.size) hb (below_b HB4.out HB7.out HB4.out.size).size)
      have BK8 := Aside0.mk ((Ch.of_below hb (fun _ => False)).heap BK7.out (fun h => h))
      have HM8 := Aside0.mk (Kd.C_below HM7.out hb)
      clear hb
      go_wp2_with (first | ((with_reducible refine gate_dst (N := 61) rfl ?_); refine load_mid_w ?hw 69 _ rfl gb 0 rfl [.int .i64 (clC a0), .int .i64 (beC a1), .int .u64 1, .int .i64 3, .bool false, .int .i64 4, .int .i64 2, .int .i64 6, .int .i64 1, .int .i64 3, .int .i64 800, .int .i64 5, .int .i64 4, .int .i64 16, .int .i64 50, .int .i64 40, .int .i64 200, .int .i64 50, .int .i64 2, .int .i64 5, .int .i64 3, .int .i64 1, .int .i64 5, .int .i64 900, .int .i64 2, .int .i64 1, .int .i64 4, .int .i64 500, .int .i64 4, .int .i64 4, .int .i64 30, .int .i64 8] _ (range_of BK8.out (by rfl)) Try.underlying69 rfl (by kernel_rfl) ?_; (case hw => first | rfl | (go_simp; done) | (go_simp; rfl))))
      go_at_call 27
      refine (rounds.calls (clC a0) (beC a1) 1 A7 c7 m _ HM8.out HP7.out (by omega) (by omega) (by omega) (by omega)).mono ?_
      rintro e w9 ⟨rfl, hb⟩
      rw [HM.out]
      have HB9 := Aside0.mk (below_b HB8.out hb HB8.out.size)
      clear hb
      generalize roundsL (clC a0) (beC a1) (l2.map pE) = res
      obtain ⟨q0, q1, q2⟩ := res
      go_wp2_with fail
      all_goals (try go_wp2)
      go_ret
      exact ⟨by first | rfl | (simp; done), HB9.out⟩
end Go.Proofs.Ytemleanglkaedaa.ECalmPlans
