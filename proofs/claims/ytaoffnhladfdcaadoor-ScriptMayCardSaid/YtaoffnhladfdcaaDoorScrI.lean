/- Rows of a trace. -/
import Derived.Test.YtaoffnhladfdcaaDoorScrH
namespace Go.Proofs.YtaoffnhladfdcaaDoor.EScriptTrace
open Go.RowKit Go.Shelf Go.Proofs.YtaoffnhladfdcaaDoorW.PrintWords Go.Proofs.YtaoffnhladfdcaaDoorW.PrintLast Go.Proofs.YtaoffnhladfdcaaDoorW.PrintMore
set_option linter.unusedVariables false
set_option linter.unusedSimpArgs false
/-! Rows of a trace. -/
structure S132 where
  f0 : Int
  f1 : Int
  f2 : Int
  f3 : Int
  f4 : Int
  f5 : Int
  f6 : Int
  f7 : Int
  f8 : Int
  f9 : Int
  f10 : Int
  f11 : Int
  f12 : Int
  f13 : Int
  f14 : Int
  f15 : Int

def z132 : S132 := ⟨0, 0, 0, 0, 0, 0, 0, 0, 0, 0, 0, 0, 0, 0, 0, 0⟩
instance : Inhabited S132 := ⟨z132⟩
def nums (x : S132) : List Int := [x.f0, x.f1, x.f2, x.f3, x.f4, x.f5, x.f6, x.f7, x.f8, x.f9, x.f10, x.f11, x.f12, x.f13, x.f14, x.f15]
def c132 (x : S132) : List Value := [.int .i64 x.f0, .int .i64 x.f1, .int .i64 x.f2, .int .i64 x.f3, .int .i64 x.f4, .int .i64 x.f5, .int .i64 x.f6, .int .i64 x.f7, .int .i64 x.f8, .int .i64 x.f9, .int .i64 x.f10, .int .i64 x.f11, .int .i64 x.f12, .int .i64 x.f13, .int .i64 x.f14, .int .i64 x.f15]
def k132 : Kd S132 where
  sz := 16
  E := []
  K := fun _ x cs => cs = c132 x
  M := fun _ _ _ x cs => cs = c132 x
  K_len := fun h => by rw [h]; rfl
  K_one := fun {w x cs} h u hu => by
    rw [h] at hu
    unfold c132 at hu
    simp only [List.mem_cons, List.not_mem_nil, or_false] at hu
    rcases hu with rfl | rfl | rfl | rfl | rfl | rfl | rfl | rfl | rfl | rfl | rfl | rfl | rfl | rfl | rfl | rfl <;> rfl
  K_below := fun _ h => h
  K_of_M := fun h => h
  M_mono := fun _ h => h
  M_bound := fun h => h
  M_move := fun _ h => h
  M_lower := fun _ h => h
def rd_T132 (xs : List S132) (i : Int) : S132 := xs.getD i.toNat z132
theorem at_T132 {w : World} {A : Option Addr} {n : Nat} {xs : List S132} (h : Kd.C k132 w A n xs) (i : Int) (h0 : 0 ≤ i) (h1 : i < n) : ∃ ad, A = some ad ∧ w.cell? (ad.add (i.toNat * 16)) = some (.int .i64 (rd_T132 xs i).f0) ∧ w.cell? ⟨(ad.add (i.toNat * 16)).block, (ad.add (i.toNat * 16)).off + 1, none⟩ = some (.int .i64 (rd_T132 xs i).f1) ∧ w.cell? ⟨(ad.add (i.toNat * 16)).block, (ad.add (i.toNat * 16)).off + 2, none⟩ = some (.int .i64 (rd_T132 xs i).f2) ∧ w.cell? ⟨(ad.add (i.toNat * 16)).block, (ad.add (i.toNat * 16)).off + 3, none⟩ = some (.int .i64 (rd_T132 xs i).f3) ∧ w.cell? ⟨(ad.add (i.toNat * 16)).block, (ad.add (i.toNat * 16)).off + 4, none⟩ = some (.int .i64 (rd_T132 xs i).f4) ∧ w.cell? ⟨(ad.add (i.toNat * 16)).block, (ad.add (i.toNat * 16)).off + 5, none⟩ = some (.int .i64 (rd_T132 xs i).f5) ∧ w.cell? ⟨(ad.add (i.toNat * 16)).block, (ad.add (i.toNat * 16)).off + 6, none⟩ = some (.int .i64 (rd_T132 xs i).f6) ∧ w.cell? ⟨(ad.add (i.toNat * 16)).block, (ad.add (i.toNat * 16)).off + 7, none⟩ = some (.int .i64 (rd_T132 xs i).f7) ∧ w.cell? ⟨(ad.add (i.toNat * 16)).block, (ad.add (i.toNat * 16)).off + 8, none⟩ = some (.int .i64 (rd_T132 xs i).f8) ∧ w.cell? ⟨(ad.add (i.toNat * 16)).block, (ad.add (i.toNat * 16)).off + 9, none⟩ = some (.int .i64 (rd_T132 xs i).f9) ∧ w.cell? ⟨(ad.add (i.toNat * 16)).block, (ad.add (i.toNat * 16)).off + 10, none⟩ = some (.int .i64 (rd_T132 xs i).f10) ∧ w.cell? ⟨(ad.add (i.toNat * 16)).block, (ad.add (i.toNat * 16)).off + 11, none⟩ = some (.int .i64 (rd_T132 xs i).f11) ∧ w.cell? ⟨(ad.add (i.toNat * 16)).block, (ad.add (i.toNat * 16)).off + 12, none⟩ = some (.int .i64 (rd_T132 xs i).f12) ∧ w.cell? ⟨(ad.add (i.toNat * 16)).block, (ad.add (i.toNat * 16)).off + 13, none⟩ = some (.int .i64 (rd_T132 xs i).f13) ∧ w.cell? ⟨(ad.add (i.toNat * 16)).block, (ad.add (i.toNat * 16)).off + 14, none⟩ = some (.int .i64 (rd_T132 xs i).f14) ∧ w.cell? ⟨(ad.add (i.toNat * 16)).block, (ad.add (i.toNat * 16)).off + 15, none⟩ = some (.int .i64 (rd_T132 xs i).f15) := by
  obtain ⟨ad, c, e, _, hK, hc0⟩ := Kd.C_get h z132 i h0 h1
  have hc : ∀ j u, c[j]? = some u → w.cell? (ad.add (i.toNat * 16 + j)) = some u := hc0
  have hK2 : c = c132 (xs.getD i.toNat z132) := hK
  subst hK2
  exact ⟨ad, e, hc 0 _ rfl, by rw [← add_field _ _ 1 (by omega)]; exact hc 1 _ rfl, by rw [← add_field _ _ 2 (by omega)]; exact hc 2 _ rfl, by rw [← add_field _ _ 3 (by omega)]; exact hc 3 _ rfl, by rw [← add_field _ _ 4 (by omega)]; exact hc 4 _ rfl, by rw [← add_field _ _ 5 (by omega)]; exact hc 5 _ rfl, by rw [← add_field _ _ 6 (by omega)]; exact hc 6 _ rfl, by rw [← add_field _ _ 7 (by omega)]; exact hc 7 _ rfl, by rw [← add_field _ _ 8 (by omega)]; exact hc 8 _ rfl, by rw [← add_field _ _ 9 (by omega)]; exact hc 9 _ rfl, by rw [← add_field _ _ 10 (by omega)]; exact hc 10 _ rfl, by rw [← add_field _ _ 11 (by omega)]; exact hc 11 _ rfl, by rw [← add_field _ _ 12 (by omega)]; exact hc 12 _ rfl, by rw [← add_field _ _ 13 (by omega)]; exact hc 13 _ rfl, by rw [← add_field _ _ 14 (by omega)]; exact hc 14 _ rfl, by rw [← add_field _ _ 15 (by omega)]; exact hc 15 _ rfl⟩
theorem k132_C_below {w w1 : World} {A : Option Addr} {n B : Nat} {xs : List S132} (h : Kd.C k132 w A n xs) (hb : Below B w w1) (hB : w.heap.size ≤ B) : Kd.C k132 w1 A n xs := Kd.C_below h (hb.mono hB)
def rowB (x : S132) : Bool := decide (x.f0 < 1) || decide (12 < x.f0)
set_option maxHeartbeats 1000000 in
set_option maxRecDepth 100000 in
theorem trace1.calls (x : S132) (w : World) : Calls Tryd.prog 56 #[.agg #[.int .i64 x.f0, .int .i64 x.f1, .int .i64 x.f2, .int .i64 x.f3, .int .i64 x.f4, .int .i64 x.f5, .int .i64 x.f6, .int .i64 x.f7, .int .i64 x.f8, .int .i64 x.f9, .int .i64 x.f10, .int .i64 x.f11, .int .i64 x.f12, .int .i64 x.f13, .int .i64 x.f14, .int .i64 x.f15]] w fun e w' => e = .returned (.bool (rowB x)) ∧ Below w.heap.size w w' := by
  unfold rowB
  go_enter Tryd.func56, Tryd.ntmps56
  go_wp2_with fail
  all_goals
    go_ret
    exact ⟨by first | rfl | simp [*], below_alloc (Below.refl _ _) _⟩
set_option maxHeartbeats 2000000 in
set_option maxRecDepth 100000 in
theorem row_idx.calls (A : Option Addr) (c : Nat) (l : List S132)  (w : World) (hr : Kd.C k132 w A l.length l) (hc : l.length ≤ c)  :
    Calls Tryd.prog 93 #[.slice A l.length c, .func (.func 56) #[] #[]] w fun e w' => e = .returned (.int .i64 (idxL rowB l)) ∧ Below w.heap.size w w' := by
  have HR := Aside0.mk hr
  have hlen : l.length ≤ 9223372036854775807 := hr.2.1
  have HB := Aside0.mk (Below.refl w.heap.size w)
  clear hr
  obtain ⟨g, hg⟩ : ∃ g, g = idxL rowB l := ⟨_, rfl⟩
  rw [← hg]
  have HG : Aside0 (g = idxFrom rowB 0 (l.drop 0)) := ⟨hg⟩
  clear hg
  go_enter Tryd.func93, Tryd.ntmps93
  go_wp2
  go_loopw [5, 8] (fun v5 v8 W => ∃ i : Int, 0 ≤ i ∧ i ≤ l.length ∧ v8 = .int .i64 i ∧ Aside0 (g = idxFrom rowB i (l.drop i.toNat)) ∧ Aside0 (Below w.heap.size w W)) (fun _ v _ => l.length - (intOf v).toNat)
  case atStart => exact ⟨0, by omega, by omega, rfl, HG, HB⟩
  case round =>
    clear HB HG
    obtain ⟨i, i0, ile, rfl, HG, HB⟩ := hrel
    have HRw := Aside0.mk (k132_C_below HR.out HB.out (Nat.le_refl _))
    by_cases hlt : i < l.length
    · obtain ⟨ad, e1, hx0, hx1, hx2, hx3, hx4, hx5, hx6, hx7, hx8, hx9, hx10, hx11, hx12, hx13, hx14, hx15⟩ := at_T132 HRw.out i i0 hlt
      cases e1
      have HS := Aside0.mk (idx_step rowB l z132 i i0 hlt)
      obtain ⟨o, ho⟩ : ∃ o, o = rowB (rd_T132 l i) := ⟨_, rfl⟩
      have HO := Aside0.mk ho
      clear ho
      cases o
      · have hgi : g = idxFrom rowB (i + 1) (l.drop (i + 1).toNat) := by rw [HG.out, HS.out]; exact if_neg (by show ¬ rowB (rd_T132 l i) = true; rw [← HO.out]; decide)
        have HG2 := Aside0.mk hgi
        clear hgi
        go_wp2_with (first | (go_at_call 56; refine (trace1.calls (rd_T132 l i) _).mono ?_; rintro e w1 ⟨rfl, hb⟩; rw [← HO.out]; have HB1 := Aside0.mk (below_b HB.out hb HB.out.size); clear hb))
        refine ⟨⟨i + 1, by omega, by omega, rfl, HG2, HB1⟩, ?_⟩
        simp [intOf]; omega
      · obtain rfl : i = g := by rw [HG.out, HS.out]; exact (if_pos HO.out.symm).symm
        go_wp2_with (first | (go_at_call 56; refine (trace1.calls (rd_T132 l i) _).mono ?_; rintro e w1 ⟨rfl, hb⟩; rw [← HO.out]; have HB1 := Aside0.mk (below_b HB.out hb HB.out.size); clear hb))
        go_ret
        exact ⟨rfl, HB1.out⟩
    · obtain rfl : g = -1 := by rw [HG.out, List.drop_eq_nil_of_le (by omega)]; rfl
      go_wp2
      go_ret
      exact ⟨rfl, HB.out⟩
set_option maxHeartbeats 2000000 in
set_option maxRecDepth 100000 in
theorem row_any.calls (A : Option Addr) (c : Nat) (l : List S132)  (w : World) (hr : Kd.C k132 w A l.length l) (hc : l.length ≤ c)  :
    Calls Tryd.prog 55 #[.slice A l.length c, .func (.func 56) #[] #[]] w fun e w' => e = .returned (.bool (l.any rowB)) ∧ Below w.heap.size w w' := by
  have HI := Aside0.mk (idx_any rowB l)
  have HC := Aside0.mk (row_idx.calls A c l  w hr hc)
  clear hr
  go_enter Tryd.func55, Tryd.ntmps55
  go_wp2_with (first | (go_at_call 93; refine HC.out.mono ?_; rintro e w' ⟨rfl, hb⟩; have HB := Aside0.mk hb; clear hb))
  go_ret
  exact ⟨by rw [← HI.out]; rfl, HB.out⟩

end Go.Proofs.YtaoffnhladfdcaaDoor.EScriptTrace
