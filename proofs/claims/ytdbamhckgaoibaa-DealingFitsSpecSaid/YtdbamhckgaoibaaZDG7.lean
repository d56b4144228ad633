/- A part of the proof of DealingFitsSpec: dealing.Recover: the walk.; The contracts of chapter 34's functions, for slices that are only read.; The sanity examples of chapter 34, reckoned.; The sanity function of chapter 34 returns true.; The calls of signatorylaw34.DealingFitsSpec come to what their functions in Lean say.; DealingFitsSpec holds. -/
import Derived.Test.YtdbamhckgaoibaaZDG6
namespace Go.Proofs.Ytdbamhckgaoibaa.P
open Go.RowKit Go.Proofs.YtdbamhckgaoibaaW.PrintWords Go.Proofs.YtdbamhckgaoibaaW.PrintLast Go.Proofs.YtdbamhckgaoibaaW.PrintMore
set_option linter.unusedVariables false
set_option linter.unusedSimpArgs false
theorem mk_target (n : Nat) : (madeCells #[Value.int .i64 0] n).setIfInBounds 0 (.int .i64 1) = (nums .i64 ((List.replicate n 0).set 0 1)).toArray := by
  have hl : (madeCells #[Value.int .i64 0] n).toList = nums .i64 (List.replicate n 0) := by
    apply List.ext_getElem
    · simp [nums, madeCells]
    · intro i h1 h2
      simp [nums, madeCells, Nat.mod_one]
  apply Array.ext'
  rw [Array.toList_setIfInBounds, hl]
  simp [nums, List.map_set]
set_option maxRecDepth 100000 in
set_option maxHeartbeats 4000000 in
theorem recover_bad (A0 : Option Addr) (c0 : Nat) (rows : List (List Int)) (A1 : Option Addr) (c1 : Nat) (owners : List Int) (As : Option Addr) (cs : Nat) (ls : List S38) (w : World)
    (hr0 : Kd.C (Kd.slice 3 (Kd.int .i64)) w A0 rows.length rows) (hc0 : rows.length ≤ c0) (hr1 : Kd.C (Kd.int .i64) w A1 owners.length owners) (hc1 : owners.length ≤ c1) (hk : checkP rows owners ≠ 0) :
    Calls Try.prog 24 #[.agg #[.slice A0 rows.length c0, .slice A1 owners.length c1], .slice As ls.length cs] w fun e w' => e = .returned (.tuple #[.int .i64 0, .bool false, .int .i64 (checkP rows owners)]) ∧ Below w.heap.size w w' := by
  have hb0 : Below w.heap.size w (w.alloc (.cells #[.slice A0 rows.length c0, .slice A1 owners.length c1] 25)) := (Below.refl _ _).alloc (Nat.le_refl _) _
  have HC := Aside0.mk (program_Check.calls 66 A0 c0 rows A1 c1 owners (checkP rows owners) _ (Kd.C_below hr0 hb0) hc0 (Kd.C_below hr1 hb0) hc1 (check_math _ _ _ (Nat.le_refl _)))
  have HB0 := Aside0.mk hb0
  generalize checkP rows owners = e at hk HC ⊢
  have hkb : (e == 0) = false := beq_eq_false_iff_ne.2 hk
  clear hr0 hr1 hc0 hc1 hb0 hk
  go_enter Try.func24, Try.ntmps24
  go_wp2_with (go_at_call 82; refine HC.out.mono ?_; rintro e' w' ⟨rfl, hb⟩; have HB := Aside0.mk (below_then HB0.out (by simp) hb); clear hb HC)
  go_ret3
  exact ⟨rfl, HB.out⟩
set_option maxRecDepth 100000 in
set_option maxHeartbeats 8000000 in
theorem recover_good (A0 : Option Addr) (c0 : Nat) (rows : List (List Int)) (A1 : Option Addr) (c1 : Nat) (owners : List Int) (As : Option Addr) (cs : Nat) (ls : List S38) (w : World)
    (hr0 : Kd.C (Kd.slice 3 (Kd.int .i64)) w A0 rows.length rows) (hc0 : rows.length ≤ c0) (hr1 : Kd.C (Kd.int .i64) w A1 owners.length owners) (hc1 : owners.length ≤ c1) (hrs : Kd.C k38 w As ls.length ls) (hcs : ls.length ≤ cs) (hk : checkP rows owners = 0) :
    Calls Try.prog 24 #[.agg #[.slice A0 rows.length c0, .slice A1 owners.length c1], .slice As ls.length cs] w fun e w' => e = .returned (.tuple #[.int .i64 (recQ rows owners ls).1, .bool (recQ rows owners ls).2.1, .int .i64 (recQ rows owners ls).2.2]) ∧ Below w.heap.size w w' := by
  have hrq : recQ rows owners ls = if sharesOk rows.length (-1) ls then recT rows ls else (0, false, 340) := by unfold recQ; rw [if_pos hk]
  generalize hres : recQ rows owners ls = res at hrq ⊢
  obtain ⟨W0, hW0⟩ : ∃ W0, w.alloc (.cells #[.slice A0 rows.length c0, .slice A1 owners.length c1] 25) = W0 := ⟨_, rfl⟩
  have hb0 : Below w.heap.size w W0 := by rw [← hW0]; exact (Below.refl _ _).alloc (Nat.le_refl _) _
  have hz0 : W0.heap.size = w.heap.size + 1 := by rw [← hW0]; simp
  have p0 : W0.cell? ⟨w.heap.size, 0, none⟩ = some (.slice A0 rows.length c0) := by
    rw [← hW0]; simp only [World.cell?]; rw [World.alloc_heap_new]; rfl
  have p1 : W0.cell? ⟨w.heap.size, 1, none⟩ = some (.slice A1 owners.length c1) := by
    rw [← hW0]; simp only [World.cell?]; rw [World.alloc_heap_new]; rfl
  have HC := Aside0.mk (program_Check.calls 66 A0 c0 rows A1 c1 owners 0 W0 (Kd.C_below hr0 hb0) hc0 (Kd.C_below hr1 hb0) hc1 (hk ▸ check_math _ _ _ (Nat.le_refl _)))
  have HRT : Aside0 (∀ (W : World) (hb : Below W0.heap.size W0 W) (s : S38), Calls Try.prog 91 #[.agg #[.slice A0 rows.length c0, .slice A1 owners.length c1], .agg #[.int .i64 s.f0, .int .i64 s.f1]] W fun e w' => e = .returned (.bool (rightS rows.length s)) ∧ Below W.heap.size W w') := ⟨fun W hb s => right_w ⟨hc0, Kd.C_below (Kd.C_below hr0 hb0) hb⟩ ⟨hc1, Kd.C_below (Kd.C_below hr1 hb0) hb⟩⟩
  have HRS := Aside0.mk (Kd.C_below hrs hb0)
  have HR0 := Aside0.mk (Kd.C_below hr0 hb0)
  have HR1 := Aside0.mk (Kd.C_below hr1 hb0)
  have HB0 := Aside0.mk hb0
  have HP := Aside0.mk (And.intro p0 p1)
  have HRQ := Aside0.mk hrq
  have HK := Aside0.mk hk
  have HW0 := Aside0.mk hW0
  have HZ0 := Aside0.mk hz0
  have hlen : ls.length ≤ 9223372036854775807 := hrs.2.1
  have q0 := World.block_lt_of_cell? W0 _ p0
  simp only at q0
  clear hr0 hr1 hrs hb0 hrq hk hW0 hz0 hres
  go_enter Try.func24, Try.ntmps24
  go_wp2_with (go_at_call 82; rw [HW0.out]; refine HC.out.mono ?_; rintro e' w1 ⟨rfl, hb⟩; have HB1 := Aside0.mk hb; clear hb HC)
  go_loopg [8, 20] ls.length (fun gk v8 v20 w' => ∃ (j : Nat) (last : Int), j ≤ ls.length ∧ gk = ls.length - j ∧ v20 = .int .i64 (j : Int) ∧ v8 = .int .i64 last ∧ Aside0 (sharesOk rows.length (-1) ls = sharesOk rows.length last (ls.drop j)) ∧ Aside0 (Below W0.heap.size W0 w'))
  case atStart => exact ⟨0, -1, Nat.zero_le _, rfl, rfl, rfl, ⟨rfl⟩, HB1⟩
  case round =>
    obtain ⟨j, last, hj, rfl, rfl, rfl, HS, HB⟩ := hrel
    have r0 := (HB.out.cell (p := ⟨w.heap.size, 0, none⟩) q0).trans HP.out.1
    have r1 := (HB.out.cell (p := ⟨w.heap.size, 1, none⟩) q0).trans HP.out.2
    have q1 : w.heap.size < wr.heap.size := Nat.lt_of_lt_of_le q0 HB.out.size
    by_cases hlt : j < ls.length
    · have d1 : decide ((j : Int) < (ls.length : Int)) = true := decide_eq_true (by omega)
      have d2 : decide (j < ls.length) = true := decide_eq_true hlt
      have d4 : (0 : Int) ≤ (j : Int) := by omega
      obtain ⟨ad, e, x1, x2⟩ := at_T38 HRS.out (j : Int) (by omega) (by omega)
      cases e
      rw [Int.toNat_natCast] at x1 x2
      replace x1 := (HB.out.cell (World.block_lt_of_cell? W0 _ x1)).trans x1
      replace x2 := (HB.out.cell (World.block_lt_of_cell? W0 _ x2)).trans x2
      have hrd : rd_T38 ls (j : Int) = ls[j] := by unfold rd_T38; rw [Int.toNat_natCast, List.getD_eq_getElem?_getD, List.getElem?_eq_getElem hlt]; rfl
      rw [hrd] at x1 x2
      have hdr : ls.drop j = ls[j] :: ls.drop (j + 1) := List.drop_eq_getElem_cons hlt
      have hso : sharesOk rows.length (-1) ls = (rightS rows.length ls[j] && decide (last < ls[j].f0) && sharesOk rows.length ls[j].f0 (ls.drop (j + 1))) := by rw [HS.out, hdr]; rfl
      generalize ls[j] = s at x1 x2 hso hrd
      have HSO := Aside0.mk hso
      obtain ⟨f0, f1⟩ := s
      simp only at x1 x2
      obtain ⟨W2, hW2⟩ : ∃ W2, wr.alloc (.cells #[.int .i64 f0, .int .i64 f1] 38) = W2 := ⟨_, rfl⟩
      have hb2 : Below wr.heap.size wr W2 := by rw [← hW2]; exact (Below.refl _ _).alloc (Nat.le_refl _) _
      have HB2 := Aside0.mk (below_then HB.out HB.out.size hb2)
      have HRC := Aside0.mk (HRT.out W2 HB2.out ⟨f0, f1⟩)
      have HW2 := Aside0.mk hW2
      have n0 : W2.cell? ⟨wr.heap.size, 0, none⟩ = some (.int .i64 f0) := by rw [← hW2]; simp only [World.cell?]; rw [World.alloc_heap_new]; rfl
      have n1 : W2.cell? ⟨wr.heap.size, 1, none⟩ = some (.int .i64 f1) := by rw [← hW2]; simp only [World.cell?]; rw [World.alloc_heap_new]; rfl
      have n2 : wr.heap.size < W2.heap.size := by rw [← hW2]; simp
      have HN := Aside0.mk (And.intro n0 n2)
      clear hso hrd hdr hW2 hb2 n0 n1 n2
      cases hrb : rightS rows.length ⟨f0, f1⟩ with
      | false =>
        rw [hrb] at HRC
        have HF : Aside0 (sharesOk rows.length (-1) ls = false) := ⟨by rw [HSO.out, hrb]; rfl⟩
        clear hrb
        go_wp2_with (go_at_call 91; rw [HW2.out]; refine HRC.out.mono ?_; rintro e w3 ⟨rfl, hb3⟩; have HB3 := Aside0.mk (below_then HB2.out HB2.out.size hb3); have n0 := (hb3.cell (p := ⟨wr.heap.size, 0, none⟩) HN.out.2).trans HN.out.1; clear hb3 HRC)
        go_ret3
        refine ⟨?_, HB0.out.trans (HB3.out.mono HB0.out.size)⟩
        rw [HRQ.out, HF.out]; rfl
      | true =>
        rw [hrb] at HRC
        by_cases hle : f0 ≤ last
        · have hlb : decide (f0 ≤ last) = true := decide_eq_true hle
          have HF : Aside0 (sharesOk rows.length (-1) ls = false) := ⟨by rw [HSO.out, decide_eq_false (show ¬ last < f0 by omega), Bool.and_false, Bool.false_and]⟩
          clear hrb hle
          go_wp2_with (go_at_call 91; rw [HW2.out]; refine HRC.out.mono ?_; rintro e w3 ⟨rfl, hb3⟩; have HB3 := Aside0.mk (below_then HB2.out HB2.out.size hb3); have n0 := (hb3.cell (p := ⟨wr.heap.size, 0, none⟩) HN.out.2).trans HN.out.1; clear hb3 HRC)
          go_ret3
          refine ⟨?_, HB0.out.trans (HB3.out.mono HB0.out.size)⟩
          rw [HRQ.out, HF.out]; rfl
        · have hlb : decide (f0 ≤ last) = false := decide_eq_false hle
          have HF : Aside0 (sharesOk rows.length (-1) ls = sharesOk rows.length f0 (ls.drop (j + 1))) := ⟨by rw [HSO.out, hrb, decide_eq_true (show last < f0 by omega)]; rfl⟩
          clear hrb hle
          go_wp2_with (go_at_call 91; rw [HW2.out]; refine HRC.out.mono ?_; rintro e w3 ⟨rfl, hb3⟩; have HB3 := Aside0.mk (below_then HB2.out HB2.out.size hb3); have n0 := (hb3.cell (p := ⟨wr.heap.size, 0, none⟩) HN.out.2).trans HN.out.1; clear hb3 HRC)
          go_roundg (ls.length - (j + 1))
          case measure => omega
          case rel => exact ⟨j + 1, f0, by omega, rfl, by first | rfl | rw [wrap_nextB (by omega)], rfl, HF, HB3⟩
    · obtain rfl : j = ls.length := by omega
      have d1 : decide ((ls.length : Int) < (ls.length : Int)) = false := decide_eq_false (by omega)
      have hso : sharesOk rows.length (-1) ls = true := by rw [HS.out, List.drop_length]; rfl
      have hrec : res = recT rows ls := by rw [HRQ.out, hso]; rfl
      obtain ⟨hk1, hk2, hk3, hk4⟩ := combOk_rec HK.out hso
      have hcol0 : 0 < colsP rows := by rw [targetP_length] at hk3; exact hk3
      have hcol1 : colsP rows ≤ 64 := by rw [targetP_length] at hk4; exact hk4
      have HCO := Aside0.mk (fun (W : World) (hb : Below W0.heap.size W0 W) => dealing_columns.calls A0 c0 rows A1 c1 owners (colsP rows : Int) W (Kd.C_below HR0.out hb) hc0 (Kd.C_below HR1.out hb) hc1 cols_math)
      have HK1 := Aside0.mk hk1
      have HK2 := Aside0.mk hk2
      have HK3 := Aside0.mk hk3
      have HK4 := Aside0.mk hk4
      have HREC := Aside0.mk hrec
      have HSO := Aside0.mk hso
      have htl := targetP_length rows
      have htp : targetP rows = (List.replicate (colsP rows) 0).set 0 1 := rfl
      have HTL := Aside0.mk htl
      have HTP := Aside0.mk htp
      have HRW := Aside0.mk (show (rowsOf rows ls).length = ls.length from List.length_map _)
      generalize hn : colsP rows = n at HCO hcol0 hcol1 HTL HTP
      have hmk := print_make (P := Try.prog) 23 3 .i64 8 (by kernel_rfl) (by kernel_rfl) (by decide) n (by omega)
      have hm0 : (madeCells #[Value.int .i64 0] n)[0]? = some (.int .i64 0) := by simp [madeCells, hcol0]
      clear hk1 hk2 hk3 hk4 hrec hso htl htp hn
      go_wp2_with (go_at_call 84; refine (HCO.out _ HB.out).mono ?_; rintro e w3 ⟨rfl, hb3⟩; have HB3 := Aside0.mk (below_then HB.out HB.out.size hb3); have r0 := (hb3.cell (p := ⟨w.heap.size, 0, none⟩) q1).trans r0; have r1 := (hb3.cell (p := ⟨w.heap.size, 1, none⟩) q1).trans r1; have q3 : w.heap.size < w3.heap.size := Nat.lt_of_lt_of_le q1 hb3.size; clear hb3)
      have hcells := mk_target n
      rw [← HTP.out] at hcells
      rw [hcells]
      obtain ⟨W4, hW4⟩ : ∃ W4, w3.alloc (.cells (nums .i64 (targetP rows)).toArray 3) = W4 := ⟨_, rfl⟩
      rw [hW4]
      have ho4 : W4.ownsRow w3.heap.size 3 1 (.slice (some ⟨w3.heap.size, 0, none⟩) (targetP rows).length (targetP rows).length) (targetP rows).length (nums .i64 (targetP rows)) := by
        rw [← hW4]; exact own_lit w3 w3.heap.size 3 .i64 (targetP rows) (Nat.le_refl _) (by have := HK4.out; omega)
      have hb4 : Below w3.heap.size w3 W4 := by rw [← hW4]; exact (Below.refl _ _).alloc (Nat.le_refl _) _
      have HB4 := Aside0.mk (below_then HB3.out HB3.out.size hb4)
      obtain ⟨A4, c4, e4, hc4, hC4⟩ := Kd.R_reads (R_of_owns (ok := fun _ => True) ho4 (fun _ _ => trivial))
      injection e4 with e4 _ e5
      subst e4 e5
      have HT4 := Aside0.mk hC4
      have r0' := (hb4.cell (p := ⟨w.heap.size, 0, none⟩) q3).trans r0
      have q4 := Nat.lt_of_lt_of_le q3 hb4.size
      have HLN := Aside0.mk (show (targetP rows).length = n from HTL.out)
      clear hcells hW4 ho4 hb4 hC4 hc4 r0 r1 hmk hm0 HCO
      refine (rows_c _ _ _ _ _ _ _ _ _ _).mono ?_
      rintro e w5 ⟨rfl, hw5⟩
      have hb5 : Below W4.heap.size W4 w5 := by rw [hw5]; exact ((Below.refl _ _).alloc (Nat.le_refl _) _).alloc (by simp) _
      have g1 : w5.cell? ⟨W4.heap.size + 1, 0, none⟩ = some (.slice As ls.length cs) := by
        rw [hw5]
        simp
      have g2 : w5.cell? ⟨W4.heap.size, 0, none⟩ = some (.slice A0 rows.length c0) := by
        rw [hw5]
        have h1 : (W4.alloc (.cells #[.slice A0 rows.length c0, .slice A1 owners.length c1] 25)).cell? ⟨W4.heap.size, 0, none⟩ = some (.slice A0 rows.length c0) := by
          simp only [World.cell?]; rw [World.alloc_heap_new]; rfl
        exact (((Below.refl _ (W4.alloc (.cells #[.slice A0 rows.length c0, .slice A1 owners.length c1] 25))).alloc (Nat.le_refl _) (.cells #[.slice As ls.length cs] 26)).cell (p := ⟨W4.heap.size, 0, none⟩) (by simp)).trans h1
      have HB5 := Aside0.mk (below_then HB4.out HB4.out.size hb5)
      have HB45 := Aside0.mk hb5
      have hall := sharesOk_all ls _ HSO.out
      have hin : ∀ s ∈ ls, 0 ≤ s.f0 ∧ s.f0 < (rows.length : Int) := fun s hx => by
        have := hall s hx
        simp only [rightS, Bool.and_eq_true, decide_eq_true_eq] at this
        exact this.1
      have hadr : 0 < ls.length → A0 = some (A0.getD ⟨0, 0, none⟩) := fun h => by
        obtain ⟨h1, h2⟩ := hin _ (List.getElem_mem h)
        obtain ⟨ad, _, _, e, _⟩ := at_L1 HR0.out ls[0].f0 h1 h2
        rw [e]; rfl
      have HIT := Aside0.mk (rows1_it w5 (W4.heap.size + 1) W4.heap.size As cs ls A0 (A0.getD ⟨0, 0, none⟩) c0 rows g1 g2 hadr (Kd.C_below HRS.out HB5.out) (Kd.C_below HR0.out HB5.out) hin)
      have HGE := Aside0.mk (hb5.size)
      obtain ⟨yv, hyv⟩ : ∃ yv, yv = ls.map fun s => (w5.cell? ((A0.getD ⟨0, 0, none⟩).add s.f0.toNat)).getD undef := ⟨_, rfl⟩
      rw [← hyv] at HIT
      have hyat : ∀ i, i < (rowsOf rows ls).length → ∃ A c, yv[i]? = some (.slice A ((rowsOf rows ls).getD i []).length c) ∧ ((rowsOf rows ls).getD i []).length ≤ c ∧ Kd.C (Kd.int .i64) w5 A ((rowsOf rows ls).getD i []).length ((rowsOf rows ls).getD i []) := fun i hi => by
        rw [HRW.out] at hi
        obtain ⟨h1, h2⟩ := hin _ (List.getElem_mem hi)
        obtain ⟨ad, A, c, e, x1, x2, x3⟩ := at_L1 (Kd.C_below HR0.out HB5.out) ls[i].f0 h1 h2
        have er : (rowsOf rows ls).getD i [] = rd_L1 rows ls[i].f0 := by
          unfold rowsOf rd_L1
          rw [List.getD_eq_getElem?_getD, List.getElem?_map, List.getElem?_eq_getElem hi]; rfl
        rw [er]
        refine ⟨A, c, ?_, x2, x3⟩
        rw [hyv, List.getElem?_map, List.getElem?_eq_getElem hi]
        rw [show A0.getD ⟨0, 0, none⟩ = ad from by rw [e]; rfl]
        simp [x1]
      have hyl : yv.length = ls.length := by rw [hyv, List.length_map]
      have hysl : ∀ v ∈ yv, ∃ A n c, v = Value.slice A n c := fun v hv => by
        obtain ⟨i, hi, rfl⟩ := List.getElem_of_mem hv
        obtain ⟨A, c, h1, _⟩ := hyat i (by rw [HRW.out, ← hyl]; exact hi)
        rw [List.getElem?_eq_getElem hi] at h1
        injection h1 with h1
        exact ⟨A, _, c, h1⟩
      have hl64 : yv.length ≤ 64 := by have := HK2.out; rw [HRW.out] at this; omega
      have HCL := Aside0.mk (collect_c (g := 171) (fun args w => enters_ Try.func171 (by kernel_rfl) rfl args w) HIT.out hysl (by omega))
      have HYA := Aside0.mk hyat
      have HYL := Aside0.mk hyl
      clear hw5 hb5 g1 g2 hall hin hadr hyv hyat hysl hyl hl64 HIT r0'
      go_wp2_with fail
      refine HCL.out.mono ?_
      rintro e w6 ⟨v6, rfl, ho6, hb6⟩
      have HB6 := Aside0.mk (below_then HB5.out HB5.out.size hb6)
      obtain ⟨A6, c6, rfl, hc6, hC6⟩ := C_of_own ho6 (HYL.out.trans HRW.out.symm) (by have := HK2.out; omega) (fun i hi => by
        obtain ⟨A, c, x1, x2, x3⟩ := HYA.out i hi
        exact ⟨A, c, x1, x2, Kd.C_below x3 hb6⟩)
      have hC4' := Kd.C_below (Kd.C_below HT4.out HB45.out) hb6
      have HCB := combine_c A6 c6 (rowsOf rows ls) (some ⟨w3.heap.size, 0, none⟩) (targetP rows).length (targetP rows) w6 hC6 hc6 hC4' (Nat.le_refl _) HK1.out HK2.out HK3.out HK4.out
      rw [HLN.out] at HCB
      unfold CombPost at HCB
      have hrec := HREC.out
      unfold recT at hrec
      have HCB := Aside0.mk HCB
      clear ho6 hb6 hC6 hC4' HCL HYA HYL
      cases hcmb : Sig.combine (rowsOf rows ls) (targetP rows) with
      | none =>
        rw [hcmb] at hrec HCB
        have HREC2 := Aside0.mk hrec
        clear hrec hcmb
        go_wp2_with fail
        refine HCB.out.mono ?_
        rintro e w7 ⟨v7, rfl, hR7, hb7⟩
        obtain ⟨A7, c7, rfl, _, _⟩ := Kd.R_reads hR7
        have HB7 := Aside0.mk (below_then HB6.out HB6.out.size hb7)
        clear hR7 hb7 HCB
        go_wp2
        go_ret3
        refine ⟨by rw [HREC2.out]; rfl, ?_⟩
        have h7 := HB0.out.trans (HB7.out.mono HB0.out.size)
        exact h7.alloc h7.size _
      | some y =>
        rw [hcmb] at hrec HCB
        have hyl := Sig.combine_length hcmb
        rw [HRW.out] at hyl
        have HREC2 := Aside0.mk hrec
        have HYL2 := Aside0.mk hyl
        clear hrec hcmb hyl
        go_wp2_with fail
        refine HCB.out.mono ?_
        rintro e w7 ⟨v7, rfl, hR7, hb7⟩
        obtain ⟨A7, c7, rfl, _, hC7⟩ := Kd.R_reads hR7
        have HB7 := Aside0.mk (below_then HB6.out HB6.out.size hb7)
        obtain ⟨W8, hW8⟩ : ∃ W8, w7.alloc (.cells #[.slice A7 y.length c7] 23) = W8 := ⟨_, rfl⟩
        have hb8 : Below w7.heap.size w7 W8 := by rw [← hW8]; exact (Below.refl _ _).alloc (Nat.le_refl _) _
        have hx8 : Bx W8 w7.heap.size (.slice A7 y.length c7) := by rw [← hW8]; exact Bx.new _ _ _
        have HB8 := Aside0.mk (below_then HB7.out HB7.out.size hb8)
        have HC8 := Aside0.mk (Kd.C_below hC7 hb8)
        have HX8 := Aside0.mk hx8
        have HW8 := Aside0.mk hW8
        have HSM := Aside0.mk (sumShare_c (g := 96) (fun args w => enters_ Try.func96 (by kernel_rfl) rfl args w) ⟨w7.heap.size, 0, none⟩ (fun i => y.getD i 0 * (rd_T38 ls (i : Int)).f1 % 1073741789) As cs ls W8 (Kd.C_below HRS.out HB8.out) (fun i W hi hW =>
          recover1_c w7.heap.size A7 c7 y i (rd_T38 ls (i : Int)).f0 (rd_T38 ls (i : Int)).f1 W (HX8.out.below hW).1 (Kd.C_below HC8.out hW) (by rw [HYL2.out]; exact hi)))
        have hmf : ∀ (fn : Fn) (first cap : Array Value) (w : World), (Instr.makeFunc fn first cap).run Try.prog w = .ok (.func fn first cap) w := fun _ _ _ _ => rfl
        clear hR7 hb7 hC7 HCB hW8 hb8 hx8
        go_wp2_with (go_at_call 95; rw [HW8.out]; refine HSM.out.mono ?_; rintro e w9 ⟨rfl, hb9⟩; have HB9 := Aside0.mk (below_then HB8.out HB8.out.size hb9); clear hb9)
        go_ret3
        refine ⟨by rw [HREC2.out]; rfl, ?_⟩
        exact HB0.out.trans (HB9.out.mono HB0.out.size)
def dealing_Recover.f (l0_0 : List (List Int)) (l0_1 : List Int) (l1 : List S38) : Option (Int × Bool × Int) := some (recQ l0_0 l0_1 l1)
theorem dealing_Recover.calls (A0_0 : Option Addr) (c0_0 : Nat) (l0_0 : List (List Int)) (A0_1 : Option Addr) (c0_1 : Nat) (l0_1 : List Int) (A1 : Option Addr) (c1 : Nat) (l1 : List S38) (r1 : Int) (r2 : Bool) (r3 : Int) (w : World) (hr0_0 : Kd.C (Kd.slice 3 (Kd.int .i64)) w A0_0 l0_0.length l0_0) (hc0_0 : l0_0.length ≤ c0_0) (hr0_1 : Kd.C (Kd.int .i64) w A0_1 l0_1.length l0_1) (hc0_1 : l0_1.length ≤ c0_1) (hr1 : Kd.C k38 w A1 l1.length l1) (hc1 : l1.length ≤ c1) (h : dealing_Recover.f l0_0 l0_1 l1 = some (r1, r2, r3)) :
    Calls Try.prog 24 #[.agg #[.slice A0_0 l0_0.length c0_0, .slice A0_1 l0_1.length c0_1], .slice A1 l1.length c1] w fun e w' => e = .returned (.tuple #[.int .i64 r1, .bool r2, .int .i64 r3]) ∧ Below w.heap.size w w' := by
  have h : recQ l0_0 l0_1 l1 = (r1, r2, r3) := Option.some.inj h
  by_cases hk : checkP l0_0 l0_1 = 0
  · have := recover_good A0_0 c0_0 l0_0 A0_1 c0_1 l0_1 A1 c1 l1 w hr0_0 hc0_0 hr0_1 hc0_1 hr1 hc1 hk
    rw [h] at this
    exact this
  · have := recover_bad A0_0 c0_0 l0_0 A0_1 c0_1 l0_1 A1 c1 l1 w hr0_0 hc0_0 hr0_1 hc0_1 hk
    unfold recQ at h
    rw [if_neg hk] at h
    cases h
    exact this
end Go.Proofs.Ytdbamhckgaoibaa.P
namespace Go.Proofs.Ytdbamhckgaoibaa.P
open Go.RowKit Go.Proofs.YtdbamhckgaoibaaW.PrintWords Go.Proofs.YtdbamhckgaoibaaW.PrintLast Go.Proofs.YtdbamhckgaoibaaW.PrintMore
theorem deal_p {A0 A1 A2 : Option Addr} {c0 c1 c2 : Nat} {rows : List (List Int)} {owners : List Int} {secret : Int} {random : List Int} {sh : List S38} {cm : List Int} {e : Int} {W : World} (h0 : Sl (Kd.slice 3 (Kd.int .i64)) W A0 c0 rows) (h1 : Sl (Kd.int .i64) W A1 c1 owners) (h2 : Sl (Kd.int .i64) W A2 c2 random)
    (h : dealQ rows owners secret random = (sh, cm, e)) :
    Calls Try.prog 22 #[.agg #[.slice A0 rows.length c0, .slice A1 owners.length c1], .int .i64 secret, .slice A2 random.length c2] W fun e' w' => ∃ B0 d0 B1 d1, e' = .returned (.tuple #[.slice B0 sh.length d0, .slice B1 cm.length d1, .int .i64 e]) ∧ Sl k38 w' B0 d0 sh ∧ Sl (Kd.int .i64) w' B1 d1 cm ∧ Below W.heap.size W w' := by
  have := deal_w (secret := secret) h0 h1 h2
  rw [h] at this
  refine this.mono ?_
  rintro e' w' ⟨v0, v1, rfl, g0, g1, hb⟩
  obtain ⟨B0, d0, rfl, s0⟩ := Sl.ofR g0
  obtain ⟨B1, d1, rfl, s1⟩ := Sl.ofR g1
  exact ⟨B0, d0, B1, d1, rfl, s0, s1, hb⟩
theorem recover_p {A0 A1 A2 : Option Addr} {c0 c1 c2 : Nat} {rows : List (List Int)} {owners : List Int} {l : List S38} {x : Int} {ok : Bool} {e : Int} {W : World} (h0 : Sl (Kd.slice 3 (Kd.int .i64)) W A0 c0 rows) (h1 : Sl (Kd.int .i64) W A1 c1 owners) (h2 : Sl k38 W A2 c2 l)
    (h : recQ rows owners l = (x, ok, e)) :
    Calls Try.prog 24 #[.agg #[.slice A0 rows.length c0, .slice A1 owners.length c1], .slice A2 l.length c2] W fun e' w' => e' = .returned (.tuple #[.int .i64 x, .bool ok, .int .i64 e]) ∧ Below W.heap.size W w' :=
  dealing_Recover.calls A0 c0 rows A1 c1 owners A2 c2 l x ok e W h0.rd h0.le h1.rd h1.le h2.rd h2.le (congrArg some h)
theorem fits_p {A0 A1 A2 : Option Addr} {c0 c1 c2 : Nat} {rows : List (List Int)} {owners : List Int} {cm : List Int} {row v : Int} {ok : Bool} {e : Int} {W : World} (h0 : Sl (Kd.slice 3 (Kd.int .i64)) W A0 c0 rows) (h1 : Sl (Kd.int .i64) W A1 c1 owners) (h2 : Sl (Kd.int .i64) W A2 c2 cm)
    (h : fitsD rows owners cm row v = (ok, e)) :
    Calls Try.prog 30 #[.agg #[.slice A0 rows.length c0, .slice A1 owners.length c1], .slice A2 cm.length c2, .agg #[.int .i64 row, .int .i64 v]] W fun e' w' => e' = .returned (.tuple #[.bool ok, .int .i64 e]) ∧ Below W.heap.size W w' := by
  have := fits_w (row := row) (v := v) h0 h1 h2
  rw [h] at this
  exact this
theorem public_p {A0 A1 A2 : Option Addr} {c0 c1 c2 : Nat} {rows : List (List Int)} {owners : List Int} {cm : List Int} {row : Int} {x e : Int} {W : World} (h0 : Sl (Kd.slice 3 (Kd.int .i64)) W A0 c0 rows) (h1 : Sl (Kd.int .i64) W A1 c1 owners) (h2 : Sl (Kd.int .i64) W A2 c2 cm)
    (h : publicD rows owners cm row = (x, e)) :
    Calls Try.prog 28 #[.agg #[.slice A0 rows.length c0, .slice A1 owners.length c1], .slice A2 cm.length c2, .int .i64 row] W fun e' w' => e' = .returned (.tuple #[.int .i64 x, .int .i64 e]) ∧ Below W.heap.size W w' := by
  have := public_w (row := row) h0 h1 h2
  rw [h] at this
  exact this
end Go.Proofs.Ytdbamhckgaoibaa.P
namespace Go.Proofs.Ytdbamhckgaoibaa.P
open Go.RowKit Go.Proofs.YtdbamhckgaoibaaW.PrintWords Go.Proofs.YtdbamhckgaoibaaW.PrintLast Go.Proofs.YtdbamhckgaoibaaW.PrintMore
theorem ex_comb1 : Sig.combine [[1]] [1] = some [1] := by rw [combine_inv1]; decide +kernel
theorem ex_comb0 : Sig.combine [] [1] = none := by rw [combine_inv1]; decide +kernel
theorem ex_comb2 : Sig.combine [[1, 1], [1, 2]] [1, 0] = some [2, 1073741788] := by rw [combine_inv1]; decide +kernel
theorem ex_check1 : checkP [[1]] [4] = 0 := by decide +kernel
theorem ex_check2 : checkP [[1, 1], [1, 2]] [5, 6] = 0 := by decide +kernel
theorem ex_rec1 : recQ [[1]] [4] [⟨0, 7⟩] = (7, true, 0) := by
  unfold recQ recT
  rw [if_pos ex_check1, if_pos (by decide +kernel), show rowsOf [[1]] [⟨0, 7⟩] = [[1]] from rfl, show targetP [[1]] = [1] from rfl, ex_comb1]
  rfl
theorem ex_rec0 : recQ [[1]] [4] [] = (0, false, 0) := by
  unfold recQ recT
  rw [if_pos ex_check1, if_pos (by decide +kernel), show rowsOf [[1]] [] = [] from rfl, show targetP [[1]] = [1] from rfl, ex_comb0]
theorem ex_rec2 : recQ [[1, 1], [1, 2]] [5, 6] [⟨0, 13⟩, ⟨1, 16⟩] = (10, true, 0) := by
  unfold recQ recT
  rw [if_pos ex_check2, if_pos (by decide +kernel), show rowsOf [[1, 1], [1, 2]] [⟨0, 13⟩, ⟨1, 16⟩] = [[1, 1], [1, 2]] from rfl, show targetP [[1, 1], [1, 2]] = [1, 0] from rfl, ex_comb2]
  rfl
theorem ex_shares1 : sharesQ [[1]] [7] = [⟨0, 7⟩] := rfl
theorem ex_shares2 : sharesQ [[1, 1], [1, 2]] [10, 3] = [⟨0, 13⟩, ⟨1, 16⟩] := rfl
theorem ex_commit7 : commitQ 7 = 16384 := by decide +kernel
theorem ex_commit8 : commitQ 8 = 65536 := by decide +kernel
theorem ex_map7 : ([7] : List Int).map commitQ = [16384] := by rw [List.map_cons, List.map_nil, ex_commit7]
theorem ex_deal1 : dealQ [[1]] [4] 7 [] = ([⟨0, 7⟩], [16384], 0) := by
  rw [deal_good ex_check1 (by decide) (by decide) (by decide), ex_shares1, ex_map7]
theorem ex_deal2 : dealQ [[1, 1], [1, 2]] [5, 6] 10 [3] = ([⟨0, 13⟩, ⟨1, 16⟩], [10, 3].map commitQ, 0) := by
  rw [deal_good ex_check2 (by decide) (by decide) (by decide), ex_shares2]
theorem ex_fits (v : Int) (hv : inQ v = true) : fitsD [[1]] [4] [16384] 0 v = (commitQ v == 16384, 0) := by
  have := fits_dealt (s := [7]) ex_check1 rfl (i := 0) (by decide) hv
  rw [ex_map7] at this
  rw [show ((0 : Nat) : Int) = 0 from rfl] at this
  rw [this, show Sig.dot ([[1]].getD 0 []) [7] = 7 from rfl, ex_commit7]
theorem ex_fits7 : fitsD [[1]] [4] [16384] 0 7 = (true, 0) := by rw [ex_fits 7 (by decide), ex_commit7]; rfl
theorem ex_fits8 : fitsD [[1]] [4] [16384] 0 8 = (false, 0) := by rw [ex_fits 8 (by decide), ex_commit8]; rfl
theorem ex_pub1 : publicD [[1]] [4] [16384] 1 = (0, 1) := by
  have := check_dealt (s := [7]) ex_check1 rfl
  rw [ex_map7] at this
  unfold publicD
  rw [if_pos this, if_neg (by decide)]
theorem ex_pub2 : publicD [[1, 1], [1, 2]] [5, 6] [16384] 0 = (0, 340) := by
  have : checkD [[1, 1], [1, 2]] [5, 6] [16384] = 340 := by
    unfold checkD
    rw [if_pos ex_check2, if_neg (fun h => by have h1 := h.1; revert h1; decide)]
  unfold publicD
  rw [this, if_neg (by decide)]
end Go.Proofs.Ytdbamhckgaoibaa.P
namespace Go.Proofs.Ytdbamhckgaoibaa.P
open Go.RowKit Go.Proofs.YtdbamhckgaoibaaW.PrintWords Go.Proofs.YtdbamhckgaoibaaW.PrintLast Go.Proofs.YtdbamhckgaoibaaW.PrintMore
set_option linter.unusedVariables false
theorem one_p (W : World) : Calls Try.prog 81 #[] W fun e' w' => ∃ B0 d0 B1 d1, e' = .returned (.agg #[.slice B0 1 d0, .slice B1 1 d1]) ∧ Sl (Kd.slice 3 (Kd.int .i64)) w' B0 d0 [[1]] ∧ Sl (Kd.int .i64) w' B1 d1 [4] ∧ Below W.heap.size W w' := by
  refine (signatorylaw34_one.calls [[1]] [4] W rfl).mono ?_
  rintro e' w' ⟨v0, v1, rfl, g0, g1, hb⟩
  obtain ⟨B0, d0, rfl, s0⟩ := Sl.ofN g0
  obtain ⟨B1, d1, rfl, s1⟩ := Sl.ofR g1
  exact ⟨B0, d0, B1, d1, rfl, s0, s1, hb⟩
theorem same_p (k : Nat) {A0 A1 : Option Addr} {c0 c1 : Nat} {l m : List S38} {r : Bool} {W : World} (h0 : Sl k38 W A0 c0 l) (h1 : Sl k38 W A1 c1 m) (h : signatoryref34_Same.f k l m = some r) :
    Calls Try.prog 26 #[.slice A0 l.length c0, .slice A1 m.length c1] W fun e' w' => e' = .returned (.bool r) ∧ Below W.heap.size W w' :=
  (signatoryref34_Same.calls k A0 c0 l A1 c1 m r W h0.rd h0.le h1.rd h1.le h).mono fun _ _ h => ⟨h.1, h.2.below⟩
set_option maxRecDepth 100000 in
set_option maxHeartbeats 8000000 in
theorem sane34_c (w : World) : Calls Try.prog 20 #[] w fun e w' => e = .returned (.bool true) ∧ Below w.heap.size w w' := by
  go_enter Try.func20, Try.ntmps20
  go_wp2_with fail
  refine (one_p _).mono ?_
  rintro e w1 ⟨Ao, co, Bo, do_, rfl, ho, hp, hb⟩
  have HB := Aside0.mk hb
  have H_rows := Aside0.mk ho
  have H_own := Aside0.mk hp
  clear hb ho hp
  go_wp2_with fail
  refine (deal_p H_rows.out H_own.out (Sl.none_ _ _) ex_deal1).mono ?_
  rintro e w2 ⟨As, cs, Ac, cc, rfl, h1, h2, hb⟩
  clear H_rows
  clear H_own
  replace HB := Aside0.mk (below_then HB.out HB.out.size hb)
  have H_l := Aside0.mk h1
  have H_cm := Aside0.mk h2
  clear hb h1 h2
  go_wp2_with fail
  refine (one_p _).mono ?_
  rintro e w3 ⟨Ao, co, Bo, do_, rfl, ho, hp, hb⟩
  replace H_l := Aside0.mk (H_l.out.below hb)
  replace H_cm := Aside0.mk (H_cm.out.below hb)
  replace HB := Aside0.mk (below_then HB.out HB.out.size hb)
  have H_rows := Aside0.mk ho
  have H_own := Aside0.mk hp
  clear hb ho hp
  go_wp2_with fail
  refine (deal_p H_rows.out H_own.out (Sl.none_ _ _) (deal_odd ex_check1 (by decide))).mono ?_
  rintro e w4 ⟨_, _, _, _, rfl, _, _, hb⟩
  replace H_l := Aside0.mk (H_l.out.below hb)
  replace H_cm := Aside0.mk (H_cm.out.below hb)
  clear H_rows
  clear H_own
  replace HB := Aside0.mk (below_then HB.out HB.out.size hb)
  clear hb
  go_wp2_with fail
  refine (one_p _).mono ?_
  rintro e w5 ⟨Ao, co, Bo, do_, rfl, ho, hp, hb⟩
  replace H_l := Aside0.mk (H_l.out.below hb)
  replace H_cm := Aside0.mk (H_cm.out.below hb)
  replace HB := Aside0.mk (below_then HB.out HB.out.size hb)
  have H_rows := Aside0.mk ho
  have H_own := Aside0.mk hp
  clear hb ho hp
  go_wp2_with fail
  obtain ⟨w6, hw⟩ : ∃ W_, W_ = w5.alloc (.cells #[.int .i64 0, .int .i64 7] 38) := ⟨_, rfl⟩
  rw [← hw]
  have hb : Below w5.heap.size w5 w6 := by rw [hw]; exact below_alloc1 _ _
  have hz : w5.heap.size = w5.heap.size := rfl
  have hs : w6.heap.size = w5.heap.size + 1 := by rw [hw, ← hz]; simp
  have hl : Sl k38 w6 (some ⟨w5.heap.size, 0, none⟩) 1 [⟨0, 7⟩] := by rw [hw, ← hz]; exact Sl.shares w5 38 [⟨0, 7⟩] (by decide)
  replace H_l := Aside0.mk (H_l.out.below hb)
  replace H_cm := Aside0.mk (H_cm.out.below hb)
  replace H_rows := Aside0.mk (H_rows.out.below hb)
  replace H_own := Aside0.mk (H_own.out.below hb)
  replace HB := Aside0.mk (below_then HB.out HB.out.size hb)
  have H_s1 := Aside0.mk hl; clear hl
  clear hw hb hz
  have HZ := Aside0.mk hs; clear hs
  refine (recover_p H_rows.out H_own.out H_s1.out ex_rec1).mono ?_
  rintro e w7 ⟨rfl, hb⟩
  replace H_l := Aside0.mk (H_l.out.below hb)
  replace H_cm := Aside0.mk (H_cm.out.below hb)
  clear H_rows
  clear H_own
  clear H_s1
  replace HB := Aside0.mk (below_then HB.out HB.out.size hb)
  clear hb
  go_wp2_with fail
  refine (one_p _).mono ?_
  rintro e w8 ⟨Ao, co, Bo, do_, rfl, ho, hp, hb⟩
  replace H_l := Aside0.mk (H_l.out.below hb)
  replace H_cm := Aside0.mk (H_cm.out.below hb)
  replace HB := Aside0.mk (below_then HB.out HB.out.size hb)
  have H_rows := Aside0.mk ho
  have H_own := Aside0.mk hp
  clear hb ho hp
  go_wp2_with fail
  refine (recover_p H_rows.out H_own.out (Sl.none_ _ _) ex_rec0).mono ?_
  rintro e w9 ⟨rfl, hb⟩
  replace H_l := Aside0.mk (H_l.out.below hb)
  replace H_cm := Aside0.mk (H_cm.out.below hb)
  clear H_rows
  clear H_own
  replace HB := Aside0.mk (below_then HB.out HB.out.size hb)
  clear hb
  go_wp2_with fail
  obtain ⟨w10, hw⟩ : ∃ W_, W_ = w9.alloc (.cells #[.int .i64 0, .int .i64 7] 38) := ⟨_, rfl⟩
  rw [← hw]
  have hb : Below w9.heap.size w9 w10 := by rw [hw]; exact below_alloc1 _ _
  have hz : w9.heap.size = w9.heap.size := rfl
  have hs : w10.heap.size = w9.heap.size + 1 := by rw [hw, ← hz]; simp
  have hl : Sl k38 w10 (some ⟨w9.heap.size, 0, none⟩) 1 [⟨0, 7⟩] := by rw [hw, ← hz]; exact Sl.shares w9 38 [⟨0, 7⟩] (by decide)
  replace H_l := Aside0.mk (H_l.out.below hb)
  replace H_cm := Aside0.mk (H_cm.out.below hb)
  replace HB := Aside0.mk (below_then HB.out HB.out.size hb)
  have H_s1 := Aside0.mk hl; clear hl
  clear hw hb hz
  have HZ := Aside0.mk hs; clear hs
  refine (same_p 300 H_l.out H_s1.out (same_math _ _ (by decide) 300 (by decide))).mono ?_
  rintro e w11 ⟨rfl, hb⟩
  clear H_l
  replace H_cm := Aside0.mk (H_cm.out.below hb)
  clear H_s1
  replace HB := Aside0.mk (below_then HB.out HB.out.size hb)
  clear hb
  go_wp2_with fail
  refine (group_Pow.calls 4 7 _ _ _ (pow_four 7)).mono ?_
  rintro e w12 ⟨rfl, hb⟩
  replace H_cm := Aside0.mk (H_cm.out.below hb)
  replace HB := Aside0.mk (below_then HB.out HB.out.size hb)
  clear hb
  go_wp2_with fail
  refine (one_p _).mono ?_
  rintro e w13 ⟨Ao, co, Bo, do_, rfl, ho, hp, hb⟩
  replace H_cm := Aside0.mk (H_cm.out.below hb)
  replace HB := Aside0.mk (below_then HB.out HB.out.size hb)
  have H_rows := Aside0.mk ho
  have H_own := Aside0.mk hp
  clear hb ho hp
  go_wp2_with fail
  refine (fits_p H_rows.out H_own.out H_cm.out ex_fits7).mono ?_
  rintro e w14 ⟨rfl, hb⟩
  replace H_cm := Aside0.mk (H_cm.out.below hb)
  clear H_rows
  clear H_own
  replace HB := Aside0.mk (below_then HB.out HB.out.size hb)
  clear hb
  go_wp2_with fail
  refine (one_p _).mono ?_
  rintro e w15 ⟨Ao, co, Bo, do_, rfl, ho, hp, hb⟩
  replace H_cm := Aside0.mk (H_cm.out.below hb)
  replace HB := Aside0.mk (below_then HB.out HB.out.size hb)
  have H_rows := Aside0.mk ho
  have H_own := Aside0.mk hp
  clear hb ho hp
  go_wp2_with fail
  refine (fits_p H_rows.out H_own.out H_cm.out ex_fits8).mono ?_
  rintro e w16 ⟨rfl, hb⟩
  replace H_cm := Aside0.mk (H_cm.out.below hb)
  clear H_rows
  clear H_own
  replace HB := Aside0.mk (below_then HB.out HB.out.size hb)
  clear hb
  go_wp2_with fail
  obtain ⟨w17, hw⟩ : ∃ W_, W_ = w16.alloc (.cells #[.int .i64 1, .int .i64 1] 3) := ⟨_, rfl⟩
  rw [← hw]
  have hb : Below w16.heap.size w16 w17 := by rw [hw]; exact below_alloc1 _ _
  have hz : w16.heap.size = w16.heap.size := rfl
  have hs : w17.heap.size = w16.heap.size + 1 := by rw [hw, ← hz]; simp
  have hl : Sl (Kd.int .i64) w17 (some ⟨w16.heap.size, 0, none⟩) 2 [1, 1] := by rw [hw, ← hz]; exact Sl.ints w16 3 [1, 1] (by decide)
  replace H_cm := Aside0.mk (H_cm.out.below hb)
  replace HB := Aside0.mk (below_then HB.out HB.out.size hb)
  have H_r1 := Aside0.mk hl; clear hl
  clear hw hb hz
  have HZ := Aside0.mk hs; clear hs
  obtain ⟨w18, hw⟩ : ∃ W_, W_ = w17.alloc (.cells #[.int .i64 1, .int .i64 2] 3) := ⟨_, rfl⟩
  rw [← hw]
  have hb : Below w17.heap.size w17 w18 := by rw [hw]; exact below_alloc1 _ _
  have hz : w17.heap.size = w16.heap.size + 1 := HZ.out
  have hs : w18.heap.size = w16.heap.size + 1 + 1 := by rw [hw, ← hz]; simp
  have hl : Sl (Kd.int .i64) w18 (some ⟨w16.heap.size + 1, 0, none⟩) 2 [1, 2] := by rw [hw, ← hz]; exact Sl.ints w17 3 [1, 2] (by decide)
  replace H_cm := Aside0.mk (H_cm.out.below hb)
  replace H_r1 := Aside0.mk (H_r1.out.below hb)
  replace HB := Aside0.mk (below_then HB.out HB.out.size hb)
  have H_r2 := Aside0.mk hl; clear hl
  clear hw hb hz
  have HZ := Aside0.mk hs; clear hs
  obtain ⟨w19, hw⟩ : ∃ W_, W_ = w18.alloc (.cells #[.slice (some ⟨w16.heap.size, 0, none⟩) 2 2, .slice (some ⟨w16.heap.size + 1, 0, none⟩) 2 2] 23) := ⟨_, rfl⟩
  rw [← hw]
  have hb : Below w18.heap.size w18 w19 := by rw [hw]; exact below_alloc1 _ _
  have hz : w18.heap.size = w16.heap.size + 1 + 1 := HZ.out
  have hs : w19.heap.size = w16.heap.size + 1 + 1 + 1 := by rw [hw, ← hz]; simp
  have hl : Sl (Kd.slice 3 (Kd.int .i64)) w19 (some ⟨w16.heap.size + 1 + 1, 0, none⟩) 2 [[1, 1], [1, 2]] := by rw [hw, ← hz]; exact Sl.rows w18 23 3 [.slice (some ⟨w16.heap.size, 0, none⟩) 2 2, .slice (some ⟨w16.heap.size + 1, 0, none⟩) 2 2] [[1, 1], [1, 2]] (.cons (SlAt.mk_ H_r1.out) (.cons (SlAt.mk_ H_r2.out) SlsAt.nil)) (by decide)
  replace H_cm := Aside0.mk (H_cm.out.below hb)
  replace H_r1 := Aside0.mk (H_r1.out.below hb)
  replace H_r2 := Aside0.mk (H_r2.out.below hb)
  replace HB := Aside0.mk (below_then HB.out HB.out.size hb)
  have H_rr := Aside0.mk hl; clear hl
  clear hw hb hz
  have HZ := Aside0.mk hs; clear hs
  obtain ⟨w20, hw⟩ : ∃ W_, W_ = w19.alloc (.cells #[.int .i64 5, .int .i64 6] 3) := ⟨_, rfl⟩
  rw [← hw]
  have hb : Below w19.heap.size w19 w20 := by rw [hw]; exact below_alloc1 _ _
  have hz : w19.heap.size = w16.heap.size + 1 + 1 + 1 := HZ.out
  have hs : w20.heap.size = w16.heap.size + 1 + 1 + 1 + 1 := by rw [hw, ← hz]; simp
  have hl : Sl (Kd.int .i64) w20 (some ⟨w16.heap.size + 1 + 1 + 1, 0, none⟩) 2 [5, 6] := by rw [hw, ← hz]; exact Sl.ints w19 3 [5, 6] (by decide)
  replace H_cm := Aside0.mk (H_cm.out.below hb)
  replace H_r1 := Aside0.mk (H_r1.out.below hb)
  replace H_r2 := Aside0.mk (H_r2.out.below hb)
  replace H_rr := Aside0.mk (H_rr.out.below hb)
  replace HB := Aside0.mk (below_then HB.out HB.out.size hb)
  have H_oo := Aside0.mk hl; clear hl
  clear hw hb hz
  have HZ := Aside0.mk hs; clear hs
  obtain ⟨w21, hw⟩ : ∃ W_, W_ = w20.alloc (.cells #[.slice (some ⟨w16.heap.size + 1 + 1, 0, none⟩) 2 2, .slice (some ⟨w16.heap.size + 1 + 1 + 1, 0, none⟩) 2 2] 25) := ⟨_, rfl⟩
  rw [← hw]
  have hb : Below w20.heap.size w20 w21 := by rw [hw]; exact below_alloc1 _ _
  have hz : w20.heap.size = w16.heap.size + 1 + 1 + 1 + 1 := HZ.out
  have hs : w21.heap.size = w16.heap.size + 1 + 1 + 1 + 1 + 1 := by rw [hw, ← hz]; simp
  replace H_cm := Aside0.mk (H_cm.out.below hb)
  replace H_r1 := Aside0.mk (H_r1.out.below hb)
  replace H_r2 := Aside0.mk (H_r2.out.below hb)
  replace H_rr := Aside0.mk (H_rr.out.below hb)
  replace H_oo := Aside0.mk (H_oo.out.below hb)
  replace HB := Aside0.mk (below_then HB.out HB.out.size hb)
  have H_two0 := Aside0.mk (⟨by rw [hw, ← hz]; simp only [World.cell?]; rw [World.alloc_heap_new]; rfl, by rw [hs]; omega⟩ : w21.cell? ⟨w16.heap.size + 1 + 1 + 1 + 1, 0, none⟩ = some (.slice (some ⟨w16.heap.size + 1 + 1, 0, none⟩) 2 2) ∧ w16.heap.size + 1 + 1 + 1 + 1 < w21.heap.size)
  have H_two1 := Aside0.mk (⟨by rw [hw, ← hz]; simp only [World.cell?]; rw [World.alloc_heap_new]; rfl, by rw [hs]; omega⟩ : w21.cell? ⟨w16.heap.size + 1 + 1 + 1 + 1, 1, none⟩ = some (.slice (some ⟨w16.heap.size + 1 + 1 + 1, 0, none⟩) 2 2) ∧ w16.heap.size + 1 + 1 + 1 + 1 < w21.heap.size)
  clear hw hb hz
  have HZ := Aside0.mk hs; clear hs
  obtain ⟨w22, hw⟩ : ∃ W_, W_ = w21.alloc (.cells #[.int .i64 3] 3) := ⟨_, rfl⟩
  rw [← hw]
  have hb : Below w21.heap.size w21 w22 := by rw [hw]; exact below_alloc1 _ _
  have hz : w21.heap.size = w16.heap.size + 1 + 1 + 1 + 1 + 1 := HZ.out
  have hs : w22.heap.size = w16.heap.size + 1 + 1 + 1 + 1 + 1 + 1 := by rw [hw, ← hz]; simp
  have hl : Sl (Kd.int .i64) w22 (some ⟨w16.heap.size + 1 + 1 + 1 + 1 + 1, 0, none⟩) 1 [3] := by rw [hw, ← hz]; exact Sl.ints w21 3 [3] (by decide)
  replace H_cm := Aside0.mk (H_cm.out.below hb)
  replace H_r1 := Aside0.mk (H_r1.out.below hb)
  replace H_r2 := Aside0.mk (H_r2.out.below hb)
  replace H_rr := Aside0.mk (H_rr.out.below hb)
  replace H_oo := Aside0.mk (H_oo.out.below hb)
  replace H_two0 := Aside0.mk (cell_on H_two0.out hb)
  replace H_two1 := Aside0.mk (cell_on H_two1.out hb)
  replace HB := Aside0.mk (below_then HB.out HB.out.size hb)
  have H_n3 := Aside0.mk hl; clear hl
  clear hw hb hz
  have HZ := Aside0.mk hs; clear hs
  refine (deal_p H_rr.out H_oo.out H_n3.out ex_deal2).mono ?_
  rintro e w23 ⟨Ab, cb, _, _, rfl, h1, _, hb⟩
  replace H_cm := Aside0.mk (H_cm.out.below hb)
  clear H_r1
  clear H_r2
  replace H_rr := Aside0.mk (H_rr.out.below hb)
  replace H_oo := Aside0.mk (H_oo.out.below hb)
  replace H_two0 := Aside0.mk (cell_on H_two0.out hb)
  replace H_two1 := Aside0.mk (cell_on H_two1.out hb)
  clear H_n3
  replace HB := Aside0.mk (below_then HB.out HB.out.size hb)
  have H_both := Aside0.mk h1
  clear hb h1
  have x_two0 := H_two0.out.1
  have x_two1 := H_two1.out.1
  go_wp2_with fail
  clear x_two0 x_two1
  refine (recover_p H_rr.out H_oo.out H_both.out ex_rec2).mono ?_
  rintro e w24 ⟨rfl, hb⟩
  replace H_cm := Aside0.mk (H_cm.out.below hb)
  replace H_rr := Aside0.mk (H_rr.out.below hb)
  replace H_oo := Aside0.mk (H_oo.out.below hb)
  replace H_two0 := Aside0.mk (cell_on H_two0.out hb)
  replace H_two1 := Aside0.mk (cell_on H_two1.out hb)
  replace H_both := Aside0.mk (H_both.out.below hb)
  replace HB := Aside0.mk (below_then HB.out HB.out.size hb)
  clear hb
  have x_two0 := H_two0.out.1
  have x_two1 := H_two1.out.1
  go_wp2_with fail
  clear x_two0 x_two1
  refine (public_p H_rr.out H_oo.out H_cm.out ex_pub2).mono ?_
  rintro e w25 ⟨rfl, hb⟩
  replace H_cm := Aside0.mk (H_cm.out.below hb)
  clear H_rr
  clear H_oo
  clear H_two0
  clear H_two1
  replace H_both := Aside0.mk (H_both.out.below hb)
  replace HB := Aside0.mk (below_then HB.out HB.out.size hb)
  clear hb
  go_wp2_with fail
  refine (one_p _).mono ?_
  rintro e w26 ⟨Ao, co, Bo, do_, rfl, ho, hp, hb⟩
  replace H_cm := Aside0.mk (H_cm.out.below hb)
  replace H_both := Aside0.mk (H_both.out.below hb)
  replace HB := Aside0.mk (below_then HB.out HB.out.size hb)
  have H_rows := Aside0.mk ho
  have H_own := Aside0.mk hp
  clear hb ho hp
  go_wp2_with fail
  refine (public_p H_rows.out H_own.out H_cm.out ex_pub1).mono ?_
  rintro e w27 ⟨rfl, hb⟩
  replace H_cm := Aside0.mk (H_cm.out.below hb)
  replace H_both := Aside0.mk (H_both.out.below hb)
  clear H_rows
  clear H_own
  replace HB := Aside0.mk (below_then HB.out HB.out.size hb)
  clear hb
  obtain ⟨ad, e, hx⟩ := Kd.at_int H_cm.out.rd 0 (by decide) (by decide)
  cases e
  have hx : w27.cell? ad = some (.int .i64 16384) := hx
  go_wp2_with fail
  clear hx
  clear H_cm
  obtain ⟨w28, hw⟩ : ∃ W_, W_ = w27.alloc (.cells #[.int .i64 0, .int .i64 13, .int .i64 1, .int .i64 16] 38) := ⟨_, rfl⟩
  rw [← hw]
  have hb : Below w27.heap.size w27 w28 := by rw [hw]; exact below_alloc1 _ _
  have hz : w27.heap.size = w27.heap.size := rfl
  have hs : w28.heap.size = w27.heap.size + 1 := by rw [hw, ← hz]; simp
  have hl : Sl k38 w28 (some ⟨w27.heap.size, 0, none⟩) 2 [⟨0, 13⟩, ⟨1, 16⟩] := by rw [hw, ← hz]; exact Sl.shares w27 38 [⟨0, 13⟩, ⟨1, 16⟩] (by decide)
  replace H_both := Aside0.mk (H_both.out.below hb)
  replace HB := Aside0.mk (below_then HB.out HB.out.size hb)
  have H_s2 := Aside0.mk hl; clear hl
  clear hw hb hz
  have HZ := Aside0.mk hs; clear hs
  refine (same_p 300 H_both.out H_s2.out (same_math _ _ (by decide) 300 (by decide))).mono ?_
  rintro e w29 ⟨rfl, hb⟩
  clear H_both
  clear H_s2
  replace HB := Aside0.mk (below_then HB.out HB.out.size hb)
  clear hb
  go_wp2
  go_ret
  exact ⟨rfl, HB.out⟩
def signatorylaw34_sane.f : Option Bool := some true
theorem signatorylaw34_sane.calls (r : Bool) (w : World) (h : signatorylaw34_sane.f = some r) :
    Calls Try.prog 20 #[] w fun e w' => e = .returned (.bool r) ∧ Below w.heap.size w w' := by
  cases Option.some.inj h
  exact sane34_c w
end Go.Proofs.Ytdbamhckgaoibaa.P
namespace Go.Proofs.Ytdbamhckgaoibaa.P
open Go.RowKit Go.Proofs.YtdbamhckgaoibaaW.PrintWords Go.Proofs.YtdbamhckgaoibaaW.PrintLast Go.Proofs.YtdbamhckgaoibaaW.PrintMore
attribute [local go_sem] max2_int min2_int max_two min_two max_three min_three max_four min_four
set_option linter.unusedVariables false
set_option linter.unusedSimpArgs false
def signatorylaw34_DealingFitsSpec.j0 : Nat → List Int → Int → Bool → List (List Int) → List Int → Int → Int → Option (Bool)
 | 0, _, _, _, _, _, _, _ => none
 | k + 1, x1, x2, x26, x1124000, x1124001, x1125000, x1125001 => if x26 = true then (some true) else ((dealing_Public.f x1124000 x1124001 x1 x2).bind fun bt1127 => ((signatoryref34_Public.f k x1124000 x1124001 x1 x2).bind fun bt1129 => ((dealing_Fits.f x1124000 x1124001 x1 x1125000 x1125001).bind fun bt1131 => ((signatoryref34_Fits.f k x1124000 x1124001 x1 x1125000 x1125001).bind fun bt1133 => (if bt1127.1 = bt1129.1 then (if bt1127.2 = bt1129.2 then (if (bt1131.1 == bt1133.1) = true then (some (bt1131.2 == bt1133.2)) else (some false)) else (some false)) else (some false))))))
def signatorylaw34_DealingFitsSpec.f (k : Nat) (l0_0 : List (List Int)) (l0_1 : List Int) (l1 : List Int) (a2 : Int) (a3_0 : Int) (a3_1 : Int) : Option (Bool) := (signatorylaw34_sane.f).bind fun t1125 => (if t1125 = true then ((signatoryref34_Few.f k l0_0 l0_1).bind fun t1126 => (if t1126 = true then (signatorylaw34_DealingFitsSpec.j0 k l1 a2 (decide ((l1.length : Int) > 80)) l0_0 l0_1 a3_0 a3_1) else (signatorylaw34_DealingFitsSpec.j0 k l1 a2 true l0_0 l0_1 a3_0 a3_1))) else (some false))
set_option maxHeartbeats 8000000 in
set_option maxRecDepth 100000 in
theorem signatorylaw34_DealingFitsSpec.calls (k : Nat) (A0_0 : Option Addr) (c0_0 : Nat) (l0_0 : List (List Int)) (A0_1 : Option Addr) (c0_1 : Nat) (l0_1 : List Int) (A1 : Option Addr) (c1 : Nat) (l1 : List Int) (a2 : Int) (a3_0 : Int) (a3_1 : Int) (r : Bool) (w : World) (hr0_0 : Kd.C (Kd.slice 3 (Kd.int .i64)) w A0_0 l0_0.length l0_0) (hc0_0 : l0_0.length ≤ c0_0) (hr0_1 : Kd.C (Kd.int .i64) w A0_1 l0_1.length l0_1) (hc0_1 : l0_1.length ≤ c0_1) (hr1 : Kd.C (Kd.int .i64) w A1 l1.length l1) (hc1 : l1.length ≤ c1) (h : signatorylaw34_DealingFitsSpec.f k l0_0 l0_1 l1 a2 a3_0 a3_1 = some r) :
  Calls Try.prog 4 #[.agg #[.slice A0_0 l0_0.length c0_0, .slice A0_1 l0_1.length c0_1], .slice A1 l1.length c1, .int .i64 a2, .agg #[.int .i64 a3_0, .int .i64 a3_1]] w fun e w' => e = .returned (.bool r) ∧ Below w.heap.size w w' := by
 have hu25 := Try.underlying25
 have hu38 := Try.underlying38
 have HR0_0 := Aside0.mk hr0_0
 have HC0_0 := Aside0.mk hc0_0
 clear hr0_0 hc0_0
 have HR0_1 := Aside0.mk hr0_1
 have HC0_1 := Aside0.mk hc0_1
 clear hr0_1 hc0_1
 have HR1 := Aside0.mk hr1
 have HC1 := Aside0.mk hc1
 clear hr1 hc1
 have HB := Aside0.mk (Below.refl w.heap.size w)
 have H : ((signatorylaw34_sane.f).bind fun t1125 => (if t1125 = true then ((signatoryref34_Few.f k l0_0 l0_1).bind fun t1126 => (if t1126 = true then (signatorylaw34_DealingFitsSpec.j0 k l1 a2 (decide ((l1.length : Int) > 80)) l0_0 l0_1 a3_0 a3_1) else (signatorylaw34_DealingFitsSpec.j0 k l1 a2 true l0_0 l0_1 a3_0 a3_1))) else (some false))) = some r := h
 clear h
 replace H := Option.bind_eq_some_iff.mp H
 obtain ⟨t1125, A50, H⟩ := H
 replace H : (if t1125 = true then ((signatoryref34_Few.f k l0_0 l0_1).bind fun t1126 => (if t1126 = true then (signatorylaw34_DealingFitsSpec.j0 k l1 a2 (decide ((l1.length : Int) > 80)) l0_0 l0_1 a3_0 a3_1) else (signatorylaw34_DealingFitsSpec.j0 k l1 a2 true l0_0 l0_1 a3_0 a3_1))) else (some false)) = some r := H
 have A5 := Aside0.mk A50
 clear A50
 by_cases c6 : t1125 = true
 ·subst c6
  have H1 : ((signatoryref34_Few.f k l0_0 l0_1).bind fun t1126 => (if t1126 = true then (signatorylaw34_DealingFitsSpec.j0 k l1 a2 (decide ((l1.length : Int) > 80)) l0_0 l0_1 a3_0 a3_1) else (signatorylaw34_DealingFitsSpec.j0 k l1 a2 true l0_0 l0_1 a3_0 a3_1))) = some r := by rw [if_pos rfl] at H; exact H
  clear H
  have H := H1
  clear H1
  have HC7 := Aside0.mk H
  clear H
  go_enter Try.func4, Try.ntmps4
  go_upto_region 3 with (first | ((with_reducible refine gate_dst (N := 4) rfl ?_); (try (refine gate_guard (by rfl) ?_; dsimp only)); refine box_event ?hg (N := 4) ?hd (cs := #[.slice A0_0 l0_0.length c0_0, .slice A0_1 l0_1.length c0_1]) (t := 25) ?hr ?_; (case hd => rfl); (case hg => rfl); (case hr => first | (go_simp; done) | (go_simp; rfl)); intro gb1123 hg w8 hbox hb; have n0_ := Aside0.mk (below_step (by repeat (first | (with_reducible first | exact HB.out | apply below_alloc | apply pw_below_drewN | apply below_drew1) | exact HB.out)) hb); have n1_ := Aside0.mk (hbox); have n2_ := Aside0.mk ((by rw [hg]; exact (below_size (by repeat (first | (with_reducible first | exact HB.out | apply below_alloc | apply pw_below_drewN | apply below_drew1) | exact HB.out))) : w.heap.size ≤ gb1123)); have n3_ := Aside0.mk ((by rw [hg]; exact (below_size (by repeat (first | (with_reducible first | exact HB.out | apply below_alloc | apply pw_below_drewN | apply below_drew1) | exact HB.out))) : w.heap.size ≤ gb1123)); clear HB; have HB := n0_; have BK1123 := n1_; have GW1123 := n2_; have GE1123 := n3_; clear n0_ n1_ n2_ n3_; clear hb hbox hg) | ((with_reducible refine gate_dst (N := 7) rfl ?_); (try (refine gate_guard (by rfl) ?_; dsimp only)); refine box_event ?hg (N := 7) ?hd (cs := #[.int .i64 a3_0, .int .i64 a3_1]) (t := 38) ?hr ?_; (case hd => rfl); (case hg => rfl); (case hr => first | (go_simp; done) | (go_simp; rfl)); intro gb1124 hg w9 hbox hb; have n0_ := Aside0.mk (blk_below (g := gb1123) (o := .cells #[.slice A0_0 l0_0.length c0_0, .slice A0_1 l0_1.length c0_1] 25 (0, 0)) (by (with_reducible repeat (first | refine blk_drewN ?_ _ | refine blk_drew ?_ | refine blk_alloc ?_ _)); exact BK1123.out) hb); have n1_ := Aside0.mk (below_step (by repeat (first | (with_reducible first | exact HB.out | apply below_alloc | apply pw_below_drewN | apply below_drew1 | refine below_set ?_ GE1123.out) | exact HB.out)) hb); have n2_ := Aside0.mk (hbox); have n3_ := Aside0.mk ((by rw [hg]; exact (below_size (by repeat (first | (with_reducible first | exact HB.out | apply below_alloc | apply pw_below_drewN | apply below_drew1 | refine below_set ?_ GE1123.out) | exact HB.out))) : w.heap.size ≤ gb1124)); have n4_ := Aside0.mk ((by rw [hg]; exact (below_size (by repeat (first | (with_reducible first | exact HB.out | apply below_alloc | apply pw_below_drewN | apply below_drew1 | refine below_set ?_ GE1123.out) | exact HB.out))) : w.heap.size ≤ gb1124)); have n5_ := Aside0.mk ((by rw [hg]; exact Nat.ne_of_lt (blk_lt (g := gb1123) (o := .cells #[.slice A0_0 l0_0.length c0_0, .slice A0_1 l0_1.length c0_1] 25 (0, 0)) (by (with_reducible repeat (first | refine blk_drewN ?_ _ | refine blk_drew ?_ | refine blk_alloc ?_ _)); exact BK1123.out)) : gb1123 ≠ gb1124)); have n6_ := Aside0.mk ((by rw [hg]; exact Nat.ne_of_gt (blk_lt (g := gb1123) (o := .cells #[.slice A0_0 l0_0.length c0_0, .slice A0_1 l0_1.length c0_1] 25 (0, 0)) (by (with_reducible repeat (first | refine blk_drewN ?_ _ | refine blk_drew ?_ | refine blk_alloc ?_ _)); exact BK1123.out)) : gb1124 ≠ gb1123)); clear BK1123; clear HB; have BK1123 := n0_; have HB := n1_; have BK1124 := n2_; have GW1124 := n3_; have GE1124 := n4_; have NB1123_1124 := n5_; have NB1124_1123 := n6_; clear n0_ n1_ n2_ n3_ n4_ n5_ n6_; clear hb hbox hg) | ((with_reducible refine gate_callee (f := 20) rfl ?_); refine goesL_ (some 17) rfl rfl Try.func20 (by kernel_rfl) rfl #[] rfl (by (try simp only [List.map_toArray, List.map_cons, List.map_nil]); first | done | rfl | (simp only [List.length_drop, List.length_take]; rfl)) ?_; (with_reducible refine (signatorylaw34_sane.calls  true _ A5.out).mono ?_); rintro e w10 ⟨rfl, hb⟩; refine ⟨_, rfl, ?_⟩; have n0_ := Aside0.mk (blk_below (g := gb1123) (o := .cells #[.slice A0_0 l0_0.length c0_0, .slice A0_1 l0_1.length c0_1] 25 (0, 0)) (by (with_reducible repeat (first | refine blk_drewN ?_ _ | refine blk_drew ?_ | refine blk_alloc ?_ _)); exact BK1123.out) hb); have n1_ := Aside0.mk (blk_below (g := gb1124) (o := .cells #[.int .i64 a3_0, .int .i64 a3_1] 38 (0, 0)) (by (with_reducible repeat (first | refine blk_drewN ?_ _ | refine blk_drew ?_ | refine blk_alloc ?_ _)); exact BK1124.out) hb); have n2_ := Aside0.mk (below_step (by repeat (first | (with_reducible first | exact HB.out | apply below_alloc | apply pw_below_drewN | apply below_drew1 | refine below_set ?_ GE1123.out | refine below_set ?_ GE1124.out) | exact HB.out)) hb); clear BK1123; clear BK1124; clear HB; have BK1123 := n0_; have BK1124 := n1_; have HB := n2_; clear n0_ n1_ n2_; (try clear hb); (try clear hb2); (try clear hk); (try clear hi)))
  (try simp only [Act.put, List.setIfInBounds_toArray, List.set_cons_zero, List.set_cons_succ])
  go_cut [26] (fun v26 wc => ∃ (kq : Nat) (x26_6 : Bool), v26 = .bool x26_6 ∧ Aside0 (signatorylaw34_DealingFitsSpec.j0 kq l1 a2 x26_6 l0_0 l0_1 a3_0 a3_1 = some r) ∧ Aside0 (kq ≤ k) ∧ Aside0 (wc.heap[gb1123]? = some (.cells #[(.slice A0_0 l0_0.length c0_0), (.slice A0_1 l0_1.length c0_1)] 25 (0, 0))) ∧ Aside0 (wc.heap[gb1124]? = some (.cells #[.int .i64 a3_0, .int .i64 a3_1] 38 (0, 0))) ∧ Aside0 (Below w.heap.size w wc))
  case first =>
   have H := HC7.out
   clear HC7
   replace H := Option.bind_eq_some_iff.mp H
   obtain ⟨t1126, A110, H⟩ := H
   replace H : (if t1126 = true then (signatorylaw34_DealingFitsSpec.j0 k l1 a2 (decide ((l1.length : Int) > 80)) l0_0 l0_1 a3_0 a3_1) else (signatorylaw34_DealingFitsSpec.j0 k l1 a2 true l0_0 l0_1 a3_0 a3_1)) = some r := H
   have A11 := Aside0.mk A110
   clear A110
   by_cases c12 : t1126 = true
   ·subst c12
    have H1 : (signatorylaw34_DealingFitsSpec.j0 k l1 a2 (decide ((l1.length : Int) > 80)) l0_0 l0_1 a3_0 a3_1) = some r := by rw [if_pos rfl] at H; exact H
    clear H
    have H := H1
    clear H1
    have H' := Aside0.mk H
    clear H
    have hnb13 := NB1123_1124.out
    have hnc13 := NB1124_1123.out
    have hcz14_0 : w10.cell? ⟨gb1123, 0, none⟩ = some (.slice A0_0 l0_0.length c0_0) := (blk_cell BK1123.out 0).trans rfl
    have hcz14_1 : w10.cell? ⟨gb1123, 1, none⟩ = some (.slice A0_1 l0_1.length c0_1) := (blk_cell BK1123.out 1).trans rfl
    have hfz14_0 := blk_frozen BK1123.out 0
    have hfz14_1 := blk_frozen BK1123.out 1
    go_wp2_with (first | ((with_reducible refine gate_callee (f := 21) rfl ?_); refine goesL_ (some 20) rfl rfl Try.func21 (by kernel_rfl) rfl #[.agg #[.slice A0_0 l0_0.length c0_0, .slice A0_1 l0_1.length c0_1]] rfl (by (try simp only [List.map_toArray, List.map_cons, List.map_nil]); first | done | rfl | (simp only [List.length_drop, List.length_take]; rfl)) ?_; (with_reducible refine (signatoryref34_Few.calls k _ _ l0_0 _ _ l0_1 true _ ?side1 ?side2 ?side3 ?side4 A11.out).mono ?_); (case side1 => repeat (first | exact (Kd.C_below HR0_0.out HB.out) | (with_reducible refine Kd.C_alloc ?_ _) | (with_reducible refine Kd.C_drewN ?_ _) | (with_reducible refine Kd.C_drew ?_))); (case side2 => exact HC0_0.out); (case side3 => repeat (first | exact (Kd.C_below HR0_1.out HB.out) | (with_reducible refine Kd.C_alloc ?_ _) | (with_reducible refine Kd.C_drewN ?_ _) | (with_reducible refine Kd.C_drew ?_))); (case side4 => exact HC0_1.out); rintro e w15 ⟨rfl, hb⟩; refine ⟨_, rfl, ?_⟩; have n0_ := Aside0.mk (blk_below (g := gb1123) (o := .cells #[.slice A0_0 l0_0.length c0_0, .slice A0_1 l0_1.length c0_1] 25 (0, 0)) (by (with_reducible repeat (first | refine blk_drewN ?_ _ | refine blk_drew ?_ | refine blk_alloc ?_ _)); exact BK1123.out) hb); have n1_ := Aside0.mk (blk_below (g := gb1124) (o := .cells #[.int .i64 a3_0, .int .i64 a3_1] 38 (0, 0)) (by (with_reducible repeat (first | refine blk_drewN ?_ _ | refine blk_drew ?_ | refine blk_alloc ?_ _)); exact BK1124.out) hb); have n2_ := Aside0.mk (below_step (by repeat (first | (with_reducible first | exact HB.out | apply below_alloc | apply pw_below_drewN | apply below_drew1 | refine below_set ?_ GE1123.out | refine below_set ?_ GE1124.out) | exact HB.out)) hb); clear BK1123; clear BK1124; clear HB; have BK1123 := n0_; have BK1124 := n1_; have HB := n2_; clear n0_ n1_ n2_; (try clear hb); (try clear hb2); (try clear hk); (try clear hi)))
    go_meet
    case rel => exact ⟨_, (decide ((l1.length : Int) > 80)), (by first | rfl | (simp; done) | (simp [*]; done)), H', ⟨by first | omega | exact Nat.le_refl _⟩, ⟨by (with_reducible repeat (first | refine blk_drewN ?_ _ | refine blk_drew ?_ | refine blk_alloc ?_ _)); exact BK1123.out⟩, ⟨by (with_reducible repeat (first | refine blk_drewN ?_ _ | refine blk_drew ?_ | refine blk_alloc ?_ _)); exact BK1124.out⟩, ⟨by repeat (first | (with_reducible first | exact HB.out | apply below_alloc | apply pw_below_drewN | apply below_drew1 | refine below_set ?_ GE1123.out | refine below_set ?_ GE1124.out) | exact HB.out)⟩⟩
   ·replace c12 := Bool.eq_false_iff.mpr c12
    subst c12
    have H1 : (signatorylaw34_DealingFitsSpec.j0 k l1 a2 true l0_0 l0_1 a3_0 a3_1) = some r := by rw [if_neg (show ¬ (false = true) by decide)] at H; exact H
    clear H
    have H := H1
    clear H1
    have H' := Aside0.mk H
    clear H
    have hnb16 := NB1123_1124.out
    have hnc16 := NB1124_1123.out
    have hcz17_0 : w10.cell? ⟨gb1123, 0, none⟩ = some (.slice A0_0 l0_0.length c0_0) := (blk_cell BK1123.out 0).trans rfl
    have hcz17_1 : w10.cell? ⟨gb1123, 1, none⟩ = some (.slice A0_1 l0_1.length c0_1) := (blk_cell BK1123.out 1).trans rfl
    have hfz17_0 := blk_frozen BK1123.out 0
    have hfz17_1 := blk_frozen BK1123.out 1
    go_wp2_with (first | ((with_reducible refine gate_callee (f := 21) rfl ?_); refine goesL_ (some 20) rfl rfl Try.func21 (by kernel_rfl) rfl #[.agg #[.slice A0_0 l0_0.length c0_0, .slice A0_1 l0_1.length c0_1]] rfl (by (try simp only [List.map_toArray, List.map_cons, List.map_nil]); first | done | rfl | (simp only [List.length_drop, List.length_take]; rfl)) ?_; (with_reducible refine (signatoryref34_Few.calls k _ _ l0_0 _ _ l0_1 false _ ?side1 ?side2 ?side3 ?side4 A11.out).mono ?_); (case side1 => repeat (first | exact (Kd.C_below HR0_0.out HB.out) | (with_reducible refine Kd.C_alloc ?_ _) | (with_reducible refine Kd.C_drewN ?_ _) | (with_reducible refine Kd.C_drew ?_))); (case side2 => exact HC0_0.out); (case side3 => repeat (first | exact (Kd.C_below HR0_1.out HB.out) | (with_reducible refine Kd.C_alloc ?_ _) | (with_reducible refine Kd.C_drewN ?_ _) | (with_reducible refine Kd.C_drew ?_))); (case side4 => exact HC0_1.out); rintro e w18 ⟨rfl, hb⟩; refine ⟨_, rfl, ?_⟩; have n0_ := Aside0.mk (blk_below (g := gb1123) (o := .cells #[.slice A0_0 l0_0.length c0_0, .slice A0_1 l0_1.length c0_1] 25 (0, 0)) (by (with_reducible repeat (first | refine blk_drewN ?_ _ | refine blk_drew ?_ | refine blk_alloc ?_ _)); exact BK1123.out) hb); have n1_ := Aside0.mk (blk_below (g := gb1124) (o := .cells #[.int .i64 a3_0, .int .i64 a3_1] 38 (0, 0)) (by (with_reducible repeat (first | refine blk_drewN ?_ _ | refine blk_drew ?_ | refine blk_alloc ?_ _)); exact BK1124.out) hb); have n2_ := Aside0.mk (below_step (by repeat (first | (with_reducible first | exact HB.out | apply below_alloc | apply pw_below_drewN | apply below_drew1 | refine below_set ?_ GE1123.out | refine below_set ?_ GE1124.out) | exact HB.out)) hb); clear BK1123; clear BK1124; clear HB; have BK1123 := n0_; have BK1124 := n1_; have HB := n2_; clear n0_ n1_ n2_; (try clear hb); (try clear hb2); (try clear hk); (try clear hi)))
    go_meet
    case rel => exact ⟨_, (true), (by first | rfl | (simp; done) | (simp [*]; done)), H', ⟨by first | omega | exact Nat.le_refl _⟩, ⟨by (with_reducible repeat (first | refine blk_drewN ?_ _ | refine blk_drew ?_ | refine blk_alloc ?_ _)); exact BK1123.out⟩, ⟨by (with_reducible repeat (first | refine blk_drewN ?_ _ | refine blk_drew ?_ | refine blk_alloc ?_ _)); exact BK1124.out⟩, ⟨by repeat (first | (with_reducible first | exact HB.out | apply below_alloc | apply pw_below_drewN | apply below_drew1 | refine below_set ?_ GE1123.out | refine below_set ?_ GE1124.out) | exact HB.out)⟩⟩
  case rest =>
   clear HC7
   try clear c1
   try clear c2
   try clear p2
   try clear c4
   try clear c6
   try clear c12
   try clear c13
   try clear c16
   try clear hcz14_0
   try clear hcz14_1
   try clear hcz17_0
   try clear hcz17_1
   try clear hfz14_0
   try clear hfz14_1
   try clear hfz17_0
   try clear hfz17_1
   obtain ⟨kq, x26_6, rfl, HA, HJ6, BK1123, BK1124, HB⟩ := hcut
   cases kq with
   | zero => exact absurd HA.out (by simp [signatorylaw34_DealingFitsSpec.j0])
   | succ kj6 =>
    have H := HA.out
    clear HA
    simp only [signatorylaw34_DealingFitsSpec.j0] at H
    by_cases c19 : x26_6 = true
    ·subst c19
     have H1 : (some true) = some r := by rw [if_pos rfl] at H; exact H
     clear H
     have H := H1
     clear H1
     obtain rfl := Option.some.inj H
     go_wp2
     go_ret
     exact ⟨by first | rfl | (simp [errW_none, errW_some] <;> rfl) | (simp [*, errW_none, errW_some] <;> rfl), by repeat (first | (with_reducible first | exact HB.out | apply below_alloc | apply pw_below_drewN | apply below_drew1 | refine below_set ?_ GE1123.out | refine below_set ?_ GE1124.out) | exact HB.out)⟩
    ·replace c19 := Bool.eq_false_iff.mpr c19
     subst c19
     have H1 : ((dealing_Public.f l0_0 l0_1 l1 a2).bind fun bt1127 => ((signatoryref34_Public.f kj6 l0_0 l0_1 l1 a2).bind fun bt1129 => ((dealing_Fits.f l0_0 l0_1 l1 a3_0 a3_1).bind fun bt1131 => ((signatoryref34_Fits.f kj6 l0_0 l0_1 l1 a3_0 a3_1).bind fun bt1133 => (if bt1127.1 = bt1129.1 then (if bt1127.2 = bt1129.2 then (if (bt1131.1 == bt1133.1) = true then (some (bt1131.2 == bt1133.2)) else (some false)) else (some false)) else (some false)))))) = some r := by rw [if_neg (show ¬ (false = true) by decide)] at H; exact H
     clear H
     have H := H1
     clear H1
     replace H := Option.bind_eq_some_iff.mp H
     obtain ⟨⟨t1127, t1128⟩, A200, H⟩ := H
     replace H : ((signatoryref34_Public.f kj6 l0_0 l0_1 l1 a2).bind fun bt1129 => ((dealing_Fits.f l0_0 l0_1 l1 a3_0 a3_1).bind fun bt1131 => ((signatoryref34_Fits.f kj6 l0_0 l0_1 l1 a3_0 a3_1).bind fun bt1133 => (if t1127 = bt1129.1 then (if t1128 = bt1129.2 then (if (bt1131.1 == bt1133.1) = true then (some (bt1131.2 == bt1133.2)) else (some false)) else (some false)) else (some false))))) = some r := H
     have A20 := Aside0.mk A200
     clear A200
     replace H := Option.bind_eq_some_iff.mp H
     obtain ⟨⟨t1129, t1130⟩, A210, H⟩ := H
     replace H : ((dealing_Fits.f l0_0 l0_1 l1 a3_0 a3_1).bind fun bt1131 => ((signatoryref34_Fits.f kj6 l0_0 l0_1 l1 a3_0 a3_1).bind fun bt1133 => (if t1127 = t1129 then (if t1128 = t1130 then (if (bt1131.1 == bt1133.1) = true then (some (bt1131.2 == bt1133.2)) else (some false)) else (some false)) else (some false)))) = some r := H
     have A21 := Aside0.mk A210
     clear A210
     replace H := Option.bind_eq_some_iff.mp H
     obtain ⟨⟨t1131, t1132⟩, A220, H⟩ := H
     replace H : ((signatoryref34_Fits.f kj6 l0_0 l0_1 l1 a3_0 a3_1).bind fun bt1133 => (if t1127 = t1129 then (if t1128 = t1130 then (if (t1131 == bt1133.1) = true then (some (t1132 == bt1133.2)) else (some false)) else (some false)) else (some false))) = some r := H
     have A22 := Aside0.mk A220
     clear A220
     replace H := Option.bind_eq_some_iff.mp H
     obtain ⟨⟨t1133, t1134⟩, A230, H⟩ := H
     replace H : (if t1127 = t1129 then (if t1128 = t1130 then (if (t1131 == t1133) = true then (some (t1132 == t1134)) else (some false)) else (some false)) else (some false)) = some r := H
     have A23 := Aside0.mk A230
     clear A230
     by_cases c24 : t1127 = t1129
     ·rw [if_pos c24] at H
      have c24b0 : (t1127 == t1129) = true := beq_iff_eq.mpr c24
      have c24b1 : (t1127 != t1129) = false := bne_eq_false_iff_eq.mpr c24
      clear c24
      by_cases c25 : t1128 = t1130
      ·rw [if_pos c25] at H
       have c25b0 : (t1128 == t1130) = true := beq_iff_eq.mpr c25
       have c25b1 : (t1128 != t1130) = false := bne_eq_false_iff_eq.mpr c25
       clear c25
       by_cases c26 : (t1131 == t1133) = true
       ·rw [if_pos c26] at H
        have c26b0 : (t1131 == t1133) = true := c26
        (try (have c26b1 : decide (t1131 = t1133) = true := by simpa using c26))
        (try (have c26b2 : (t1131 == t1133) = true := by simpa using c26))
        clear c26
        obtain rfl := Option.some.inj H
        have hnb27 := NB1123_1124.out
        have hnc27 := NB1124_1123.out
        have hcz28_0 : wc.cell? ⟨gb1123, 0, none⟩ = some (.slice A0_0 l0_0.length c0_0) := (blk_cell BK1123.out 0).trans rfl
        have hcz28_1 : wc.cell? ⟨gb1123, 1, none⟩ = some (.slice A0_1 l0_1.length c0_1) := (blk_cell BK1123.out 1).trans rfl
        have hfz28_0 := blk_frozen BK1123.out 0
        have hfz28_1 := blk_frozen BK1123.out 1
        go_wp2_with (first | ((with_reducible refine gate_callee (f := 28) rfl ?_); refine goesL_ (some 31) rfl rfl Try.func28 (by kernel_rfl) rfl #[.agg #[.slice A0_0 l0_0.length c0_0, .slice A0_1 l0_1.length c0_1], .slice A1 l1.length c1, .int .i64 a2] rfl (by (try simp only [List.map_toArray, List.map_cons, List.map_nil]); first | done | rfl | (simp only [List.length_drop, List.length_take]; rfl)) ?_; (with_reducible refine (dealing_Public.calls _ _ l0_0 _ _ l0_1 _ _ l1 a2 t1127 t1128 _ ?side1 ?side2 ?side3 ?side4 ?side5 ?side6 A20.out).mono ?_); (case side1 => repeat (first | exact (Kd.C_below HR0_0.out HB.out) | (with_reducible refine Kd.C_alloc ?_ _) | (with_reducible refine Kd.C_drewN ?_ _) | (with_reducible refine Kd.C_drew ?_))); (case side2 => exact HC0_0.out); (case side3 => repeat (first | exact (Kd.C_below HR0_1.out HB.out) | (with_reducible refine Kd.C_alloc ?_ _) | (with_reducible refine Kd.C_drewN ?_ _) | (with_reducible refine Kd.C_drew ?_))); (case side4 => exact HC0_1.out); (case side5 => repeat (first | exact (Kd.C_below HR1.out HB.out) | (with_reducible refine Kd.C_alloc ?_ _) | (with_reducible refine Kd.C_drewN ?_ _) | (with_reducible refine Kd.C_drew ?_))); (case side6 => exact HC1.out); rintro e w29 ⟨rfl, hb⟩; refine ⟨_, rfl, ?_⟩; have n0_ := Aside0.mk (blk_below (g := gb1123) (o := .cells #[.slice A0_0 l0_0.length c0_0, .slice A0_1 l0_1.length c0_1] 25 (0, 0)) (by (with_reducible repeat (first | refine blk_drewN ?_ _ | refine blk_drew ?_ | refine blk_alloc ?_ _)); exact BK1123.out) hb); have n1_ := Aside0.mk (blk_below (g := gb1124) (o := .cells #[.int .i64 a3_0, .int .i64 a3_1] 38 (0, 0)) (by (with_reducible repeat (first | refine blk_drewN ?_ _ | refine blk_drew ?_ | refine blk_alloc ?_ _)); exact BK1124.out) hb); have n2_ := Aside0.mk (below_step (by repeat (first | (with_reducible first | exact HB.out | apply below_alloc | apply pw_below_drewN | apply below_drew1 | refine below_set ?_ GE1123.out | refine below_set ?_ GE1124.out) | exact HB.out)) hb); clear BK1123; clear BK1124; clear HB; have BK1123 := n0_; have BK1124 := n1_; have HB := n2_; clear n0_ n1_ n2_; (try clear hb); (try clear hb2); (try clear hk); (try clear hi); have hcz30_0 : w29.cell? ⟨gb1123, 0, none⟩ = some (.slice A0_0 l0_0.length c0_0) := (blk_cell BK1123.out 0).trans rfl; have hcz30_1 : w29.cell? ⟨gb1123, 1, none⟩ = some (.slice A0_1 l0_1.length c0_1) := (blk_cell BK1123.out 1).trans rfl; have hfz30_0 := blk_frozen BK1123.out 0; have hfz30_1 := blk_frozen BK1123.out 1) | ((with_reducible refine gate_callee (f := 29) rfl ?_); refine goesL_ (some 38) rfl rfl Try.func29 (by kernel_rfl) rfl #[.agg #[.slice A0_0 l0_0.length c0_0, .slice A0_1 l0_1.length c0_1], .slice A1 l1.length c1, .int .i64 a2] rfl (by (try simp only [List.map_toArray, List.map_cons, List.map_nil]); first | done | rfl | (simp only [List.length_drop, List.length_take]; rfl)) ?_; (with_reducible refine (signatoryref34_Public.calls kj6 _ _ l0_0 _ _ l0_1 _ _ l1 a2 t1129 t1130 _ ?side1 ?side2 ?side3 ?side4 ?side5 ?side6 A21.out).mono ?_); (case side1 => repeat (first | exact (Kd.C_below HR0_0.out HB.out) | (with_reducible refine Kd.C_alloc ?_ _) | (with_reducible refine Kd.C_drewN ?_ _) | (with_reducible refine Kd.C_drew ?_))); (case side2 => exact HC0_0.out); (case side3 => repeat (first | exact (Kd.C_below HR0_1.out HB.out) | (with_reducible refine Kd.C_alloc ?_ _) | (with_reducible refine Kd.C_drewN ?_ _) | (with_reducible refine Kd.C_drew ?_))); (case side4 => exact HC0_1.out); (case side5 => repeat (first | exact (Kd.C_below HR1.out HB.out) | (with_reducible refine Kd.C_alloc ?_ _) | (with_reducible refine Kd.C_drewN ?_ _) | (with_reducible refine Kd.C_drew ?_))); (case side6 => exact HC1.out); rintro e w31 ⟨rfl, hb⟩; refine ⟨_, rfl, ?_⟩; have n0_ := Aside0.mk (blk_below (g := gb1123) (o := .cells #[.slice A0_0 l0_0.length c0_0, .slice A0_1 l0_1.length c0_1] 25 (0, 0)) (by (with_reducible repeat (first | refine blk_drewN ?_ _ | refine blk_drew ?_ | refine blk_alloc ?_ _)); exact BK1123.out) hb); have n1_ := Aside0.mk (blk_below (g := gb1124) (o := .cells #[.int .i64 a3_0, .int .i64 a3_1] 38 (0, 0)) (by (with_reducible repeat (first | refine blk_drewN ?_ _ | refine blk_drew ?_ | refine blk_alloc ?_ _)); exact BK1124.out) hb); have n2_ := Aside0.mk (below_step (by repeat (first | (with_reducible first | exact HB.out | apply below_alloc | apply pw_below_drewN | apply below_drew1 | refine below_set ?_ GE1123.out | refine below_set ?_ GE1124.out) | exact HB.out)) hb); clear BK1123; clear BK1124; clear HB; have BK1123 := n0_; have BK1124 := n1_; have HB := n2_; clear n0_ n1_ n2_; (try clear hb); (try clear hb2); (try clear hk); (try clear hi); have hcz32_0 : w31.cell? ⟨gb1123, 0, none⟩ = some (.slice A0_0 l0_0.length c0_0) := (blk_cell BK1123.out 0).trans rfl; have hcz32_1 : w31.cell? ⟨gb1123, 1, none⟩ = some (.slice A0_1 l0_1.length c0_1) := (blk_cell BK1123.out 1).trans rfl; have hfz32_0 := blk_frozen BK1123.out 0; have hfz32_1 := blk_frozen BK1123.out 1; have hcz33_0 : w31.cell? ⟨gb1124, 0, none⟩ = some (.int .i64 a3_0) := (blk_cell BK1124.out 0).trans rfl; have hcz33_1 : w31.cell? ⟨gb1124, 1, none⟩ = some (.int .i64 a3_1) := (blk_cell BK1124.out 1).trans rfl; have hfz33_0 := blk_frozen BK1124.out 0; have hfz33_1 := blk_frozen BK1124.out 1) | ((with_reducible refine gate_callee (f := 30) rfl ?_); refine goesL_ (some 45) rfl rfl Try.func30 (by kernel_rfl) rfl #[.agg #[.slice A0_0 l0_0.length c0_0, .slice A0_1 l0_1.length c0_1], .slice A1 l1.length c1, .agg #[.int .i64 a3_0, .int .i64 a3_1]] rfl (by (try simp only [List.map_toArray, List.map_cons, List.map_nil]); first | done | rfl | (simp only [List.length_drop, List.length_take]; rfl)) ?_; (with_reducible refine (dealing_Fits.calls _ _ l0_0 _ _ l0_1 _ _ l1 a3_0 a3_1 t1131 t1132 _ ?side1 ?side2 ?side3 ?side4 ?side5 ?side6 A22.out).mono ?_); (case side1 => repeat (first | exact (Kd.C_below HR0_0.out HB.out) | (with_reducible refine Kd.C_alloc ?_ _) | (with_reducible refine Kd.C_drewN ?_ _) | (with_reducible refine Kd.C_drew ?_))); (case side2 => exact HC0_0.out); (case side3 => repeat (first | exact (Kd.C_below HR0_1.out HB.out) | (with_reducible refine Kd.C_alloc ?_ _) | (with_reducible refine Kd.C_drewN ?_ _) | (with_reducible refine Kd.C_drew ?_))); (case side4 => exact HC0_1.out); (case side5 => repeat (first | exact (Kd.C_below HR1.out HB.out) | (with_reducible refine Kd.C_alloc ?_ _) | (with_reducible refine Kd.C_drewN ?_ _) | (with_reducible refine Kd.C_drew ?_))); (case side6 => exact HC1.out); rintro e w34 ⟨rfl, hb⟩; refine ⟨_, rfl, ?_⟩; have n0_ := Aside0.mk (blk_below (g := gb1123) (o := .cells #[.slice A0_0 l0_0.length c0_0, .slice A0_1 l0_1.length c0_1] 25 (0, 0)) (by (with_reducible repeat (first | refine blk_drewN ?_ _ | refine blk_drew ?_ | refine blk_alloc ?_ _)); exact BK1123.out) hb); have n1_ := Aside0.mk (blk_below (g := gb1124) (o := .cells #[.int .i64 a3_0, .int .i64 a3_1] 38 (0, 0)) (by (with_reducible repeat (first | refine blk_drewN ?_ _ | refine blk_drew ?_ | refine blk_alloc ?_ _)); exact BK1124.out) hb); have n2_ := Aside0.mk (below_step (by repeat (first | (with_reducible first | exact HB.out | apply below_alloc | apply pw_below_drewN | apply below_drew1 | refine below_set ?_ GE1123.out | refine below_set ?_ GE1124.out) | exact HB.out)) hb); clear BK1123; clear BK1124; clear HB; have BK1123 := n0_; have BK1124 := n1_; have HB := n2_; clear n0_ n1_ n2_; (try clear hb); (try clear hb2); (try clear hk); (try clear hi); have hcz35_0 : w34.cell? ⟨gb1123, 0, none⟩ = some (.slice A0_0 l0_0.length c0_0) := (blk_cell BK1123.out 0).trans rfl; have hcz35_1 : w34.cell? ⟨gb1123, 1, none⟩ = some (.slice A0_1 l0_1.length c0_1) := (blk_cell BK1123.out 1).trans rfl; have hfz35_0 := blk_frozen BK1123.out 0; have hfz35_1 := blk_frozen BK1123.out 1; have hcz36_0 : w34.cell? ⟨gb1124, 0, none⟩ = some (.int .i64 a3_0) := (blk_cell BK1124.out 0).trans rfl; have hcz36_1 : w34.cell? ⟨gb1124, 1, none⟩ = some (.int .i64 a3_1) := (blk_cell BK1124.out 1).trans rfl; have hfz36_0 := blk_frozen BK1124.out 0; have hfz36_1 := blk_frozen BK1124.out 1) | ((with_reducible refine gate_callee (f := 31) rfl ?_); refine goesL_ (some 52) rfl rfl Try.func31 (by kernel_rfl) rfl #[.agg #[.slice A0_0 l0_0.length c0_0, .slice A0_1 l0_1.length c0_1], .slice A1 l1.length c1, .agg #[.int .i64 a3_0, .int .i64 a3_1]] rfl (by (try simp only [List.map_toArray, List.map_cons, List.map_nil]); first | done | rfl | (simp only [List.length_drop, List.length_take]; rfl)) ?_; (with_reducible refine (signatoryref34_Fits.calls kj6 _ _ l0_0 _ _ l0_1 _ _ l1 a3_0 a3_1 t1133 t1134 _ ?side1 ?side2 ?side3 ?side4 ?side5 ?side6 A23.out).mono ?_); (case side1 => repeat (first | exact (Kd.C_below HR0_0.out HB.out) | (with_reducible refine Kd.C_alloc ?_ _) | (with_reducible refine Kd.C_drewN ?_ _) | (with_reducible refine Kd.C_drew ?_))); (case side2 => exact HC0_0.out); (case side3 => repeat (first | exact (Kd.C_below HR0_1.out HB.out) | (with_reducible refine Kd.C_alloc ?_ _) | (with_reducible refine Kd.C_drewN ?_ _) | (with_reducible refine Kd.C_drew ?_))); (case side4 => exact HC0_1.out); (case side5 => repeat (first | exact (Kd.C_below HR1.out HB.out) | (with_reducible refine Kd.C_alloc ?_ _) | (with_reducible refine Kd.C_drewN ?_ _) | (with_reducible refine Kd.C_drew ?_))); (case side6 => exact HC1.out); rintro e w37 ⟨rfl, hb⟩; refine ⟨_, rfl, ?_⟩; have n0_ := Aside0.mk (blk_below (g := gb1123) (o := .cells #[.slice A0_0 l0_0.length c0_0, .slice A0_1 l0_1.length c0_1] 25 (0, 0)) (by (with_reducible repeat (first | refine blk_drewN ?_ _ | refine blk_drew ?_ | refine blk_alloc ?_ _)); exact BK1123.out) hb); have n1_ := Aside0.mk (blk_below (g := gb1124) (o := .cells #[.int .i64 a3_0, .int .i64 a3_1] 38 (0, 0)) (by (with_reducible repeat (first | refine blk_drewN ?_ _ | refine blk_drew ?_ | refine blk_alloc ?_ _)); exact BK1124.out) hb); have n2_ := Aside0.mk (below_step (by repeat (first | (with_reducible first | exact HB.out | apply below_alloc | apply pw_below_drewN | apply below_drew1 | refine below_set ?_ GE1123.out | refine below_set ?_ GE1124.out) | exact HB.out)) hb); clear BK1123; clear BK1124; clear HB; have BK1123 := n0_; have BK1124 := n1_; have HB := n2_; clear n0_ n1_ n2_; (try clear hb); (try clear hb2); (try clear hk); (try clear hi)))
        go_ret
        exact ⟨by first | rfl | (simp [errW_none, errW_some] <;> rfl) | (simp [*, errW_none, errW_some] <;> rfl), by repeat (first | (with_reducible first | exact HB.out | apply below_alloc | apply pw_below_drewN | apply below_drew1 | refine below_set ?_ GE1123.out | refine below_set ?_ GE1124.out) | exact HB.out)⟩
       ·rw [if_neg c26] at H
        have c26b0 : (t1131 == t1133) = false := by simpa using c26
        (try (have c26b1 : decide (t1131 = t1133) = false := by simpa using c26))
        (try (have c26b2 : (t1131 == t1133) = false := by simpa using c26))
        (try (have c26b3 : ¬ (t1131 = t1133) := by simpa using c26))
        clear c26
        obtain rfl := Option.some.inj H
        have hnb38 := NB1123_1124.out
        have hnc38 := NB1124_1123.out
        have hcz39_0 : wc.cell? ⟨gb1123, 0, none⟩ = some (.slice A0_0 l0_0.length c0_0) := (blk_cell BK1123.out 0).trans rfl
        have hcz39_1 : wc.cell? ⟨gb1123, 1, none⟩ = some (.slice A0_1 l0_1.length c0_1) := (blk_cell BK1123.out 1).trans rfl
        have hfz39_0 := blk_frozen BK1123.out 0
        have hfz39_1 := blk_frozen BK1123.out 1
        go_wp2_with (first | ((with_reducible refine gate_callee (f := 28) rfl ?_); refine goesL_ (some 31) rfl rfl Try.func28 (by kernel_rfl) rfl #[.agg #[.slice A0_0 l0_0.length c0_0, .slice A0_1 l0_1.length c0_1], .slice A1 l1.length c1, .int .i64 a2] rfl (by (try simp only [List.map_toArray, List.map_cons, List.map_nil]); first | done | rfl | (simp only [List.length_drop, List.length_take]; rfl)) ?_; (with_reducible refine (dealing_Public.calls _ _ l0_0 _ _ l0_1 _ _ l1 a2 t1127 t1128 _ ?side1 ?side2 ?side3 ?side4 ?side5 ?side6 A20.out).mono ?_); (case side1 => repeat (first | exact (Kd.C_below HR0_0.out HB.out) | (with_reducible refine Kd.C_alloc ?_ _) | (with_reducible refine Kd.C_drewN ?_ _) | (with_reducible refine Kd.C_drew ?_))); (case side2 => exact HC0_0.out); (case side3 => repeat (first | exact (Kd.C_below HR0_1.out HB.out) | (with_reducible refine Kd.C_alloc ?_ _) | (with_reducible refine Kd.C_drewN ?_ _) | (with_reducible refine Kd.C_drew ?_))); (case side4 => exact HC0_1.out); (case side5 => repeat (first | exact (Kd.C_below HR1.out HB.out) | (with_reducible refine Kd.C_alloc ?_ _) | (with_reducible refine Kd.C_drewN ?_ _) | (with_reducible refine Kd.C_drew ?_))); (case side6 => exact HC1.out); rintro e w40 ⟨rfl, hb⟩; refine ⟨_, rfl, ?_⟩; have n0_ := Aside0.mk (blk_below (g := gb1123) (o := .cells #[.slice A0_0 l0_0.length c0_0, .slice A0_1 l0_1.length c0_1] 25 (0, 0)) (by (with_reducible repeat (first | refine blk_drewN ?_ _ | refine blk_drew ?_ | refine blk_alloc ?_ _)); exact BK1123.out) hb); have n1_ := Aside0.mk (blk_below (g := gb1124) (o := .cells #[.int .i64 a3_0, .int .i64 a3_1] 38 (0, 0)) (by (with_reducible repeat (first | refine blk_drewN ?_ _ | refine blk_drew ?_ | refine blk_alloc ?_ _)); exact BK1124.out) hb); have n2_ := Aside0.mk (below_step (by repeat (first | (with_reducible first | exact HB.out | apply below_alloc | apply pw_below_drewN | apply below_drew1 | refine below_set ?_ GE1123.out | refine below_set ?_ GE1124.out) | exact HB.out)) hb); clear BK1123; clear BK1124; clear HB; have BK1123 := n0_; have BK1124 := n1_; have HB := n2_; clear n0_ n1_ n2_; (try clear hb); (try clear hb2); (try clear hk); (try clear hi); have hcz41_0 : w40.cell? ⟨gb1123, 0, none⟩ = some (.slice A0_0 l0_0.length c0_0) := (blk_cell BK1123.out 0).trans rfl; have hcz41_1 : w40.cell? ⟨gb1123, 1, none⟩ = some (.slice A0_1 l0_1.length c0_1) := (blk_cell BK1123.out 1).trans rfl; have hfz41_0 := blk_frozen BK1123.out 0; have hfz41_1 := blk_frozen BK1123.out 1) | ((with_reducible refine gate_callee (f := 29) rfl ?_); refine goesL_ (some 38) rfl rfl Try.func29 (by kernel_rfl) rfl #[.agg #[.slice A0_0 l0_0.length c0_0, .slice A0_1 l0_1.length c0_1], .slice A1 l1.length c1, .int .i64 a2] rfl (by (try simp only [List.map_toArray, List.map_cons, List.map_nil]); first | done | rfl | (simp only [List.length_drop, List.length_take]; rfl)) ?_; (with_reducible refine (signatoryref34_Public.calls kj6 _ _ l0_0 _ _ l0_1 _ _ l1 a2 t1129 t1130 _ ?side1 ?side2 ?side3 ?side4 ?side5 ?side6 A21.out).mono ?_); (case side1 => repeat (first | exact (Kd.C_below HR0_0.out HB.out) | (with_reducible refine Kd.C_alloc ?_ _) | (with_reducible refine Kd.C_drewN ?_ _) | (with_reducible refine Kd.C_drew ?_))); (case side2 => exact HC0_0.out); (case side3 => repeat (first | exact (Kd.C_below HR0_1.out HB.out) | (with_reducible refine Kd.C_alloc ?_ _) | (with_reducible refine Kd.C_drewN ?_ _) | (with_reducible refine Kd.C_drew ?_))); (case side4 => exact HC0_1.out); (case side5 => repeat (first | exact (Kd.C_below HR1.out HB.out) | (with_reducible refine Kd.C_alloc ?_ _) | (with_reducible refine Kd.C_drewN ?_ _) | (with_reducible refine Kd.C_drew ?_))); (case side6 => exact HC1.out); rintro e w42 ⟨rfl, hb⟩; refine ⟨_, rfl, ?_⟩; have n0_ := Aside0.mk (blk_below (g := gb1123) (o := .cells #[.slice A0_0 l0_0.length c0_0, .slice A0_1 l0_1.length c0_1] 25 (0, 0)) (by (with_reducible repeat (first | refine blk_drewN ?_ _ | refine blk_drew ?_ | refine blk_alloc ?_ _)); exact BK1123.out) hb); have n1_ := Aside0.mk (blk_below (g := gb1124) (o := .cells #[.int .i64 a3_0, .int .i64 a3_1] 38 (0, 0)) (by (with_reducible repeat (first | refine blk_drewN ?_ _ | refine blk_drew ?_ | refine blk_alloc ?_ _)); exact BK1124.out) hb); have n2_ := Aside0.mk (below_step (by repeat (first | (with_reducible first | exact HB.out | apply below_alloc | apply pw_below_drewN | apply below_drew1 | refine below_set ?_ GE1123.out | refine below_set ?_ GE1124.out) | exact HB.out)) hb); clear BK1123; clear BK1124; clear HB; have BK1123 := n0_; have BK1124 := n1_; have HB := n2_; clear n0_ n1_ n2_; (try clear hb); (try clear hb2); (try clear hk); (try clear hi); have hcz43_0 : w42.cell? ⟨gb1123, 0, none⟩ = some (.slice A0_0 l0_0.length c0_0) := (blk_cell BK1123.out 0).trans rfl; have hcz43_1 : w42.cell? ⟨gb1123, 1, none⟩ = some (.slice A0_1 l0_1.length c0_1) := (blk_cell BK1123.out 1).trans rfl; have hfz43_0 := blk_frozen BK1123.out 0; have hfz43_1 := blk_frozen BK1123.out 1; have hcz44_0 : w42.cell? ⟨gb1124, 0, none⟩ = some (.int .i64 a3_0) := (blk_cell BK1124.out 0).trans rfl; have hcz44_1 : w42.cell? ⟨gb1124, 1, none⟩ = some (.int .i64 a3_1) := (blk_cell BK1124.out 1).trans rfl; have hfz44_0 := blk_frozen BK1124.out 0; have hfz44_1 := blk_frozen BK1124.out 1) | ((with_reducible refine gate_callee (f := 30) rfl ?_); refine goesL_ (some 45) rfl rfl Try.func30 (by kernel_rfl) rfl #[.agg #[.slice A0_0 l0_0.length c0_0, .slice A0_1 l0_1.length c0_1], .slice A1 l1.length c1, .agg #[.int .i64 a3_0, .int .i64 a3_1]] rfl (by (try simp only [List.map_toArray, List.map_cons, List.map_nil]); first | done | rfl | (simp only [List.length_drop, List.length_take]; rfl)) ?_; (with_reducible refine (dealing_Fits.calls _ _ l0_0 _ _ l0_1 _ _ l1 a3_0 a3_1 t1131 t1132 _ ?side1 ?side2 ?side3 ?side4 ?side5 ?side6 A22.out).mono ?_); (case side1 => repeat (first | exact (Kd.C_below HR0_0.out HB.out) | (with_reducible refine Kd.C_alloc ?_ _) | (with_reducible refine Kd.C_drewN ?_ _) | (with_reducible refine Kd.C_drew ?_))); (case side2 => exact HC0_0.out); (case side3 => repeat (first | exact (Kd.C_below HR0_1.out HB.out) | (with_reducible refine Kd.C_alloc ?_ _) | (with_reducible refine Kd.C_drewN ?_ _) | (with_reducible refine Kd.C_drew ?_))); (case side4 => exact HC0_1.out); (case side5 => repeat (first | exact (Kd.C_below HR1.out HB.out) | (with_reducible refine Kd.C_alloc ?_ _) | (with_reducible refine Kd.C_drewN ?_ _) | (with_reducible refine Kd.C_drew ?_))); (case side6 => exact HC1.out); rintro e w45 ⟨rfl, hb⟩; refine ⟨_, rfl, ?_⟩; have n0_ := Aside0.mk (blk_below (g := gb1123) (o := .cells #[.slice A0_0 l0_0.length c0_0, .slice A0_1 l0_1.length c0_1] 25 (0, 0)) (by (with_reducible repeat (first | refine blk_drewN ?_ _ | refine blk_drew ?_ | refine blk_alloc ?_ _)); exact BK1123.out) hb); have n1_ := Aside0.mk (blk_below (g := gb1124) (o := .cells #[.int .i64 a3_0, .int .i64 a3_1] 38 (0, 0)) (by (with_reducible repeat (first | refine blk_drewN ?_ _ | refine blk_drew ?_ | refine blk_alloc ?_ _)); exact BK1124.out) hb); have n2_ := Aside0.mk (below_step (by repeat (first | (with_reducible first | exact HB.out | apply below_alloc | apply pw_below_drewN | apply below_drew1 | refine below_set ?_ GE1123.out | refine below_set ?_ GE1124.out) | exact HB.out)) hb); clear BK1123; clear BK1124; clear HB; have BK1123 := n0_; have BK1124 := n1_; have HB := n2_; clear n0_ n1_ n2_; (try clear hb); (try clear hb2); (try clear hk); (try clear hi); have hcz46_0 : w45.cell? ⟨gb1123, 0, none⟩ = some (.slice A0_0 l0_0.length c0_0) := (blk_cell BK1123.out 0).trans rfl; have hcz46_1 : w45.cell? ⟨gb1123, 1, none⟩ = some (.slice A0_1 l0_1.length c0_1) := (blk_cell BK1123.out 1).trans rfl; have hfz46_0 := blk_frozen BK1123.out 0; have hfz46_1 := blk_frozen BK1123.out 1; have hcz47_0 : w45.cell? ⟨gb1124, 0, none⟩ = some (.int .i64 a3_0) := (blk_cell BK1124.out 0).trans rfl; have hcz47_1 : w45.cell? ⟨gb1124, 1, none⟩ = some (.int .i64 a3_1) := (blk_cell BK1124.out 1).trans rfl; have hfz47_0 := blk_frozen BK1124.out 0; have hfz47_1 := blk_frozen BK1124.out 1) | ((with_reducible refine gate_callee (f := 31) rfl ?_); refine goesL_ (some 52) rfl rfl Try.func31 (by kernel_rfl) rfl #[.agg #[.slice A0_0 l0_0.length c0_0, .slice A0_1 l0_1.length c0_1], .slice A1 l1.length c1, .agg #[.int .i64 a3_0, .int .i64 a3_1]] rfl (by (try simp only [List.map_toArray, List.map_cons, List.map_nil]); first | done | rfl | (simp only [List.length_drop, List.length_take]; rfl)) ?_; (with_reducible refine (signatoryref34_Fits.calls kj6 _ _ l0_0 _ _ l0_1 _ _ l1 a3_0 a3_1 t1133 t1134 _ ?side1 ?side2 ?side3 ?side4 ?side5 ?side6 A23.out).mono ?_); (case side1 => repeat (first | exact (Kd.C_below HR0_0.out HB.out) | (with_reducible refine Kd.C_alloc ?_ _) | (with_reducible refine Kd.C_drewN ?_ _) | (with_reducible refine Kd.C_drew ?_))); (case side2 => exact HC0_0.out); (case side3 => repeat (first | exact (Kd.C_below HR0_1.out HB.out) | (with_reducible refine Kd.C_alloc ?_ _) | (with_reducible refine Kd.C_drewN ?_ _) | (with_reducible refine Kd.C_drew ?_))); (case side4 => exact HC0_1.out); (case side5 => repeat (first | exact (Kd.C_below HR1.out HB.out) | (with_reducible refine Kd.C_alloc ?_ _) | (with_reducible refine Kd.C_drewN ?_ _) | (with_reducible refine Kd.C_drew ?_))); (case side6 => exact HC1.out); rintro e w48 ⟨rfl, hb⟩; refine ⟨_, rfl, ?_⟩; have n0_ := Aside0.mk (blk_below (g := gb1123) (o := .cells #[.slice A0_0 l0_0.length c0_0, .slice A0_1 l0_1.length c0_1] 25 (0, 0)) (by (with_reducible repeat (first | refine blk_drewN ?_ _ | refine blk_drew ?_ | refine blk_alloc ?_ _)); exact BK1123.out) hb); have n1_ := Aside0.mk (blk_below (g := gb1124) (o := .cells #[.int .i64 a3_0, .int .i64 a3_1] 38 (0, 0)) (by (with_reducible repeat (first | refine blk_drewN ?_ _ | refine blk_drew ?_ | refine blk_alloc ?_ _)); exact BK1124.out) hb); have n2_ := Aside0.mk (below_step (by repeat (first | (with_reducible first | exact HB.out | apply below_alloc | apply pw_below_drewN | apply below_drew1 | refine below_set ?_ GE1123.out | refine below_set ?_ GE1124.out) | exact HB.out)) hb); clear BK1123; clear BK1124; clear HB; have BK1123 := n0_; have BK1124 := n1_; have HB := n2_; clear n0_ n1_ n2_; (try clear hb); (try clear hb2); (try clear hk); (try clear hi)))
        go_ret
        exact ⟨by first | rfl | (simp [errW_none, errW_some] <;> rfl) | (simp [*, errW_none, errW_some] <;> rfl), by repeat (first | (with_reducible first | exact HB.out | apply below_alloc | apply pw_below_drewN | apply below_drew1 | refine below_set ?_ GE1123.out | refine below_set ?_ GE1124.out) | exact HB.out)⟩
      ·rw [if_neg c25] at H
       have c25b0 : (t1128 == t1130) = false := beq_eq_false_iff_ne.mpr c25
       have c25b1 : (t1128 != t1130) = true := bne_iff_ne.mpr c25
       obtain rfl := Option.some.inj H
       have hnb49 := NB1123_1124.out
       have hnc49 := NB1124_1123.out
       have hcz50_0 : wc.cell? ⟨gb1123, 0, none⟩ = some (.slice A0_0 l0_0.length c0_0) := (blk_cell BK1123.out 0).trans rfl
       have hcz50_1 : wc.cell? ⟨gb1123, 1, none⟩ = some (.slice A0_1 l0_1.length c0_1) := (blk_cell BK1123.out 1).trans rfl
       have hfz50_0 := blk_frozen BK1123.out 0
       have hfz50_1 := blk_frozen BK1123.out 1
       go_wp2_with (first | ((with_reducible refine gate_callee (f := 28) rfl ?_); refine goesL_ (some 31) rfl rfl Try.func28 (by kernel_rfl) rfl #[.agg #[.slice A0_0 l0_0.length c0_0, .slice A0_1 l0_1.length c0_1], .slice A1 l1.length c1, .int .i64 a2] rfl (by (try simp only [List.map_toArray, List.map_cons, List.map_nil]); first | done | rfl | (simp only [List.length_drop, List.length_take]; rfl)) ?_; (with_reducible refine (dealing_Public.calls _ _ l0_0 _ _ l0_1 _ _ l1 a2 t1127 t1128 _ ?side1 ?side2 ?side3 ?side4 ?side5 ?side6 A20.out).mono ?_); (case side1 => repeat (first | exact (Kd.C_below HR0_0.out HB.out) | (with_reducible refine Kd.C_alloc ?_ _) | (with_reducible refine Kd.C_drewN ?_ _) | (with_reducible refine Kd.C_drew ?_))); (case side2 => exact HC0_0.out); (case side3 => repeat (first | exact (Kd.C_below HR0_1.out HB.out) | (with_reducible refine Kd.C_alloc ?_ _) | (with_reducible refine Kd.C_drewN ?_ _) | (with_reducible refine Kd.C_drew ?_))); (case side4 => exact HC0_1.out); (case side5 => repeat (first | exact (Kd.C_below HR1.out HB.out) | (with_reducible refine Kd.C_alloc ?_ _) | (with_reducible refine Kd.C_drewN ?_ _) | (with_reducible refine Kd.C_drew ?_))); (case side6 => exact HC1.out); rintro e w51 ⟨rfl, hb⟩; refine ⟨_, rfl, ?_⟩; have n0_ := Aside0.mk (blk_below (g := gb1123) (o := .cells #[.slice A0_0 l0_0.length c0_0, .slice A0_1 l0_1.length c0_1] 25 (0, 0)) (by (with_reducible repeat (first | refine blk_drewN ?_ _ | refine blk_drew ?_ | refine blk_alloc ?_ _)); exact BK1123.out) hb); have n1_ := Aside0.mk (blk_below (g := gb1124) (o := .cells #[.int .i64 a3_0, .int .i64 a3_1] 38 (0, 0)) (by (with_reducible repeat (first | refine blk_drewN ?_ _ | refine blk_drew ?_ | refine blk_alloc ?_ _)); exact BK1124.out) hb); have n2_ := Aside0.mk (below_step (by repeat (first | (with_reducible first | exact HB.out | apply below_alloc | apply pw_below_drewN | apply below_drew1 | refine below_set ?_ GE1123.out | refine below_set ?_ GE1124.out) | exact HB.out)) hb); clear BK1123; clear BK1124; clear HB; have BK1123 := n0_; have BK1124 := n1_; have HB := n2_; clear n0_ n1_ n2_; (try clear hb); (try clear hb2); (try clear hk); (try clear hi); have hcz52_0 : w51.cell? ⟨gb1123, 0, none⟩ = some (.slice A0_0 l0_0.length c0_0) := (blk_cell BK1123.out 0).trans rfl; have hcz52_1 : w51.cell? ⟨gb1123, 1, none⟩ = some (.slice A0_1 l0_1.length c0_1) := (blk_cell BK1123.out 1).trans rfl; have hfz52_0 := blk_frozen BK1123.out 0; have hfz52_1 := blk_frozen BK1123.out 1) | ((with_reducible refine gate_callee (f := 29) rfl ?_); refine goesL_ (some 38) rfl rfl Try.func29 (by kernel_rfl) rfl #[.agg #[.slice A0_0 l0_0.length c0_0, .slice A0_1 l0_1.length c0_1], .slice A1 l1.length c1, .int .i64 a2] rfl (by (try simp only [List.map_toArray, List.map_cons, List.map_nil]); first | done | rfl | (simp only [List.length_drop, List.length_take]; rfl)) ?_; (with_reducible refine (signatoryref34_Public.calls kj6 _ _ l0_0 _ _ l0_1 _ _ l1 a2 t1129 t1130 _ ?side1 ?side2 ?side3 ?side4 ?side5 ?side6 A21.out).mono ?_); (case side1 => repeat (first | exact (Kd.C_below HR0_0.out HB.out) | (with_reducible refine Kd.C_alloc ?_ _) | (with_reducible refine Kd.C_drewN ?_ _) | (with_reducible refine Kd.C_drew ?_))); (case side2 => exact HC0_0.out); (case side3 => repeat (first | exact (Kd.C_below HR0_1.out HB.out) | (with_reducible refine Kd.C_alloc ?_ _) | (with_reducible refine Kd.C_drewN ?_ _) | (with_reducible refine Kd.C_drew ?_))); (case side4 => exact HC0_1.out); (case side5 => repeat (first | exact (Kd.C_below HR1.out HB.out) | (with_reducible refine Kd.C_alloc ?_ _) | (with_reducible refine Kd.C_drewN ?_ _) | (with_reducible refine Kd.C_drew ?_))); (case side6 => exact HC1.out); rintro e w53 ⟨rfl, hb⟩; refine ⟨_, rfl, ?_⟩; have n0_ := Aside0.mk (blk_below (g := gb1123) (o := .cells #[.slice A0_0 l0_0.length c0_0, .slice A0_1 l0_1.length c0_1] 25 (0, 0)) (by (with_reducible repeat (first | refine blk_drewN ?_ _ | refine blk_drew ?_ | refine blk_alloc ?_ _)); exact BK1123.out) hb); have n1_ := Aside0.mk (blk_below (g := gb1124) (o := .cells #[.int .i64 a3_0, .int .i64 a3_1] 38 (0, 0)) (by (with_reducible repeat (first | refine blk_drewN ?_ _ | refine blk_drew ?_ | refine blk_alloc ?_ _)); exact BK1124.out) hb); have n2_ := Aside0.mk (below_step (by repeat (first | (with_reducible first | exact HB.out | apply below_alloc | apply pw_below_drewN | apply below_drew1 | refine below_set ?_ GE1123.out | refine below_set ?_ GE1124.out) | exact HB.out)) hb); clear BK1123; clear BK1124; clear HB; have BK1123 := n0_; have BK1124 := n1_; have HB := n2_; clear n0_ n1_ n2_; (try clear hb); (try clear hb2); (try clear hk); (try clear hi); have hcz54_0 : w53.cell? ⟨gb1123, 0, none⟩ = some (.slice A0_0 l0_0.length c0_0) := (blk_cell BK1123.out 0).trans rfl; have hcz54_1 : w53.cell? ⟨gb1123, 1, none⟩ = some (.slice A0_1 l0_1.length c0_1) := (blk_cell BK1123.out 1).trans rfl; have hfz54_0 := blk_frozen BK1123.out 0; have hfz54_1 := blk_frozen BK1123.out 1; have hcz55_0 : w53.cell? ⟨gb1124, 0, none⟩ = some (.int .i64 a3_0) := (blk_cell BK1124.out 0).trans rfl; have hcz55_1 : w53.cell? ⟨gb1124, 1, none⟩ = some (.int .i64 a3_1) := (blk_cell BK1124.out 1).trans rfl; have hfz55_0 := blk_frozen BK1124.out 0; have hfz55_1 := blk_frozen BK1124.out 1) | ((with_reducible refine gate_callee (f := 30) rfl ?_); refine goesL_ (some 45) rfl rfl Try.func30 (by kernel_rfl) rfl #[.agg #[.slice A0_0 l0_0.length c0_0, .slice A0_1 l0_1.length c0_1], .slice A1 l1.length c1, .agg #[.int .i64 a3_0, .int .i64 a3_1]] rfl (by (try simp only [List.map_toArray, List.map_cons, List.map_nil]); first | done | rfl | (simp only [List.length_drop, List.length_take]; rfl)) ?_; (with_reducible refine (dealing_Fits.calls _ _ l0_0 _ _ l0_1 _ _ l1 a3_0 a3_1 t1131 t1132 _ ?side1 ?side2 ?side3 ?side4 ?side5 ?side6 A22.out).mono ?_); (case side1 => repeat (first | exact (Kd.C_below HR0_0.out HB.out) | (with_reducible refine Kd.C_alloc ?_ _) | (with_reducible refine Kd.C_drewN ?_ _) | (with_reducible refine Kd.C_drew ?_))); (case side2 => exact HC0_0.out); (case side3 => repeat (first | exact (Kd.C_below HR0_1.out HB.out) | (with_reducible refine Kd.C_alloc ?_ _) | (with_reducible refine Kd.C_drewN ?_ _) | (with_reducible refine Kd.C_drew ?_))); (case side4 => exact HC0_1.out); (case side5 => repeat (first | exact (Kd.C_below HR1.out HB.out) | (with_reducible refine Kd.C_alloc ?_ _) | (with_reducible refine Kd.C_drewN ?_ _) | (with_reducible refine Kd.C_drew ?_))); (case side6 => exact HC1.out); rintro e w56 ⟨rfl, hb⟩; refine ⟨_, rfl, ?_⟩; have n0_ := Aside0.mk (blk_below (g := gb1123) (o := .cells #[.slice A0_0 l0_0.length c0_0, .slice A0_1 l0_1.length c0_1] 25 (0, 0)) (by (with_reducible repeat (first | refine blk_drewN ?_ _ | refine blk_drew ?_ | refine blk_alloc ?_ _)); exact BK1123.out) hb); have n1_ := Aside0.mk (blk_below (g := gb1124) (o := .cells #[.int .i64 a3_0, .int .i64 a3_1] 38 (0, 0)) (by (with_reducible repeat (first | refine blk_drewN ?_ _ | refine blk_drew ?_ | refine blk_alloc ?_ _)); exact BK1124.out) hb); have n2_ := Aside0.mk (below_step (by repeat (first | (with_reducible first | exact HB.out | apply below_alloc | apply pw_below_drewN | apply below_drew1 | refine below_set ?_ GE1123.out | refine below_set ?_ GE1124.out) | exact HB.out)) hb); clear BK1123; clear BK1124; clear HB; have BK1123 := n0_; have BK1124 := n1_; have HB := n2_; clear n0_ n1_ n2_; (try clear hb); (try clear hb2); (try clear hk); (try clear hi); have hcz57_0 : w56.cell? ⟨gb1123, 0, none⟩ = some (.slice A0_0 l0_0.length c0_0) := (blk_cell BK1123.out 0).trans rfl; have hcz57_1 : w56.cell? ⟨gb1123, 1, none⟩ = some (.slice A0_1 l0_1.length c0_1) := (blk_cell BK1123.out 1).trans rfl; have hfz57_0 := blk_frozen BK1123.out 0; have hfz57_1 := blk_frozen BK1123.out 1; have hcz58_0 : w56.cell? ⟨gb1124, 0, none⟩ = some (.int .i64 a3_0) := (blk_cell BK1124.out 0).trans rfl; have hcz58_1 : w56.cell? ⟨gb1124, 1, none⟩ = some (.int .i64 a3_1) := (blk_cell BK1124.out 1).trans rfl; have hfz58_0 := blk_frozen BK1124.out 0; have hfz58_1 := blk_frozen BK1124.out 1) | ((with_reducible refine gate_callee (f := 31) rfl ?_); refine goesL_ (some 52) rfl rfl Try.func31 (by kernel_rfl) rfl #[.agg #[.slice A0_0 l0_0.length c0_0, .slice A0_1 l0_1.length c0_1], .slice A1 l1.length c1, .agg #[.int .i64 a3_0, .int .i64 a3_1]] rfl (by (try simp only [List.map_toArray, List.map_cons, List.map_nil]); first | done | rfl | (simp only [List.length_drop, List.length_take]; rfl)) ?_; (with_reducible refine (signatoryref34_Fits.calls kj6 _ _ l0_0 _ _ l0_1 _ _ l1 a3_0 a3_1 t1133 t1134 _ ?side1 ?side2 ?side3 ?side4 ?side5 ?side6 A23.out).mono ?_); (case side1 => repeat (first | exact (Kd.C_below HR0_0.out HB.out) | (with_reducible refine Kd.C_alloc ?_ _) | (with_reducible refine Kd.C_drewN ?_ _) | (with_reducible refine Kd.C_drew ?_))); (case side2 => exact HC0_0.out); (case side3 => repeat (first | exact (Kd.C_below HR0_1.out HB.out) | (with_reducible refine Kd.C_alloc ?_ _) | (with_reducible refine Kd.C_drewN ?_ _) | (with_reducible refine Kd.C_drew ?_))); (case side4 => exact HC0_1.out); (case side5 => repeat (first | exact (Kd.C_below HR1.out HB.out) | (with_reducible refine Kd.C_alloc ?_ _) | (with_reducible refine Kd.C_drewN ?_ _) | (with_reducible refine Kd.C_drew ?_))); (case side6 => exact HC1.out); rintro e w59 ⟨rfl, hb⟩; refine ⟨_, rfl, ?_⟩; have n0_ := Aside0.mk (blk_below (g := gb1123) (o := .cells #[.slice A0_0 l0_0.length c0_0, .slice A0_1 l0_1.length c0_1] 25 (0, 0)) (by (with_reducible repeat (first | refine blk_drewN ?_ _ | refine blk_drew ?_ | refine blk_alloc ?_ _)); exact BK1123.out) hb); have n1_ := Aside0.mk (blk_below (g := gb1124) (o := .cells #[.int .i64 a3_0, .int .i64 a3_1] 38 (0, 0)) (by (with_reducible repeat (first | refine blk_drewN ?_ _ | refine blk_drew ?_ | refine blk_alloc ?_ _)); exact BK1124.out) hb); have n2_ := Aside0.mk (below_step (by repeat (first | (with_reducible first | exact HB.out | apply below_alloc | apply pw_below_drewN | apply below_drew1 | refine below_set ?_ GE1123.out | refine below_set ?_ GE1124.out) | exact HB.out)) hb); clear BK1123; clear BK1124; clear HB; have BK1123 := n0_; have BK1124 := n1_; have HB := n2_; clear n0_ n1_ n2_; (try clear hb); (try clear hb2); (try clear hk); (try clear hi)))
       go_ret
       exact ⟨by first | rfl | (simp [errW_none, errW_some] <;> rfl) | (simp [*, errW_none, errW_some] <;> rfl), by repeat (first | (with_reducible first | exact HB.out | apply below_alloc | apply pw_below_drewN | apply below_drew1 | refine below_set ?_ GE1123.out | refine below_set ?_ GE1124.out) | exact HB.out)⟩
     ·rw [if_neg c24] at H
      have c24b0 : (t1127 == t1129) = false := beq_eq_false_iff_ne.mpr c24
      have c24b1 : (t1127 != t1129) = true := bne_iff_ne.mpr c24
      obtain rfl := Option.some.inj H
      have hnb60 := NB1123_1124.out
      have hnc60 := NB1124_1123.out
      have hcz61_0 : wc.cell? ⟨gb1123, 0, none⟩ = some (.slice A0_0 l0_0.length c0_0) := (blk_cell BK1123.out 0).trans rfl
      have hcz61_1 : wc.cell? ⟨gb1123, 1, none⟩ = some (.slice A0_1 l0_1.length c0_1) := (blk_cell BK1123.out 1).trans rfl
      have hfz61_0 := blk_frozen BK1123.out 0
      have hfz61_1 := blk_frozen BK1123.out 1
      go_wp2_with (first | ((with_reducible refine gate_callee (f := 28) rfl ?_); refine goesL_ (some 31) rfl rfl Try.func28 (by kernel_rfl) rfl #[.agg #[.slice A0_0 l0_0.length c0_0, .slice A0_1 l0_1.length c0_1], .slice A1 l1.length c1, .int .i64 a2] rfl (by (try simp only [List.map_toArray, List.map_cons, List.map_nil]); first | done | rfl | (simp only [List.length_drop, List.length_take]; rfl)) ?_; (with_reducible refine (dealing_Public.calls _ _ l0_0 _ _ l0_1 _ _ l1 a2 t1127 t1128 _ ?side1 ?side2 ?side3 ?side4 ?side5 ?side6 A20.out).mono ?_); (case side1 => repeat (first | exact (Kd.C_below HR0_0.out HB.out) | (with_reducible refine Kd.C_alloc ?_ _) | (with_reducible refine Kd.C_drewN ?_ _) | (with_reducible refine Kd.C_drew ?_))); (case side2 => exact HC0_0.out); (case side3 => repeat (first | exact (Kd.C_below HR0_1.out HB.out) | (with_reducible refine Kd.C_alloc ?_ _) | (with_reducible refine Kd.C_drewN ?_ _) | (with_reducible refine Kd.C_drew ?_))); (case side4 => exact HC0_1.out); (case side5 => repeat (first | exact (Kd.C_below HR1.out HB.out) | (with_reducible refine Kd.C_alloc ?_ _) | (with_reducible refine Kd.C_drewN ?_ _) | (with_reducible refine Kd.C_drew ?_))); (case side6 => exact HC1.out); rintro e w62 ⟨rfl, hb⟩; refine ⟨_, rfl, ?_⟩; have n0_ := Aside0.mk (blk_below (g := gb1123) (o := .cells #[.slice A0_0 l0_0.length c0_0, .slice A0_1 l0_1.length c0_1] 25 (0, 0)) (by (with_reducible repeat (first | refine blk_drewN ?_ _ | refine blk_drew ?_ | refine blk_alloc ?_ _)); exact BK1123.out) hb); have n1_ := Aside0.mk (blk_below (g := gb1124) (o := .cells #[.int .i64 a3_0, .int .i64 a3_1] 38 (0, 0)) (by (with_reducible repeat (first | refine blk_drewN ?_ _ | refine blk_drew ?_ | refine blk_alloc ?_ _)); exact BK1124.out) hb); have n2_ := Aside0.mk (below_step (by repeat (first | (with_reducible first | exact HB.out | apply below_alloc | apply pw_below_drewN | apply below_drew1 | refine below_set ?_ GE1123.out | refine below_set ?_ GE1124.out) | exact HB.out)) hb); clear BK1123; clear BK1124; clear HB; have BK1123 := n0_; have BK1124 := n1_; have HB := n2_; clear n0_ n1_ n2_; (try clear hb); (try clear hb2); (try clear hk); (try clear hi); have hcz63_0 : w62.cell? ⟨gb1123, 0, none⟩ = some (.slice A0_0 l0_0.length c0_0) := (blk_cell BK1123.out 0).trans rfl; have hcz63_1 : w62.cell? ⟨gb1123, 1, none⟩ = some (.slice A0_1 l0_1.length c0_1) := (blk_cell BK1123.out 1).trans rfl; have hfz63_0 := blk_frozen BK1123.out 0; have hfz63_1 := blk_frozen BK1123.out 1) | ((with_reducible refine gate_callee (f := 29) rfl ?_); refine goesL_ (some 38) rfl rfl Try.func29 (by kernel_rfl) rfl #[.agg #[.slice A0_0 l0_0.length c0_0, .slice A0_1 l0_1.length c0_1], .slice A1 l1.length c1, .int .i64 a2] rfl (by (try simp only [List.map_toArray, List.map_cons, List.map_nil]); first | done | rfl | (simp only [List.length_drop, List.length_take]; rfl)) ?_; (with_reducible refine (signatoryref34_Public.calls kj6 _ _ l0_0 _ _ l0_1 _ _ l1 a2 t1129 t1130 _ ?side1 ?side2 ?side3 ?side4 ?side5 ?side6 A21.out).mono ?_); (case side1 => repeat (first | exact (Kd.C_below HR0_0.out HB.out) | (with_reducible refine Kd.C_alloc ?_ _) | (with_reducible refine Kd.C_drewN ?_ _) | (with_reducible refine Kd.C_drew ?_))); (case side2 => exact HC0_0.out); (case side3 => repeat (first | exact (Kd.C_below HR0_1.out HB.out) | (with_reducible refine Kd.C_alloc ?_ _) | (with_reducible refine Kd.C_drewN ?_ _) | (with_reducible refine Kd.C_drew ?_))); (case side4 => exact HC0_1.out); (case side5 => repeat (first | exact (Kd.C_below HR1.out HB.out) | (with_reducible refine Kd.C_alloc ?_ _) | (with_reducible refine Kd.C_drewN ?_ _) | (with_reducible refine Kd.C_drew ?_))); (case side6 => exact HC1.out); rintro e w64 ⟨rfl, hb⟩; refine ⟨_, rfl, ?_⟩; have n0_ := Aside0.mk (blk_below (g := gb1123) (o := .cells #[.slice A0_0 l0_0.length c0_0, .slice A0_1 l0_1.length c0_1] 25 (0, 0)) (by (with_reducible repeat (first | refine blk_drewN ?_ _ | refine blk_drew ?_ | refine blk_alloc ?_ _)); exact BK1123.out) hb); have n1_ := Aside0.mk (blk_below (g := gb1124) (o := .cells #[.int .i64 a3_0, .int .i64 a3_1] 38 (0, 0)) (by (with_reducible repeat (first | refine blk_drewN ?_ _ | refine blk_drew ?_ | refine blk_alloc ?_ _)); exact BK1124.out) hb); have n2_ := Aside0.mk (below_step (by repeat (first | (with_reducible first | exact HB.out | apply below_alloc | apply pw_below_drewN | apply below_drew1 | refine below_set ?_ GE1123.out | refine below_set ?_ GE1124.out) | exact HB.out)) hb); clear BK1123; clear BK1124; clear HB; have BK1123 := n0_; have BK1124 := n1_; have HB := n2_; clear n0_ n1_ n2_; (try clear hb); (try clear hb2); (try clear hk); (try clear hi); have hcz65_0 : w64.cell? ⟨gb1123, 0, none⟩ = some (.slice A0_0 l0_0.length c0_0) := (blk_cell BK1123.out 0).trans rfl; have hcz65_1 : w64.cell? ⟨gb1123, 1, none⟩ = some (.slice A0_1 l0_1.length c0_1) := (blk_cell BK1123.out 1).trans rfl; have hfz65_0 := blk_frozen BK1123.out 0; have hfz65_1 := blk_frozen BK1123.out 1; have hcz66_0 : w64.cell? ⟨gb1124, 0, none⟩ = some (.int .i64 a3_0) := (blk_cell BK1124.out 0).trans rfl; have hcz66_1 : w64.cell? ⟨gb1124, 1, none⟩ = some (.int .i64 a3_1) := (blk_cell BK1124.out 1).trans rfl; have hfz66_0 := blk_frozen BK1124.out 0; have hfz66_1 := blk_frozen BK1124.out 1) | ((with_reducible refine gate_callee (f := 30) rfl ?_); refine goesL_ (some 45) rfl rfl Try.func30 (by kernel_rfl) rfl #[.agg #[.slice A0_0 l0_0.length c0_0, .slice A0_1 l0_1.length c0_1], .slice A1 l1.length c1, .agg #[.int .i64 a3_0, .int .i64 a3_1]] rfl (by (try simp only [List.map_toArray, List.map_cons, List.map_nil]); first | done | rfl | (simp only [List.length_drop, List.length_take]; rfl)) ?_; (with_reducible refine (dealing_Fits.calls _ _ l0_0 _ _ l0_1 _ _ l1 a3_0 a3_1 t1131 t1132 _ ?side1 ?side2 ?side3 ?side4 ?side5 ?side6 A22.out).mono ?_); (case side1 => repeat (first | exact (Kd.C_below HR0_0.out HB.out) | (with_reducible refine Kd.C_alloc ?_ _) | (with_reducible refine Kd.C_drewN ?_ _) | (with_reducible refine Kd.C_drew ?_))); (case side2 => exact HC0_0.out); (case side3 => repeat (first | exact (Kd.C_below HR0_1.out HB.out) | (with_reducible refine Kd.C_alloc ?_ _) | (with_reducible refine Kd.C_drewN ?_ _) | (with_reducible refine Kd.C_drew ?_))); (case side4 => exact HC0_1.out); (case side5 => repeat (first | exact (Kd.C_below HR1.out HB.out) | (with_reducible refine Kd.C_alloc ?_ _) | (with_reducible refine Kd.C_drewN ?_ _) | (with_reducible refine Kd.C_drew ?_))); (case side6 => exact HC1.out); rintro e w67 ⟨rfl, hb⟩; refine ⟨_, rfl, ?_⟩; have n0_ := Aside0.mk (blk_below (g := gb1123) (o := .cells #[.slice A0_0 l0_0.length c0_0, .slice A0_1 l0_1.length c0_1] 25 (0, 0)) (by (with_reducible repeat (first | refine blk_drewN ?_ _ | refine blk_drew ?_ | refine blk_alloc ?_ _)); exact BK1123.out) hb); have n1_ := Aside0.mk (blk_below (g := gb1124) (o := .cells #[.int .i64 a3_0, .int .i64 a3_1] 38 (0, 0)) (by (with_reducible repeat (first | refine blk_drewN ?_ _ | refine blk_drew ?_ | refine blk_alloc ?_ _)); exact BK1124.out) hb); have n2_ := Aside0.mk (below_step (by repeat (first | (with_reducible first | exact HB.out | apply below_alloc | apply pw_below_drewN | apply below_drew1 | refine below_set ?_ GE1123.out | refine below_set ?_ GE1124.out) | exact HB.out)) hb); clear BK1123; clear BK1124; clear HB; have BK1123 := n0_; have BK1124 := n1_; have HB := n2_; clear n0_ n1_ n2_; (try clear hb); (try clear hb2); (try clear hk); (try clear hi); have hcz68_0 : w67.cell? ⟨gb1123, 0, none⟩ = some (.slice A0_0 l0_0.length c0_0) := (blk_cell BK1123.out 0).trans rfl; have hcz68_1 : w67.cell? ⟨gb1123, 1, none⟩ = some (.slice A0_1 l0_1.length c0_1) := (blk_cell BK1123.out 1).trans rfl; have hfz68_0 := blk_frozen BK1123.out 0; have hfz68_1 := blk_frozen BK1123.out 1; have hcz69_0 : w67.cell? ⟨gb1124, 0, none⟩ = some (.int .i64 a3_0) := (blk_cell BK1124.out 0).trans rfl; have hcz69_1 : w67.cell? ⟨gb1124, 1, none⟩ = some (.int .i64 a3_1) := (blk_cell BK1124.out 1).trans rfl; have hfz69_0 := blk_frozen BK1124.out 0; have hfz69_1 := blk_frozen BK1124.out 1) | ((with_reducible refine gate_callee (f := 31) rfl ?_); refine goesL_ (some 52) rfl rfl Try.func31 (by kernel_rfl) rfl #[.agg #[.slice A0_0 l0_0.length c0_0, .slice A0_1 l0_1.length c0_1], .slice A1 l1.length c1, .agg #[.int .i64 a3_0, .int .i64 a3_1]] rfl (by (try simp only [List.map_toArray, List.map_cons, List.map_nil]); first | done | rfl | (simp only [List.length_drop, List.length_take]; rfl)) ?_; (with_reducible refine (signatoryref34_Fits.calls kj6 _ _ l0_0 _ _ l0_1 _ _ l1 a3_0 a3_1 t1133 t1134 _ ?side1 ?side2 ?side3 ?side4 ?side5 ?side6 A23.out).mono ?_); (case side1 => repeat (first | exact (Kd.C_below HR0_0.out HB.out) | (with_reducible refine Kd.C_alloc ?_ _) | (with_reducible refine Kd.C_drewN ?_ _) | (with_reducible refine Kd.C_drew ?_))); (case side2 => exact HC0_0.out); (case side3 => repeat (first | exact (Kd.C_below HR0_1.out HB.out) | (with_reducible refine Kd.C_alloc ?_ _) | (with_reducible refine Kd.C_drewN ?_ _) | (with_reducible refine Kd.C_drew ?_))); (case side4 => exact HC0_1.out); (case side5 => repeat (first | exact (Kd.C_below HR1.out HB.out) | (with_reducible refine Kd.C_alloc ?_ _) | (with_reducible refine Kd.C_drewN ?_ _) | (with_reducible refine Kd.C_drew ?_))); (case side6 => exact HC1.out); rintro e w70 ⟨rfl, hb⟩; refine ⟨_, rfl, ?_⟩; have n0_ := Aside0.mk (blk_below (g := gb1123) (o := .cells #[.slice A0_0 l0_0.length c0_0, .slice A0_1 l0_1.length c0_1] 25 (0, 0)) (by (with_reducible repeat (first | refine blk_drewN ?_ _ | refine blk_drew ?_ | refine blk_alloc ?_ _)); exact BK1123.out) hb); have n1_ := Aside0.mk (blk_below (g := gb1124) (o := .cells #[.int .i64 a3_0, .int .i64 a3_1] 38 (0, 0)) (by (with_reducible repeat (first | refine blk_drewN ?_ _ | refine blk_drew ?_ | refine blk_alloc ?_ _)); exact BK1124.out) hb); have n2_ := Aside0.mk (below_step (by repeat (first | (with_reducible first | exact HB.out | apply below_alloc | apply pw_below_drewN | apply below_drew1 | refine below_set ?_ GE1123.out | refine below_set ?_ GE1124.out) | exact HB.out)) hb); clear BK1123; clear BK1124; clear HB; have BK1123 := n0_; have BK1124 := n1_; have HB := n2_; clear n0_ n1_ n2_; (try clear hb); (try clear hb2); (try clear hk); (try clear hi)))
      go_ret
      exact ⟨by first | rfl | (simp [errW_none, errW_some] <;> rfl) | (simp [*, errW_none, errW_some] <;> rfl), by repeat (first | (with_reducible first | exact HB.out | apply below_alloc | apply pw_below_drewN | apply below_drew1 | refine below_set ?_ GE1123.out | refine below_set ?_ GE1124.out) | exact HB.out)⟩
 ·replace c6 := Bool.eq_false_iff.mpr c6
  subst c6
  have H1 : (some false) = some r := by rw [if_neg (show ¬ (false = true) by decide)] at H; exact H
  clear H
  have H := H1
  clear H1
  obtain rfl := Option.some.inj H
  go_enter Try.func4, Try.ntmps4
  go_wp2_with (first | ((with_reducible refine gate_dst (N := 4) rfl ?_); (try (refine gate_guard (by rfl) ?_; dsimp only)); refine box_event ?hg (N := 4) ?hd (cs := #[.slice A0_0 l0_0.length c0_0, .slice A0_1 l0_1.length c0_1]) (t := 25) ?hr ?_; (case hd => rfl); (case hg => rfl); (case hr => first | (go_simp; done) | (go_simp; rfl)); intro gb1123 hg w71 hbox hb; have n0_ := Aside0.mk (below_step (by repeat (first | (with_reducible first | exact HB.out | apply below_alloc | apply pw_below_drewN | apply below_drew1) | exact HB.out)) hb); have n1_ := Aside0.mk (hbox); have n2_ := Aside0.mk ((by rw [hg]; exact (below_size (by repeat (first | (with_reducible first | exact HB.out | apply below_alloc | apply pw_below_drewN | apply below_drew1) | exact HB.out))) : w.heap.size ≤ gb1123)); have n3_ := Aside0.mk ((by rw [hg]; exact (below_size (by repeat (first | (with_reducible first | exact HB.out | apply below_alloc | apply pw_below_drewN | apply below_drew1) | exact HB.out))) : w.heap.size ≤ gb1123)); clear HB; have HB := n0_; have BK1123 := n1_; have GW1123 := n2_; have GE1123 := n3_; clear n0_ n1_ n2_ n3_; clear hb hbox hg) | ((with_reducible refine gate_dst (N := 7) rfl ?_); (try (refine gate_guard (by rfl) ?_; dsimp only)); refine box_event ?hg (N := 7) ?hd (cs := #[.int .i64 a3_0, .int .i64 a3_1]) (t := 38) ?hr ?_; (case hd => rfl); (case hg => rfl); (case hr => first | (go_simp; done) | (go_simp; rfl)); intro gb1124 hg w72 hbox hb; have n0_ := Aside0.mk (blk_below (g := gb1123) (o := .cells #[.slice A0_0 l0_0.length c0_0, .slice A0_1 l0_1.length c0_1] 25 (0, 0)) (by (with_reducible repeat (first | refine blk_drewN ?_ _ | refine blk_drew ?_ | refine blk_alloc ?_ _)); exact BK1123.out) hb); have n1_ := Aside0.mk (below_step (by repeat (first | (with_reducible first | exact HB.out | apply below_alloc | apply pw_below_drewN | apply below_drew1 | refine below_set ?_ GE1123.out) | exact HB.out)) hb); have n2_ := Aside0.mk (hbox); have n3_ := Aside0.mk ((by rw [hg]; exact (below_size (by repeat (first | (with_reducible first | exact HB.out | apply below_alloc | apply pw_below_drewN | apply below_drew1 | refine below_set ?_ GE1123.out) | exact HB.out))) : w.heap.size ≤ gb1124)); have n4_ := Aside0.mk ((by rw [hg]; exact (below_size (by repeat (first | (with_reducible first | exact HB.out | apply below_alloc | apply pw_below_drewN | apply below_drew1 | refine below_set ?_ GE1123.out) | exact HB.out))) : w.heap.size ≤ gb1124)); have n5_ := Aside0.mk ((by rw [hg]; exact Nat.ne_of_lt (blk_lt (g := gb1123) (o := .cells #[.slice A0_0 l0_0.length c0_0, .slice A0_1 l0_1.length c0_1] 25 (0, 0)) (by (with_reducible repeat (first | refine blk_drewN ?_ _ | refine blk_drew ?_ | refine blk_alloc ?_ _)); exact BK1123.out)) : gb1123 ≠ gb1124)); have n6_ := Aside0.mk ((by rw [hg]; exact Nat.ne_of_gt (blk_lt (g := gb1123) (o := .cells #[.slice A0_0 l0_0.length c0_0, .slice A0_1 l0_1.length c0_1] 25 (0, 0)) (by (with_reducible repeat (first | refine blk_drewN ?_ _ | refine blk_drew ?_ | refine blk_alloc ?_ _)); exact BK1123.out)) : gb1124 ≠ gb1123)); clear BK1123; clear HB; have BK1123 := n0_; have HB := n1_; have BK1124 := n2_; have GW1124 := n3_; have GE1124 := n4_; have NB1123_1124 := n5_; have NB1124_1123 := n6_; clear n0_ n1_ n2_ n3_ n4_ n5_ n6_; clear hb hbox hg) | ((with_reducible refine gate_callee (f := 20) rfl ?_); refine goesL_ (some 17) rfl rfl Try.func20 (by kernel_rfl) rfl #[] rfl (by (try simp only [List.map_toArray, List.map_cons, List.map_nil]); first | done | rfl | (simp only [List.length_drop, List.length_take]; rfl)) ?_; (with_reducible refine (signatorylaw34_sane.calls  false _ A5.out).mono ?_); rintro e w73 ⟨rfl, hb⟩; refine ⟨_, rfl, ?_⟩; have n0_ := Aside0.mk (blk_below (g := gb1123) (o := .cells #[.slice A0_0 l0_0.length c0_0, .slice A0_1 l0_1.length c0_1] 25 (0, 0)) (by (with_reducible repeat (first | refine blk_drewN ?_ _ | refine blk_drew ?_ | refine blk_alloc ?_ _)); exact BK1123.out) hb); have n1_ := Aside0.mk (blk_below (g := gb1124) (o := .cells #[.int .i64 a3_0, .int .i64 a3_1] 38 (0, 0)) (by (with_reducible repeat (first | refine blk_drewN ?_ _ | refine blk_drew ?_ | refine blk_alloc ?_ _)); exact BK1124.out) hb); have n2_ := Aside0.mk (below_step (by repeat (first | (with_reducible first | exact HB.out | apply below_alloc | apply pw_below_drewN | apply below_drew1 | refine below_set ?_ GE1123.out | refine below_set ?_ GE1124.out) | exact HB.out)) hb); clear BK1123; clear BK1124; clear HB; have BK1123 := n0_; have BK1124 := n1_; have HB := n2_; clear n0_ n1_ n2_; (try clear hb); (try clear hb2); (try clear hk); (try clear hi)))
  go_ret
  exact ⟨by first | rfl | (simp [errW_none, errW_some] <;> rfl) | (simp [*, errW_none, errW_some] <;> rfl), by repeat (first | (with_reducible first | exact HB.out | apply below_alloc | apply pw_below_drewN | apply below_drew1 | refine below_set ?_ GE1123.out | refine below_set ?_ GE1124.out) | exact HB.out)⟩
end Go.Proofs.Ytdbamhckgaoibaa.P
namespace Go.Proofs.Ytdbamhckgaoibaa.P
open Go.RowKit Go.Proofs.YtdbamhckgaoibaaW.PrintWords Go.Proofs.YtdbamhckgaoibaaW.PrintLast Go.Proofs.YtdbamhckgaoibaaW.PrintMore
theorem dealingFitsSpec_true (rows : List (List Int)) (owners cm : List Int) (row srow sval : Int) : signatorylaw34_DealingFitsSpec.f 6000 rows owners cm row srow sval = some true := by
  have hT : signatorylaw34_DealingFitsSpec.j0 6000 cm row true rows owners srow sval = some true := by rw [signatorylaw34_DealingFitsSpec.j0, if_pos rfl]
  unfold signatorylaw34_DealingFitsSpec.f
  rw [show signatorylaw34_sane.f = some true from rfl, Option.bind_some, if_pos rfl]
  obtain ⟨b, hb⟩ := few_some rows owners 6000 (by omega)
  rw [hb, Option.bind_some]
  cases b with
  | false => rw [if_neg (by decide)]; exact hT
  | true =>
    rw [if_pos rfl]
    by_cases h : (cm.length : Int) > 80
    · rw [decide_eq_true h]; exact hT
    · rw [decide_eq_false h, signatorylaw34_DealingFitsSpec.j0, if_neg (by decide)]
      unfold dealing_Public.f dealing_Fits.f
      rw [Option.bind_some, rPublic_math rows owners cm row (by omega) _ (by omega), Option.bind_some, Option.bind_some, rFits_math rows owners cm srow sval (by omega) _ (by omega), Option.bind_some, if_pos rfl, if_pos rfl, beq_self_eq_true, if_pos rfl, beq_self_eq_true]
end Go.Proofs.Ytdbamhckgaoibaa.P
